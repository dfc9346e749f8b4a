/- A part of the proof: an evaluator of the model, its laws, and contracts of functions; no condition. -/
import Derived.Test.YtjagkbamkohnoaaGreatEvT
set_option linter.unusedVariables false
set_option maxRecDepth 100000
namespace Go.Proofs.YtjagkbamkohnoaaGreat.X
open Go Go.Ev
noncomputable def spec_l20Chain_l1 (e : Env) (w : World) : Option (Value × World) := exC P (EV P) 39 58 (.loop (cA (cA (cB (cA (cB (cB (Yi P 39)))))))) e w (Yj 0 (kSeq P (EV P) 39 58 (cB (cB (cB (Yi P 39)))) (kFn P (fnOf P 39))))
noncomputable def spec_l20Chain_j1 (e : Env) (w : World) : Option (Value × World) := exC P (EV P) 39 58 (cB (cA (cB (cA (cA (cB (cA (cA (cB (cA (cB (cB (Yi P 39))))))))))))) e w (Yj 2 (Yj 1 (kSeq P (EV P) 39 58 (cB (cB (cA (cA (cB (cA (cB (cB (Yi P 39))))))))) (kLoop P (EV P) 39 58 (cA (cA (cB (cA (cB (cB (Yi P 39))))))) (Yj 0 (kSeq P (EV P) 39 58 (cB (cB (cB (Yi P 39)))) (kFn P (fnOf P 39))))))))
noncomputable def spec_l20Chain_j2 (e : Env) (w : World) : Option (Value × World) := exC P (EV P) 39 58 (cB (cB (cA (cA (cB (cA (cB (cB (Yi P 39))))))))) e w (kLoop P (EV P) 39 58 (cA (cA (cB (cA (cB (cB (Yi P 39))))))) (Yj 0 (kSeq P (EV P) 39 58 (cB (cB (cB (Yi P 39)))) (kFn P (fnOf P 39)))))
theorem spec_l20Chain_l1_eq (e : Env) (w : World) : spec_l20Chain_l1 e w =
 (vl (e 4) w).bind fun r1 =>
 (bo P .gtr 3 (.tmp 12) (.const (.int .i64 0)) r1.1 (.int .i64 0) r1.2).bind fun r2 =>
 cnd r2.1 (
 (vl (e 0) r2.2).bind fun r3 =>
 (EV P 40 #[r3.1, (.int .i64 6)] r3.2).bind fun r4 =>
 (bo P .eql 3 (.tmp 17) (.const (.int .i64 0)) r4.1 (.int .i64 0) r4.2).bind fun r5 =>
 (vl r5.1 r5.2).bind fun r6 =>
 cnd r6.1 (
 spec_l20Chain_j1 (ups e [(12, r1.1), (13, r2.1), (16, r3.1), (17, r4.1), (27, r5.1), (26, r6.1)]) r6.2) (
 (bo P .eql 3 (.tmp 17) (.const (.int .i64 1)) r4.1 (.int .i64 1) r6.2).bind fun r7 =>
 (vl r7.1 r7.2).bind fun r8 =>
 spec_l20Chain_j1 (ups e [(12, r1.1), (13, r2.1), (16, r3.1), (17, r4.1), (27, r5.1), (26, r6.1), (28, r7.1), (26, r8.1)]) r8.2)) (
 (ld P 25 (e 3) r2.2).bind fun r9 =>
 (EV P 21 #[r9.1] r9.2).bind fun r10 =>
 (st P 25 (e 2) r10.1 r10.2).bind fun r11 =>
 ((ld P 25 (e 2) r11.2).bind fun r12 => ifP (r12.2 = r11.2) (some r12.1)).bind fun v13 =>
 some (v13, r11.2)) := (exC_loop P (EV P) 39 58 (cA (cA (cB (cA (cB (cB (Yi P 39))))))) e w (Yj 0 (kSeq P (EV P) 39 58 (cB (cB (cB (Yi P 39)))) (kFn P (fnOf P 39))))).trans (by kernel_rfl)
theorem spec_l20Chain_j1_eq (e : Env) (w : World) : spec_l20Chain_j1 e w =
 cnd (e 26) (
 (ld P 25 (e 3) w).bind fun r1 =>
 (EV P 70 #[r1.1] r1.2).bind fun r2 =>
 cnd r2.1 (
 (ld P 25 (e 3) (dw r2.2)).bind fun r4 =>
 ifP (r4.2 = (dw r2.2)) <|
 (vl (e 0) (dw r2.2)).bind fun r5 =>
 ifP (r5.2 = (dw r2.2)) <|
 (EV P 71 #[r5.1] (dw r2.2)).bind fun r6 =>
 ifP (ld P 25 (e 3) r6.2 = some (r4.1, r6.2) ∧ True) <|
 (EV P 55 #[r4.1, (.int .i64 0), r6.1] r6.2).bind fun r7 =>
 ifP (True ∧ True) <|
 (st P 25 (e 3) r7.1 r7.2).bind fun r8 =>
 ifP (True ∧ True) <|
 spec_l20Chain_j2 (ups e [(29, r1.1), (30, r2.1), (31, r4.1), (32, r5.1), (33, r6.1), (34, r7.1)]) r8.2) (
 spec_l20Chain_j2 (ups e [(29, r1.1), (30, r2.1)]) r2.2)) (
 (bo P .eql 3 (.tmp 17) (.const (.int .i64 2)) (e 17) (.int .i64 2) w).bind fun r9 =>
 (vl r9.1 r9.2).bind fun r10 =>
 cnd r10.1 (
 (fa P 25 (e 3) 0 r10.2).bind fun r11 =>
 (ld P 23 r11.1 r11.2).bind fun r12 =>
 (Yp P #[23] 3 #[r12.1] r12.2).bind fun r13 =>
 (bo P .gtr 3 (.tmp 39) (.const (.int .i64 1)) r13.1 (.int .i64 1) r13.2).bind fun r14 =>
 cnd r14.1 (
 (ld P 25 (e 3) (dw r14.2)).bind fun r16 =>
 ifP (r16.2 = (dw r14.2)) <|
 (vl (e 0) (dw r14.2)).bind fun r17 =>
 ifP (r17.2 = (dw r14.2)) <|
 (fa P 25 (e 3) 0 (dw r14.2)).bind fun r18 =>
 ifP (r18.2 = (dw r14.2)) <|
 (ld P 23 r18.1 (dw r14.2)).bind fun r19 =>
 ifP (r19.2 = (dw r14.2)) <|
 (Yp P #[23] 3 #[r19.1] (dw r14.2)).bind fun r20 =>
 ifP (r20.2 = (dw r14.2)) <|
 (EV P 40 #[r17.1, r20.1] (dw r14.2)).bind fun r21 =>
 ifP (True ∧ True ∧ True ∧ ld P 25 (e 3) r21.2 = some (r16.1, r21.2) ∧ True) <|
 (EV P 72 #[r16.1, r21.1] r21.2).bind fun r22 =>
 ifP (True ∧ True ∧ True ∧ True ∧ True) <|
 (st P 25 (e 3) r22.1 r22.2).bind fun r23 =>
 ifP (True ∧ True ∧ True ∧ True ∧ True) <|
 spec_l20Chain_j2 (ups e [(36, r9.1), (35, r10.1), (37, r11.1), (38, r12.1), (39, r13.1), (40, r14.1), (41, r16.1), (42, r17.1), (43, r18.1), (44, r19.1), (45, r20.1), (46, r21.1), (47, r22.1)]) r23.2) (
 spec_l20Chain_j2 (ups e [(36, r9.1), (35, r10.1), (37, r11.1), (38, r12.1), (39, r13.1), (40, r14.1)]) r14.2)) (
 (bo P .eql 3 (.tmp 17) (.const (.int .i64 3)) (e 17) (.int .i64 3) r10.2).bind fun r24 =>
 (vl r24.1 r24.2).bind fun r25 =>
 cnd r25.1 (
 (fa P 25 (e 3) 0 r25.2).bind fun r26 =>
 (ld P 23 r26.1 r26.2).bind fun r27 =>
 (Yp P #[23] 3 #[r27.1] r27.2).bind fun r28 =>
 (bo P .lss 3 (.tmp 52) (.const (.int .i64 4)) r28.1 (.int .i64 4) r28.2).bind fun r29 =>
 cnd r29.1 (
 (ld P 25 (e 3) r29.2).bind fun r30 =>
 (EV P 73 #[r30.1] r30.2).bind fun r31 =>
 (st P 25 (e 3) r31.1 r31.2).bind fun r32 =>
 spec_l20Chain_j2 (ups e [(36, r9.1), (35, r10.1), (49, r24.1), (48, r25.1), (50, r26.1), (51, r27.1), (52, r28.1), (53, r29.1), (54, r30.1), (55, r31.1)]) r32.2) (
 spec_l20Chain_j2 (ups e [(36, r9.1), (35, r10.1), (49, r24.1), (48, r25.1), (50, r26.1), (51, r27.1), (52, r28.1), (53, r29.1)]) r29.2)) (
 (vl (e 0) r25.2).bind fun r33 =>
 (EV P 40 #[r33.1, (.int .i64 4)] r33.2).bind fun r34 =>
 (vl r34.1 r34.2).bind fun r35 =>
 (ld P 25 (e 3) r35.2).bind fun r36 =>
 (vl r35.1 r36.2).bind fun r37 =>
 (EV P 20 #[r36.1, r37.1] r37.2).bind fun r38 =>
 cnd r38.1 (
 (ld P 25 (e 3) r38.2).bind fun r39 =>
 (vl r35.1 r39.2).bind fun r40 =>
 (EV P 22 #[r39.1, r40.1] r40.2).bind fun r41 =>
 (st P 25 (e 3) r41.1 r41.2).bind fun r42 =>
 spec_l20Chain_j2 (ups e [(36, r9.1), (35, r10.1), (49, r24.1), (48, r25.1), (18, r33.1), (19, r34.1), (5, r35.1), (20, r36.1), (21, r37.1), (22, r38.1), (23, r39.1), (24, r40.1), (25, r41.1)]) r42.2) (
 spec_l20Chain_j2 (ups e [(36, r9.1), (35, r10.1), (49, r24.1), (48, r25.1), (18, r33.1), (19, r34.1), (5, r35.1), (20, r36.1), (21, r37.1), (22, r38.1)]) r38.2)))) := by kernel_rfl
theorem spec_l20Chain_j2_eq (e : Env) (w : World) : spec_l20Chain_j2 e w =
 (vl (e 4) w).bind fun r1 =>
 (bo P .sub 3 (.tmp 14) (.const (.int .i64 1)) r1.1 (.int .i64 1) r1.2).bind fun r2 =>
 (vl r2.1 r2.2).bind fun r3 =>
 spec_l20Chain_l1 (ups e [(14, r1.1), (15, r2.1), (4, r3.1)]) r3.2 := by kernel_rfl
theorem spec_l20Chain_fn (x0 : Value) (w : World) : fnC P (EV P) 39 #[x0] w =
 (al P 25 w).bind fun r1 =>
 (vl x0 r1.2).bind fun r2 =>
 (EV P 40 #[r2.1, (.int .i64 4)] r2.2).bind fun r3 =>
 (bo P .add 3 (.const (.int .i64 1)) (.tmp 7) (.int .i64 1) r3.1 r3.2).bind fun r4 =>
 (EV P 69 #[r4.1] r4.2).bind fun r5 =>
 (al P 25 r5.2).bind fun r6 =>
 (st P 25 r6.1 r5.1 r6.2).bind fun r7 =>
 (vl x0 r7.2).bind fun r8 =>
 (EV P 40 #[r8.1, (.int .i64 12)] r8.2).bind fun r9 =>
 (vl r9.1 r9.2).bind fun r10 =>
 spec_l20Chain_l1 (ups (env0 #[x0]) [(2, r1.1), (6, r2.1), (7, r3.1), (8, r4.1), (9, r5.1), (3, r6.1), (10, r8.1), (11, r9.1), (4, r10.1)]) r10.2 := by kernel_rfl
theorem spec_l20Rd_pick_fn (x0 x1 : Value) (w : World) : fnC P (EV P) 40 #[x0, x1] w =
 (vl (.int .i64 0) w).bind fun r1 =>
 (vl x0 r1.2).bind fun r2 =>
 (vl x0 r2.2).bind fun r3 =>
 (nk P r3.1 r3.2).bind fun r4 =>
 (fa P 71 r4.1 1 r4.2).bind fun r5 =>
 (ld P 3 r5.1 r5.2).bind fun r6 =>
 (bo P .add 3 (.tmp 11) (.const (.int .i64 1)) r6.1 (.int .i64 1) r6.2).bind fun r7 =>
 (nk P r2.1 r7.2).bind fun r8 =>
 (fa P 71 r8.1 1 r8.2).bind fun r9 =>
 (st P 3 r9.1 r7.1 r9.2).bind fun r10 =>
 (vl x1 r10.2).bind fun r11 =>
 (bo P .lss 3 (.tmp 15) (.const (.int .i64 1)) r11.1 (.int .i64 1) r11.2).bind fun r12 =>
 (vl r12.1 r12.2).bind fun r13 =>
 (gif r13.1 false (vl x0 r13.2) r13.2).bind fun r14 =>
 (gif r13.1 false (nk P r14.1 r14.2) r14.2).bind fun r15 =>
 (gif r13.1 false (fa P 71 r15.1 0 r15.2) r15.2).bind fun r16 =>
 (gif r13.1 false (ld P 22 r16.1 r16.2) r16.2).bind fun r17 =>
 (gif r13.1 false (Yp P #[22] 3 #[r17.1] r17.2) r17.2).bind fun r18 =>
 (gif r13.1 false (bo P .eql 3 (.tmp 22) (.const (.int .i64 0)) r18.1 (.int .i64 0) r18.2) r18.2).bind fun r19 =>
 (pickV r13.1 (.bool true) r19.1 r19.2).bind fun r20 =>
 cnd r20.1 (
 (vl (.int .i64 0) r20.2).bind fun r21 =>
 some (r21.1, r21.2)) (
 (vl x0 r20.2).bind fun r22 =>
 (nk P r22.1 r22.2).bind fun r23 =>
 (fa P 71 r23.1 1 r23.2).bind fun r24 =>
 (ld P 3 r24.1 r24.2).bind fun r25 =>
 (bo P .sub 3 (.tmp 28) (.const (.int .i64 1)) r25.1 (.int .i64 1) r25.2).bind fun r26 =>
 (vl r26.1 r26.2).bind fun r27 =>
 (vl r27.1 r27.2).bind fun r28 =>
 (vl x0 r28.2).bind fun r29 =>
 (nk P r29.1 r29.2).bind fun r30 =>
 (fa P 71 r30.1 0 r30.2).bind fun r31 =>
 (ld P 22 r31.1 r31.2).bind fun r32 =>
 (Yp P #[22] 3 #[r32.1] r32.2).bind fun r33 =>
 (bo P .lss 3 (.tmp 30) (.tmp 35) r28.1 r33.1 r33.2).bind fun r34 =>
 cnd r34.1 (
 (vl x0 r34.2).bind fun r35 =>
 (nk P r35.1 r35.2).bind fun r36 =>
 (fa P 71 r36.1 0 r36.2).bind fun r37 =>
 (ld P 22 r37.1 r37.2).bind fun r38 =>
 (vl r27.1 r38.2).bind fun r39 =>
 (ia P 22 r38.1 r39.1 r39.2).bind fun r40 =>
 (ld P 5 r40.1 r40.2).bind fun r41 =>
 (cv P 5 3 r41.1 r41.2).bind fun r42 =>
 (vl x1 r42.2).bind fun r43 =>
 (bo P .rem 3 (.tmp 44) (.tmp 45) r42.1 r43.1 r43.2).bind fun r44 =>
 (vl r44.1 r44.2).bind fun r45 =>
 some (r45.1, r45.2)) (
 (vl x0 (dw r34.2)).bind fun r47 =>
 ifP (r47.2 = (dw r34.2)) <|
 (nk P r47.1 (dw r34.2)).bind fun r48 =>
 ifP (r48.2 = (dw r34.2)) <|
 (fa P 71 r48.1 0 (dw r34.2)).bind fun r49 =>
 ifP (r49.2 = (dw r34.2)) <|
 (ld P 22 r49.1 (dw r34.2)).bind fun r50 =>
 ifP (r50.2 = (dw r34.2)) <|
 (vl r27.1 (dw r34.2)).bind fun r51 =>
 ifP (r51.2 = (dw r34.2)) <|
 (vl x0 (dw r34.2)).bind fun r52 =>
 ifP (r52.2 = (dw r34.2)) <|
 (nk P r52.1 (dw r34.2)).bind fun r53 =>
 ifP (r53.2 = (dw r34.2)) <|
 (fa P 71 r53.1 0 (dw r34.2)).bind fun r54 =>
 ifP (r54.2 = (dw r34.2)) <|
 (ld P 22 r54.1 (dw r34.2)).bind fun r55 =>
 ifP (r55.2 = (dw r34.2)) <|
 (Yp P #[22] 3 #[r55.1] (dw r34.2)).bind fun r56 =>
 ifP (r56.2 = (dw r34.2)) <|
 (bo P .rem 3 (.tmp 51) (.tmp 56) r51.1 r56.1 (dw r34.2)).bind fun r57 =>
 ifP (r57.2 = (dw r34.2)) <|
 (ia P 22 r50.1 r57.1 (dw r34.2)).bind fun r58 =>
 ifP (r58.2 = (dw r34.2)) <|
 (ld P 5 r58.1 (dw r34.2)).bind fun r59 =>
 ifP (r59.2 = (dw r34.2)) <|
 (cv P 5 3 r59.1 (dw r34.2)).bind fun r60 =>
 ifP (r60.2 = (dw r34.2)) <|
 (bo P .mul 3 (.tmp 60) (.const (.int .i64 131)) r60.1 (.int .i64 131) (dw r34.2)).bind fun r61 =>
 ifP (r61.2 = (dw r34.2)) <|
 (vl x0 (dw r34.2)).bind fun r62 =>
 ifP (r62.2 = (dw r34.2)) <|
 (nk P r62.1 (dw r34.2)).bind fun r63 =>
 ifP (r63.2 = (dw r34.2)) <|
 (fa P 71 r63.1 0 (dw r34.2)).bind fun r64 =>
 ifP (r64.2 = (dw r34.2)) <|
 (ld P 22 r64.1 (dw r34.2)).bind fun r65 =>
 ifP (r65.2 = (dw r34.2)) <|
 (vl r27.1 (dw r34.2)).bind fun r66 =>
 ifP (r66.2 = (dw r34.2)) <|
 (bo P .mul 3 (.tmp 66) (.const (.int .i64 7)) r66.1 (.int .i64 7) (dw r34.2)).bind fun r67 =>
 ifP (r67.2 = (dw r34.2)) <|
 (bo P .add 3 (.tmp 67) (.const (.int .i64 3)) r67.1 (.int .i64 3) (dw r34.2)).bind fun r68 =>
 ifP (r68.2 = (dw r34.2)) <|
 (vl x0 (dw r34.2)).bind fun r69 =>
 ifP (r69.2 = (dw r34.2)) <|
 (nk P r69.1 (dw r34.2)).bind fun r70 =>
 ifP (r70.2 = (dw r34.2)) <|
 (fa P 71 r70.1 0 (dw r34.2)).bind fun r71 =>
 ifP (r71.2 = (dw r34.2)) <|
 (ld P 22 r71.1 (dw r34.2)).bind fun r72 =>
 ifP (r72.2 = (dw r34.2)) <|
 (Yp P #[22] 3 #[r72.1] (dw r34.2)).bind fun r73 =>
 ifP (r73.2 = (dw r34.2)) <|
 (bo P .rem 3 (.tmp 68) (.tmp 73) r68.1 r73.1 (dw r34.2)).bind fun r74 =>
 ifP (r74.2 = (dw r34.2)) <|
 (ia P 22 r65.1 r74.1 (dw r34.2)).bind fun r75 =>
 ifP (r75.2 = (dw r34.2)) <|
 (ld P 5 r75.1 (dw r34.2)).bind fun r76 =>
 ifP (r76.2 = (dw r34.2)) <|
 (cv P 5 3 r76.1 (dw r34.2)).bind fun r77 =>
 ifP (r77.2 = (dw r34.2)) <|
 (bo P .mul 3 (.tmp 77) (.const (.int .i64 1117)) r77.1 (.int .i64 1117) (dw r34.2)).bind fun r78 =>
 ifP (r78.2 = (dw r34.2)) <|
 (bo P .add 3 (.tmp 61) (.tmp 78) r61.1 r78.1 (dw r34.2)).bind fun r79 =>
 ifP (r79.2 = (dw r34.2)) <|
 (vl r27.1 (dw r34.2)).bind fun r80 =>
 ifP (r80.2 = (dw r34.2)) <|
 (bo P .mul 3 (.tmp 80) (.const (.int .i64 29)) r80.1 (.int .i64 29) (dw r34.2)).bind fun r81 =>
 ifP (r81.2 = (dw r34.2)) <|
 (bo P .add 3 (.tmp 79) (.tmp 81) r79.1 r81.1 (dw r34.2)).bind fun r82 =>
 ifP (r82.2 = (dw r34.2)) <|
 (vl r27.1 (dw r34.2)).bind fun r83 =>
 ifP (r83.2 = (dw r34.2)) <|
 (vl x0 (dw r34.2)).bind fun r84 =>
 ifP (r84.2 = (dw r34.2)) <|
 (nk P r84.1 (dw r34.2)).bind fun r85 =>
 ifP (r85.2 = (dw r34.2)) <|
 (fa P 71 r85.1 0 (dw r34.2)).bind fun r86 =>
 ifP (r86.2 = (dw r34.2)) <|
 (ld P 22 r86.1 (dw r34.2)).bind fun r87 =>
 ifP (r87.2 = (dw r34.2)) <|
 (Yp P #[22] 3 #[r87.1] (dw r34.2)).bind fun r88 =>
 ifP (r88.2 = (dw r34.2)) <|
 (bo P .quo 3 (.tmp 83) (.tmp 88) r83.1 r88.1 (dw r34.2)).bind fun r89 =>
 ifP (r89.2 = (dw r34.2)) <|
 (bo P .mul 3 (.tmp 89) (.const (.int .i64 53)) r89.1 (.int .i64 53) (dw r34.2)).bind fun r90 =>
 ifP (r90.2 = (dw r34.2)) <|
 (bo P .add 3 (.tmp 82) (.tmp 90) r82.1 r90.1 (dw r34.2)).bind fun r91 =>
 ifP (r91.2 = (dw r34.2)) <|
 (vl r91.1 (dw r34.2)).bind fun r92 =>
 ifP (r92.2 = (dw r34.2)) <|
 (vl r92.1 (dw r34.2)).bind fun r93 =>
 (vl r92.1 r93.2).bind fun r94 =>
 (bo P .quo 3 (.tmp 93) (.const (.int .i64 64)) r94.1 (.int .i64 64) r94.2).bind fun r95 =>
 (bo P .xor 3 (.tmp 92) (.tmp 94) r93.1 r95.1 r95.2).bind fun r96 =>
 (vl r96.1 r96.2).bind fun r97 =>
 (vl r97.1 r97.2).bind fun r98 =>
 (vl x1 r98.2).bind fun r99 =>
 (bo P .rem 3 (.tmp 96) (.tmp 97) r98.1 r99.1 r99.2).bind fun r100 =>
 (vl r100.1 r100.2).bind fun r101 =>
 some (r101.1, r101.2))) := by kernel_rfl
noncomputable def spec_l20AnyStore_j1 (e : Env) (w : World) : Option (Value × World) := exC P (EV P) 41 32 (cB (cB (cB (Yi P 41)))) e w (kFn P (fnOf P 41))
theorem spec_l20AnyStore_j1_eq (e : Env) (w : World) : spec_l20AnyStore_j1 e w =
 (ld P 34 (e 3) w).bind fun r1 =>
 (st P 34 (e 2) r1.1 r1.2).bind fun r2 =>
 ((ld P 34 (e 2) r2.2).bind fun r3 => ifP (r3.2 = r2.2) (some r3.1)).bind fun v4 =>
 some (v4, r2.2) := by kernel_rfl
theorem spec_l20AnyStore_fn (x0 : Value) (w : World) : fnC P (EV P) 41 #[x0] w =
 (al P 34 w).bind fun r1 =>
 (vl x0 r1.2).bind fun r2 =>
 (EV P 74 #[r2.1] r2.2).bind fun r3 =>
 (al P 34 r3.2).bind fun r4 =>
 (st P 34 r4.1 r3.1 r4.2).bind fun r5 =>
 (vl x0 r5.2).bind fun r6 =>
 (EV P 40 #[r6.1, (.int .i64 10)] r6.2).bind fun r7 =>
 (bo P .eql 3 (.tmp 7) (.const (.int .i64 0)) r7.1 (.int .i64 0) r7.2).bind fun r8 =>
 (vl r8.1 r8.2).bind fun r9 =>
 cnd r9.1 (
 (fa P 34 r4.1 0 r9.2).bind fun r10 =>
 (ld P 32 r10.1 r10.2).bind fun r11 =>
 (sl P 32 r11.1 (some (.int .i64 1)) none none r11.2).bind fun r12 =>
 (fa P 34 r4.1 0 r12.2).bind fun r13 =>
 (st P 32 r13.1 r12.1 r13.2).bind fun r14 =>
 spec_l20AnyStore_j1 (ups (env0 #[x0]) [(2, r1.1), (4, r2.1), (5, r3.1), (3, r4.1), (6, r6.1), (7, r7.1), (9, r8.1), (8, r9.1), (10, r10.1), (11, r11.1), (12, r12.1), (13, r13.1)]) r14.2) (
 (bo P .eql 3 (.tmp 7) (.const (.int .i64 1)) r7.1 (.int .i64 1) r9.2).bind fun r15 =>
 (vl r15.1 r15.2).bind fun r16 =>
 cnd r16.1 (
 (fa P 34 r4.1 0 (dw r16.2)).bind fun r18 =>
 ifP (r18.2 = (dw r16.2)) <|
 (ld P 32 r18.1 (dw r16.2)).bind fun r19 =>
 ifP (r19.2 = (dw r16.2)) <|
 (vl x0 (dw r16.2)).bind fun r20 =>
 ifP (r20.2 = (dw r16.2)) <|
 (vl x0 (dw r16.2)).bind fun r21 =>
 ifP (r21.2 = (dw r16.2)) <|
 (EV P 40 #[r20.1, (.int .i64 4)] (dw r16.2)).bind fun r22 =>
 ifP (ld P 32 r18.1 r22.2 = some (r19.1, r22.2) ∧ fa P 34 r4.1 0 r22.2 = some (r18.1, r22.2) ∧ True) <|
 (EV P 42 #[r21.1] r22.2).bind fun r23 =>
 ifP (ld P 32 r18.1 r23.2 = some (r19.1, r23.2) ∧ fa P 34 r4.1 0 r23.2 = some (r18.1, r23.2) ∧ True) <|
 (ia P 32 r19.1 r22.1 r23.2).bind fun r24 =>
 ifP (r24.2 = r23.2) <|
 (st P 45 r24.1 r23.1 r23.2).bind fun r25 =>
 ifP (True ∧ True ∧ True ∧ True) <|
 spec_l20AnyStore_j1 (ups (env0 #[x0]) [(2, r1.1), (4, r2.1), (5, r3.1), (3, r4.1), (6, r6.1), (7, r7.1), (9, r8.1), (8, r9.1), (15, r15.1), (14, r16.1), (16, r18.1), (17, r19.1), (18, r20.1), (20, r21.1), (19, r22.1), (21, r23.1), (22, r24.1)]) r25.2) (
 (bo P .eql 3 (.tmp 7) (.const (.int .i64 2)) r7.1 (.int .i64 2) r16.2).bind fun r26 =>
 (vl r26.1 r26.2).bind fun r27 =>
 cnd r27.1 (
 (fa P 34 r4.1 0 (dw r27.2)).bind fun r29 =>
 ifP (r29.2 = (dw r27.2)) <|
 (ld P 32 r29.1 (dw r27.2)).bind fun r30 =>
 ifP (r30.2 = (dw r27.2)) <|
 (vl x0 (dw r27.2)).bind fun r31 =>
 ifP (r31.2 = (dw r27.2)) <|
 (bd P 45 #[(3, (Go.Value.string { data := #[120] }))] (dw r27.2)).bind fun r32 =>
 ifP (r32.2 = (dw r27.2)) <|
 (EV P 40 #[r31.1, (.int .i64 4)] (dw r27.2)).bind fun r33 =>
 ifP (bd P 45 #[(3, (Go.Value.string { data := #[120] }))] r33.2 = some (r32.1, r33.2) ∧ ld P 32 r29.1 r33.2 = some (r30.1, r33.2) ∧ fa P 34 r4.1 0 r33.2 = some (r29.1, r33.2) ∧ True) <|
 (ia P 32 r30.1 r33.1 r33.2).bind fun r34 =>
 ifP (r34.2 = r33.2) <|
 (st P 45 r34.1 r32.1 r33.2).bind fun r35 =>
 ifP (True ∧ True ∧ True ∧ True ∧ True) <|
 spec_l20AnyStore_j1 (ups (env0 #[x0]) [(2, r1.1), (4, r2.1), (5, r3.1), (3, r4.1), (6, r6.1), (7, r7.1), (9, r8.1), (8, r9.1), (15, r15.1), (14, r16.1), (24, r26.1), (23, r27.1), (25, r29.1), (26, r30.1), (27, r31.1), (29, r32.1), (28, r33.1), (30, r34.1)]) r35.2) (
 spec_l20AnyStore_j1 (ups (env0 #[x0]) [(2, r1.1), (4, r2.1), (5, r3.1), (3, r4.1), (6, r6.1), (7, r7.1), (9, r8.1), (8, r9.1), (15, r15.1), (14, r16.1), (24, r26.1), (23, r27.1)]) r27.2))) := by kernel_rfl
noncomputable def spec_l20AnyVer_j1 (e : Env) (w : World) : Option (Value × World) := exC P (EV P) 42 46 (cB (cB (cB (Yi P 42)))) e w (kFn P (fnOf P 42))
theorem spec_l20AnyVer_j1_eq (e : Env) (w : World) : spec_l20AnyVer_j1 e w =
 (ld P 45 (e 3) w).bind fun r1 =>
 (st P 45 (e 2) r1.1 r1.2).bind fun r2 =>
 ((ld P 45 (e 2) r2.2).bind fun r3 => ifP (r3.2 = r2.2) (some r3.1)).bind fun v4 =>
 some (v4, r2.2) := by kernel_rfl
theorem spec_l20AnyVer_fn (x0 : Value) (w : World) : fnC P (EV P) 42 #[x0] w =
 (al P 45 w).bind fun r1 =>
 (vl x0 r1.2).bind fun r2 =>
 (EV P 71 #[r2.1] r2.2).bind fun r3 =>
 (al P 45 r3.2).bind fun r4 =>
 (st P 45 r4.1 r3.1 r4.2).bind fun r5 =>
 (vl x0 r5.2).bind fun r6 =>
 (EV P 40 #[r6.1, (.int .i64 10)] r6.2).bind fun r7 =>
 (bo P .eql 3 (.tmp 7) (.const (.int .i64 0)) r7.1 (.int .i64 0) r7.2).bind fun r8 =>
 (vl r8.1 r8.2).bind fun r9 =>
 cnd r9.1 (
 (vl x0 r9.2).bind fun r10 =>
 (bs P 53 2 #[(0, (.int .i64 (-1))), (1, (.int .i64 4))] r10.2).bind fun r11 =>
 (EV P 15 #[r10.1, r11.1] r11.2).bind fun r12 =>
 (fa P 45 r4.1 0 r12.2).bind fun r13 =>
 (st P 3 r13.1 r12.1 r13.2).bind fun r14 =>
 spec_l20AnyVer_j1 (ups (env0 #[x0]) [(2, r1.1), (4, r2.1), (5, r3.1), (3, r4.1), (6, r6.1), (7, r7.1), (9, r8.1), (8, r9.1), (10, r10.1), (11, r11.1), (12, r12.1), (13, r13.1)]) r14.2) (
 (bo P .eql 3 (.tmp 7) (.const (.int .i64 1)) r7.1 (.int .i64 1) r9.2).bind fun r15 =>
 (vl r15.1 r15.2).bind fun r16 =>
 cnd r16.1 (
 (vl x0 r16.2).bind fun r17 =>
 (bs P 92 3 #[(0, (Go.Value.string { data := #[97, 32, 98] })), (1, (Go.Value.string { data := #[116, 111, 111, 108, 111, 110, 103, 101, 114] })), (2, (Go.Value.string { data := #[10] }))] r17.2).bind fun r18 =>
 (EV P 75 #[r17.1, r18.1] r18.2).bind fun r19 =>
 (fa P 45 r4.1 3 r19.2).bind fun r20 =>
 (st P 9 r20.1 r19.1 r20.2).bind fun r21 =>
 spec_l20AnyVer_j1 (ups (env0 #[x0]) [(2, r1.1), (4, r2.1), (5, r3.1), (3, r4.1), (6, r6.1), (7, r7.1), (9, r8.1), (8, r9.1), (15, r15.1), (14, r16.1), (16, r17.1), (17, r18.1), (18, r19.1), (19, r20.1)]) r21.2) (
 (bo P .eql 3 (.tmp 7) (.const (.int .i64 2)) r7.1 (.int .i64 2) r16.2).bind fun r22 =>
 (vl r22.1 r22.2).bind fun r23 =>
 cnd r23.1 (
 (fa P 45 r4.1 2 r23.2).bind fun r24 =>
 (fa P 43 r24.1 0 r24.2).bind fun r25 =>
 (ld P 41 r25.1 r25.2).bind fun r26 =>
 (sl P 41 r26.1 (some (.int .i64 1)) none none r26.2).bind fun r27 =>
 (fa P 45 r4.1 2 r27.2).bind fun r28 =>
 (fa P 43 r28.1 0 r28.2).bind fun r29 =>
 (st P 41 r29.1 r27.1 r29.2).bind fun r30 =>
 spec_l20AnyVer_j1 (ups (env0 #[x0]) [(2, r1.1), (4, r2.1), (5, r3.1), (3, r4.1), (6, r6.1), (7, r7.1), (9, r8.1), (8, r9.1), (15, r15.1), (14, r16.1), (21, r22.1), (20, r23.1), (22, r24.1), (23, r25.1), (24, r26.1), (25, r27.1), (26, r28.1), (27, r29.1)]) r30.2) (
 (bo P .eql 3 (.tmp 7) (.const (.int .i64 3)) r7.1 (.int .i64 3) r23.2).bind fun r31 =>
 (vl r31.1 r31.2).bind fun r32 =>
 cnd r32.1 (
 (fa P 45 r4.1 2 (dw r32.2)).bind fun r34 =>
 ifP (r34.2 = (dw r32.2)) <|
 (fa P 43 r34.1 0 (dw r32.2)).bind fun r35 =>
 ifP (r35.2 = (dw r32.2)) <|
 (ld P 41 r35.1 (dw r32.2)).bind fun r36 =>
 ifP (r36.2 = (dw r32.2)) <|
 (vl x0 (dw r32.2)).bind fun r37 =>
 ifP (r37.2 = (dw r32.2)) <|
 (bd P 40 #[(0, (.int .i64 50)), (1, (.int .i64 1))] (dw r32.2)).bind fun r38 =>
 ifP (r38.2 = (dw r32.2)) <|
 (EV P 40 #[r37.1, (.int .i64 4)] (dw r32.2)).bind fun r39 =>
 ifP (bd P 40 #[(0, (.int .i64 50)), (1, (.int .i64 1))] r39.2 = some (r38.1, r39.2) ∧ ld P 41 r35.1 r39.2 = some (r36.1, r39.2) ∧ fa P 43 r34.1 0 r39.2 = some (r35.1, r39.2) ∧ fa P 45 r4.1 2 r39.2 = some (r34.1, r39.2) ∧ True) <|
 (ia P 41 r36.1 r39.1 r39.2).bind fun r40 =>
 ifP (r40.2 = r39.2) <|
 (st P 40 r40.1 r38.1 r39.2).bind fun r41 =>
 ifP (True ∧ True ∧ True ∧ True ∧ True ∧ True) <|
 spec_l20AnyVer_j1 (ups (env0 #[x0]) [(2, r1.1), (4, r2.1), (5, r3.1), (3, r4.1), (6, r6.1), (7, r7.1), (9, r8.1), (8, r9.1), (15, r15.1), (14, r16.1), (21, r22.1), (20, r23.1), (29, r31.1), (28, r32.1), (30, r34.1), (31, r35.1), (32, r36.1), (33, r37.1), (35, r38.1), (34, r39.1), (36, r40.1)]) r41.2) (
 (bo P .eql 3 (.tmp 7) (.const (.int .i64 4)) r7.1 (.int .i64 4) r32.2).bind fun r42 =>
 (vl r42.1 r42.2).bind fun r43 =>
 cnd r43.1 (
 (vl x0 r43.2).bind fun r44 =>
 (EV P 76 #[r44.1] r44.2).bind fun r45 =>
 (fa P 45 r4.1 1 r45.2).bind fun r46 =>
 (st P 40 r46.1 r45.1 r46.2).bind fun r47 =>
 spec_l20AnyVer_j1 (ups (env0 #[x0]) [(2, r1.1), (4, r2.1), (5, r3.1), (3, r4.1), (6, r6.1), (7, r7.1), (9, r8.1), (8, r9.1), (15, r15.1), (14, r16.1), (21, r22.1), (20, r23.1), (29, r31.1), (28, r32.1), (38, r42.1), (37, r43.1), (39, r44.1), (40, r45.1), (41, r46.1)]) r47.2) (
 (bo P .eql 3 (.tmp 7) (.const (.int .i64 5)) r7.1 (.int .i64 5) r43.2).bind fun r48 =>
 (vl r48.1 r48.2).bind fun r49 =>
 cnd r49.1 (
 (fa P 45 r4.1 4 r49.2).bind fun r50 =>
 (st P 4 r50.1 (.bool true) r50.2).bind fun r51 =>
 spec_l20AnyVer_j1 (ups (env0 #[x0]) [(2, r1.1), (4, r2.1), (5, r3.1), (3, r4.1), (6, r6.1), (7, r7.1), (9, r8.1), (8, r9.1), (15, r15.1), (14, r16.1), (21, r22.1), (20, r23.1), (29, r31.1), (28, r32.1), (38, r42.1), (37, r43.1), (43, r48.1), (42, r49.1), (44, r50.1)]) r51.2) (
 spec_l20AnyVer_j1 (ups (env0 #[x0]) [(2, r1.1), (4, r2.1), (5, r3.1), (3, r4.1), (6, r6.1), (7, r7.1), (9, r8.1), (8, r9.1), (15, r15.1), (14, r16.1), (21, r22.1), (20, r23.1), (29, r31.1), (28, r32.1), (38, r42.1), (37, r43.1), (43, r48.1), (42, r49.1)]) r49.2)))))) := by kernel_rfl
noncomputable def impl_Chain_copied_l1 (e : Env) (w : World) : Option (Value × World) := exC P (EV P) 43 32 (.loop (cA (cA (cB (cA (cB (cB (Yi P 43)))))))) e w (Yj 0 (kSeq P (EV P) 43 32 (cB (cB (cB (Yi P 43)))) (kFn P (fnOf P 43))))
theorem impl_Chain_copied_l1_eq (e : Env) (w : World) : impl_Chain_copied_l1 e w =
 (bo P .lss 3 (.tmp 14) (.tmp 13) (e 14) (e 13) w).bind fun r1 =>
 cnd r1.1 (
 (ia P 23 (e 12) (e 14) r1.2).bind fun r2 =>
 (ld P 36 r2.1 r2.2).bind fun r3 =>
 (al P 36 r3.2).bind fun r4 =>
 (st P 36 r4.1 r3.1 r4.2).bind fun r5 =>
 (fa P 25 (e 3) 0 (dw r5.2)).bind fun r7 =>
 ifP (r7.2 = (dw r5.2)) <|
 (ld P 23 r7.1 (dw r5.2)).bind fun r8 =>
 ifP (r8.2 = (dw r5.2)) <|
 (fa P 36 r4.1 0 (dw r5.2)).bind fun r9 =>
 ifP (r9.2 = (dw r5.2)) <|
 (ld P 34 r9.1 (dw r5.2)).bind fun r10 =>
 ifP (r10.2 = (dw r5.2)) <|
 (fa P 36 r4.1 1 (dw r5.2)).bind fun r11 =>
 ifP (r11.2 = (dw r5.2)) <|
 (ld P 32 r11.1 (dw r5.2)).bind fun r12 =>
 ifP (r12.2 = (dw r5.2)) <|
 (EV P 32 #[r10.1] (dw r5.2)).bind fun r13 =>
 ifP (ld P 32 r11.1 r13.2 = some (r12.1, r13.2) ∧ fa P 36 r4.1 1 r13.2 = some (r11.1, r13.2) ∧ True ∧ True ∧ ld P 23 r7.1 r13.2 = some (r8.1, r13.2) ∧ fa P 25 (e 3) 0 r13.2 = some (r7.1, r13.2) ∧ True) <|
 (EV P 63 #[r12.1] r13.2).bind fun r14 =>
 ifP (True ∧ True ∧ True ∧ True ∧ ld P 23 r7.1 r14.2 = some (r8.1, r14.2) ∧ fa P 25 (e 3) 0 r14.2 = some (r7.1, r14.2) ∧ True) <|
 (bd P 36 #[(0, r13.1), (1, r14.1)] r14.2).bind fun r15 =>
 ifP (r15.2 = r14.2) <|
 (bs P 23 1 #[(0, r15.1)] r14.2).bind fun r16 =>
 ifP (True ∧ True ∧ True ∧ True ∧ True ∧ ld P 23 r7.1 r16.2 = some (r8.1, r16.2) ∧ fa P 25 (e 3) 0 r16.2 = some (r7.1, r16.2) ∧ True) <|
 (b_append P #[23, 23] 23 #[r8.1, r16.1] r16.2).bind fun r17 =>
 ifP (True ∧ True ∧ True ∧ True ∧ True ∧ True ∧ True ∧ True) <|
 (fa P 25 (e 3) 0 r17.2).bind fun r18 =>
 ifP (r18.2 = r17.2) <|
 (st P 23 r18.1 r17.1 r17.2).bind fun r19 =>
 ifP (True ∧ True ∧ True ∧ True ∧ True ∧ True ∧ True ∧ True ∧ True) <|
 (bo P .add 3 (.tmp 14) (.const (.int .i64 1)) (e 14) (.int .i64 1) r19.2).bind fun r20 =>
 (vl r20.1 r20.2).bind fun r21 =>
 impl_Chain_copied_l1 (ups e [(15, r1.1), (16, r2.1), (17, r3.1), (5, r4.1), (18, r7.1), (19, r8.1), (20, r9.1), (21, r10.1), (23, r11.1), (24, r12.1), (22, r13.1), (25, r14.1), (26, r15.1), (27, r16.1), (28, r17.1), (29, r18.1), (30, r20.1), (14, r21.1)]) r21.2) (
 (ld P 25 (e 3) r1.2).bind fun r22 =>
 (st P 25 (e 2) r22.1 r22.2).bind fun r23 =>
 ((ld P 25 (e 2) r23.2).bind fun r24 => ifP (r24.2 = r23.2) (some r24.1)).bind fun v25 =>
 some (v25, r23.2)) := (exC_loop P (EV P) 43 32 (cA (cA (cB (cA (cB (cB (Yi P 43))))))) e w (Yj 0 (kSeq P (EV P) 43 32 (cB (cB (cB (Yi P 43)))) (kFn P (fnOf P 43))))).trans (by kernel_rfl)
theorem impl_Chain_copied_fn (x0 : Value) (w : World) : fnC P (EV P) 43 #[x0] w =
 (bx P 25 x0 w).bind fun r1 =>
 (al P 25 r1.2).bind fun r2 =>
 (fa P 25 r1.1 0 r2.2).bind fun r3 =>
 (ld P 23 r3.1 r3.2).bind fun r4 =>
 (Yp P #[23] 3 #[r4.1] r4.2).bind fun r5 =>
 (ms P 23 (.int .i64 0) r5.1 r5.2).bind fun r6 =>
 (bd P 25 #[(0, r6.1)] r6.2).bind fun r7 =>
 (al P 25 r7.2).bind fun r8 =>
 (st P 25 r8.1 r7.1 r8.2).bind fun r9 =>
 (fa P 25 r1.1 0 r9.2).bind fun r10 =>
 (ld P 23 r10.1 r10.2).bind fun r11 =>
 (Yp P #[23] 3 #[r11.1] r11.2).bind fun r12 =>
 (vl (.int .i64 0) r12.2).bind fun r13 =>
 impl_Chain_copied_l1 (ups (env0 #[x0]) [(1, r1.1), (2, r2.1), (6, r3.1), (7, r4.1), (8, r5.1), (9, r6.1), (10, r7.1), (3, r8.1), (11, r10.1), (12, r11.1), (13, r12.1), (14, r13.1)]) r13.2 := by kernel_rfl
theorem impl_within_fn (x0 x1 x2 : Value) (w : World) : fnC P (EV P) 44 #[x0, x1, x2] w =
 (vl (.bool false) w).bind fun r1 =>
 (vl x0 r1.2).bind fun r2 =>
 (vl x1 r2.2).bind fun r3 =>
 (bo P .geq 3 (.tmp 7) (.tmp 8) r2.1 r3.1 r3.2).bind fun r4 =>
 (vl r4.1 r4.2).bind fun r5 =>
 (gif r5.1 true (vl x0 r5.2) r5.2).bind fun r6 =>
 (gif r5.1 true (vl x2 r6.2) r6.2).bind fun r7 =>
 (gif r5.1 true (bo P .leq 3 (.tmp 11) (.tmp 12) r6.1 r7.1 r7.2) r7.2).bind fun r8 =>
 (pickV r5.1 r8.1 (.bool false) r8.2).bind fun r9 =>
 (vl r9.1 r9.2).bind fun r10 =>
 some (r10.1, r10.2) := by kernel_rfl
theorem impl_Chain_full_fn (x0 x1 : Value) (w : World) : fnC P (EV P) 45 #[x0, x1] w =
 (vl (.bool false) w).bind fun r1 =>
 (vl x0 r1.2).bind fun r2 =>
 (nk P r2.1 r2.2).bind fun r3 =>
 (fa P 25 r3.1 0 r3.2).bind fun r4 =>
 (ld P 23 r4.1 r4.2).bind fun r5 =>
 (vl x1 r5.2).bind fun r6 =>
 (ia P 23 r5.1 r6.1 r6.2).bind fun r7 =>
 (fa P 36 r7.1 1 r7.2).bind fun r8 =>
 (ld P 32 r8.1 r8.2).bind fun r9 =>
 (Yp P #[32] 3 #[r9.1] r9.2).bind fun r10 =>
 (bo P .geq 3 (.tmp 13) (.const (.int .i64 6)) r10.1 (.int .i64 6) r10.2).bind fun r11 =>
 (vl r11.1 r11.2).bind fun r12 =>
 some (r12.1, r12.2) := by kernel_rfl
theorem slices_Clip_Ver_fn (x0 : Value) (w : World) : fnC P (EV P) 46 #[x0] w =
 (vl (Go.Value.slice none 0 0) w).bind fun r1 =>
 (vl x0 r1.2).bind fun r2 =>
 (vl x0 r2.2).bind fun r3 =>
 (Yp P #[32] 3 #[r3.1] r3.2).bind fun r4 =>
 (vl x0 r4.2).bind fun r5 =>
 (Yp P #[32] 3 #[r5.1] r5.2).bind fun r6 =>
 (sl P 32 r2.1 none (some r4.1) (some r6.1) r6.2).bind fun r7 =>
 (vl r7.1 r7.2).bind fun r8 =>
 some (r8.1, r8.2) := by kernel_rfl
theorem slices_Delete_Ver_fn (x0 x1 x2 : Value) (w : World) : fnC P (EV P) 47 #[x0, x1, x2] w =
 (vl (Go.Value.slice none 0 0) w).bind fun r1 =>
 (vl x0 r1.2).bind fun r2 =>
 (vl x1 r2.2).bind fun r3 =>
 (vl x2 r3.2).bind fun r4 =>
 (vl x0 r4.2).bind fun r5 =>
 (Yp P #[32] 3 #[r5.1] r5.2).bind fun r6 =>
 (sl P 32 r2.1 (some r3.1) (some r4.1) (some r6.1) r6.2).bind fun r7 =>
 (vl x1 r7.2).bind fun r8 =>
 (vl x2 r8.2).bind fun r9 =>
 (bo P .eql 3 (.tmp 14) (.tmp 15) r8.1 r9.1 r9.2).bind fun r10 =>
 cnd r10.1 (
 (vl x0 r10.2).bind fun r11 =>
 (vl r11.1 r11.2).bind fun r12 =>
 some (r12.1, r12.2)) (
 (vl x0 r10.2).bind fun r13 =>
 (Yp P #[32] 3 #[r13.1] r13.2).bind fun r14 =>
 (vl r14.1 r14.2).bind fun r15 =>
 (vl x0 (dw r15.2)).bind fun r17 =>
 ifP (r17.2 = (dw r15.2)) <|
 (vl x1 (dw r15.2)).bind fun r18 =>
 ifP (r18.2 = (dw r15.2)) <|
 (sl P 32 r17.1 none (some r18.1) none (dw r15.2)).bind fun r19 =>
 ifP (r19.2 = (dw r15.2)) <|
 (vl x0 (dw r15.2)).bind fun r20 =>
 ifP (r20.2 = (dw r15.2)) <|
 (vl x2 (dw r15.2)).bind fun r21 =>
 ifP (r21.2 = (dw r15.2)) <|
 (sl P 32 r20.1 (some r21.1) none none (dw r15.2)).bind fun r22 =>
 ifP (r22.2 = (dw r15.2)) <|
 (b_append P #[32, 32] 32 #[r19.1, r22.1] (dw r15.2)).bind fun r23 =>
 ifP (True ∧ True ∧ True) <|
 (vl r23.1 r23.2).bind fun r24 =>
 ifP (r24.2 = r23.2) <|
 (vl r24.1 r23.2).bind fun r25 =>
 (vl r24.1 r25.2).bind fun r26 =>
 (Yp P #[32] 3 #[r26.1] r26.2).bind fun r27 =>
 (vl r15.1 r27.2).bind fun r28 =>
 (sl P 32 r25.1 (some r27.1) (some r28.1) none r28.2).bind fun r29 =>
 (b_clear P #[32] 0 #[r29.1] r29.2).bind fun r30 =>
 (vl r24.1 r30.2).bind fun r31 =>
 (vl r31.1 r31.2).bind fun r32 =>
 some (r32.1, r32.2)) := by kernel_rfl
theorem impl_Chain_apply_fn (x0 x1 x2 : Value) (w : World) : fnC P (EV P) 48 #[x0, x1, x2] w =
 (bx P 45 x2 w).bind fun r1 =>
 (vl x0 r1.2).bind fun r2 =>
 (nk P r2.1 r2.2).bind fun r3 =>
 (fa P 25 r3.1 0 r3.2).bind fun r4 =>
 (ld P 23 r4.1 r4.2).bind fun r5 =>
 (vl x1 r5.2).bind fun r6 =>
 (ia P 23 r5.1 r6.1 r6.2).bind fun r7 =>
 (vl r7.1 r7.2).bind fun r8 =>
 (vl r8.1 (dw r8.2)).bind fun r10 =>
 ifP (r10.2 = (dw r8.2)) <|
 (nk P r10.1 (dw r8.2)).bind fun r11 =>
 ifP (r11.2 = (dw r8.2)) <|
 (fa P 36 r11.1 0 (dw r8.2)).bind fun r12 =>
 ifP (r12.2 = (dw r8.2)) <|
 (ld P 34 r12.1 (dw r8.2)).bind fun r13 =>
 ifP (r13.2 = (dw r8.2)) <|
 (ld P 45 r1.1 (dw r8.2)).bind fun r14 =>
 ifP (r14.2 = (dw r8.2)) <|
 (EV P 33 #[r13.1, r14.1] (dw r8.2)).bind fun r15 =>
 ifP (True ∧ True ∧ True ∧ True ∧ True) <|
 (uo P .not r15.1 r15.2).bind fun r16 =>
 ifP (r16.2 = r15.2) <|
 cnd r16.1 (
 some (.tuple #[], r15.2)) (
 (vl r8.1 (dw r15.2)).bind fun r18 =>
 ifP (r18.2 = (dw r15.2)) <|
 (nk P r18.1 (dw r15.2)).bind fun r19 =>
 ifP (r19.2 = (dw r15.2)) <|
 (fa P 36 r19.1 0 (dw r15.2)).bind fun r20 =>
 ifP (r20.2 = (dw r15.2)) <|
 (fa P 34 r20.1 0 (dw r15.2)).bind fun r21 =>
 ifP (r21.2 = (dw r15.2)) <|
 (ld P 32 r21.1 (dw r15.2)).bind fun r22 =>
 ifP (r22.2 = (dw r15.2)) <|
 (fa P 45 r1.1 0 (dw r15.2)).bind fun r23 =>
 ifP (r23.2 = (dw r15.2)) <|
 (ld P 3 r23.1 (dw r15.2)).bind fun r24 =>
 ifP (r24.2 = (dw r15.2)) <|
 (ld P 45 r1.1 (dw r15.2)).bind fun r25 =>
 ifP (r25.2 = (dw r15.2)) <|
 (EV P 34 #[r25.1] (dw r15.2)).bind fun r26 =>
 ifP (True ∧ ld P 3 r23.1 r26.2 = some (r24.1, r26.2) ∧ fa P 45 r1.1 0 r26.2 = some (r23.1, r26.2) ∧ ld P 32 r21.1 r26.2 = some (r22.1, r26.2) ∧ fa P 34 r20.1 0 r26.2 = some (r21.1, r26.2) ∧ fa P 36 r19.1 0 r26.2 = some (r20.1, r26.2) ∧ nk P r18.1 r26.2 = some (r19.1, r26.2) ∧ True) <|
 (ia P 32 r22.1 r24.1 r26.2).bind fun r27 =>
 ifP (r27.2 = r26.2) <|
 (st P 45 r27.1 r26.1 r26.2).bind fun r28 =>
 ifP (True ∧ True ∧ True ∧ True ∧ True ∧ True ∧ True ∧ True ∧ True) <|
 (vl x0 r28.2).bind fun r29 =>
 (nk P r29.1 r29.2).bind fun r30 =>
 (ld P 25 r30.1 r30.2).bind fun r31 =>
 (vl x1 r31.2).bind fun r32 =>
 (EV P 29 #[r31.1, r32.1] r32.2).bind fun r33 =>
 (uo P .not r33.1 r33.2).bind fun r34 =>
 cnd r34.1 (
 (vl r8.1 (dw r34.2)).bind fun r36 =>
 ifP (r36.2 = (dw r34.2)) <|
 (vl r8.1 (dw r34.2)).bind fun r37 =>
 ifP (r37.2 = (dw r34.2)) <|
 (nk P r37.1 (dw r34.2)).bind fun r38 =>
 ifP (r38.2 = (dw r34.2)) <|
 (fa P 36 r38.1 1 (dw r34.2)).bind fun r39 =>
 ifP (r39.2 = (dw r34.2)) <|
 (ld P 32 r39.1 (dw r34.2)).bind fun r40 =>
 ifP (r40.2 = (dw r34.2)) <|
 (ld P 45 r1.1 (dw r34.2)).bind fun r41 =>
 ifP (r41.2 = (dw r34.2)) <|
 (EV P 34 #[r41.1] (dw r34.2)).bind fun r42 =>
 ifP (True ∧ ld P 32 r39.1 r42.2 = some (r40.1, r42.2) ∧ fa P 36 r38.1 1 r42.2 = some (r39.1, r42.2) ∧ nk P r37.1 r42.2 = some (r38.1, r42.2) ∧ True) <|
 (bs P 32 1 #[(0, r42.1)] r42.2).bind fun r43 =>
 ifP (True ∧ ld P 32 r39.1 r43.2 = some (r40.1, r43.2) ∧ fa P 36 r38.1 1 r43.2 = some (r39.1, r43.2) ∧ nk P r37.1 r43.2 = some (r38.1, r43.2) ∧ True) <|
 (b_append P #[32, 32] 32 #[r40.1, r43.1] r43.2).bind fun r44 =>
 ifP (True ∧ True ∧ True ∧ True ∧ True) <|
 (EV P 46 #[r44.1] r44.2).bind fun r45 =>
 ifP (True ∧ True ∧ True ∧ True ∧ True) <|
 (nk P r36.1 r45.2).bind fun r46 =>
 ifP (r46.2 = r45.2) <|
 (fa P 36 r46.1 1 r45.2).bind fun r47 =>
 ifP (r47.2 = r45.2) <|
 (st P 32 r47.1 r45.1 r45.2).bind fun r48 =>
 ifP (True ∧ True ∧ True ∧ True ∧ True ∧ True ∧ True) <|
 some (.tuple #[], r48.2)) (
 some (.tuple #[], r34.2))) := by kernel_rfl
noncomputable def spec_l2StoreOk_l1 (e : Env) (w : World) : Option (Value × World) := exC P (EV P) 49 87 (.loop (cA (cA (cB (cA (cB (Yi P 49))))))) e w (Yj 0 (kSeq P (EV P) 49 87 (cB (cB (Yi P 49))) (kFn P (fnOf P 49))))
theorem spec_l2StoreOk_l1_eq (e : Env) (w : World) : spec_l2StoreOk_l1 e w =
 (vl (e 3) w).bind fun r1 =>
 (fa P 34 (e 1) 0 r1.2).bind fun r2 =>
 (ld P 32 r2.1 r2.2).bind fun r3 =>
 (Yp P #[32] 3 #[r3.1] r3.2).bind fun r4 =>
 (bo P .lss 3 (.tmp 4) (.tmp 7) r1.1 r4.1 r4.2).bind fun r5 =>
 cnd r5.1 (
 (fa P 34 (e 1) 0 r5.2).bind fun r6 =>
 (ld P 32 r6.1 r6.2).bind fun r7 =>
 (vl (e 3) r7.2).bind fun r8 =>
 (ia P 32 r7.1 r8.1 r8.2).bind fun r9 =>
 (fa P 45 r9.1 1 r9.2).bind fun r10 =>
 (ld P 40 r10.1 r10.2).bind fun r11 =>
 (bd P 40 #[] r11.2).bind fun r12 =>
 (bo P .neq 40 (.tmp 16) (.tmp 17) r11.1 r12.1 r12.2).bind fun r13 =>
 (vl r13.1 r13.2).bind fun r14 =>
 (gif r14.1 true (fa P 34 (e 1) 0 r14.2) r14.2).bind fun r15 =>
 (gif r14.1 true (ld P 32 r15.1 r15.2) r15.2).bind fun r16 =>
 (gif r14.1 true (vl (e 3) r16.2) r16.2).bind fun r17 =>
 (gif r14.1 true (ia P 32 r16.1 r17.1 r17.2) r17.2).bind fun r18 =>
 (gif r14.1 true (ld P 45 r18.1 r18.2) r18.2).bind fun r19 =>
 (gif r14.1 true (EV P 50 #[r19.1] r19.2) r19.2).bind fun r20 =>
 (gif r14.1 true (uo P .not r20.1 r20.2) r20.2).bind fun r21 =>
 (gif r14.1 true (vl r21.1 r21.2) r21.2).bind fun r22 =>
 (gif r22.1 false (fa P 34 (e 1) 0 r22.2) r22.2).bind fun r23 =>
 (gif r22.1 false (ld P 32 r23.1 r23.2) r23.2).bind fun r24 =>
 (gif r22.1 false (vl (e 3) r24.2) r24.2).bind fun r25 =>
 (gif r22.1 false (ia P 32 r24.1 r25.1 r25.2) r25.2).bind fun r26 =>
 (gif r22.1 false (fa P 45 r26.1 0 r26.2) r26.2).bind fun r27 =>
 (gif r22.1 false (ld P 3 r27.1 r27.2) r27.2).bind fun r28 =>
 (gif r22.1 false (vl (e 3) r28.2) r28.2).bind fun r29 =>
 (gif r22.1 false (bo P .neq 3 (.tmp 33) (.tmp 34) r28.1 r29.1 r29.2) r29.2).bind fun r30 =>
 (gif r14.1 true (pickV r22.1 (.bool true) r30.1 r30.2) r30.2).bind fun r31 =>
 (pickV r14.1 r31.1 (.bool false) r31.2).bind fun r32 =>
 cnd r32.1 (
 (vl (.bool false) r32.2).bind fun r33 =>
 some (r33.1, r33.2)) (
 (fa P 34 (e 1) 0 r32.2).bind fun r34 =>
 (ld P 32 r34.1 r34.2).bind fun r35 =>
 (vl (e 3) r35.2).bind fun r36 =>
 (ia P 32 r35.1 r36.1 r36.2).bind fun r37 =>
 (fa P 45 r37.1 1 r37.2).bind fun r38 =>
 (ld P 40 r38.1 r38.2).bind fun r39 =>
 (bd P 40 #[] r39.2).bind fun r40 =>
 (bo P .eql 40 (.tmp 43) (.tmp 44) r39.1 r40.1 r40.2).bind fun r41 =>
 (vl r41.1 r41.2).bind fun r42 =>
 (gif r42.1 true (fa P 34 (e 1) 0 r42.2) r42.2).bind fun r43 =>
 (gif r42.1 true (ld P 32 r43.1 r43.2) r43.2).bind fun r44 =>
 (gif r42.1 true (vl (e 3) r44.2) r44.2).bind fun r45 =>
 (gif r42.1 true (ia P 32 r44.1 r45.1 r45.2) r45.2).bind fun r46 =>
 (gif r42.1 true (fa P 45 r46.1 0 r46.2) r46.2).bind fun r47 =>
 (gif r42.1 true (ld P 3 r47.1 r47.2) r47.2).bind fun r48 =>
 (gif r42.1 true (bo P .neq 3 (.tmp 52) (.const (.int .i64 0)) r48.1 (.int .i64 0) r48.2) r48.2).bind fun r49 =>
 (gif r42.1 true (vl r49.1 r49.2) r49.2).bind fun r50 =>
 (gif r50.1 false (fa P 34 (e 1) 0 r50.2) r50.2).bind fun r51 =>
 (gif r50.1 false (ld P 32 r51.1 r51.2) r51.2).bind fun r52 =>
 (gif r50.1 false (vl (e 3) r52.2) r52.2).bind fun r53 =>
 (gif r50.1 false (ia P 32 r52.1 r53.1 r53.2) r53.2).bind fun r54 =>
 (gif r50.1 false (fa P 45 r54.1 3 r54.2) r54.2).bind fun r55 =>
 (gif r50.1 false (ld P 9 r55.1 r55.2) r55.2).bind fun r56 =>
 (gif r50.1 false (bo P .neq 9 (.tmp 60) (.const (Go.Value.string { data := #[] })) r56.1 (Go.Value.string { data := #[] }) r56.2) r56.2).bind fun r57 =>
 (gif r42.1 true (pickV r50.1 (.bool true) r57.1 r57.2) r57.2).bind fun r58 =>
 (gif r42.1 true (vl r58.1 r58.2) r58.2).bind fun r59 =>
 (gif r59.1 false (fa P 34 (e 1) 0 r59.2) r59.2).bind fun r60 =>
 (gif r59.1 false (ld P 32 r60.1 r60.2) r60.2).bind fun r61 =>
 (gif r59.1 false (vl (e 3) r61.2) r61.2).bind fun r62 =>
 (gif r59.1 false (ia P 32 r61.1 r62.1 r62.2) r62.2).bind fun r63 =>
 (gif r59.1 false (fa P 45 r63.1 4 r63.2) r63.2).bind fun r64 =>
 (gif r59.1 false (ld P 4 r64.1 r64.2) r64.2).bind fun r65 =>
 (gif r42.1 true (pickV r59.1 (.bool true) r65.1 r65.2) r65.2).bind fun r66 =>
 (gif r42.1 true (vl r66.1 r66.2) r66.2).bind fun r67 =>
 (gif r67.1 false (fa P 34 (e 1) 0 r67.2) r67.2).bind fun r68 =>
 (gif r67.1 false (ld P 32 r68.1 r68.2) r68.2).bind fun r69 =>
 (gif r67.1 false (vl (e 3) r69.2) r69.2).bind fun r70 =>
 (gif r67.1 false (ia P 32 r69.1 r70.1 r70.2) r70.2).bind fun r71 =>
 (gif r67.1 false (fa P 45 r71.1 2 r71.2) r71.2).bind fun r72 =>
 (gif r67.1 false (fa P 43 r72.1 0 r72.2) r72.2).bind fun r73 =>
 (gif r67.1 false (ld P 41 r73.1 r73.2) r73.2).bind fun r74 =>
 (gif r67.1 false (Yp P #[41] 3 #[r74.1] r74.2) r74.2).bind fun r75 =>
 (gif r67.1 false (bo P .gtr 3 (.tmp 79) (.const (.int .i64 0)) r75.1 (.int .i64 0) r75.2) r75.2).bind fun r76 =>
 (gif r42.1 true (pickV r67.1 (.bool true) r76.1 r76.2) r76.2).bind fun r77 =>
 (pickV r42.1 r77.1 (.bool false) r77.2).bind fun r78 =>
 cnd r78.1 (
 (vl (.bool false) r78.2).bind fun r79 =>
 some (r79.1, r79.2)) (
 (vl (e 3) r78.2).bind fun r80 =>
 (bo P .add 3 (.tmp 9) (.const (.int .i64 1)) r80.1 (.int .i64 1) r80.2).bind fun r81 =>
 (vl r81.1 r81.2).bind fun r82 =>
 spec_l2StoreOk_l1 (ups e [(4, r1.1), (5, r2.1), (6, r3.1), (7, r4.1), (8, r5.1), (11, r6.1), (12, r7.1), (13, r8.1), (14, r9.1), (15, r10.1), (16, r11.1), (17, r12.1), (18, r13.1), (19, r14.1), (20, r15.1), (21, r16.1), (22, r17.1), (23, r18.1), (24, r19.1), (25, r20.1), (26, r21.1), (27, r22.1), (28, r23.1), (29, r24.1), (30, r25.1), (31, r26.1), (32, r27.1), (33, r28.1), (34, r29.1), (35, r30.1), (36, r31.1), (37, r32.1), (38, r34.1), (39, r35.1), (40, r36.1), (41, r37.1), (42, r38.1), (43, r39.1), (44, r40.1), (45, r41.1), (46, r42.1), (47, r43.1), (48, r44.1), (49, r45.1), (50, r46.1), (51, r47.1), (52, r48.1), (53, r49.1), (54, r50.1), (55, r51.1), (56, r52.1), (57, r53.1), (58, r54.1), (59, r55.1), (60, r56.1), (61, r57.1), (62, r58.1), (63, r59.1), (64, r60.1), (65, r61.1), (66, r62.1), (67, r63.1), (68, r64.1), (69, r65.1), (70, r66.1), (71, r67.1), (72, r68.1), (73, r69.1), (74, r70.1), (75, r71.1), (76, r72.1), (77, r73.1), (78, r74.1), (79, r75.1), (80, r76.1), (81, r77.1), (82, r78.1), (9, r80.1), (10, r81.1), (3, r82.1)]) r82.2))) (
 (fa P 34 (e 1) 0 r5.2).bind fun r83 =>
 (ld P 32 r83.1 r83.2).bind fun r84 =>
 (Yp P #[32] 3 #[r84.1] r84.2).bind fun r85 =>
 (bo P .eql 3 (.tmp 85) (.const (.int .i64 4)) r85.1 (.int .i64 4) r85.2).bind fun r86 =>
 (vl r86.1 r86.2).bind fun r87 =>
 some (r87.1, r87.2)) := (exC_loop P (EV P) 49 87 (cA (cA (cB (cA (cB (Yi P 49)))))) e w (Yj 0 (kSeq P (EV P) 49 87 (cB (cB (Yi P 49))) (kFn P (fnOf P 49))))).trans (by kernel_rfl)
theorem spec_l2StoreOk_fn (x0 : Value) (w : World) : fnC P (EV P) 49 #[x0] w =
 (bx P 34 x0 w).bind fun r1 =>
 (vl (.bool false) r1.2).bind fun r2 =>
 (vl (.int .i64 0) r2.2).bind fun r3 =>
 spec_l2StoreOk_l1 (ups (env0 #[x0]) [(1, r1.1), (2, r2.1), (3, r3.1)]) r3.2 := by kernel_rfl
noncomputable def spec_l2Ok_l1 (e : Env) (w : World) : Option (Value × World) := exC P (EV P) 50 56 (.loop (cA (cA (cB (cA (cB (cB (Yi P 50)))))))) e w (Yj 0 (kSeq P (EV P) 50 56 (cB (cB (cB (Yi P 50)))) (kFn P (fnOf P 50))))
theorem spec_l2Ok_l1_eq (e : Env) (w : World) : spec_l2Ok_l1 e w =
 (vl (e 3) w).bind fun r1 =>
 (bo P .lss 3 (.tmp 41) (.const (.int .i64 4)) r1.1 (.int .i64 4) r1.2).bind fun r2 =>
 cnd r2.1 (
 (fa P 45 (e 1) 2 (dw r2.2)).bind fun r4 =>
 ifP (r4.2 = (dw r2.2)) <|
 (fa P 43 r4.1 0 (dw r2.2)).bind fun r5 =>
 ifP (r5.2 = (dw r2.2)) <|
 (ld P 41 r5.1 (dw r2.2)).bind fun r6 =>
 ifP (r6.2 = (dw r2.2)) <|
 (vl (e 3) (dw r2.2)).bind fun r7 =>
 ifP (r7.2 = (dw r2.2)) <|
 (ia P 41 r6.1 r7.1 (dw r2.2)).bind fun r8 =>
 ifP (r8.2 = (dw r2.2)) <|
 (fa P 40 r8.1 0 (dw r2.2)).bind fun r9 =>
 ifP (r9.2 = (dw r2.2)) <|
 (ld P 3 r9.1 (dw r2.2)).bind fun r10 =>
 ifP (r10.2 = (dw r2.2)) <|
 (fa P 45 (e 1) 1 (dw r2.2)).bind fun r11 =>
 ifP (r11.2 = (dw r2.2)) <|
 (fa P 40 r11.1 0 (dw r2.2)).bind fun r12 =>
 ifP (r12.2 = (dw r2.2)) <|
 (ld P 3 r12.1 (dw r2.2)).bind fun r13 =>
 ifP (r13.2 = (dw r2.2)) <|
 (bo P .geq 3 (.tmp 51) (.tmp 54) r10.1 r13.1 (dw r2.2)).bind fun r14 =>
 ifP (r14.2 = (dw r2.2)) <|
 cnd r14.1 (
 (vl (.bool false) (dw r2.2)).bind fun r15 =>
 some (r15.1, r15.2)) (
 (vl (e 3) (dw r2.2)).bind fun r16 =>
 (bo P .add 3 (.tmp 43) (.const (.int .i64 1)) r16.1 (.int .i64 1) r16.2).bind fun r17 =>
 (vl r17.1 r17.2).bind fun r18 =>
 spec_l2Ok_l1 (ups e [(41, r1.1), (42, r2.1), (45, r4.1), (46, r5.1), (47, r6.1), (48, r7.1), (49, r8.1), (50, r9.1), (51, r10.1), (52, r11.1), (53, r12.1), (54, r13.1), (55, r14.1), (43, r16.1), (44, r17.1), (3, r18.1)]) r18.2)) (
 (vl (.bool true) r2.2).bind fun r19 =>
 some (r19.1, r19.2)) := (exC_loop P (EV P) 50 56 (cA (cA (cB (cA (cB (cB (Yi P 50))))))) e w (Yj 0 (kSeq P (EV P) 50 56 (cB (cB (cB (Yi P 50)))) (kFn P (fnOf P 50))))).trans (by kernel_rfl)
theorem spec_l2Ok_fn (x0 : Value) (w : World) : fnC P (EV P) 50 #[x0] w =
 (bx P 45 x0 w).bind fun r1 =>
 (vl (.bool false) r1.2).bind fun r2 =>
 (fa P 45 r1.1 0 r2.2).bind fun r3 =>
 (ld P 3 r3.1 r3.2).bind fun r4 =>
 (EV P 52 #[r4.1, (.int .i64 0), (.int .i64 3)] r4.2).bind fun r5 =>
 (uo P .not r5.1 r5.2).bind fun r6 =>
 (vl r6.1 r6.2).bind fun r7 =>
 (gif r7.1 false (fa P 45 r1.1 3 r7.2) r7.2).bind fun r8 =>
 (gif r7.1 false (ld P 9 r8.1 r8.2) r8.2).bind fun r9 =>
 (gif r7.1 false (EV P 77 #[r9.1] r9.2) r9.2).bind fun r10 =>
 (gif r7.1 false (uo P .not r10.1 r10.2) r10.2).bind fun r11 =>
 (pickV r7.1 (.bool true) r11.1 r11.2).bind fun r12 =>
 (vl r12.1 r12.2).bind fun r13 =>
 (gif r13.1 false (fa P 45 r1.1 1 r13.2) r13.2).bind fun r14 =>
 (gif r13.1 false (ld P 40 r14.1 r14.2) r14.2).bind fun r15 =>
 (gif r13.1 false (EV P 78 #[r15.1] r15.2) r15.2).bind fun r16 =>
 (gif r13.1 false (uo P .not r16.1 r16.2) r16.2).bind fun r17 =>
 (pickV r13.1 (.bool true) r17.1 r17.2).bind fun r18 =>
 (vl r18.1 r18.2).bind fun r19 =>
 (gif r19.1 false (fa P 45 r1.1 1 r19.2) r19.2).bind fun r20 =>
 (gif r19.1 false (fa P 40 r20.1 0 r20.2) r20.2).bind fun r21 =>
 (gif r19.1 false (ld P 3 r21.1 r21.2) r21.2).bind fun r22 =>
 (gif r19.1 false (bo P .eql 3 (.tmp 23) (.const (.int .i64 0)) r22.1 (.int .i64 0) r22.2) r22.2).bind fun r23 =>
 (pickV r19.1 (.bool true) r23.1 r23.2).bind fun r24 =>
 (vl r24.1 r24.2).bind fun r25 =>
 (gif r25.1 false (fa P 45 r1.1 4 r25.2) r25.2).bind fun r26 =>
 (gif r25.1 false (ld P 4 r26.1 r26.2) r26.2).bind fun r27 =>
 (gif r25.1 false (vl r27.1 r27.2) r27.2).bind fun r28 =>
 (gif r28.1 true (fa P 45 r1.1 3 r28.2) r28.2).bind fun r29 =>
 (gif r28.1 true (ld P 9 r29.1 r29.2) r29.2).bind fun r30 =>
 (gif r28.1 true (bo P .neq 9 (.tmp 31) (.const (Go.Value.string { data := #[] })) r30.1 (Go.Value.string { data := #[] }) r30.2) r30.2).bind fun r31 =>
 (gif r25.1 false (pickV r28.1 r31.1 (.bool false) r31.2) r31.2).bind fun r32 =>
 (pickV r25.1 (.bool true) r32.1 r32.2).bind fun r33 =>
 (vl r33.1 r33.2).bind fun r34 =>
 (gif r34.1 false (fa P 45 r1.1 2 r34.2) r34.2).bind fun r35 =>
 (gif r34.1 false (ld P 43 r35.1 r35.2) r35.2).bind fun r36 =>
 (gif r34.1 false (EV P 79 #[r36.1] r36.2) r36.2).bind fun r37 =>
 (gif r34.1 false (uo P .not r37.1 r37.2) r37.2).bind fun r38 =>
 (pickV r34.1 (.bool true) r38.1 r38.2).bind fun r39 =>
 cnd r39.1 (
 (vl (.bool false) r39.2).bind fun r40 =>
 some (r40.1, r40.2)) (
 (vl (.int .i64 0) r39.2).bind fun r41 =>
 spec_l2Ok_l1 (ups (env0 #[x0]) [(1, r1.1), (2, r2.1), (4, r3.1), (5, r4.1), (6, r5.1), (7, r6.1), (8, r7.1), (9, r8.1), (10, r9.1), (11, r10.1), (12, r11.1), (13, r12.1), (14, r13.1), (15, r14.1), (16, r15.1), (17, r16.1), (18, r17.1), (19, r18.1), (20, r19.1), (21, r20.1), (22, r21.1), (23, r22.1), (24, r23.1), (25, r24.1), (26, r25.1), (27, r26.1), (28, r27.1), (29, r28.1), (30, r29.1), (31, r30.1), (32, r31.1), (33, r32.1), (34, r33.1), (35, r34.1), (36, r35.1), (37, r36.1), (38, r37.1), (39, r38.1), (40, r39.1), (3, r41.1)]) r41.2) := by kernel_rfl
noncomputable def spec_l3Next_l1 (e : Env) (w : World) : Option (Value × World) := exC P (EV P) 51 51 (.loop (cA (cA (cB (cA (cB (cB (cB (Yi P 51))))))))) e w (Yj 0 (kSeq P (EV P) 51 51 (cB (cB (cB (cB (Yi P 51))))) (kFn P (fnOf P 51))))
theorem spec_l3Next_l1_eq (e : Env) (w : World) : spec_l3Next_l1 e w =
 (vl (e 6) w).bind fun r1 =>
 (fa P 36 (e 2) 1 r1.2).bind fun r2 =>
 (ld P 32 r2.1 r2.2).bind fun r3 =>
 (Yp P #[32] 3 #[r3.1] r3.2).bind fun r4 =>
 (bo P .lss 3 (.tmp 14) (.tmp 17) r1.1 r4.1 r4.2).bind fun r5 =>
 cnd r5.1 (
 (fa P 34 (e 5) 0 (dw r5.2)).bind fun r7 =>
 ifP (r7.2 = (dw r5.2)) <|
 (ld P 32 r7.1 (dw r5.2)).bind fun r8 =>
 ifP (r8.2 = (dw r5.2)) <|
 (fa P 36 (e 2) 1 (dw r5.2)).bind fun r9 =>
 ifP (r9.2 = (dw r5.2)) <|
 (ld P 32 r9.1 (dw r5.2)).bind fun r10 =>
 ifP (r10.2 = (dw r5.2)) <|
 (vl (e 6) (dw r5.2)).bind fun r11 =>
 ifP (r11.2 = (dw r5.2)) <|
 (ia P 32 r10.1 r11.1 (dw r5.2)).bind fun r12 =>
 ifP (r12.2 = (dw r5.2)) <|
 (fa P 45 r12.1 0 (dw r5.2)).bind fun r13 =>
 ifP (r13.2 = (dw r5.2)) <|
 (ld P 3 r13.1 (dw r5.2)).bind fun r14 =>
 ifP (r14.2 = (dw r5.2)) <|
 (ia P 32 r8.1 r14.1 (dw r5.2)).bind fun r15 =>
 ifP (r15.2 = (dw r5.2)) <|
 (fa P 45 r15.1 1 (dw r5.2)).bind fun r16 =>
 ifP (r16.2 = (dw r5.2)) <|
 (ld P 40 r16.1 (dw r5.2)).bind fun r17 =>
 ifP (r17.2 = (dw r5.2)) <|
 (fa P 36 (e 2) 1 (dw r5.2)).bind fun r18 =>
 ifP (r18.2 = (dw r5.2)) <|
 (ld P 32 r18.1 (dw r5.2)).bind fun r19 =>
 ifP (r19.2 = (dw r5.2)) <|
 (vl (e 6) (dw r5.2)).bind fun r20 =>
 ifP (r20.2 = (dw r5.2)) <|
 (ia P 32 r19.1 r20.1 (dw r5.2)).bind fun r21 =>
 ifP (r21.2 = (dw r5.2)) <|
 (fa P 45 r21.1 1 (dw r5.2)).bind fun r22 =>
 ifP (r22.2 = (dw r5.2)) <|
 (ld P 40 r22.1 (dw r5.2)).bind fun r23 =>
 ifP (r23.2 = (dw r5.2)) <|
 (EV P 80 #[r17.1, r23.1] (dw r5.2)).bind fun r24 =>
 ifP (True ∧ True ∧ True ∧ True ∧ True ∧ True ∧ True ∧ True ∧ True ∧ True ∧ True ∧ True ∧ True ∧ True ∧ True ∧ True) <|
 (uo P .not r24.1 r24.2).bind fun r25 =>
 ifP (r25.2 = r24.2) <|
 cnd r25.1 (
 (vl (.bool false) r24.2).bind fun r26 =>
 some (r26.1, r26.2)) (
 (ld P 34 (e 5) (dw r24.2)).bind fun r28 =>
 ifP (r28.2 = (dw r24.2)) <|
 (fa P 36 (e 2) 1 (dw r24.2)).bind fun r29 =>
 ifP (r29.2 = (dw r24.2)) <|
 (ld P 32 r29.1 (dw r24.2)).bind fun r30 =>
 ifP (r30.2 = (dw r24.2)) <|
 (vl (e 6) (dw r24.2)).bind fun r31 =>
 ifP (r31.2 = (dw r24.2)) <|
 (ia P 32 r30.1 r31.1 (dw r24.2)).bind fun r32 =>
 ifP (r32.2 = (dw r24.2)) <|
 (ld P 45 r32.1 (dw r24.2)).bind fun r33 =>
 ifP (r33.2 = (dw r24.2)) <|
 (EV P 81 #[r28.1, r33.1] (dw r24.2)).bind fun r34 =>
 ifP (True ∧ True ∧ True ∧ True ∧ True ∧ True) <|
 (st P 34 (e 5) r34.1 r34.2).bind fun r35 =>
 ifP (True ∧ True ∧ True ∧ True ∧ True ∧ True) <|
 (vl (e 6) r35.2).bind fun r36 =>
 (bo P .add 3 (.tmp 19) (.const (.int .i64 1)) r36.1 (.int .i64 1) r36.2).bind fun r37 =>
 (vl r37.1 r37.2).bind fun r38 =>
 spec_l3Next_l1 (ups e [(14, r1.1), (15, r2.1), (16, r3.1), (17, r4.1), (18, r5.1), (21, r7.1), (22, r8.1), (23, r9.1), (24, r10.1), (25, r11.1), (26, r12.1), (27, r13.1), (28, r14.1), (29, r15.1), (30, r16.1), (31, r17.1), (32, r18.1), (33, r19.1), (34, r20.1), (35, r21.1), (36, r22.1), (37, r23.1), (38, r24.1), (39, r25.1), (40, r28.1), (41, r29.1), (42, r30.1), (43, r31.1), (44, r32.1), (45, r33.1), (46, r34.1), (19, r36.1), (20, r37.1), (6, r38.1)]) r38.2)) (
 (ld P 34 (e 5) r5.2).bind fun r39 =>
 (fa P 36 (e 2) 0 r39.2).bind fun r40 =>
 (ld P 34 r40.1 r40.2).bind fun r41 =>
 (EV P 82 #[r39.1, r41.1] r41.2).bind fun r42 =>
 (vl r42.1 r42.2).bind fun r43 =>
 some (r43.1, r43.2)) := (exC_loop P (EV P) 51 51 (cA (cA (cB (cA (cB (cB (cB (Yi P 51)))))))) e w (Yj 0 (kSeq P (EV P) 51 51 (cB (cB (cB (cB (Yi P 51))))) (kFn P (fnOf P 51))))).trans (by kernel_rfl)
theorem spec_l3Next_fn (x0 x1 : Value) (w : World) : fnC P (EV P) 51 #[x0, x1] w =
 (bx P 36 x0 w).bind fun r1 =>
 (bx P 36 x1 r1.2).bind fun r2 =>
 (vl (.bool false) r2.2).bind fun r3 =>
 (fa P 36 r2.1 0 r3.2).bind fun r4 =>
 (ld P 34 r4.1 r4.2).bind fun r5 =>
 (EV P 49 #[r5.1] r5.2).bind fun r6 =>
 (uo P .not r6.1 r6.2).bind fun r7 =>
 cnd r7.1 (
 (vl (.bool false) r7.2).bind fun r8 =>
 some (r8.1, r8.2)) (
 (fa P 36 r2.1 0 r7.2).bind fun r9 =>
 (ld P 34 r9.1 r9.2).bind fun r10 =>
 (EV P 53 #[r10.1] r10.2).bind fun r11 =>
 (al P 34 r11.2).bind fun r12 =>
 (st P 34 r12.1 r11.1 r12.2).bind fun r13 =>
 (vl (.int .i64 0) r13.2).bind fun r14 =>
 spec_l3Next_l1 (ups (env0 #[x0, x1]) [(2, r1.1), (3, r2.1), (4, r3.1), (7, r4.1), (8, r5.1), (9, r6.1), (10, r7.1), (11, r9.1), (12, r10.1), (13, r11.1), (5, r12.1), (6, r14.1)]) r14.2) := by kernel_rfl
theorem spec_l1In_fn (x0 x1 x2 : Value) (w : World) : fnC P (EV P) 52 #[x0, x1, x2] w =
 (vl (.bool false) w).bind fun r1 =>
 (vl x0 r1.2).bind fun r2 =>
 (vl x1 r2.2).bind fun r3 =>
 (bo P .geq 3 (.tmp 7) (.tmp 8) r2.1 r3.1 r3.2).bind fun r4 =>
 (vl r4.1 r4.2).bind fun r5 =>
 (gif r5.1 true (vl x0 r5.2) r5.2).bind fun r6 =>
 (gif r5.1 true (vl x2 r6.2) r6.2).bind fun r7 =>
 (gif r5.1 true (bo P .leq 3 (.tmp 11) (.tmp 12) r6.1 r7.1 r7.2) r7.2).bind fun r8 =>
 (pickV r5.1 r8.1 (.bool false) r8.2).bind fun r9 =>
 (vl r9.1 r9.2).bind fun r10 =>
 some (r10.1, r10.2) := by kernel_rfl
noncomputable def spec_l2CopyStore_l1 (e : Env) (w : World) : Option (Value × World) := exC P (EV P) 53 25 (.loop (cA (cA (cB (cA (cB (cB (Yi P 53)))))))) e w (Yj 0 (kSeq P (EV P) 53 25 (cB (cB (cB (Yi P 53)))) (kFn P (fnOf P 53))))
theorem spec_l2CopyStore_l1_eq (e : Env) (w : World) : spec_l2CopyStore_l1 e w =
 (vl (e 4) w).bind fun r1 =>
 (fa P 34 (e 1) 0 r1.2).bind fun r2 =>
 (ld P 32 r2.1 r2.2).bind fun r3 =>
 (Yp P #[32] 3 #[r3.1] r3.2).bind fun r4 =>
 (bo P .lss 3 (.tmp 6) (.tmp 9) r1.1 r4.1 r4.2).bind fun r5 =>
 cnd r5.1 (
 (fa P 34 (e 3) 0 (dw r5.2)).bind fun r7 =>
 ifP (r7.2 = (dw r5.2)) <|
 (ld P 32 r7.1 (dw r5.2)).bind fun r8 =>
 ifP (r8.2 = (dw r5.2)) <|
 (fa P 34 (e 1) 0 (dw r5.2)).bind fun r9 =>
 ifP (r9.2 = (dw r5.2)) <|
 (ld P 32 r9.1 (dw r5.2)).bind fun r10 =>
 ifP (r10.2 = (dw r5.2)) <|
 (vl (e 4) (dw r5.2)).bind fun r11 =>
 ifP (r11.2 = (dw r5.2)) <|
 (ia P 32 r10.1 r11.1 (dw r5.2)).bind fun r12 =>
 ifP (r12.2 = (dw r5.2)) <|
 (ld P 45 r12.1 (dw r5.2)).bind fun r13 =>
 ifP (r13.2 = (dw r5.2)) <|
 (EV P 54 #[r13.1] (dw r5.2)).bind fun r14 =>
 ifP (True ∧ True ∧ True ∧ True ∧ ld P 32 r7.1 r14.2 = some (r8.1, r14.2) ∧ fa P 34 (e 3) 0 r14.2 = some (r7.1, r14.2) ∧ True) <|
 (bs P 32 1 #[(0, r14.1)] r14.2).bind fun r15 =>
 ifP (True ∧ True ∧ True ∧ True ∧ ld P 32 r7.1 r15.2 = some (r8.1, r15.2) ∧ fa P 34 (e 3) 0 r15.2 = some (r7.1, r15.2) ∧ True) <|
 (b_append P #[32, 32] 32 #[r8.1, r15.1] r15.2).bind fun r16 =>
 ifP (True ∧ True ∧ True ∧ True ∧ True ∧ True ∧ True) <|
 (fa P 34 (e 3) 0 r16.2).bind fun r17 =>
 ifP (r17.2 = r16.2) <|
 (st P 32 r17.1 r16.1 r16.2).bind fun r18 =>
 ifP (True ∧ True ∧ True ∧ True ∧ True ∧ True ∧ True ∧ True) <|
 (vl (e 4) r18.2).bind fun r19 =>
 (bo P .add 3 (.tmp 11) (.const (.int .i64 1)) r19.1 (.int .i64 1) r19.2).bind fun r20 =>
 (vl r20.1 r20.2).bind fun r21 =>
 spec_l2CopyStore_l1 (ups e [(6, r1.1), (7, r2.1), (8, r3.1), (9, r4.1), (10, r5.1), (13, r7.1), (14, r8.1), (15, r9.1), (16, r10.1), (17, r11.1), (18, r12.1), (19, r13.1), (20, r14.1), (21, r15.1), (22, r16.1), (23, r17.1), (11, r19.1), (12, r20.1), (4, r21.1)]) r21.2) (
 (ld P 34 (e 3) r5.2).bind fun r22 =>
 (st P 34 (e 2) r22.1 r22.2).bind fun r23 =>
 ((ld P 34 (e 2) r23.2).bind fun r24 => ifP (r24.2 = r23.2) (some r24.1)).bind fun v25 =>
 some (v25, r23.2)) := (exC_loop P (EV P) 53 25 (cA (cA (cB (cA (cB (cB (Yi P 53))))))) e w (Yj 0 (kSeq P (EV P) 53 25 (cB (cB (cB (Yi P 53)))) (kFn P (fnOf P 53))))).trans (by kernel_rfl)
theorem spec_l2CopyStore_fn (x0 : Value) (w : World) : fnC P (EV P) 53 #[x0] w =
 (bx P 34 x0 w).bind fun r1 =>
 (al P 34 r1.2).bind fun r2 =>
 (bd P 34 #[] r2.2).bind fun r3 =>
 (al P 34 r3.2).bind fun r4 =>
 (st P 34 r4.1 r3.1 r4.2).bind fun r5 =>
 (vl (.int .i64 0) r5.2).bind fun r6 =>
 spec_l2CopyStore_l1 (ups (env0 #[x0]) [(1, r1.1), (2, r2.1), (5, r3.1), (3, r4.1), (4, r6.1)]) r6.2 := by kernel_rfl
theorem spec_l2Copy_fn (x0 : Value) (w : World) : fnC P (EV P) 54 #[x0] w =
 (bx P 45 x0 w).bind fun r1 =>
 (al P 45 r1.2).bind fun r2 =>
 (bs P 41 0 #[] r2.2).bind fun r3 =>
 (fa P 45 r1.1 2 r3.2).bind fun r4 =>
 (fa P 43 r4.1 0 r4.2).bind fun r5 =>
 (ld P 41 r5.1 r5.2).bind fun r6 =>
 (b_append P #[41, 41] 41 #[r3.1, r6.1] r6.2).bind fun r7 =>
 (bd P 43 #[(0, r7.1)] r7.2).bind fun r8 =>
 (fa P 45 r1.1 2 r8.2).bind fun r9 =>
 (st P 43 r9.1 r8.1 r9.2).bind fun r10 =>
 (ld P 45 r1.1 r10.2).bind fun r11 =>
 (st P 45 r2.1 r11.1 r11.2).bind fun r12 =>
 ((ld P 45 r2.1 r12.2).bind fun r13 => ifP (r13.2 = r12.2) (some r13.1)).bind fun v14 =>
 some (v14, r12.2) := by kernel_rfl
noncomputable def spec_l3Add_j1 (e : Env) (w : World) : Option (Value × World) := exC P (EV P) 55 59 (cB (cB (cB (cB (Yi P 55))))) e w (kFn P (fnOf P 55))
theorem spec_l3Add_j1_eq (e : Env) (w : World) : spec_l3Add_j1 e w =
 (ld P 25 (e 3) w).bind fun r1 =>
 (st P 25 (e 6) r1.1 r1.2).bind fun r2 =>
 ((ld P 25 (e 6) r2.2).bind fun r3 => ifP (r3.2 = r2.2) (some r3.1)).bind fun v4 =>
 some (v4, r2.2) := by kernel_rfl
theorem spec_l3Add_fn (x0 x1 x2 : Value) (w : World) : fnC P (EV P) 55 #[x0, x1, x2] w =
 (bx P 25 x0 w).bind fun r1 =>
 (bx P 45 x2 r1.2).bind fun r2 =>
 (al P 25 r2.2).bind fun r3 =>
 (fa P 25 r1.1 0 (dw r3.2)).bind fun r5 =>
 ifP (r5.2 = (dw r3.2)) <|
 (ld P 23 r5.1 (dw r3.2)).bind fun r6 =>
 ifP (r6.2 = (dw r3.2)) <|
 (vl x1 (dw r3.2)).bind fun r7 =>
 ifP (r7.2 = (dw r3.2)) <|
 (ia P 23 r6.1 r7.1 (dw r3.2)).bind fun r8 =>
 ifP (r8.2 = (dw r3.2)) <|
 (fa P 36 r8.1 0 (dw r3.2)).bind fun r9 =>
 ifP (r9.2 = (dw r3.2)) <|
 (fa P 34 r9.1 0 (dw r3.2)).bind fun r10 =>
 ifP (r10.2 = (dw r3.2)) <|
 (ld P 32 r10.1 (dw r3.2)).bind fun r11 =>
 ifP (r11.2 = (dw r3.2)) <|
 (fa P 45 r2.1 0 (dw r3.2)).bind fun r12 =>
 ifP (r12.2 = (dw r3.2)) <|
 (ld P 3 r12.1 (dw r3.2)).bind fun r13 =>
 ifP (r13.2 = (dw r3.2)) <|
 (ia P 32 r11.1 r13.1 (dw r3.2)).bind fun r14 =>
 ifP (r14.2 = (dw r3.2)) <|
 (fa P 45 r14.1 1 (dw r3.2)).bind fun r15 =>
 ifP (r15.2 = (dw r3.2)) <|
 (ld P 40 r15.1 (dw r3.2)).bind fun r16 =>
 ifP (r16.2 = (dw r3.2)) <|
 (fa P 45 r2.1 1 (dw r3.2)).bind fun r17 =>
 ifP (r17.2 = (dw r3.2)) <|
 (ld P 40 r17.1 (dw r3.2)).bind fun r18 =>
 ifP (r18.2 = (dw r3.2)) <|
 (EV P 80 #[r16.1, r18.1] (dw r3.2)).bind fun r19 =>
 ifP (True ∧ True ∧ True ∧ True ∧ True ∧ True ∧ True ∧ True ∧ True ∧ True ∧ True ∧ True ∧ True ∧ True) <|
 (uo P .not r19.1 r19.2).bind fun r20 =>
 ifP (r20.2 = r19.2) <|
 cnd r20.1 (
 (ld P 25 r1.1 r19.2).bind fun r21 =>
 (st P 25 r3.1 r21.1 r21.2).bind fun r22 =>
 ((ld P 25 r3.1 r22.2).bind fun r23 => ifP (r23.2 = r22.2) (some r23.1)).bind fun v24 =>
 some (v24, r22.2)) (
 (fa P 25 r1.1 0 (dw r19.2)).bind fun r26 =>
 ifP (r26.2 = (dw r19.2)) <|
 (ld P 23 r26.1 (dw r19.2)).bind fun r27 =>
 ifP (r27.2 = (dw r19.2)) <|
 (vl x1 (dw r19.2)).bind fun r28 =>
 ifP (r28.2 = (dw r19.2)) <|
 (fa P 25 r1.1 0 (dw r19.2)).bind fun r29 =>
 ifP (r29.2 = (dw r19.2)) <|
 (ld P 23 r29.1 (dw r19.2)).bind fun r30 =>
 ifP (r30.2 = (dw r19.2)) <|
 (vl x1 (dw r19.2)).bind fun r31 =>
 ifP (r31.2 = (dw r19.2)) <|
 (ia P 23 r30.1 r31.1 (dw r19.2)).bind fun r32 =>
 ifP (r32.2 = (dw r19.2)) <|
 (fa P 36 r32.1 0 (dw r19.2)).bind fun r33 =>
 ifP (r33.2 = (dw r19.2)) <|
 (ld P 34 r33.1 (dw r19.2)).bind fun r34 =>
 ifP (r34.2 = (dw r19.2)) <|
 (ld P 45 r2.1 (dw r19.2)).bind fun r35 =>
 ifP (r35.2 = (dw r19.2)) <|
 (EV P 81 #[r34.1, r35.1] (dw r19.2)).bind fun r36 =>
 ifP (True ∧ True ∧ True ∧ True ∧ True ∧ True ∧ ld P 23 r26.1 r36.2 = some (r27.1, r36.2) ∧ fa P 25 r1.1 0 r36.2 = some (r26.1, r36.2) ∧ True) <|
 (ia P 23 r27.1 r28.1 r36.2).bind fun r37 =>
 ifP (r37.2 = r36.2) <|
 (fa P 36 r37.1 0 r36.2).bind fun r38 =>
 ifP (r38.2 = r36.2) <|
 (st P 34 r38.1 r36.1 r36.2).bind fun r39 =>
 ifP (True ∧ True ∧ True ∧ True ∧ True ∧ True ∧ True ∧ True ∧ True ∧ True ∧ True) <|
 (vl x1 r39.2).bind fun r40 =>
 (fa P 25 r1.1 0 r40.2).bind fun r41 =>
 (ld P 23 r41.1 r41.2).bind fun r42 =>
 (Yp P #[23] 3 #[r42.1] r42.2).bind fun r43 =>
 (bo P .sub 3 (.tmp 40) (.const (.int .i64 1)) r43.1 (.int .i64 1) r43.2).bind fun r44 =>
 (bo P .lss 3 (.tmp 37) (.tmp 41) r40.1 r44.1 r44.2).bind fun r45 =>
 cnd r45.1 (
 (fa P 25 r1.1 0 (dw r45.2)).bind fun r47 =>
 ifP (r47.2 = (dw r45.2)) <|
 (ld P 23 r47.1 (dw r45.2)).bind fun r48 =>
 ifP (r48.2 = (dw r45.2)) <|
 (vl x1 (dw r45.2)).bind fun r49 =>
 ifP (r49.2 = (dw r45.2)) <|
 (fa P 25 r1.1 0 (dw r45.2)).bind fun r50 =>
 ifP (r50.2 = (dw r45.2)) <|
 (ld P 23 r50.1 (dw r45.2)).bind fun r51 =>
 ifP (r51.2 = (dw r45.2)) <|
 (vl x1 (dw r45.2)).bind fun r52 =>
 ifP (r52.2 = (dw r45.2)) <|
 (ia P 23 r51.1 r52.1 (dw r45.2)).bind fun r53 =>
 ifP (r53.2 = (dw r45.2)) <|
 (fa P 36 r53.1 1 (dw r45.2)).bind fun r54 =>
 ifP (r54.2 = (dw r45.2)) <|
 (ld P 32 r54.1 (dw r45.2)).bind fun r55 =>
 ifP (r55.2 = (dw r45.2)) <|
 (ld P 45 r2.1 (dw r45.2)).bind fun r56 =>
 ifP (r56.2 = (dw r45.2)) <|
 (EV P 54 #[r56.1] (dw r45.2)).bind fun r57 =>
 ifP (True ∧ ld P 32 r54.1 r57.2 = some (r55.1, r57.2) ∧ fa P 36 r53.1 1 r57.2 = some (r54.1, r57.2) ∧ ia P 23 r51.1 r52.1 r57.2 = some (r53.1, r57.2) ∧ ld P 23 r50.1 r57.2 = some (r51.1, r57.2) ∧ fa P 25 r1.1 0 r57.2 = some (r50.1, r57.2) ∧ ld P 23 r47.1 r57.2 = some (r48.1, r57.2) ∧ fa P 25 r1.1 0 r57.2 = some (r47.1, r57.2) ∧ True) <|
 (bs P 32 1 #[(0, r57.1)] r57.2).bind fun r58 =>
 ifP (True ∧ ld P 32 r54.1 r58.2 = some (r55.1, r58.2) ∧ fa P 36 r53.1 1 r58.2 = some (r54.1, r58.2) ∧ ia P 23 r51.1 r52.1 r58.2 = some (r53.1, r58.2) ∧ ld P 23 r50.1 r58.2 = some (r51.1, r58.2) ∧ fa P 25 r1.1 0 r58.2 = some (r50.1, r58.2) ∧ ld P 23 r47.1 r58.2 = some (r48.1, r58.2) ∧ fa P 25 r1.1 0 r58.2 = some (r47.1, r58.2) ∧ True) <|
 (b_append P #[32, 32] 32 #[r55.1, r58.1] r58.2).bind fun r59 =>
 ifP (True ∧ True ∧ True ∧ True ∧ True ∧ True ∧ ld P 23 r47.1 r59.2 = some (r48.1, r59.2) ∧ fa P 25 r1.1 0 r59.2 = some (r47.1, r59.2) ∧ True) <|
 (ia P 23 r48.1 r49.1 r59.2).bind fun r60 =>
 ifP (r60.2 = r59.2) <|
 (fa P 36 r60.1 1 r59.2).bind fun r61 =>
 ifP (r61.2 = r59.2) <|
 (st P 32 r61.1 r59.1 r59.2).bind fun r62 =>
 ifP (True ∧ True ∧ True ∧ True ∧ True ∧ True ∧ True ∧ True ∧ True ∧ True ∧ True) <|
 spec_l3Add_j1 (ups (env0 #[x0, x1, x2]) [(3, r1.1), (5, r2.1), (6, r3.1), (7, r5.1), (8, r6.1), (9, r7.1), (10, r8.1), (11, r9.1), (12, r10.1), (13, r11.1), (14, r12.1), (15, r13.1), (16, r14.1), (17, r15.1), (18, r16.1), (19, r17.1), (20, r18.1), (21, r19.1), (22, r20.1), (24, r26.1), (25, r27.1), (26, r28.1), (27, r29.1), (28, r30.1), (29, r31.1), (30, r32.1), (31, r33.1), (32, r34.1), (33, r35.1), (34, r36.1), (35, r37.1), (36, r38.1), (37, r40.1), (38, r41.1), (39, r42.1), (40, r43.1), (41, r44.1), (42, r45.1), (43, r47.1), (44, r48.1), (45, r49.1), (46, r50.1), (47, r51.1), (48, r52.1), (49, r53.1), (50, r54.1), (51, r55.1), (52, r56.1), (53, r57.1), (54, r58.1), (55, r59.1), (56, r60.1), (57, r61.1)]) r62.2) (
 spec_l3Add_j1 (ups (env0 #[x0, x1, x2]) [(3, r1.1), (5, r2.1), (6, r3.1), (7, r5.1), (8, r6.1), (9, r7.1), (10, r8.1), (11, r9.1), (12, r10.1), (13, r11.1), (14, r12.1), (15, r13.1), (16, r14.1), (17, r15.1), (18, r16.1), (19, r17.1), (20, r18.1), (21, r19.1), (22, r20.1), (24, r26.1), (25, r27.1), (26, r28.1), (27, r29.1), (28, r30.1), (29, r31.1), (30, r32.1), (31, r33.1), (32, r34.1), (33, r35.1), (34, r36.1), (35, r37.1), (36, r38.1), (37, r40.1), (38, r41.1), (39, r42.1), (40, r43.1), (41, r44.1), (42, r45.1)]) r45.2)) := by kernel_rfl
theorem impl_Ver_same_fn (x0 x1 : Value) (w : World) : fnC P (EV P) 56 #[x0, x1] w =
 (bx P 45 x0 w).bind fun r1 =>
 (bx P 45 x1 r1.2).bind fun r2 =>
 (vl (.bool false) r2.2).bind fun r3 =>
 (fa P 45 r1.1 0 r3.2).bind fun r4 =>
 (ld P 3 r4.1 r4.2).bind fun r5 =>
 (fa P 45 r2.1 0 r5.2).bind fun r6 =>
 (ld P 3 r6.1 r6.2).bind fun r7 =>
 (bo P .eql 3 (.tmp 6) (.tmp 8) r5.1 r7.1 r7.2).bind fun r8 =>
 (vl r8.1 r8.2).bind fun r9 =>
 (gif r9.1 true (fa P 45 r1.1 1 r9.2) r9.2).bind fun r10 =>
 (gif r9.1 true (ld P 40 r10.1 r10.2) r10.2).bind fun r11 =>
 (gif r9.1 true (fa P 45 r2.1 1 r11.2) r11.2).bind fun r12 =>
 (gif r9.1 true (ld P 40 r12.1 r12.2) r12.2).bind fun r13 =>
 (gif r9.1 true (bo P .eql 40 (.tmp 12) (.tmp 14) r11.1 r13.1 r13.2) r13.2).bind fun r14 =>
 (pickV r9.1 r14.1 (.bool false) r14.2).bind fun r15 =>
 (vl r15.1 r15.2).bind fun r16 =>
 (gif r16.1 true (fa P 45 r1.1 2 r16.2) r16.2).bind fun r17 =>
 (gif r16.1 true (fa P 43 r17.1 0 r17.2) r17.2).bind fun r18 =>
 (gif r16.1 true (ld P 41 r18.1 r18.2) r18.2).bind fun r19 =>
 (gif r16.1 true (fa P 45 r2.1 2 r19.2) r19.2).bind fun r20 =>
 (gif r16.1 true (fa P 43 r20.1 0 r20.2) r20.2).bind fun r21 =>
 (gif r16.1 true (ld P 41 r21.1 r21.2) r21.2).bind fun r22 =>
 (gif r16.1 true (EV P 83 #[r19.1, r22.1] r22.2) r22.2).bind fun r23 =>
 (pickV r16.1 r23.1 (.bool false) r23.2).bind fun r24 =>
 (vl r24.1 r24.2).bind fun r25 =>
 (gif r25.1 true (fa P 45 r1.1 3 r25.2) r25.2).bind fun r26 =>
 (gif r25.1 true (ld P 9 r26.1 r26.2) r26.2).bind fun r27 =>
 (gif r25.1 true (fa P 45 r2.1 3 r27.2) r27.2).bind fun r28 =>
 (gif r25.1 true (ld P 9 r28.1 r28.2) r28.2).bind fun r29 =>
 (gif r25.1 true (bo P .eql 9 (.tmp 28) (.tmp 30) r27.1 r29.1 r29.2) r29.2).bind fun r30 =>
 (pickV r25.1 r30.1 (.bool false) r30.2).bind fun r31 =>
 (vl r31.1 r31.2).bind fun r32 =>
 (gif r32.1 true (fa P 45 r1.1 4 r32.2) r32.2).bind fun r33 =>
 (gif r32.1 true (ld P 4 r33.1 r33.2) r33.2).bind fun r34 =>
 (gif r32.1 true (fa P 45 r2.1 4 r34.2) r34.2).bind fun r35 =>
 (gif r32.1 true (ld P 4 r35.1 r35.2) r35.2).bind fun r36 =>
 (gif r32.1 true (bo P .eql 4 (.tmp 35) (.tmp 37) r34.1 r36.1 r36.2) r36.2).bind fun r37 =>
 (pickV r32.1 r37.1 (.bool false) r37.2).bind fun r38 =>
 (vl r38.1 r38.2).bind fun r39 =>
 some (r39.1, r39.2) := by kernel_rfl
noncomputable def slices_IndexFunc_Ver_l1 (e : Env) (w : World) : Option (Value × World) := exC P (EV P) 57 19 (.loop (cA (cA (cB (cA (cB (Yi P 57))))))) e w (Yj 0 (kSeq P (EV P) 57 19 (cB (cB (Yi P 57))) (kFn P (fnOf P 57))))
theorem slices_IndexFunc_Ver_l1_eq (e : Env) (w : World) : slices_IndexFunc_Ver_l1 e w =
 (bo P .lss 3 (.tmp 8) (.tmp 7) (e 8) (e 7) w).bind fun r1 =>
 cnd r1.1 (
 (vl (e 8) r1.2).bind fun r2 =>
 (vl r2.1 r2.2).bind fun r3 =>
 (vl (e 1) r3.2).bind fun r4 =>
 (vl (e 0) r4.2).bind fun r5 =>
 (vl r3.1 r5.2).bind fun r6 =>
 (ia P 32 r5.1 r6.1 r6.2).bind fun r7 =>
 (ld P 45 r7.1 r7.2).bind fun r8 =>
 (clo P r4.1 #[r8.1] r8.2).bind fun r9 =>
 cnd r9.1 (
 (vl r3.1 r9.2).bind fun r10 =>
 (vl r10.1 r10.2).bind fun r11 =>
 some (r11.1, r11.2)) (
 (bo P .add 3 (.tmp 8) (.const (.int .i64 1)) (e 8) (.int .i64 1) r9.2).bind fun r12 =>
 (vl r12.1 r12.2).bind fun r13 =>
 slices_IndexFunc_Ver_l1 (ups e [(9, r1.1), (10, r2.1), (5, r3.1), (11, r4.1), (12, r5.1), (13, r6.1), (14, r7.1), (15, r8.1), (16, r9.1), (18, r12.1), (8, r13.1)]) r13.2)) (
 (vl (.int .i64 (-1)) r1.2).bind fun r14 =>
 some (r14.1, r14.2)) := (exC_loop P (EV P) 57 19 (cA (cA (cB (cA (cB (Yi P 57)))))) e w (Yj 0 (kSeq P (EV P) 57 19 (cB (cB (Yi P 57))) (kFn P (fnOf P 57))))).trans (by kernel_rfl)
theorem slices_IndexFunc_Ver_fn (x0 x1 : Value) (w : World) : fnC P (EV P) 57 #[x0, x1] w =
 (vl (.int .i64 0) w).bind fun r1 =>
 (vl x0 r1.2).bind fun r2 =>
 (Yp P #[32] 3 #[r2.1] r2.2).bind fun r3 =>
 (vl (.int .i64 0) r3.2).bind fun r4 =>
 slices_IndexFunc_Ver_l1 (ups (env0 #[x0, x1]) [(4, r1.1), (6, r2.1), (7, r3.1), (8, r4.1)]) r4.2 := by kernel_rfl
theorem impl_Ver_written_fn (x0 : Value) (w : World) : fnC P (EV P) 58 #[x0] w =
 (bx P 45 x0 w).bind fun r1 =>
 (vl (.bool false) r1.2).bind fun r2 =>
 (fa P 45 r1.1 0 r2.2).bind fun r3 =>
 (ld P 3 r3.1 r3.2).bind fun r4 =>
 (EV P 84 #[r4.1] r4.2).bind fun r5 =>
 (vl r5.1 r5.2).bind fun r6 =>
 (gif r6.1 true (fa P 45 r1.1 3 r6.2) r6.2).bind fun r7 =>
 (gif r6.1 true (ld P 9 r7.1 r7.2) r7.2).bind fun r8 =>
 (gif r6.1 true (EV P 85 #[r8.1] r8.2) r8.2).bind fun r9 =>
 (pickV r6.1 r9.1 (.bool false) r9.2).bind fun r10 =>
 (vl r10.1 r10.2).bind fun r11 =>
 (gif r11.1 true (fa P 45 r1.1 4 r11.2) r11.2).bind fun r12 =>
 (gif r11.1 true (ld P 4 r12.1 r12.2) r12.2).bind fun r13 =>
 (gif r11.1 true (uo P .not r13.1 r13.2) r13.2).bind fun r14 =>
 (gif r11.1 true (vl r14.1 r14.2) r14.2).bind fun r15 =>
 (gif r15.1 false (fa P 45 r1.1 3 r15.2) r15.2).bind fun r16 =>
 (gif r15.1 false (ld P 9 r16.1 r16.2) r16.2).bind fun r17 =>
 (gif r15.1 false (bo P .eql 9 (.tmp 17) (.const (Go.Value.string { data := #[] })) r17.1 (Go.Value.string { data := #[] }) r17.2) r17.2).bind fun r18 =>
 (gif r11.1 true (pickV r15.1 (.bool true) r18.1 r18.2) r18.2).bind fun r19 =>
 (pickV r11.1 r19.1 (.bool false) r19.2).bind fun r20 =>
 (vl r20.1 r20.2).bind fun r21 =>
 (gif r21.1 true (fa P 45 r1.1 2 r21.2) r21.2).bind fun r22 =>
 (gif r21.1 true (ld P 43 r22.1 r22.2) r22.2).bind fun r23 =>
 (gif r21.1 true (EV P 35 #[r23.1] r23.2) r23.2).bind fun r24 =>
 (pickV r21.1 r24.1 (.bool false) r24.2).bind fun r25 =>
 (vl r25.1 r25.2).bind fun r26 =>
 some (r26.1, r26.2) := by kernel_rfl
theorem impl_TagOk_fn (x0 : Value) (w : World) : fnC P (EV P) 59 #[x0] w =
 (bx P 40 x0 w).bind fun r1 =>
 (vl (.bool false) r1.2).bind fun r2 =>
 (ld P 40 r1.1 r2.2).bind fun r3 =>
 (bd P 40 #[] r3.2).bind fun r4 =>
 (bo P .eql 40 (.tmp 3) (.tmp 4) r3.1 r4.1 r4.2).bind fun r5 =>
 (vl r5.1 r5.2).bind fun r6 =>
 (gif r6.1 false (fa P 40 r1.1 0 r6.2) r6.2).bind fun r7 =>
 (gif r6.1 false (ld P 3 r7.1 r7.2) r7.2).bind fun r8 =>
 (gif r6.1 false (EV P 44 #[r8.1, (.int .i64 1), (.int .i64 999)] r8.2) r8.2).bind fun r9 =>
 (gif r6.1 false (vl r9.1 r9.2) r9.2).bind fun r10 =>
 (gif r10.1 true (fa P 40 r1.1 1 r10.2) r10.2).bind fun r11 =>
 (gif r10.1 true (ld P 3 r11.1 r11.2) r11.2).bind fun r12 =>
 (gif r10.1 true (EV P 86 #[r12.1] r12.2) r12.2).bind fun r13 =>
 (gif r6.1 false (pickV r10.1 r13.1 (.bool false) r13.2) r13.2).bind fun r14 =>
 (pickV r6.1 (.bool true) r14.1 r14.2).bind fun r15 =>
 (vl r15.1 r15.2).bind fun r16 =>
 some (r16.1, r16.2) := by kernel_rfl
noncomputable def impl_Past_latest_l1 (e : Env) (w : World) : Option (Value × World) := exC P (EV P) 60 19 (.loop (cA (cA (cB (cA (cB (cB (Yi P 60)))))))) e w (Yj 0 (kSeq P (EV P) 60 19 (cB (cB (cB (Yi P 60)))) (kFn P (fnOf P 60))))
theorem impl_Past_latest_l1_eq (e : Env) (w : World) : impl_Past_latest_l1 e w =
 (bo P .lss 3 (.tmp 9) (.tmp 8) (e 9) (e 8) w).bind fun r1 =>
 cnd r1.1 (
 (ia P 41 (e 7) (e 9) r1.2).bind fun r2 =>
 (ld P 40 r2.1 r2.2).bind fun r3 =>
 (al P 40 r3.2).bind fun r4 =>
 (st P 40 r4.1 r3.1 r4.2).bind fun r5 =>
 (vl (e 3) r5.2).bind fun r6 =>
 (fa P 40 r4.1 0 r6.2).bind fun r7 =>
 (ld P 3 r7.1 r7.2).bind fun r8 =>
 (b_max P #[3, 3] 3 #[r6.1, r8.1] r8.2).bind fun r9 =>
 (vl r9.1 r9.2).bind fun r10 =>
 (bo P .add 3 (.tmp 9) (.const (.int .i64 1)) (e 9) (.int .i64 1) r10.2).bind fun r11 =>
 (vl r11.1 r11.2).bind fun r12 =>
 impl_Past_latest_l1 (ups e [(10, r1.1), (11, r2.1), (12, r3.1), (5, r4.1), (13, r6.1), (14, r7.1), (15, r8.1), (16, r9.1), (3, r10.1), (17, r11.1), (9, r12.1)]) r12.2) (
 (vl (e 3) r1.2).bind fun r13 =>
 (vl r13.1 r13.2).bind fun r14 =>
 some (r14.1, r14.2)) := (exC_loop P (EV P) 60 19 (cA (cA (cB (cA (cB (cB (Yi P 60))))))) e w (Yj 0 (kSeq P (EV P) 60 19 (cB (cB (cB (Yi P 60)))) (kFn P (fnOf P 60))))).trans (by kernel_rfl)
theorem impl_Past_latest_fn (x0 : Value) (w : World) : fnC P (EV P) 60 #[x0] w =
 (bx P 43 x0 w).bind fun r1 =>
 (vl (.int .i64 0) r1.2).bind fun r2 =>
 (vl (.int .i64 0) r2.2).bind fun r3 =>
 (fa P 43 r1.1 0 r3.2).bind fun r4 =>
 (ld P 41 r4.1 r4.2).bind fun r5 =>
 (Yp P #[41] 3 #[r5.1] r5.2).bind fun r6 =>
 (vl (.int .i64 0) r6.2).bind fun r7 =>
 impl_Past_latest_l1 (ups (env0 #[x0]) [(1, r1.1), (2, r2.1), (3, r3.1), (6, r4.1), (7, r5.1), (8, r6.1), (9, r7.1)]) r7.2 := by kernel_rfl
theorem impl_Store_same_fn (x0 x1 : Value) (w : World) : fnC P (EV P) 61 #[x0, x1] w =
 (bx P 34 x0 w).bind fun r1 =>
 (bx P 34 x1 r1.2).bind fun r2 =>
 (vl (.bool false) r2.2).bind fun r3 =>
 (fa P 34 r1.1 0 r3.2).bind fun r4 =>
 (ld P 32 r4.1 r4.2).bind fun r5 =>
 (fa P 34 r2.1 0 r5.2).bind fun r6 =>
 (ld P 32 r6.1 r6.2).bind fun r7 =>
 (EV P 87 #[r5.1, r7.1, (.func (.func 56) #[] #[])] r7.2).bind fun r8 =>
 (vl r8.1 r8.2).bind fun r9 =>
 some (r9.1, r9.2) := by kernel_rfl
noncomputable def laws_cfPast_l1 (e : Env) (w : World) : Option (Value × World) := exC P (EV P) 62 31 (.loop (cA (cA (cB (cA (cB (cB (Yi P 62)))))))) e w (Yj 0 (kSeq P (EV P) 62 31 (cB (cB (cB (Yi P 62)))) (kFn P (fnOf P 62))))
theorem laws_cfPast_l1_eq (e : Env) (w : World) : laws_cfPast_l1 e w =
 (vl (e 5) w).bind fun r1 =>
 (fa P 43 (e 2) 0 r1.2).bind fun r2 =>
 (ld P 41 r2.1 r2.2).bind fun r3 =>
 (Yp P #[41] 3 #[r3.1] r3.2).bind fun r4 =>
 (bo P .lss 3 (.tmp 13) (.tmp 16) r1.1 r4.1 r4.2).bind fun r5 =>
 cnd r5.1 (
 (fa P 43 (e 2) 0 (dw r5.2)).bind fun r7 =>
 ifP (r7.2 = (dw r5.2)) <|
 (ld P 41 r7.1 (dw r5.2)).bind fun r8 =>
 ifP (r8.2 = (dw r5.2)) <|
 (vl (e 5) (dw r5.2)).bind fun r9 =>
 ifP (r9.2 = (dw r5.2)) <|
 (ia P 41 r8.1 r9.1 (dw r5.2)).bind fun r10 =>
 ifP (r10.2 = (dw r5.2)) <|
 (ld P 40 r10.1 (dw r5.2)).bind fun r11 =>
 ifP (r11.2 = (dw r5.2)) <|
 (fa P 43 (e 3) 0 (dw r5.2)).bind fun r12 =>
 ifP (r12.2 = (dw r5.2)) <|
 (ld P 41 r12.1 (dw r5.2)).bind fun r13 =>
 ifP (r13.2 = (dw r5.2)) <|
 (vl (e 5) (dw r5.2)).bind fun r14 =>
 ifP (r14.2 = (dw r5.2)) <|
 (ia P 41 r13.1 r14.1 (dw r5.2)).bind fun r15 =>
 ifP (r15.2 = (dw r5.2)) <|
 (ld P 40 r15.1 (dw r5.2)).bind fun r16 =>
 ifP (r16.2 = (dw r5.2)) <|
 (bo P .neq 40 (.tmp 24) (.tmp 29) r11.1 r16.1 (dw r5.2)).bind fun r17 =>
 ifP (r17.2 = (dw r5.2)) <|
 cnd r17.1 (
 (vl (.bool false) (dw r5.2)).bind fun r18 =>
 some (r18.1, r18.2)) (
 (vl (e 5) (dw r5.2)).bind fun r19 =>
 (bo P .add 3 (.tmp 18) (.const (.int .i64 1)) r19.1 (.int .i64 1) r19.2).bind fun r20 =>
 (vl r20.1 r20.2).bind fun r21 =>
 laws_cfPast_l1 (ups e [(13, r1.1), (14, r2.1), (15, r3.1), (16, r4.1), (17, r5.1), (20, r7.1), (21, r8.1), (22, r9.1), (23, r10.1), (24, r11.1), (25, r12.1), (26, r13.1), (27, r14.1), (28, r15.1), (29, r16.1), (30, r17.1), (18, r19.1), (19, r20.1), (5, r21.1)]) r21.2)) (
 (vl (.bool true) r5.2).bind fun r22 =>
 some (r22.1, r22.2)) := (exC_loop P (EV P) 62 31 (cA (cA (cB (cA (cB (cB (Yi P 62))))))) e w (Yj 0 (kSeq P (EV P) 62 31 (cB (cB (cB (Yi P 62)))) (kFn P (fnOf P 62))))).trans (by kernel_rfl)
theorem laws_cfPast_fn (x0 x1 : Value) (w : World) : fnC P (EV P) 62 #[x0, x1] w =
 (bx P 43 x0 w).bind fun r1 =>
 (bx P 43 x1 r1.2).bind fun r2 =>
 (vl (.bool false) r2.2).bind fun r3 =>
 (fa P 43 r1.1 0 r3.2).bind fun r4 =>
 (ld P 41 r4.1 r4.2).bind fun r5 =>
 (Yp P #[41] 3 #[r5.1] r5.2).bind fun r6 =>
 (fa P 43 r2.1 0 r6.2).bind fun r7 =>
 (ld P 41 r7.1 r7.2).bind fun r8 =>
 (Yp P #[41] 3 #[r8.1] r8.2).bind fun r9 =>
 (bo P .neq 3 (.tmp 8) (.tmp 11) r6.1 r9.1 r9.2).bind fun r10 =>
 cnd r10.1 (
 (vl (.bool false) r10.2).bind fun r11 =>
 some (r11.1, r11.2)) (
 (vl (.int .i64 0) r10.2).bind fun r12 =>
 laws_cfPast_l1 (ups (env0 #[x0, x1]) [(2, r1.1), (3, r2.1), (4, r3.1), (6, r4.1), (7, r5.1), (8, r6.1), (9, r7.1), (10, r8.1), (11, r9.1), (12, r10.1), (5, r12.1)]) r12.2) := by kernel_rfl
noncomputable def impl_versCopied_l1 (e : Env) (w : World) : Option (Value × World) := exC P (EV P) 63 22 (.loop (cA (cA (cB (cA (cB (cB (Yi P 63)))))))) e w (Yj 0 (kSeq P (EV P) 63 22 (cB (cB (cB (Yi P 63)))) (kFn P (fnOf P 63))))
theorem impl_versCopied_l1_eq (e : Env) (w : World) : impl_versCopied_l1 e w =
 (bo P .lss 3 (.tmp 11) (.tmp 10) (e 11) (e 10) w).bind fun r1 =>
 cnd r1.1 (
 (ia P 32 (e 9) (e 11) r1.2).bind fun r2 =>
 (ld P 45 r2.1 r2.2).bind fun r3 =>
 (al P 45 r3.2).bind fun r4 =>
 (st P 45 r4.1 r3.1 r4.2).bind fun r5 =>
 (vl (e 3) r5.2).bind fun r6 =>
 (ld P 45 r4.1 r6.2).bind fun r7 =>
 (EV P 34 #[r7.1] r7.2).bind fun r8 =>
 (bs P 32 1 #[(0, r8.1)] r8.2).bind fun r9 =>
 (b_append P #[32, 32] 32 #[r6.1, r9.1] r9.2).bind fun r10 =>
 (vl r10.1 r10.2).bind fun r11 =>
 (bo P .add 3 (.tmp 11) (.const (.int .i64 1)) (e 11) (.int .i64 1) r11.2).bind fun r12 =>
 (vl r12.1 r12.2).bind fun r13 =>
 impl_versCopied_l1 (ups e [(12, r1.1), (13, r2.1), (14, r3.1), (5, r4.1), (15, r6.1), (16, r7.1), (17, r8.1), (18, r9.1), (19, r10.1), (3, r11.1), (20, r12.1), (11, r13.1)]) r13.2) (
 (vl (e 3) r1.2).bind fun r14 =>
 (vl r14.1 r14.2).bind fun r15 =>
 some (r15.1, r15.2)) := (exC_loop P (EV P) 63 22 (cA (cA (cB (cA (cB (cB (Yi P 63))))))) e w (Yj 0 (kSeq P (EV P) 63 22 (cB (cB (cB (Yi P 63)))) (kFn P (fnOf P 63))))).trans (by kernel_rfl)
theorem impl_versCopied_fn (x0 : Value) (w : World) : fnC P (EV P) 63 #[x0] w =
 (vl (Go.Value.slice none 0 0) w).bind fun r1 =>
 (vl x0 r1.2).bind fun r2 =>
 (Yp P #[32] 3 #[r2.1] r2.2).bind fun r3 =>
 (ms P 32 (.int .i64 0) r3.1 r3.2).bind fun r4 =>
 (vl r4.1 r4.2).bind fun r5 =>
 (vl x0 r5.2).bind fun r6 =>
 (Yp P #[32] 3 #[r6.1] r6.2).bind fun r7 =>
 (vl (.int .i64 0) r7.2).bind fun r8 =>
 impl_versCopied_l1 (ups (env0 #[x0]) [(2, r1.1), (6, r2.1), (7, r3.1), (8, r4.1), (3, r5.1), (9, r6.1), (10, r7.1), (11, r8.1)]) r8.2 := by kernel_rfl
theorem impl_TagLess_fn (x0 x1 : Value) (w : World) : fnC P (EV P) 64 #[x0, x1] w =
 (bx P 40 x0 w).bind fun r1 =>
 (bx P 40 x1 r1.2).bind fun r2 =>
 (vl (.bool false) r2.2).bind fun r3 =>
 (ld P 40 r1.1 r3.2).bind fun r4 =>
 (ld P 40 r2.1 r4.2).bind fun r5 =>
 (EV P 88 #[r4.1, r5.1] r5.2).bind fun r6 =>
 (bo P .lss 3 (.tmp 7) (.const (.int .i64 0)) r6.1 (.int .i64 0) r6.2).bind fun r7 =>
 (vl r7.1 r7.2).bind fun r8 =>
 some (r8.1, r8.2) := by kernel_rfl
theorem impl_Past_copied_fn (x0 : Value) (w : World) : fnC P (EV P) 65 #[x0] w =
 (bx P 43 x0 w).bind fun r1 =>
 (al P 43 r1.2).bind fun r2 =>
 (fa P 43 r1.1 0 r2.2).bind fun r3 =>
 (ld P 41 r3.1 r3.2).bind fun r4 =>
 (EV P 90 #[r4.1] r4.2).bind fun r5 =>
 (EV P 89 #[r5.1] r5.2).bind fun r6 =>
 (bd P 43 #[(0, r6.1)] r6.2).bind fun r7 =>
 (st P 43 r2.1 r7.1 r7.2).bind fun r8 =>
 ((ld P 43 r2.1 r8.2).bind fun r9 => ifP (r9.2 = r8.2) (some r9.1)).bind fun v10 =>
 some (v10, r8.2) := by kernel_rfl
theorem slices_ContainsFunc_Tag_fn (x0 x1 : Value) (w : World) : fnC P (EV P) 66 #[x0, x1] w =
 (vl (.bool false) w).bind fun r1 =>
 (vl x0 r1.2).bind fun r2 =>
 (vl x1 r2.2).bind fun r3 =>
 (EV P 91 #[r2.1, r3.1] r3.2).bind fun r4 =>
 (bo P .geq 3 (.tmp 7) (.const (.int .i64 0)) r4.1 (.int .i64 0) r4.2).bind fun r5 =>
 (vl r5.1 r5.2).bind fun r6 =>
 some (r6.1, r6.2) := by kernel_rfl
theorem impl_PastOk_1_fn (x0 : Value) (w : World) : fnC P (EV P) 67 #[x0] w =
 (bx P 40 x0 w).bind fun r1 =>
 (vl (.bool false) r1.2).bind fun r2 =>
 (ld P 40 r1.1 r2.2).bind fun r3 =>
 (EV P 59 #[r3.1] r3.2).bind fun r4 =>
 (uo P .not r4.1 r4.2).bind fun r5 =>
 (vl r5.1 r5.2).bind fun r6 =>
 some (r6.1, r6.2) := by kernel_rfl
theorem impl_PastNone_fn (w : World) : fnC P (EV P) 68 #[] w =
 (al P 43 w).bind fun r1 =>
 (ms P 41 (.int .i64 4) (.int .i64 4) r1.2).bind fun r2 =>
 (bd P 43 #[(0, r2.1)] r2.2).bind fun r3 =>
 (st P 43 r1.1 r3.1 r3.2).bind fun r4 =>
 ((ld P 43 r1.1 r4.2).bind fun r5 => ifP (r5.2 = r4.2) (some r5.1)).bind fun v6 =>
 some (v6, r4.2) := by kernel_rfl
noncomputable def spec_ChainNew_l1 (e : Env) (w : World) : Option (Value × World) := exC P (EV P) 69 23 (.loop (cA (cA (cB (cA (cB (cB (cB (Yi P 69))))))))) e w (Yj 0 (kSeq P (EV P) 69 23 (cB (cB (cB (cB (Yi P 69))))) (kFn P (fnOf P 69))))
theorem spec_ChainNew_l1_eq (e : Env) (w : World) : spec_ChainNew_l1 e w =
 (vl (e 4) w).bind fun r1 =>
 (vl (e 0) r1.2).bind fun r2 =>
 (bo P .lss 3 (.tmp 10) (.tmp 11) r1.1 r2.1 r2.2).bind fun r3 =>
 cnd r3.1 (
 (fa P 25 (e 3) 0 (dw r3.2)).bind fun r5 =>
 ifP (r5.2 = (dw r3.2)) <|
 (ld P 23 r5.1 (dw r3.2)).bind fun r6 =>
 ifP (r6.2 = (dw r3.2)) <|
 (EV P 92 #[] (dw r3.2)).bind fun r7 =>
 ifP (ld P 23 r5.1 r7.2 = some (r6.1, r7.2) ∧ fa P 25 (e 3) 0 r7.2 = some (r5.1, r7.2) ∧ True) <|
 (bd P 36 #[(0, r7.1)] r7.2).bind fun r8 =>
 ifP (r8.2 = r7.2) <|
 (bs P 23 1 #[(0, r8.1)] r7.2).bind fun r9 =>
 ifP (True ∧ ld P 23 r5.1 r9.2 = some (r6.1, r9.2) ∧ fa P 25 (e 3) 0 r9.2 = some (r5.1, r9.2) ∧ True) <|
 (b_append P #[23, 23] 23 #[r6.1, r9.1] r9.2).bind fun r10 =>
 ifP (True ∧ True ∧ True ∧ True) <|
 (fa P 25 (e 3) 0 r10.2).bind fun r11 =>
 ifP (r11.2 = r10.2) <|
 (st P 23 r11.1 r10.1 r10.2).bind fun r12 =>
 ifP (True ∧ True ∧ True ∧ True ∧ True) <|
 (vl (e 4) r12.2).bind fun r13 =>
 (bo P .add 3 (.tmp 13) (.const (.int .i64 1)) r13.1 (.int .i64 1) r13.2).bind fun r14 =>
 (vl r14.1 r14.2).bind fun r15 =>
 spec_ChainNew_l1 (ups e [(10, r1.1), (11, r2.1), (12, r3.1), (15, r5.1), (16, r6.1), (17, r7.1), (18, r8.1), (19, r9.1), (20, r10.1), (21, r11.1), (13, r13.1), (14, r14.1), (4, r15.1)]) r15.2) (
 (ld P 25 (e 3) r3.2).bind fun r16 =>
 (st P 25 (e 2) r16.1 r16.2).bind fun r17 =>
 ((ld P 25 (e 2) r17.2).bind fun r18 => ifP (r18.2 = r17.2) (some r18.1)).bind fun v19 =>
 some (v19, r17.2)) := (exC_loop P (EV P) 69 23 (cA (cA (cB (cA (cB (cB (cB (Yi P 69)))))))) e w (Yj 0 (kSeq P (EV P) 69 23 (cB (cB (cB (cB (Yi P 69))))) (kFn P (fnOf P 69))))).trans (by kernel_rfl)
theorem spec_ChainNew_fn (x0 : Value) (w : World) : fnC P (EV P) 69 #[x0] w =
 (al P 25 w).bind fun r1 =>
 (bd P 25 #[] r1.2).bind fun r2 =>
 (al P 25 r2.2).bind fun r3 =>
 (st P 25 r3.1 r2.1 r3.2).bind fun r4 =>
 (vl x0 r4.2).bind fun r5 =>
 (EV P 52 #[r5.1, (.int .i64 1), (.int .i64 4)] r5.2).bind fun r6 =>
 (uo P .not r6.1 r6.2).bind fun r7 =>
 cnd r7.1 (
 (ld P 25 r3.1 r7.2).bind fun r8 =>
 (st P 25 r1.1 r8.1 r8.2).bind fun r9 =>
 ((ld P 25 r1.1 r9.2).bind fun r10 => ifP (r10.2 = r9.2) (some r10.1)).bind fun v11 =>
 some (v11, r9.2)) (
 (vl (.int .i64 0) r7.2).bind fun r12 =>
 spec_ChainNew_l1 (ups (env0 #[x0]) [(2, r1.1), (5, r2.1), (3, r3.1), (6, r5.1), (7, r6.1), (8, r7.1), (4, r12.1)]) r12.2) := by kernel_rfl
theorem spec_l3Room_fn (x0 : Value) (w : World) : fnC P (EV P) 70 #[x0] w =
 (bx P 25 x0 w).bind fun r1 =>
 (vl (.bool false) r1.2).bind fun r2 =>
 (fa P 25 r1.1 0 r2.2).bind fun r3 =>
 (ld P 23 r3.1 r3.2).bind fun r4 =>
 (ia P 23 r4.1 (.int .i64 0) r4.2).bind fun r5 =>
 (fa P 36 r5.1 1 r5.2).bind fun r6 =>
 (ld P 32 r6.1 r6.2).bind fun r7 =>
 (Yp P #[32] 3 #[r7.1] r7.2).bind fun r8 =>
 (bo P .lss 3 (.tmp 8) (.const (.int .i64 6)) r8.1 (.int .i64 6) r8.2).bind fun r9 =>
 (vl r9.1 r9.2).bind fun r10 =>
 some (r10.1, r10.2) := by kernel_rfl
noncomputable def spec_l20Ver_l1 (e : Env) (w : World) : Option (Value × World) := exC P (EV P) 71 54 (.loop (cA (cA (cB (cA (cB (cB (cB (Yi P 71))))))))) e w (Yj 0 (kSeq P (EV P) 71 54 (cB (cB (cB (cB (Yi P 71))))) (kFn P (fnOf P 71))))
noncomputable def spec_l20Ver_j1 (e : Env) (w : World) : Option (Value × World) := exC P (EV P) 71 54 (cB (cB (cA (cA (cB (cA (cB (cB (cB (Yi P 71)))))))))) e w (kLoop P (EV P) 71 54 (cA (cA (cB (cA (cB (cB (cB (Yi P 71)))))))) (Yj 0 (kSeq P (EV P) 71 54 (cB (cB (cB (cB (Yi P 71))))) (kFn P (fnOf P 71)))))
noncomputable def spec_l20Ver_j2 (e : Env) (w : World) : Option (Value × World) := exC P (EV P) 71 54 (cB (cB (cB (cB (cB (cB (Yi P 71))))))) e w (kFn P (fnOf P 71))
theorem spec_l20Ver_l1_eq (e : Env) (w : World) : spec_l20Ver_l1 e w =
 (vl (e 5) w).bind fun r1 =>
 (bo P .lss 3 (.tmp 12) (.const (.int .i64 4)) r1.1 (.int .i64 4) r1.2).bind fun r2 =>
 cnd r2.1 (
 (fa P 45 (e 3) 2 (dw r2.2)).bind fun r4 =>
 ifP (r4.2 = (dw r2.2)) <|
 (fa P 43 r4.1 0 (dw r2.2)).bind fun r5 =>
 ifP (r5.2 = (dw r2.2)) <|
 (ld P 41 r5.1 (dw r2.2)).bind fun r6 =>
 ifP (r6.2 = (dw r2.2)) <|
 (vl (e 5) (dw r2.2)).bind fun r7 =>
 ifP (r7.2 = (dw r2.2)) <|
 (vl (e 0) (dw r2.2)).bind fun r8 =>
 ifP (r8.2 = (dw r2.2)) <|
 (EV P 95 #[r8.1] (dw r2.2)).bind fun r9 =>
 ifP (ld P 41 r5.1 r9.2 = some (r6.1, r9.2) ∧ fa P 43 r4.1 0 r9.2 = some (r5.1, r9.2) ∧ fa P 45 (e 3) 2 r9.2 = some (r4.1, r9.2) ∧ True) <|
 (ia P 41 r6.1 r7.1 r9.2).bind fun r10 =>
 ifP (r10.2 = r9.2) <|
 (st P 40 r10.1 r9.1 r9.2).bind fun r11 =>
 ifP (True ∧ True ∧ True ∧ True ∧ True) <|
 (fa P 45 (e 3) 2 r11.2).bind fun r12 =>
 (fa P 43 r12.1 0 r12.2).bind fun r13 =>
 (ld P 41 r13.1 r13.2).bind fun r14 =>
 (vl (e 5) r14.2).bind fun r15 =>
 (ia P 41 r14.1 r15.1 r15.2).bind fun r16 =>
 (fa P 40 r16.1 0 r16.2).bind fun r17 =>
 (ld P 3 r17.1 r17.2).bind fun r18 =>
 (vl (e 4) r18.2).bind fun r19 =>
 (bo P .gtr 3 (.tmp 29) (.tmp 30) r18.1 r19.1 r19.2).bind fun r20 =>
 cnd r20.1 (
 (fa P 45 (e 3) 2 r20.2).bind fun r21 =>
 (fa P 43 r21.1 0 r21.2).bind fun r22 =>
 (ld P 41 r22.1 r22.2).bind fun r23 =>
 (vl (e 5) r23.2).bind fun r24 =>
 (ia P 41 r23.1 r24.1 r24.2).bind fun r25 =>
 (fa P 40 r25.1 0 r25.2).bind fun r26 =>
 (ld P 3 r26.1 r26.2).bind fun r27 =>
 (vl r27.1 r27.2).bind fun r28 =>
 spec_l20Ver_j1 (ups e [(12, r1.1), (13, r2.1), (16, r4.1), (17, r5.1), (18, r6.1), (19, r7.1), (20, r8.1), (21, r9.1), (22, r10.1), (23, r12.1), (24, r13.1), (25, r14.1), (26, r15.1), (27, r16.1), (28, r17.1), (29, r18.1), (30, r19.1), (31, r20.1), (32, r21.1), (33, r22.1), (34, r23.1), (35, r24.1), (36, r25.1), (37, r26.1), (38, r27.1), (4, r28.1)]) r28.2) (
 spec_l20Ver_j1 (ups e [(12, r1.1), (13, r2.1), (16, r4.1), (17, r5.1), (18, r6.1), (19, r7.1), (20, r8.1), (21, r9.1), (22, r10.1), (23, r12.1), (24, r13.1), (25, r14.1), (26, r15.1), (27, r16.1), (28, r17.1), (29, r18.1), (30, r19.1), (31, r20.1)]) r20.2)) (
 (vl (e 4) r2.2).bind fun r29 =>
 (bo P .add 3 (.tmp 39) (.const (.int .i64 1)) r29.1 (.int .i64 1) r29.2).bind fun r30 =>
 (vl (e 0) r30.2).bind fun r31 =>
 (EV P 40 #[r31.1, (.int .i64 3)] r31.2).bind fun r32 =>
 (bo P .add 3 (.tmp 40) (.tmp 42) r30.1 r32.1 r32.2).bind fun r33 =>
 (vl (e 0) r33.2).bind fun r34 =>
 (EV P 40 #[r34.1, (.int .i64 3)] r34.2).bind fun r35 =>
 (bd P 40 #[(0, r33.1), (1, r35.1)] r35.2).bind fun r36 =>
 (fa P 45 (e 3) 1 r36.2).bind fun r37 =>
 (st P 40 r37.1 r36.1 r37.2).bind fun r38 =>
 (vl (e 0) r38.2).bind fun r39 =>
 (EV P 40 #[r39.1, (.int .i64 6)] r39.2).bind fun r40 =>
 (bo P .eql 3 (.tmp 49) (.const (.int .i64 0)) r40.1 (.int .i64 0) r40.2).bind fun r41 =>
 cnd r41.1 (
 (fa P 45 (e 3) 3 r41.2).bind fun r42 =>
 (st P 9 r42.1 (Go.Value.string { data := #[] }) r42.2).bind fun r43 =>
 (fa P 45 (e 3) 4 r43.2).bind fun r44 =>
 (st P 4 r44.1 (.bool true) r44.2).bind fun r45 =>
 spec_l20Ver_j2 (ups e [(12, r1.1), (13, r2.1), (39, r29.1), (40, r30.1), (41, r31.1), (42, r32.1), (43, r33.1), (44, r34.1), (45, r35.1), (46, r36.1), (47, r37.1), (48, r39.1), (49, r40.1), (50, r41.1), (51, r42.1), (52, r44.1)]) r45.2) (
 spec_l20Ver_j2 (ups e [(12, r1.1), (13, r2.1), (39, r29.1), (40, r30.1), (41, r31.1), (42, r32.1), (43, r33.1), (44, r34.1), (45, r35.1), (46, r36.1), (47, r37.1), (48, r39.1), (49, r40.1), (50, r41.1)]) r41.2)) := (exC_loop P (EV P) 71 54 (cA (cA (cB (cA (cB (cB (cB (Yi P 71)))))))) e w (Yj 0 (kSeq P (EV P) 71 54 (cB (cB (cB (cB (Yi P 71))))) (kFn P (fnOf P 71))))).trans (by kernel_rfl)
theorem spec_l20Ver_j1_eq (e : Env) (w : World) : spec_l20Ver_j1 e w =
 (vl (e 5) w).bind fun r1 =>
 (bo P .add 3 (.tmp 14) (.const (.int .i64 1)) r1.1 (.int .i64 1) r1.2).bind fun r2 =>
 (vl r2.1 r2.2).bind fun r3 =>
 spec_l20Ver_l1 (ups e [(14, r1.1), (15, r2.1), (5, r3.1)]) r3.2 := by kernel_rfl
theorem spec_l20Ver_j2_eq (e : Env) (w : World) : spec_l20Ver_j2 e w =
 (ld P 45 (e 3) w).bind fun r1 =>
 (st P 45 (e 2) r1.1 r1.2).bind fun r2 =>
 ((ld P 45 (e 2) r2.2).bind fun r3 => ifP (r3.2 = r2.2) (some r3.1)).bind fun v4 =>
 some (v4, r2.2) := by kernel_rfl
theorem spec_l20Ver_fn (x0 : Value) (w : World) : fnC P (EV P) 71 #[x0] w =
 (al P 45 w).bind fun r1 =>
 (vl x0 r1.2).bind fun r2 =>
 (EV P 40 #[r2.1, (.int .i64 4)] r2.2).bind fun r3 =>
 (EV P 93 #[] r3.2).bind fun r4 =>
 (vl x0 r4.2).bind fun r5 =>
 (EV P 94 #[r5.1] r5.2).bind fun r6 =>
 (bd P 45 #[(0, r3.1), (2, r4.1), (3, r6.1)] r6.2).bind fun r7 =>
 (al P 45 r7.2).bind fun r8 =>
 (st P 45 r8.1 r7.1 r8.2).bind fun r9 =>
 (vl (.int .i64 0) r9.2).bind fun r10 =>
 (vl (.int .i64 0) r10.2).bind fun r11 =>
 spec_l20Ver_l1 (ups (env0 #[x0]) [(2, r1.1), (6, r2.1), (7, r3.1), (8, r4.1), (9, r5.1), (10, r6.1), (11, r7.1), (3, r8.1), (4, r10.1), (5, r11.1)]) r11.2 := by kernel_rfl
end Go.Proofs.YtjagkbamkohnoaaGreat.X
