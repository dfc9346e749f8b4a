/- A part of the proof: an evaluator of the model, its laws, and contracts of functions; no condition. -/
import Derived.Test.YtjagkbamkohnoaaEvT
set_option linter.unusedVariables false
set_option maxRecDepth 100000
namespace Go.Proofs.Ytjagkbamkohnoaa.X
open Go Go.Ev
noncomputable def spec_l2StoreOk_l1 (e : Env) (w : World) : Option (Value × World) := exC P (EV P) 68 87 (.loop (cA (cA (cB (cA (cB (Yi P 68))))))) e w (Yj 0 (kSeq P (EV P) 68 87 (cB (cB (Yi P 68))) (kFn P (fnOf P 68))))
theorem spec_l2StoreOk_l1_eq (e : Env) (w : World) : spec_l2StoreOk_l1 e w =
 (vl (e 3) w).bind fun r1 =>
 (fa P 43 (e 1) 0 r1.2).bind fun r2 =>
 (ld P 41 r2.1 r2.2).bind fun r3 =>
 (Yo P #[41] 3 #[r3.1] r3.2).bind fun r4 =>
 (bo P .lss 3 (.tmp 4) (.tmp 7) r1.1 r4.1 r4.2).bind fun r5 =>
 cnd r5.1 (
 (fa P 43 (e 1) 0 r5.2).bind fun r6 =>
 (ld P 41 r6.1 r6.2).bind fun r7 =>
 (vl (e 3) r7.2).bind fun r8 =>
 (ia P 41 r7.1 r8.1 r8.2).bind fun r9 =>
 (fa P 32 r9.1 1 r9.2).bind fun r10 =>
 (ld P 27 r10.1 r10.2).bind fun r11 =>
 (bd P 27 #[] r11.2).bind fun r12 =>
 (bo P .neq 27 (.tmp 16) (.tmp 17) r11.1 r12.1 r12.2).bind fun r13 =>
 (vl r13.1 r13.2).bind fun r14 =>
 (gif r14.1 true (fa P 43 (e 1) 0 r14.2) r14.2).bind fun r15 =>
 (gif r14.1 true (ld P 41 r15.1 r15.2) r15.2).bind fun r16 =>
 (gif r14.1 true (vl (e 3) r16.2) r16.2).bind fun r17 =>
 (gif r14.1 true (ia P 41 r16.1 r17.1 r17.2) r17.2).bind fun r18 =>
 (gif r14.1 true (ld P 32 r18.1 r18.2) r18.2).bind fun r19 =>
 (gif r14.1 true (EV P 45 #[r19.1] r19.2) r19.2).bind fun r20 =>
 (gif r14.1 true (uo P .not r20.1 r20.2) r20.2).bind fun r21 =>
 (gif r14.1 true (vl r21.1 r21.2) r21.2).bind fun r22 =>
 (gif r22.1 false (fa P 43 (e 1) 0 r22.2) r22.2).bind fun r23 =>
 (gif r22.1 false (ld P 41 r23.1 r23.2) r23.2).bind fun r24 =>
 (gif r22.1 false (vl (e 3) r24.2) r24.2).bind fun r25 =>
 (gif r22.1 false (ia P 41 r24.1 r25.1 r25.2) r25.2).bind fun r26 =>
 (gif r22.1 false (fa P 32 r26.1 0 r26.2) r26.2).bind fun r27 =>
 (gif r22.1 false (ld P 3 r27.1 r27.2) r27.2).bind fun r28 =>
 (gif r22.1 false (vl (e 3) r28.2) r28.2).bind fun r29 =>
 (gif r22.1 false (bo P .neq 3 (.tmp 33) (.tmp 34) r28.1 r29.1 r29.2) r29.2).bind fun r30 =>
 (gif r14.1 true (pickV r22.1 (.bool true) r30.1 r30.2) r30.2).bind fun r31 =>
 (pickV r14.1 r31.1 (.bool false) r31.2).bind fun r32 =>
 cnd r32.1 (
 (vl (.bool false) r32.2).bind fun r33 =>
 some (r33.1, r33.2)) (
 (fa P 43 (e 1) 0 r32.2).bind fun r34 =>
 (ld P 41 r34.1 r34.2).bind fun r35 =>
 (vl (e 3) r35.2).bind fun r36 =>
 (ia P 41 r35.1 r36.1 r36.2).bind fun r37 =>
 (fa P 32 r37.1 1 r37.2).bind fun r38 =>
 (ld P 27 r38.1 r38.2).bind fun r39 =>
 (bd P 27 #[] r39.2).bind fun r40 =>
 (bo P .eql 27 (.tmp 43) (.tmp 44) r39.1 r40.1 r40.2).bind fun r41 =>
 (vl r41.1 r41.2).bind fun r42 =>
 (gif r42.1 true (fa P 43 (e 1) 0 r42.2) r42.2).bind fun r43 =>
 (gif r42.1 true (ld P 41 r43.1 r43.2) r43.2).bind fun r44 =>
 (gif r42.1 true (vl (e 3) r44.2) r44.2).bind fun r45 =>
 (gif r42.1 true (ia P 41 r44.1 r45.1 r45.2) r45.2).bind fun r46 =>
 (gif r42.1 true (fa P 32 r46.1 0 r46.2) r46.2).bind fun r47 =>
 (gif r42.1 true (ld P 3 r47.1 r47.2) r47.2).bind fun r48 =>
 (gif r42.1 true (bo P .neq 3 (.tmp 52) (.const (.int .i64 0)) r48.1 (.int .i64 0) r48.2) r48.2).bind fun r49 =>
 (gif r42.1 true (vl r49.1 r49.2) r49.2).bind fun r50 =>
 (gif r50.1 false (fa P 43 (e 1) 0 r50.2) r50.2).bind fun r51 =>
 (gif r50.1 false (ld P 41 r51.1 r51.2) r51.2).bind fun r52 =>
 (gif r50.1 false (vl (e 3) r52.2) r52.2).bind fun r53 =>
 (gif r50.1 false (ia P 41 r52.1 r53.1 r53.2) r53.2).bind fun r54 =>
 (gif r50.1 false (fa P 32 r54.1 3 r54.2) r54.2).bind fun r55 =>
 (gif r50.1 false (ld P 9 r55.1 r55.2) r55.2).bind fun r56 =>
 (gif r50.1 false (bo P .neq 9 (.tmp 60) (.const (Go.Value.string { data := #[] })) r56.1 (Go.Value.string { data := #[] }) r56.2) r56.2).bind fun r57 =>
 (gif r42.1 true (pickV r50.1 (.bool true) r57.1 r57.2) r57.2).bind fun r58 =>
 (gif r42.1 true (vl r58.1 r58.2) r58.2).bind fun r59 =>
 (gif r59.1 false (fa P 43 (e 1) 0 r59.2) r59.2).bind fun r60 =>
 (gif r59.1 false (ld P 41 r60.1 r60.2) r60.2).bind fun r61 =>
 (gif r59.1 false (vl (e 3) r61.2) r61.2).bind fun r62 =>
 (gif r59.1 false (ia P 41 r61.1 r62.1 r62.2) r62.2).bind fun r63 =>
 (gif r59.1 false (fa P 32 r63.1 4 r63.2) r63.2).bind fun r64 =>
 (gif r59.1 false (ld P 4 r64.1 r64.2) r64.2).bind fun r65 =>
 (gif r42.1 true (pickV r59.1 (.bool true) r65.1 r65.2) r65.2).bind fun r66 =>
 (gif r42.1 true (vl r66.1 r66.2) r66.2).bind fun r67 =>
 (gif r67.1 false (fa P 43 (e 1) 0 r67.2) r67.2).bind fun r68 =>
 (gif r67.1 false (ld P 41 r68.1 r68.2) r68.2).bind fun r69 =>
 (gif r67.1 false (vl (e 3) r69.2) r69.2).bind fun r70 =>
 (gif r67.1 false (ia P 41 r69.1 r70.1 r70.2) r70.2).bind fun r71 =>
 (gif r67.1 false (fa P 32 r71.1 2 r71.2) r71.2).bind fun r72 =>
 (gif r67.1 false (fa P 30 r72.1 0 r72.2) r72.2).bind fun r73 =>
 (gif r67.1 false (ld P 28 r73.1 r73.2) r73.2).bind fun r74 =>
 (gif r67.1 false (Yo P #[28] 3 #[r74.1] r74.2) r74.2).bind fun r75 =>
 (gif r67.1 false (bo P .gtr 3 (.tmp 79) (.const (.int .i64 0)) r75.1 (.int .i64 0) r75.2) r75.2).bind fun r76 =>
 (gif r42.1 true (pickV r67.1 (.bool true) r76.1 r76.2) r76.2).bind fun r77 =>
 (pickV r42.1 r77.1 (.bool false) r77.2).bind fun r78 =>
 cnd r78.1 (
 (vl (.bool false) r78.2).bind fun r79 =>
 some (r79.1, r79.2)) (
 (vl (e 3) r78.2).bind fun r80 =>
 (bo P .add 3 (.tmp 9) (.const (.int .i64 1)) r80.1 (.int .i64 1) r80.2).bind fun r81 =>
 (vl r81.1 r81.2).bind fun r82 =>
 spec_l2StoreOk_l1 (ups e [(4, r1.1), (5, r2.1), (6, r3.1), (7, r4.1), (8, r5.1), (11, r6.1), (12, r7.1), (13, r8.1), (14, r9.1), (15, r10.1), (16, r11.1), (17, r12.1), (18, r13.1), (19, r14.1), (20, r15.1), (21, r16.1), (22, r17.1), (23, r18.1), (24, r19.1), (25, r20.1), (26, r21.1), (27, r22.1), (28, r23.1), (29, r24.1), (30, r25.1), (31, r26.1), (32, r27.1), (33, r28.1), (34, r29.1), (35, r30.1), (36, r31.1), (37, r32.1), (38, r34.1), (39, r35.1), (40, r36.1), (41, r37.1), (42, r38.1), (43, r39.1), (44, r40.1), (45, r41.1), (46, r42.1), (47, r43.1), (48, r44.1), (49, r45.1), (50, r46.1), (51, r47.1), (52, r48.1), (53, r49.1), (54, r50.1), (55, r51.1), (56, r52.1), (57, r53.1), (58, r54.1), (59, r55.1), (60, r56.1), (61, r57.1), (62, r58.1), (63, r59.1), (64, r60.1), (65, r61.1), (66, r62.1), (67, r63.1), (68, r64.1), (69, r65.1), (70, r66.1), (71, r67.1), (72, r68.1), (73, r69.1), (74, r70.1), (75, r71.1), (76, r72.1), (77, r73.1), (78, r74.1), (79, r75.1), (80, r76.1), (81, r77.1), (82, r78.1), (9, r80.1), (10, r81.1), (3, r82.1)]) r82.2))) (
 (fa P 43 (e 1) 0 r5.2).bind fun r83 =>
 (ld P 41 r83.1 r83.2).bind fun r84 =>
 (Yo P #[41] 3 #[r84.1] r84.2).bind fun r85 =>
 (bo P .eql 3 (.tmp 85) (.const (.int .i64 4)) r85.1 (.int .i64 4) r85.2).bind fun r86 =>
 (vl r86.1 r86.2).bind fun r87 =>
 some (r87.1, r87.2)) := (exC_loop P (EV P) 68 87 (cA (cA (cB (cA (cB (Yi P 68)))))) e w (Yj 0 (kSeq P (EV P) 68 87 (cB (cB (Yi P 68))) (kFn P (fnOf P 68))))).trans (by kernel_rfl)
theorem spec_l2StoreOk_fn (x0 : Value) (w : World) : fnC P (EV P) 68 #[x0] w =
 (bx P 43 x0 w).bind fun r1 =>
 (vl (.bool false) r1.2).bind fun r2 =>
 (vl (.int .i64 0) r2.2).bind fun r3 =>
 spec_l2StoreOk_l1 (ups (env0 #[x0]) [(1, r1.1), (2, r2.1), (3, r3.1)]) r3.2 := by kernel_rfl
noncomputable def spec_l2Add_j1 (e : Env) (w : World) : Option (Value × World) := exC P (EV P) 69 23 (cB (cB (Yi P 69))) e w (kFn P (fnOf P 69))
theorem spec_l2Add_j1_eq (e : Env) (w : World) : spec_l2Add_j1 e w =
 (ld P 43 (e 2) w).bind fun r1 =>
 (st P 43 (e 4) r1.1 r1.2).bind fun r2 =>
 ((ld P 43 (e 4) r2.2).bind fun r3 => ifP (r3.2 = r2.2) (some r3.1)).bind fun v4 =>
 some (v4, r2.2) := by kernel_rfl
theorem spec_l2Add_fn (x0 x1 : Value) (w : World) : fnC P (EV P) 69 #[x0, x1] w =
 (bx P 43 x0 w).bind fun r1 =>
 (bx P 32 x1 r1.2).bind fun r2 =>
 (al P 43 r2.2).bind fun r3 =>
 (fa P 43 r1.1 0 (dw r3.2)).bind fun r5 =>
 ifP (r5.2 = (dw r3.2)) <|
 (ld P 41 r5.1 (dw r3.2)).bind fun r6 =>
 ifP (r6.2 = (dw r3.2)) <|
 (fa P 32 r2.1 0 (dw r3.2)).bind fun r7 =>
 ifP (r7.2 = (dw r3.2)) <|
 (ld P 3 r7.1 (dw r3.2)).bind fun r8 =>
 ifP (r8.2 = (dw r3.2)) <|
 (ia P 41 r6.1 r8.1 (dw r3.2)).bind fun r9 =>
 ifP (r9.2 = (dw r3.2)) <|
 (fa P 32 r9.1 1 (dw r3.2)).bind fun r10 =>
 ifP (r10.2 = (dw r3.2)) <|
 (ld P 27 r10.1 (dw r3.2)).bind fun r11 =>
 ifP (r11.2 = (dw r3.2)) <|
 (fa P 32 r2.1 1 (dw r3.2)).bind fun r12 =>
 ifP (r12.2 = (dw r3.2)) <|
 (ld P 27 r12.1 (dw r3.2)).bind fun r13 =>
 ifP (r13.2 = (dw r3.2)) <|
 (EV P 94 #[r11.1, r13.1] (dw r3.2)).bind fun r14 =>
 ifP (True ∧ True ∧ True ∧ True ∧ True ∧ True ∧ True ∧ True ∧ True ∧ True) <|
 cnd r14.1 (
 (fa P 43 r1.1 0 (dw r14.2)).bind fun r16 =>
 ifP (r16.2 = (dw r14.2)) <|
 (ld P 41 r16.1 (dw r14.2)).bind fun r17 =>
 ifP (r17.2 = (dw r14.2)) <|
 (fa P 32 r2.1 0 (dw r14.2)).bind fun r18 =>
 ifP (r18.2 = (dw r14.2)) <|
 (ld P 3 r18.1 (dw r14.2)).bind fun r19 =>
 ifP (r19.2 = (dw r14.2)) <|
 (ld P 32 r2.1 (dw r14.2)).bind fun r20 =>
 ifP (r20.2 = (dw r14.2)) <|
 (EV P 93 #[r20.1] (dw r14.2)).bind fun r21 =>
 ifP (True ∧ ld P 3 r18.1 r21.2 = some (r19.1, r21.2) ∧ fa P 32 r2.1 0 r21.2 = some (r18.1, r21.2) ∧ ld P 41 r16.1 r21.2 = some (r17.1, r21.2) ∧ fa P 43 r1.1 0 r21.2 = some (r16.1, r21.2) ∧ True) <|
 (ia P 41 r17.1 r19.1 r21.2).bind fun r22 =>
 ifP (r22.2 = r21.2) <|
 (st P 32 r22.1 r21.1 r21.2).bind fun r23 =>
 ifP (True ∧ True ∧ True ∧ True ∧ True ∧ True ∧ True) <|
 spec_l2Add_j1 (ups (env0 #[x0, x1]) [(2, r1.1), (3, r2.1), (4, r3.1), (5, r5.1), (6, r6.1), (7, r7.1), (8, r8.1), (9, r9.1), (10, r10.1), (11, r11.1), (12, r12.1), (13, r13.1), (14, r14.1), (15, r16.1), (16, r17.1), (17, r18.1), (18, r19.1), (19, r20.1), (20, r21.1), (21, r22.1)]) r23.2) (
 spec_l2Add_j1 (ups (env0 #[x0, x1]) [(2, r1.1), (3, r2.1), (4, r3.1), (5, r5.1), (6, r6.1), (7, r7.1), (8, r8.1), (9, r9.1), (10, r10.1), (11, r11.1), (12, r12.1), (13, r13.1), (14, r14.1)]) r14.2) := by kernel_rfl
noncomputable def spec_l2CopyStore_l1 (e : Env) (w : World) : Option (Value × World) := exC P (EV P) 70 25 (.loop (cA (cA (cB (cA (cB (cB (Yi P 70)))))))) e w (Yj 0 (kSeq P (EV P) 70 25 (cB (cB (cB (Yi P 70)))) (kFn P (fnOf P 70))))
theorem spec_l2CopyStore_l1_eq (e : Env) (w : World) : spec_l2CopyStore_l1 e w =
 (vl (e 4) w).bind fun r1 =>
 (fa P 43 (e 1) 0 r1.2).bind fun r2 =>
 (ld P 41 r2.1 r2.2).bind fun r3 =>
 (Yo P #[41] 3 #[r3.1] r3.2).bind fun r4 =>
 (bo P .lss 3 (.tmp 6) (.tmp 9) r1.1 r4.1 r4.2).bind fun r5 =>
 cnd r5.1 (
 (fa P 43 (e 3) 0 (dw r5.2)).bind fun r7 =>
 ifP (r7.2 = (dw r5.2)) <|
 (ld P 41 r7.1 (dw r5.2)).bind fun r8 =>
 ifP (r8.2 = (dw r5.2)) <|
 (fa P 43 (e 1) 0 (dw r5.2)).bind fun r9 =>
 ifP (r9.2 = (dw r5.2)) <|
 (ld P 41 r9.1 (dw r5.2)).bind fun r10 =>
 ifP (r10.2 = (dw r5.2)) <|
 (vl (e 4) (dw r5.2)).bind fun r11 =>
 ifP (r11.2 = (dw r5.2)) <|
 (ia P 41 r10.1 r11.1 (dw r5.2)).bind fun r12 =>
 ifP (r12.2 = (dw r5.2)) <|
 (ld P 32 r12.1 (dw r5.2)).bind fun r13 =>
 ifP (r13.2 = (dw r5.2)) <|
 (EV P 93 #[r13.1] (dw r5.2)).bind fun r14 =>
 ifP (True ∧ True ∧ True ∧ True ∧ ld P 41 r7.1 r14.2 = some (r8.1, r14.2) ∧ fa P 43 (e 3) 0 r14.2 = some (r7.1, r14.2) ∧ True) <|
 (bs P 41 1 #[(0, r14.1)] r14.2).bind fun r15 =>
 ifP (True ∧ True ∧ True ∧ True ∧ ld P 41 r7.1 r15.2 = some (r8.1, r15.2) ∧ fa P 43 (e 3) 0 r15.2 = some (r7.1, r15.2) ∧ True) <|
 (b_append P #[41, 41] 41 #[r8.1, r15.1] r15.2).bind fun r16 =>
 ifP (True ∧ True ∧ True ∧ True ∧ True ∧ True ∧ True) <|
 (fa P 43 (e 3) 0 r16.2).bind fun r17 =>
 ifP (r17.2 = r16.2) <|
 (st P 41 r17.1 r16.1 r16.2).bind fun r18 =>
 ifP (True ∧ True ∧ True ∧ True ∧ True ∧ True ∧ True ∧ True) <|
 (vl (e 4) r18.2).bind fun r19 =>
 (bo P .add 3 (.tmp 11) (.const (.int .i64 1)) r19.1 (.int .i64 1) r19.2).bind fun r20 =>
 (vl r20.1 r20.2).bind fun r21 =>
 spec_l2CopyStore_l1 (ups e [(6, r1.1), (7, r2.1), (8, r3.1), (9, r4.1), (10, r5.1), (13, r7.1), (14, r8.1), (15, r9.1), (16, r10.1), (17, r11.1), (18, r12.1), (19, r13.1), (20, r14.1), (21, r15.1), (22, r16.1), (23, r17.1), (11, r19.1), (12, r20.1), (4, r21.1)]) r21.2) (
 (ld P 43 (e 3) r5.2).bind fun r22 =>
 (st P 43 (e 2) r22.1 r22.2).bind fun r23 =>
 ((ld P 43 (e 2) r23.2).bind fun r24 => ifP (r24.2 = r23.2) (some r24.1)).bind fun v25 =>
 some (v25, r23.2)) := (exC_loop P (EV P) 70 25 (cA (cA (cB (cA (cB (cB (Yi P 70))))))) e w (Yj 0 (kSeq P (EV P) 70 25 (cB (cB (cB (Yi P 70)))) (kFn P (fnOf P 70))))).trans (by kernel_rfl)
theorem spec_l2CopyStore_fn (x0 : Value) (w : World) : fnC P (EV P) 70 #[x0] w =
 (bx P 43 x0 w).bind fun r1 =>
 (al P 43 r1.2).bind fun r2 =>
 (bd P 43 #[] r2.2).bind fun r3 =>
 (al P 43 r3.2).bind fun r4 =>
 (st P 43 r4.1 r3.1 r4.2).bind fun r5 =>
 (vl (.int .i64 0) r5.2).bind fun r6 =>
 spec_l2CopyStore_l1 (ups (env0 #[x0]) [(1, r1.1), (2, r2.1), (5, r3.1), (3, r4.1), (4, r6.1)]) r6.2 := by kernel_rfl
theorem impl_Ver_same_fn (x0 x1 : Value) (w : World) : fnC P (EV P) 71 #[x0, x1] w =
 (bx P 32 x0 w).bind fun r1 =>
 (bx P 32 x1 r1.2).bind fun r2 =>
 (vl (.bool false) r2.2).bind fun r3 =>
 (fa P 32 r1.1 0 r3.2).bind fun r4 =>
 (ld P 3 r4.1 r4.2).bind fun r5 =>
 (fa P 32 r2.1 0 r5.2).bind fun r6 =>
 (ld P 3 r6.1 r6.2).bind fun r7 =>
 (bo P .eql 3 (.tmp 6) (.tmp 8) r5.1 r7.1 r7.2).bind fun r8 =>
 (vl r8.1 r8.2).bind fun r9 =>
 (gif r9.1 true (fa P 32 r1.1 1 r9.2) r9.2).bind fun r10 =>
 (gif r9.1 true (ld P 27 r10.1 r10.2) r10.2).bind fun r11 =>
 (gif r9.1 true (fa P 32 r2.1 1 r11.2) r11.2).bind fun r12 =>
 (gif r9.1 true (ld P 27 r12.1 r12.2) r12.2).bind fun r13 =>
 (gif r9.1 true (bo P .eql 27 (.tmp 12) (.tmp 14) r11.1 r13.1 r13.2) r13.2).bind fun r14 =>
 (pickV r9.1 r14.1 (.bool false) r14.2).bind fun r15 =>
 (vl r15.1 r15.2).bind fun r16 =>
 (gif r16.1 true (fa P 32 r1.1 2 r16.2) r16.2).bind fun r17 =>
 (gif r16.1 true (fa P 30 r17.1 0 r17.2) r17.2).bind fun r18 =>
 (gif r16.1 true (ld P 28 r18.1 r18.2) r18.2).bind fun r19 =>
 (gif r16.1 true (fa P 32 r2.1 2 r19.2) r19.2).bind fun r20 =>
 (gif r16.1 true (fa P 30 r20.1 0 r20.2) r20.2).bind fun r21 =>
 (gif r16.1 true (ld P 28 r21.1 r21.2) r21.2).bind fun r22 =>
 (gif r16.1 true (EV P 106 #[r19.1, r22.1] r22.2) r22.2).bind fun r23 =>
 (pickV r16.1 r23.1 (.bool false) r23.2).bind fun r24 =>
 (vl r24.1 r24.2).bind fun r25 =>
 (gif r25.1 true (fa P 32 r1.1 3 r25.2) r25.2).bind fun r26 =>
 (gif r25.1 true (ld P 9 r26.1 r26.2) r26.2).bind fun r27 =>
 (gif r25.1 true (fa P 32 r2.1 3 r27.2) r27.2).bind fun r28 =>
 (gif r25.1 true (ld P 9 r28.1 r28.2) r28.2).bind fun r29 =>
 (gif r25.1 true (bo P .eql 9 (.tmp 28) (.tmp 30) r27.1 r29.1 r29.2) r29.2).bind fun r30 =>
 (pickV r25.1 r30.1 (.bool false) r30.2).bind fun r31 =>
 (vl r31.1 r31.2).bind fun r32 =>
 (gif r32.1 true (fa P 32 r1.1 4 r32.2) r32.2).bind fun r33 =>
 (gif r32.1 true (ld P 4 r33.1 r33.2) r33.2).bind fun r34 =>
 (gif r32.1 true (fa P 32 r2.1 4 r34.2) r34.2).bind fun r35 =>
 (gif r32.1 true (ld P 4 r35.1 r35.2) r35.2).bind fun r36 =>
 (gif r32.1 true (bo P .eql 4 (.tmp 35) (.tmp 37) r34.1 r36.1 r36.2) r36.2).bind fun r37 =>
 (pickV r32.1 r37.1 (.bool false) r37.2).bind fun r38 =>
 (vl r38.1 r38.2).bind fun r39 =>
 some (r39.1, r39.2) := by kernel_rfl
theorem impl_TagLess_fn (x0 x1 : Value) (w : World) : fnC P (EV P) 73 #[x0, x1] w =
 (bx P 27 x0 w).bind fun r1 =>
 (bx P 27 x1 r1.2).bind fun r2 =>
 (vl (.bool false) r2.2).bind fun r3 =>
 (ld P 27 r1.1 r3.2).bind fun r4 =>
 (ld P 27 r2.1 r4.2).bind fun r5 =>
 (EV P 107 #[r4.1, r5.1] r5.2).bind fun r6 =>
 (bo P .lss 3 (.tmp 7) (.const (.int .i64 0)) r6.1 (.int .i64 0) r6.2).bind fun r7 =>
 (vl r7.1 r7.2).bind fun r8 =>
 some (r8.1, r8.2) := by kernel_rfl
noncomputable def spec_l1PastOk_l1 (e : Env) (w : World) : Option (Value × World) := exC P (EV P) 76 22 (.loop (cA (cA (cB (cA (cB (Yi P 76))))))) e w (Yj 0 (kSeq P (EV P) 76 22 (cB (cB (Yi P 76))) (kFn P (fnOf P 76))))
theorem spec_l1PastOk_l1_eq (e : Env) (w : World) : spec_l1PastOk_l1 e w =
 (vl (e 3) w).bind fun r1 =>
 (fa P 30 (e 1) 0 r1.2).bind fun r2 =>
 (ld P 28 r2.1 r2.2).bind fun r3 =>
 (Yo P #[28] 3 #[r3.1] r3.2).bind fun r4 =>
 (bo P .lss 3 (.tmp 4) (.tmp 7) r1.1 r4.1 r4.2).bind fun r5 =>
 cnd r5.1 (
 (fa P 30 (e 1) 0 r5.2).bind fun r6 =>
 (ld P 28 r6.1 r6.2).bind fun r7 =>
 (vl (e 3) r7.2).bind fun r8 =>
 (ia P 28 r7.1 r8.1 r8.2).bind fun r9 =>
 (ld P 27 r9.1 r9.2).bind fun r10 =>
 (EV P 92 #[r10.1] r10.2).bind fun r11 =>
 (uo P .not r11.1 r11.2).bind fun r12 =>
 cnd r12.1 (
 (vl (.bool false) r12.2).bind fun r13 =>
 some (r13.1, r13.2)) (
 (vl (e 3) r12.2).bind fun r14 =>
 (bo P .add 3 (.tmp 9) (.const (.int .i64 1)) r14.1 (.int .i64 1) r14.2).bind fun r15 =>
 (vl r15.1 r15.2).bind fun r16 =>
 spec_l1PastOk_l1 (ups e [(4, r1.1), (5, r2.1), (6, r3.1), (7, r4.1), (8, r5.1), (11, r6.1), (12, r7.1), (13, r8.1), (14, r9.1), (15, r10.1), (16, r11.1), (17, r12.1), (9, r14.1), (10, r15.1), (3, r16.1)]) r16.2)) (
 (fa P 30 (e 1) 0 r5.2).bind fun r17 =>
 (ld P 28 r17.1 r17.2).bind fun r18 =>
 (Yo P #[28] 3 #[r18.1] r18.2).bind fun r19 =>
 (bo P .eql 3 (.tmp 20) (.const (.int .i64 4)) r19.1 (.int .i64 4) r19.2).bind fun r20 =>
 (vl r20.1 r20.2).bind fun r21 =>
 some (r21.1, r21.2)) := (exC_loop P (EV P) 76 22 (cA (cA (cB (cA (cB (Yi P 76)))))) e w (Yj 0 (kSeq P (EV P) 76 22 (cB (cB (Yi P 76))) (kFn P (fnOf P 76))))).trans (by kernel_rfl)
theorem spec_l1PastOk_fn (x0 : Value) (w : World) : fnC P (EV P) 76 #[x0] w =
 (bx P 30 x0 w).bind fun r1 =>
 (vl (.bool false) r1.2).bind fun r2 =>
 (vl (.int .i64 0) r2.2).bind fun r3 =>
 spec_l1PastOk_l1 (ups (env0 #[x0]) [(1, r1.1), (2, r2.1), (3, r3.1)]) r3.2 := by kernel_rfl
theorem slices_ContainsFunc_Tag_fn (x0 x1 : Value) (w : World) : fnC P (EV P) 78 #[x0, x1] w =
 (vl (.bool false) w).bind fun r1 =>
 (vl x0 r1.2).bind fun r2 =>
 (vl x1 r2.2).bind fun r3 =>
 (EV P 111 #[r2.1, r3.1] r3.2).bind fun r4 =>
 (bo P .geq 3 (.tmp 7) (.const (.int .i64 0)) r4.1 (.int .i64 0) r4.2).bind fun r5 =>
 (vl r5.1 r5.2).bind fun r6 =>
 some (r6.1, r6.2) := by kernel_rfl
theorem impl_PastOk_1_fn (x0 : Value) (w : World) : fnC P (EV P) 79 #[x0] w =
 (bx P 27 x0 w).bind fun r1 =>
 (vl (.bool false) r1.2).bind fun r2 =>
 (ld P 27 r1.1 r2.2).bind fun r3 =>
 (EV P 56 #[r3.1] r3.2).bind fun r4 =>
 (uo P .not r4.1 r4.2).bind fun r5 =>
 (vl r5.1 r5.2).bind fun r6 =>
 some (r6.1, r6.2) := by kernel_rfl
noncomputable def spec_l20Chain_l1 (e : Env) (w : World) : Option (Value × World) := exC P (EV P) 81 58 (.loop (cA (cA (cB (cA (cB (cB (Yi P 81)))))))) e w (Yj 0 (kSeq P (EV P) 81 58 (cB (cB (cB (Yi P 81)))) (kFn P (fnOf P 81))))
noncomputable def spec_l20Chain_j1 (e : Env) (w : World) : Option (Value × World) := exC P (EV P) 81 58 (cB (cA (cB (cA (cA (cB (cA (cA (cB (cA (cB (cB (Yi P 81))))))))))))) e w (Yj 2 (Yj 1 (kSeq P (EV P) 81 58 (cB (cB (cA (cA (cB (cA (cB (cB (Yi P 81))))))))) (kLoop P (EV P) 81 58 (cA (cA (cB (cA (cB (cB (Yi P 81))))))) (Yj 0 (kSeq P (EV P) 81 58 (cB (cB (cB (Yi P 81)))) (kFn P (fnOf P 81))))))))
noncomputable def spec_l20Chain_j2 (e : Env) (w : World) : Option (Value × World) := exC P (EV P) 81 58 (cB (cB (cA (cA (cB (cA (cB (cB (Yi P 81))))))))) e w (kLoop P (EV P) 81 58 (cA (cA (cB (cA (cB (cB (Yi P 81))))))) (Yj 0 (kSeq P (EV P) 81 58 (cB (cB (cB (Yi P 81)))) (kFn P (fnOf P 81)))))
theorem spec_l20Chain_l1_eq (e : Env) (w : World) : spec_l20Chain_l1 e w =
 (vl (e 4) w).bind fun r1 =>
 (bo P .gtr 3 (.tmp 12) (.const (.int .i64 0)) r1.1 (.int .i64 0) r1.2).bind fun r2 =>
 cnd r2.1 (
 (vl (e 0) r2.2).bind fun r3 =>
 (EV P 82 #[r3.1, (.int .i64 6)] r3.2).bind fun r4 =>
 (bo P .eql 3 (.tmp 17) (.const (.int .i64 0)) r4.1 (.int .i64 0) r4.2).bind fun r5 =>
 (vl r5.1 r5.2).bind fun r6 =>
 cnd r6.1 (
 spec_l20Chain_j1 (ups e [(12, r1.1), (13, r2.1), (16, r3.1), (17, r4.1), (27, r5.1), (26, r6.1)]) r6.2) (
 (bo P .eql 3 (.tmp 17) (.const (.int .i64 1)) r4.1 (.int .i64 1) r6.2).bind fun r7 =>
 (vl r7.1 r7.2).bind fun r8 =>
 spec_l20Chain_j1 (ups e [(12, r1.1), (13, r2.1), (16, r3.1), (17, r4.1), (27, r5.1), (26, r6.1), (28, r7.1), (26, r8.1)]) r8.2)) (
 (ld P 25 (e 3) r2.2).bind fun r9 =>
 (EV P 47 #[r9.1] r9.2).bind fun r10 =>
 (st P 25 (e 2) r10.1 r10.2).bind fun r11 =>
 ((ld P 25 (e 2) r11.2).bind fun r12 => ifP (r12.2 = r11.2) (some r12.1)).bind fun v13 =>
 some (v13, r11.2)) := (exC_loop P (EV P) 81 58 (cA (cA (cB (cA (cB (cB (Yi P 81))))))) e w (Yj 0 (kSeq P (EV P) 81 58 (cB (cB (cB (Yi P 81)))) (kFn P (fnOf P 81))))).trans (by kernel_rfl)
theorem spec_l20Chain_j1_eq (e : Env) (w : World) : spec_l20Chain_j1 e w =
 cnd (e 26) (
 (ld P 25 (e 3) w).bind fun r1 =>
 (EV P 46 #[r1.1] r1.2).bind fun r2 =>
 cnd r2.1 (
 (ld P 25 (e 3) (dw r2.2)).bind fun r4 =>
 ifP (r4.2 = (dw r2.2)) <|
 (vl (e 0) (dw r2.2)).bind fun r5 =>
 ifP (r5.2 = (dw r2.2)) <|
 (EV P 83 #[r5.1] (dw r2.2)).bind fun r6 =>
 ifP (ld P 25 (e 3) r6.2 = some (r4.1, r6.2) ∧ True) <|
 (EV P 48 #[r4.1, (.int .i64 0), r6.1] r6.2).bind fun r7 =>
 ifP (True ∧ True) <|
 (st P 25 (e 3) r7.1 r7.2).bind fun r8 =>
 ifP (True ∧ True) <|
 spec_l20Chain_j2 (ups e [(29, r1.1), (30, r2.1), (31, r4.1), (32, r5.1), (33, r6.1), (34, r7.1)]) r8.2) (
 spec_l20Chain_j2 (ups e [(29, r1.1), (30, r2.1)]) r2.2)) (
 (bo P .eql 3 (.tmp 17) (.const (.int .i64 2)) (e 17) (.int .i64 2) w).bind fun r9 =>
 (vl r9.1 r9.2).bind fun r10 =>
 cnd r10.1 (
 (fa P 25 (e 3) 0 r10.2).bind fun r11 =>
 (ld P 23 r11.1 r11.2).bind fun r12 =>
 (Yo P #[23] 3 #[r12.1] r12.2).bind fun r13 =>
 (bo P .gtr 3 (.tmp 39) (.const (.int .i64 1)) r13.1 (.int .i64 1) r13.2).bind fun r14 =>
 cnd r14.1 (
 (ld P 25 (e 3) (dw r14.2)).bind fun r16 =>
 ifP (r16.2 = (dw r14.2)) <|
 (vl (e 0) (dw r14.2)).bind fun r17 =>
 ifP (r17.2 = (dw r14.2)) <|
 (fa P 25 (e 3) 0 (dw r14.2)).bind fun r18 =>
 ifP (r18.2 = (dw r14.2)) <|
 (ld P 23 r18.1 (dw r14.2)).bind fun r19 =>
 ifP (r19.2 = (dw r14.2)) <|
 (Yo P #[23] 3 #[r19.1] (dw r14.2)).bind fun r20 =>
 ifP (r20.2 = (dw r14.2)) <|
 (EV P 82 #[r17.1, r20.1] (dw r14.2)).bind fun r21 =>
 ifP (True ∧ True ∧ True ∧ ld P 25 (e 3) r21.2 = some (r16.1, r21.2) ∧ True) <|
 (EV P 113 #[r16.1, r21.1] r21.2).bind fun r22 =>
 ifP (True ∧ True ∧ True ∧ True ∧ True) <|
 (st P 25 (e 3) r22.1 r22.2).bind fun r23 =>
 ifP (True ∧ True ∧ True ∧ True ∧ True) <|
 spec_l20Chain_j2 (ups e [(36, r9.1), (35, r10.1), (37, r11.1), (38, r12.1), (39, r13.1), (40, r14.1), (41, r16.1), (42, r17.1), (43, r18.1), (44, r19.1), (45, r20.1), (46, r21.1), (47, r22.1)]) r23.2) (
 spec_l20Chain_j2 (ups e [(36, r9.1), (35, r10.1), (37, r11.1), (38, r12.1), (39, r13.1), (40, r14.1)]) r14.2)) (
 (bo P .eql 3 (.tmp 17) (.const (.int .i64 3)) (e 17) (.int .i64 3) r10.2).bind fun r24 =>
 (vl r24.1 r24.2).bind fun r25 =>
 cnd r25.1 (
 (fa P 25 (e 3) 0 r25.2).bind fun r26 =>
 (ld P 23 r26.1 r26.2).bind fun r27 =>
 (Yo P #[23] 3 #[r27.1] r27.2).bind fun r28 =>
 (bo P .lss 3 (.tmp 52) (.const (.int .i64 4)) r28.1 (.int .i64 4) r28.2).bind fun r29 =>
 cnd r29.1 (
 (ld P 25 (e 3) r29.2).bind fun r30 =>
 (EV P 114 #[r30.1] r30.2).bind fun r31 =>
 (st P 25 (e 3) r31.1 r31.2).bind fun r32 =>
 spec_l20Chain_j2 (ups e [(36, r9.1), (35, r10.1), (49, r24.1), (48, r25.1), (50, r26.1), (51, r27.1), (52, r28.1), (53, r29.1), (54, r30.1), (55, r31.1)]) r32.2) (
 spec_l20Chain_j2 (ups e [(36, r9.1), (35, r10.1), (49, r24.1), (48, r25.1), (50, r26.1), (51, r27.1), (52, r28.1), (53, r29.1)]) r29.2)) (
 (vl (e 0) r25.2).bind fun r33 =>
 (EV P 82 #[r33.1, (.int .i64 4)] r33.2).bind fun r34 =>
 (vl r34.1 r34.2).bind fun r35 =>
 (ld P 25 (e 3) r35.2).bind fun r36 =>
 (vl r35.1 r36.2).bind fun r37 =>
 (EV P 65 #[r36.1, r37.1] r37.2).bind fun r38 =>
 cnd r38.1 (
 (ld P 25 (e 3) r38.2).bind fun r39 =>
 (vl r35.1 r39.2).bind fun r40 =>
 (EV P 66 #[r39.1, r40.1] r40.2).bind fun r41 =>
 (st P 25 (e 3) r41.1 r41.2).bind fun r42 =>
 spec_l20Chain_j2 (ups e [(36, r9.1), (35, r10.1), (49, r24.1), (48, r25.1), (18, r33.1), (19, r34.1), (5, r35.1), (20, r36.1), (21, r37.1), (22, r38.1), (23, r39.1), (24, r40.1), (25, r41.1)]) r42.2) (
 spec_l20Chain_j2 (ups e [(36, r9.1), (35, r10.1), (49, r24.1), (48, r25.1), (18, r33.1), (19, r34.1), (5, r35.1), (20, r36.1), (21, r37.1), (22, r38.1)]) r38.2)))) := by kernel_rfl
theorem spec_l20Chain_j2_eq (e : Env) (w : World) : spec_l20Chain_j2 e w =
 (vl (e 4) w).bind fun r1 =>
 (bo P .sub 3 (.tmp 14) (.const (.int .i64 1)) r1.1 (.int .i64 1) r1.2).bind fun r2 =>
 (vl r2.1 r2.2).bind fun r3 =>
 spec_l20Chain_l1 (ups e [(14, r1.1), (15, r2.1), (4, r3.1)]) r3.2 := by kernel_rfl
theorem spec_l20Chain_fn (x0 : Value) (w : World) : fnC P (EV P) 81 #[x0] w =
 (al P 25 w).bind fun r1 =>
 (vl x0 r1.2).bind fun r2 =>
 (EV P 82 #[r2.1, (.int .i64 4)] r2.2).bind fun r3 =>
 (bo P .add 3 (.const (.int .i64 1)) (.tmp 7) (.int .i64 1) r3.1 r3.2).bind fun r4 =>
 (EV P 112 #[r4.1] r4.2).bind fun r5 =>
 (al P 25 r5.2).bind fun r6 =>
 (st P 25 r6.1 r5.1 r6.2).bind fun r7 =>
 (vl x0 r7.2).bind fun r8 =>
 (EV P 82 #[r8.1, (.int .i64 12)] r8.2).bind fun r9 =>
 (vl r9.1 r9.2).bind fun r10 =>
 spec_l20Chain_l1 (ups (env0 #[x0]) [(2, r1.1), (6, r2.1), (7, r3.1), (8, r4.1), (9, r5.1), (3, r6.1), (10, r8.1), (11, r9.1), (4, r10.1)]) r10.2 := by kernel_rfl
theorem spec_l20Rd_pick_fn (x0 x1 : Value) (w : World) : fnC P (EV P) 82 #[x0, x1] w =
 (vl (.int .i64 0) w).bind fun r1 =>
 (vl x0 r1.2).bind fun r2 =>
 (vl x0 r2.2).bind fun r3 =>
 (nk P r3.1 r3.2).bind fun r4 =>
 (fa P 95 r4.1 1 r4.2).bind fun r5 =>
 (ld P 3 r5.1 r5.2).bind fun r6 =>
 (bo P .add 3 (.tmp 11) (.const (.int .i64 1)) r6.1 (.int .i64 1) r6.2).bind fun r7 =>
 (nk P r2.1 r7.2).bind fun r8 =>
 (fa P 95 r8.1 1 r8.2).bind fun r9 =>
 (st P 3 r9.1 r7.1 r9.2).bind fun r10 =>
 (vl x1 r10.2).bind fun r11 =>
 (bo P .lss 3 (.tmp 15) (.const (.int .i64 1)) r11.1 (.int .i64 1) r11.2).bind fun r12 =>
 (vl r12.1 r12.2).bind fun r13 =>
 (gif r13.1 false (vl x0 r13.2) r13.2).bind fun r14 =>
 (gif r13.1 false (nk P r14.1 r14.2) r14.2).bind fun r15 =>
 (gif r13.1 false (fa P 95 r15.1 0 r15.2) r15.2).bind fun r16 =>
 (gif r13.1 false (ld P 22 r16.1 r16.2) r16.2).bind fun r17 =>
 (gif r13.1 false (Yo P #[22] 3 #[r17.1] r17.2) r17.2).bind fun r18 =>
 (gif r13.1 false (bo P .eql 3 (.tmp 22) (.const (.int .i64 0)) r18.1 (.int .i64 0) r18.2) r18.2).bind fun r19 =>
 (pickV r13.1 (.bool true) r19.1 r19.2).bind fun r20 =>
 cnd r20.1 (
 (vl (.int .i64 0) r20.2).bind fun r21 =>
 some (r21.1, r21.2)) (
 (vl x0 r20.2).bind fun r22 =>
 (nk P r22.1 r22.2).bind fun r23 =>
 (fa P 95 r23.1 1 r23.2).bind fun r24 =>
 (ld P 3 r24.1 r24.2).bind fun r25 =>
 (bo P .sub 3 (.tmp 28) (.const (.int .i64 1)) r25.1 (.int .i64 1) r25.2).bind fun r26 =>
 (vl r26.1 r26.2).bind fun r27 =>
 (vl r27.1 r27.2).bind fun r28 =>
 (vl x0 r28.2).bind fun r29 =>
 (nk P r29.1 r29.2).bind fun r30 =>
 (fa P 95 r30.1 0 r30.2).bind fun r31 =>
 (ld P 22 r31.1 r31.2).bind fun r32 =>
 (Yo P #[22] 3 #[r32.1] r32.2).bind fun r33 =>
 (bo P .lss 3 (.tmp 30) (.tmp 35) r28.1 r33.1 r33.2).bind fun r34 =>
 cnd r34.1 (
 (vl x0 r34.2).bind fun r35 =>
 (nk P r35.1 r35.2).bind fun r36 =>
 (fa P 95 r36.1 0 r36.2).bind fun r37 =>
 (ld P 22 r37.1 r37.2).bind fun r38 =>
 (vl r27.1 r38.2).bind fun r39 =>
 (ia P 22 r38.1 r39.1 r39.2).bind fun r40 =>
 (ld P 5 r40.1 r40.2).bind fun r41 =>
 (cv P 5 3 r41.1 r41.2).bind fun r42 =>
 (vl x1 r42.2).bind fun r43 =>
 (bo P .rem 3 (.tmp 44) (.tmp 45) r42.1 r43.1 r43.2).bind fun r44 =>
 (vl r44.1 r44.2).bind fun r45 =>
 some (r45.1, r45.2)) (
 (vl x0 (dw r34.2)).bind fun r47 =>
 ifP (r47.2 = (dw r34.2)) <|
 (nk P r47.1 (dw r34.2)).bind fun r48 =>
 ifP (r48.2 = (dw r34.2)) <|
 (fa P 95 r48.1 0 (dw r34.2)).bind fun r49 =>
 ifP (r49.2 = (dw r34.2)) <|
 (ld P 22 r49.1 (dw r34.2)).bind fun r50 =>
 ifP (r50.2 = (dw r34.2)) <|
 (vl r27.1 (dw r34.2)).bind fun r51 =>
 ifP (r51.2 = (dw r34.2)) <|
 (vl x0 (dw r34.2)).bind fun r52 =>
 ifP (r52.2 = (dw r34.2)) <|
 (nk P r52.1 (dw r34.2)).bind fun r53 =>
 ifP (r53.2 = (dw r34.2)) <|
 (fa P 95 r53.1 0 (dw r34.2)).bind fun r54 =>
 ifP (r54.2 = (dw r34.2)) <|
 (ld P 22 r54.1 (dw r34.2)).bind fun r55 =>
 ifP (r55.2 = (dw r34.2)) <|
 (Yo P #[22] 3 #[r55.1] (dw r34.2)).bind fun r56 =>
 ifP (r56.2 = (dw r34.2)) <|
 (bo P .rem 3 (.tmp 51) (.tmp 56) r51.1 r56.1 (dw r34.2)).bind fun r57 =>
 ifP (r57.2 = (dw r34.2)) <|
 (ia P 22 r50.1 r57.1 (dw r34.2)).bind fun r58 =>
 ifP (r58.2 = (dw r34.2)) <|
 (ld P 5 r58.1 (dw r34.2)).bind fun r59 =>
 ifP (r59.2 = (dw r34.2)) <|
 (cv P 5 3 r59.1 (dw r34.2)).bind fun r60 =>
 ifP (r60.2 = (dw r34.2)) <|
 (bo P .mul 3 (.tmp 60) (.const (.int .i64 131)) r60.1 (.int .i64 131) (dw r34.2)).bind fun r61 =>
 ifP (r61.2 = (dw r34.2)) <|
 (vl x0 (dw r34.2)).bind fun r62 =>
 ifP (r62.2 = (dw r34.2)) <|
 (nk P r62.1 (dw r34.2)).bind fun r63 =>
 ifP (r63.2 = (dw r34.2)) <|
 (fa P 95 r63.1 0 (dw r34.2)).bind fun r64 =>
 ifP (r64.2 = (dw r34.2)) <|
 (ld P 22 r64.1 (dw r34.2)).bind fun r65 =>
 ifP (r65.2 = (dw r34.2)) <|
 (vl r27.1 (dw r34.2)).bind fun r66 =>
 ifP (r66.2 = (dw r34.2)) <|
 (bo P .mul 3 (.tmp 66) (.const (.int .i64 7)) r66.1 (.int .i64 7) (dw r34.2)).bind fun r67 =>
 ifP (r67.2 = (dw r34.2)) <|
 (bo P .add 3 (.tmp 67) (.const (.int .i64 3)) r67.1 (.int .i64 3) (dw r34.2)).bind fun r68 =>
 ifP (r68.2 = (dw r34.2)) <|
 (vl x0 (dw r34.2)).bind fun r69 =>
 ifP (r69.2 = (dw r34.2)) <|
 (nk P r69.1 (dw r34.2)).bind fun r70 =>
 ifP (r70.2 = (dw r34.2)) <|
 (fa P 95 r70.1 0 (dw r34.2)).bind fun r71 =>
 ifP (r71.2 = (dw r34.2)) <|
 (ld P 22 r71.1 (dw r34.2)).bind fun r72 =>
 ifP (r72.2 = (dw r34.2)) <|
 (Yo P #[22] 3 #[r72.1] (dw r34.2)).bind fun r73 =>
 ifP (r73.2 = (dw r34.2)) <|
 (bo P .rem 3 (.tmp 68) (.tmp 73) r68.1 r73.1 (dw r34.2)).bind fun r74 =>
 ifP (r74.2 = (dw r34.2)) <|
 (ia P 22 r65.1 r74.1 (dw r34.2)).bind fun r75 =>
 ifP (r75.2 = (dw r34.2)) <|
 (ld P 5 r75.1 (dw r34.2)).bind fun r76 =>
 ifP (r76.2 = (dw r34.2)) <|
 (cv P 5 3 r76.1 (dw r34.2)).bind fun r77 =>
 ifP (r77.2 = (dw r34.2)) <|
 (bo P .mul 3 (.tmp 77) (.const (.int .i64 1117)) r77.1 (.int .i64 1117) (dw r34.2)).bind fun r78 =>
 ifP (r78.2 = (dw r34.2)) <|
 (bo P .add 3 (.tmp 61) (.tmp 78) r61.1 r78.1 (dw r34.2)).bind fun r79 =>
 ifP (r79.2 = (dw r34.2)) <|
 (vl r27.1 (dw r34.2)).bind fun r80 =>
 ifP (r80.2 = (dw r34.2)) <|
 (bo P .mul 3 (.tmp 80) (.const (.int .i64 29)) r80.1 (.int .i64 29) (dw r34.2)).bind fun r81 =>
 ifP (r81.2 = (dw r34.2)) <|
 (bo P .add 3 (.tmp 79) (.tmp 81) r79.1 r81.1 (dw r34.2)).bind fun r82 =>
 ifP (r82.2 = (dw r34.2)) <|
 (vl r27.1 (dw r34.2)).bind fun r83 =>
 ifP (r83.2 = (dw r34.2)) <|
 (vl x0 (dw r34.2)).bind fun r84 =>
 ifP (r84.2 = (dw r34.2)) <|
 (nk P r84.1 (dw r34.2)).bind fun r85 =>
 ifP (r85.2 = (dw r34.2)) <|
 (fa P 95 r85.1 0 (dw r34.2)).bind fun r86 =>
 ifP (r86.2 = (dw r34.2)) <|
 (ld P 22 r86.1 (dw r34.2)).bind fun r87 =>
 ifP (r87.2 = (dw r34.2)) <|
 (Yo P #[22] 3 #[r87.1] (dw r34.2)).bind fun r88 =>
 ifP (r88.2 = (dw r34.2)) <|
 (bo P .quo 3 (.tmp 83) (.tmp 88) r83.1 r88.1 (dw r34.2)).bind fun r89 =>
 ifP (r89.2 = (dw r34.2)) <|
 (bo P .mul 3 (.tmp 89) (.const (.int .i64 53)) r89.1 (.int .i64 53) (dw r34.2)).bind fun r90 =>
 ifP (r90.2 = (dw r34.2)) <|
 (bo P .add 3 (.tmp 82) (.tmp 90) r82.1 r90.1 (dw r34.2)).bind fun r91 =>
 ifP (r91.2 = (dw r34.2)) <|
 (vl r91.1 (dw r34.2)).bind fun r92 =>
 ifP (r92.2 = (dw r34.2)) <|
 (vl r92.1 (dw r34.2)).bind fun r93 =>
 (vl r92.1 r93.2).bind fun r94 =>
 (bo P .quo 3 (.tmp 93) (.const (.int .i64 64)) r94.1 (.int .i64 64) r94.2).bind fun r95 =>
 (bo P .xor 3 (.tmp 92) (.tmp 94) r93.1 r95.1 r95.2).bind fun r96 =>
 (vl r96.1 r96.2).bind fun r97 =>
 (vl r97.1 r97.2).bind fun r98 =>
 (vl x1 r98.2).bind fun r99 =>
 (bo P .rem 3 (.tmp 96) (.tmp 97) r98.1 r99.1 r99.2).bind fun r100 =>
 (vl r100.1 r100.2).bind fun r101 =>
 some (r101.1, r101.2))) := by kernel_rfl
noncomputable def spec_l20Ver_l1 (e : Env) (w : World) : Option (Value × World) := exC P (EV P) 83 54 (.loop (cA (cA (cB (cA (cB (cB (cB (Yi P 83))))))))) e w (Yj 0 (kSeq P (EV P) 83 54 (cB (cB (cB (cB (Yi P 83))))) (kFn P (fnOf P 83))))
noncomputable def spec_l20Ver_j1 (e : Env) (w : World) : Option (Value × World) := exC P (EV P) 83 54 (cB (cB (cA (cA (cB (cA (cB (cB (cB (Yi P 83)))))))))) e w (kLoop P (EV P) 83 54 (cA (cA (cB (cA (cB (cB (cB (Yi P 83)))))))) (Yj 0 (kSeq P (EV P) 83 54 (cB (cB (cB (cB (Yi P 83))))) (kFn P (fnOf P 83)))))
noncomputable def spec_l20Ver_j2 (e : Env) (w : World) : Option (Value × World) := exC P (EV P) 83 54 (cB (cB (cB (cB (cB (cB (Yi P 83))))))) e w (kFn P (fnOf P 83))
theorem spec_l20Ver_l1_eq (e : Env) (w : World) : spec_l20Ver_l1 e w =
 (vl (e 5) w).bind fun r1 =>
 (bo P .lss 3 (.tmp 12) (.const (.int .i64 4)) r1.1 (.int .i64 4) r1.2).bind fun r2 =>
 cnd r2.1 (
 (fa P 32 (e 3) 2 (dw r2.2)).bind fun r4 =>
 ifP (r4.2 = (dw r2.2)) <|
 (fa P 30 r4.1 0 (dw r2.2)).bind fun r5 =>
 ifP (r5.2 = (dw r2.2)) <|
 (ld P 28 r5.1 (dw r2.2)).bind fun r6 =>
 ifP (r6.2 = (dw r2.2)) <|
 (vl (e 5) (dw r2.2)).bind fun r7 =>
 ifP (r7.2 = (dw r2.2)) <|
 (vl (e 0) (dw r2.2)).bind fun r8 =>
 ifP (r8.2 = (dw r2.2)) <|
 (EV P 109 #[r8.1] (dw r2.2)).bind fun r9 =>
 ifP (ld P 28 r5.1 r9.2 = some (r6.1, r9.2) ∧ fa P 30 r4.1 0 r9.2 = some (r5.1, r9.2) ∧ fa P 32 (e 3) 2 r9.2 = some (r4.1, r9.2) ∧ True) <|
 (ia P 28 r6.1 r7.1 r9.2).bind fun r10 =>
 ifP (r10.2 = r9.2) <|
 (st P 27 r10.1 r9.1 r9.2).bind fun r11 =>
 ifP (True ∧ True ∧ True ∧ True ∧ True) <|
 (fa P 32 (e 3) 2 r11.2).bind fun r12 =>
 (fa P 30 r12.1 0 r12.2).bind fun r13 =>
 (ld P 28 r13.1 r13.2).bind fun r14 =>
 (vl (e 5) r14.2).bind fun r15 =>
 (ia P 28 r14.1 r15.1 r15.2).bind fun r16 =>
 (fa P 27 r16.1 0 r16.2).bind fun r17 =>
 (ld P 3 r17.1 r17.2).bind fun r18 =>
 (vl (e 4) r18.2).bind fun r19 =>
 (bo P .gtr 3 (.tmp 29) (.tmp 30) r18.1 r19.1 r19.2).bind fun r20 =>
 cnd r20.1 (
 (fa P 32 (e 3) 2 r20.2).bind fun r21 =>
 (fa P 30 r21.1 0 r21.2).bind fun r22 =>
 (ld P 28 r22.1 r22.2).bind fun r23 =>
 (vl (e 5) r23.2).bind fun r24 =>
 (ia P 28 r23.1 r24.1 r24.2).bind fun r25 =>
 (fa P 27 r25.1 0 r25.2).bind fun r26 =>
 (ld P 3 r26.1 r26.2).bind fun r27 =>
 (vl r27.1 r27.2).bind fun r28 =>
 spec_l20Ver_j1 (ups e [(12, r1.1), (13, r2.1), (16, r4.1), (17, r5.1), (18, r6.1), (19, r7.1), (20, r8.1), (21, r9.1), (22, r10.1), (23, r12.1), (24, r13.1), (25, r14.1), (26, r15.1), (27, r16.1), (28, r17.1), (29, r18.1), (30, r19.1), (31, r20.1), (32, r21.1), (33, r22.1), (34, r23.1), (35, r24.1), (36, r25.1), (37, r26.1), (38, r27.1), (4, r28.1)]) r28.2) (
 spec_l20Ver_j1 (ups e [(12, r1.1), (13, r2.1), (16, r4.1), (17, r5.1), (18, r6.1), (19, r7.1), (20, r8.1), (21, r9.1), (22, r10.1), (23, r12.1), (24, r13.1), (25, r14.1), (26, r15.1), (27, r16.1), (28, r17.1), (29, r18.1), (30, r19.1), (31, r20.1)]) r20.2)) (
 (vl (e 4) r2.2).bind fun r29 =>
 (bo P .add 3 (.tmp 39) (.const (.int .i64 1)) r29.1 (.int .i64 1) r29.2).bind fun r30 =>
 (vl (e 0) r30.2).bind fun r31 =>
 (EV P 82 #[r31.1, (.int .i64 3)] r31.2).bind fun r32 =>
 (bo P .add 3 (.tmp 40) (.tmp 42) r30.1 r32.1 r32.2).bind fun r33 =>
 (vl (e 0) r33.2).bind fun r34 =>
 (EV P 82 #[r34.1, (.int .i64 3)] r34.2).bind fun r35 =>
 (bd P 27 #[(0, r33.1), (1, r35.1)] r35.2).bind fun r36 =>
 (fa P 32 (e 3) 1 r36.2).bind fun r37 =>
 (st P 27 r37.1 r36.1 r37.2).bind fun r38 =>
 (vl (e 0) r38.2).bind fun r39 =>
 (EV P 82 #[r39.1, (.int .i64 6)] r39.2).bind fun r40 =>
 (bo P .eql 3 (.tmp 49) (.const (.int .i64 0)) r40.1 (.int .i64 0) r40.2).bind fun r41 =>
 cnd r41.1 (
 (fa P 32 (e 3) 3 r41.2).bind fun r42 =>
 (st P 9 r42.1 (Go.Value.string { data := #[] }) r42.2).bind fun r43 =>
 (fa P 32 (e 3) 4 r43.2).bind fun r44 =>
 (st P 4 r44.1 (.bool true) r44.2).bind fun r45 =>
 spec_l20Ver_j2 (ups e [(12, r1.1), (13, r2.1), (39, r29.1), (40, r30.1), (41, r31.1), (42, r32.1), (43, r33.1), (44, r34.1), (45, r35.1), (46, r36.1), (47, r37.1), (48, r39.1), (49, r40.1), (50, r41.1), (51, r42.1), (52, r44.1)]) r45.2) (
 spec_l20Ver_j2 (ups e [(12, r1.1), (13, r2.1), (39, r29.1), (40, r30.1), (41, r31.1), (42, r32.1), (43, r33.1), (44, r34.1), (45, r35.1), (46, r36.1), (47, r37.1), (48, r39.1), (49, r40.1), (50, r41.1)]) r41.2)) := (exC_loop P (EV P) 83 54 (cA (cA (cB (cA (cB (cB (cB (Yi P 83)))))))) e w (Yj 0 (kSeq P (EV P) 83 54 (cB (cB (cB (cB (Yi P 83))))) (kFn P (fnOf P 83))))).trans (by kernel_rfl)
theorem spec_l20Ver_j1_eq (e : Env) (w : World) : spec_l20Ver_j1 e w =
 (vl (e 5) w).bind fun r1 =>
 (bo P .add 3 (.tmp 14) (.const (.int .i64 1)) r1.1 (.int .i64 1) r1.2).bind fun r2 =>
 (vl r2.1 r2.2).bind fun r3 =>
 spec_l20Ver_l1 (ups e [(14, r1.1), (15, r2.1), (5, r3.1)]) r3.2 := by kernel_rfl
theorem spec_l20Ver_j2_eq (e : Env) (w : World) : spec_l20Ver_j2 e w =
 (ld P 32 (e 3) w).bind fun r1 =>
 (st P 32 (e 2) r1.1 r1.2).bind fun r2 =>
 ((ld P 32 (e 2) r2.2).bind fun r3 => ifP (r3.2 = r2.2) (some r3.1)).bind fun v4 =>
 some (v4, r2.2) := by kernel_rfl
theorem spec_l20Ver_fn (x0 : Value) (w : World) : fnC P (EV P) 83 #[x0] w =
 (al P 32 w).bind fun r1 =>
 (vl x0 r1.2).bind fun r2 =>
 (EV P 82 #[r2.1, (.int .i64 4)] r2.2).bind fun r3 =>
 (EV P 108 #[] r3.2).bind fun r4 =>
 (vl x0 r4.2).bind fun r5 =>
 (EV P 115 #[r5.1] r5.2).bind fun r6 =>
 (bd P 32 #[(0, r3.1), (2, r4.1), (3, r6.1)] r6.2).bind fun r7 =>
 (al P 32 r7.2).bind fun r8 =>
 (st P 32 r8.1 r7.1 r8.2).bind fun r9 =>
 (vl (.int .i64 0) r9.2).bind fun r10 =>
 (vl (.int .i64 0) r10.2).bind fun r11 =>
 spec_l20Ver_l1 (ups (env0 #[x0]) [(2, r1.1), (6, r2.1), (7, r3.1), (8, r4.1), (9, r5.1), (10, r6.1), (11, r7.1), (3, r8.1), (4, r10.1), (5, r11.1)]) r11.2 := by kernel_rfl
theorem spec_l20Rd_of_fn (x0 x1 : Value) (w : World) : fnC P (EV P) 84 #[x0, x1] w =
 (vl (Go.Value.string { data := #[] }) w).bind fun r1 =>
 (vl x1 r1.2).bind fun r2 =>
 (vl x0 r2.2).bind fun r3 =>
 (vl x1 r3.2).bind fun r4 =>
 (Yo P #[98] 3 #[r4.1] r4.2).bind fun r5 =>
 (EV P 82 #[r3.1, r5.1] r5.2).bind fun r6 =>
 (ia P 98 r2.1 r6.1 r6.2).bind fun r7 =>
 (ld P 9 r7.1 r7.2).bind fun r8 =>
 (vl r8.1 r8.2).bind fun r9 =>
 some (r9.1, r9.2) := by kernel_rfl
theorem spec_l20AnyTag_fn (x0 : Value) (w : World) : fnC P (EV P) 85 #[x0] w =
 (al P 27 w).bind fun r1 =>
 (vl x0 r1.2).bind fun r2 =>
 (EV P 82 #[r2.1, (.int .i64 8)] r2.2).bind fun r3 =>
 (bo P .eql 3 (.tmp 4) (.const (.int .i64 0)) r3.1 (.int .i64 0) r3.2).bind fun r4 =>
 cnd r4.1 (
 (vl x0 r4.2).bind fun r5 =>
 (bs P 85 4 #[(0, (.int .i64 0)), (1, (.int .i64 (-1))), (2, (.int .i64 1000)), (3, (.int .i64 999))] r5.2).bind fun r6 =>
 (EV P 62 #[r5.1, r6.1] r6.2).bind fun r7 =>
 (vl x0 r7.2).bind fun r8 =>
 (bs P 85 4 #[(0, (.int .i64 0)), (1, (.int .i64 1)), (2, (.int .i64 3)), (3, (.int .i64 (-1)))] r8.2).bind fun r9 =>
 (EV P 62 #[r8.1, r9.1] r9.2).bind fun r10 =>
 (bd P 27 #[(0, r7.1), (1, r10.1)] r10.2).bind fun r11 =>
 (st P 27 r1.1 r11.1 r11.2).bind fun r12 =>
 ((ld P 27 r1.1 r12.2).bind fun r13 => ifP (r13.2 = r12.2) (some r13.1)).bind fun v14 =>
 some (v14, r12.2)) (
 (vl x0 r4.2).bind fun r15 =>
 (EV P 109 #[r15.1] r15.2).bind fun r16 =>
 (st P 27 r1.1 r16.1 r16.2).bind fun r17 =>
 ((ld P 27 r1.1 r17.2).bind fun r18 => ifP (r18.2 = r17.2) (some r18.1)).bind fun v19 =>
 some (v19, r17.2)) := by kernel_rfl
noncomputable def impl_Chain_copied_l1 (e : Env) (w : World) : Option (Value × World) := exC P (EV P) 86 32 (.loop (cA (cA (cB (cA (cB (cB (Yi P 86)))))))) e w (Yj 0 (kSeq P (EV P) 86 32 (cB (cB (cB (Yi P 86)))) (kFn P (fnOf P 86))))
theorem impl_Chain_copied_l1_eq (e : Env) (w : World) : impl_Chain_copied_l1 e w =
 (bo P .lss 3 (.tmp 14) (.tmp 13) (e 14) (e 13) w).bind fun r1 =>
 cnd r1.1 (
 (ia P 23 (e 12) (e 14) r1.2).bind fun r2 =>
 (ld P 45 r2.1 r2.2).bind fun r3 =>
 (al P 45 r3.2).bind fun r4 =>
 (st P 45 r4.1 r3.1 r4.2).bind fun r5 =>
 (fa P 25 (e 3) 0 (dw r5.2)).bind fun r7 =>
 ifP (r7.2 = (dw r5.2)) <|
 (ld P 23 r7.1 (dw r5.2)).bind fun r8 =>
 ifP (r8.2 = (dw r5.2)) <|
 (fa P 45 r4.1 0 (dw r5.2)).bind fun r9 =>
 ifP (r9.2 = (dw r5.2)) <|
 (ld P 43 r9.1 (dw r5.2)).bind fun r10 =>
 ifP (r10.2 = (dw r5.2)) <|
 (fa P 45 r4.1 1 (dw r5.2)).bind fun r11 =>
 ifP (r11.2 = (dw r5.2)) <|
 (ld P 41 r11.1 (dw r5.2)).bind fun r12 =>
 ifP (r12.2 = (dw r5.2)) <|
 (EV P 59 #[r10.1] (dw r5.2)).bind fun r13 =>
 ifP (ld P 41 r11.1 r13.2 = some (r12.1, r13.2) ∧ fa P 45 r4.1 1 r13.2 = some (r11.1, r13.2) ∧ True ∧ True ∧ ld P 23 r7.1 r13.2 = some (r8.1, r13.2) ∧ fa P 25 (e 3) 0 r13.2 = some (r7.1, r13.2) ∧ True) <|
 (EV P 101 #[r12.1] r13.2).bind fun r14 =>
 ifP (True ∧ True ∧ True ∧ True ∧ ld P 23 r7.1 r14.2 = some (r8.1, r14.2) ∧ fa P 25 (e 3) 0 r14.2 = some (r7.1, r14.2) ∧ True) <|
 (bd P 45 #[(0, r13.1), (1, r14.1)] r14.2).bind fun r15 =>
 ifP (r15.2 = r14.2) <|
 (bs P 23 1 #[(0, r15.1)] r14.2).bind fun r16 =>
 ifP (True ∧ True ∧ True ∧ True ∧ True ∧ ld P 23 r7.1 r16.2 = some (r8.1, r16.2) ∧ fa P 25 (e 3) 0 r16.2 = some (r7.1, r16.2) ∧ True) <|
 (b_append P #[23, 23] 23 #[r8.1, r16.1] r16.2).bind fun r17 =>
 ifP (True ∧ True ∧ True ∧ True ∧ True ∧ True ∧ True ∧ True) <|
 (fa P 25 (e 3) 0 r17.2).bind fun r18 =>
 ifP (r18.2 = r17.2) <|
 (st P 23 r18.1 r17.1 r17.2).bind fun r19 =>
 ifP (True ∧ True ∧ True ∧ True ∧ True ∧ True ∧ True ∧ True ∧ True) <|
 (bo P .add 3 (.tmp 14) (.const (.int .i64 1)) (e 14) (.int .i64 1) r19.2).bind fun r20 =>
 (vl r20.1 r20.2).bind fun r21 =>
 impl_Chain_copied_l1 (ups e [(15, r1.1), (16, r2.1), (17, r3.1), (5, r4.1), (18, r7.1), (19, r8.1), (20, r9.1), (21, r10.1), (23, r11.1), (24, r12.1), (22, r13.1), (25, r14.1), (26, r15.1), (27, r16.1), (28, r17.1), (29, r18.1), (30, r20.1), (14, r21.1)]) r21.2) (
 (ld P 25 (e 3) r1.2).bind fun r22 =>
 (st P 25 (e 2) r22.1 r22.2).bind fun r23 =>
 ((ld P 25 (e 2) r23.2).bind fun r24 => ifP (r24.2 = r23.2) (some r24.1)).bind fun v25 =>
 some (v25, r23.2)) := (exC_loop P (EV P) 86 32 (cA (cA (cB (cA (cB (cB (Yi P 86))))))) e w (Yj 0 (kSeq P (EV P) 86 32 (cB (cB (cB (Yi P 86)))) (kFn P (fnOf P 86))))).trans (by kernel_rfl)
theorem impl_Chain_copied_fn (x0 : Value) (w : World) : fnC P (EV P) 86 #[x0] w =
 (bx P 25 x0 w).bind fun r1 =>
 (al P 25 r1.2).bind fun r2 =>
 (fa P 25 r1.1 0 r2.2).bind fun r3 =>
 (ld P 23 r3.1 r3.2).bind fun r4 =>
 (Yo P #[23] 3 #[r4.1] r4.2).bind fun r5 =>
 (ms P 23 (.int .i64 0) r5.1 r5.2).bind fun r6 =>
 (bd P 25 #[(0, r6.1)] r6.2).bind fun r7 =>
 (al P 25 r7.2).bind fun r8 =>
 (st P 25 r8.1 r7.1 r8.2).bind fun r9 =>
 (fa P 25 r1.1 0 r9.2).bind fun r10 =>
 (ld P 23 r10.1 r10.2).bind fun r11 =>
 (Yo P #[23] 3 #[r11.1] r11.2).bind fun r12 =>
 (vl (.int .i64 0) r12.2).bind fun r13 =>
 impl_Chain_copied_l1 (ups (env0 #[x0]) [(1, r1.1), (2, r2.1), (6, r3.1), (7, r4.1), (8, r5.1), (9, r6.1), (10, r7.1), (3, r8.1), (11, r10.1), (12, r11.1), (13, r12.1), (14, r13.1)]) r13.2 := by kernel_rfl
theorem impl_Chain_full_fn (x0 x1 : Value) (w : World) : fnC P (EV P) 87 #[x0, x1] w =
 (vl (.bool false) w).bind fun r1 =>
 (vl x0 r1.2).bind fun r2 =>
 (nk P r2.1 r2.2).bind fun r3 =>
 (fa P 25 r3.1 0 r3.2).bind fun r4 =>
 (ld P 23 r4.1 r4.2).bind fun r5 =>
 (vl x1 r5.2).bind fun r6 =>
 (ia P 23 r5.1 r6.1 r6.2).bind fun r7 =>
 (fa P 45 r7.1 1 r7.2).bind fun r8 =>
 (ld P 41 r8.1 r8.2).bind fun r9 =>
 (Yo P #[41] 3 #[r9.1] r9.2).bind fun r10 =>
 (bo P .geq 3 (.tmp 13) (.const (.int .i64 6)) r10.1 (.int .i64 6) r10.2).bind fun r11 =>
 (vl r11.1 r11.2).bind fun r12 =>
 some (r12.1, r12.2) := by kernel_rfl
theorem impl_Chain_apply_fn (x0 x1 x2 : Value) (w : World) : fnC P (EV P) 88 #[x0, x1, x2] w =
 (bx P 32 x2 w).bind fun r1 =>
 (vl x0 r1.2).bind fun r2 =>
 (nk P r2.1 r2.2).bind fun r3 =>
 (fa P 25 r3.1 0 r3.2).bind fun r4 =>
 (ld P 23 r4.1 r4.2).bind fun r5 =>
 (vl x1 r5.2).bind fun r6 =>
 (ia P 23 r5.1 r6.1 r6.2).bind fun r7 =>
 (vl r7.1 r7.2).bind fun r8 =>
 (vl r8.1 (dw r8.2)).bind fun r10 =>
 ifP (r10.2 = (dw r8.2)) <|
 (nk P r10.1 (dw r8.2)).bind fun r11 =>
 ifP (r11.2 = (dw r8.2)) <|
 (fa P 45 r11.1 0 (dw r8.2)).bind fun r12 =>
 ifP (r12.2 = (dw r8.2)) <|
 (ld P 43 r12.1 (dw r8.2)).bind fun r13 =>
 ifP (r13.2 = (dw r8.2)) <|
 (ld P 32 r1.1 (dw r8.2)).bind fun r14 =>
 ifP (r14.2 = (dw r8.2)) <|
 (EV P 60 #[r13.1, r14.1] (dw r8.2)).bind fun r15 =>
 ifP (True ∧ True ∧ True ∧ True ∧ True) <|
 (uo P .not r15.1 r15.2).bind fun r16 =>
 ifP (r16.2 = r15.2) <|
 cnd r16.1 (
 some (.tuple #[], r15.2)) (
 (vl r8.1 (dw r15.2)).bind fun r18 =>
 ifP (r18.2 = (dw r15.2)) <|
 (nk P r18.1 (dw r15.2)).bind fun r19 =>
 ifP (r19.2 = (dw r15.2)) <|
 (fa P 45 r19.1 0 (dw r15.2)).bind fun r20 =>
 ifP (r20.2 = (dw r15.2)) <|
 (fa P 43 r20.1 0 (dw r15.2)).bind fun r21 =>
 ifP (r21.2 = (dw r15.2)) <|
 (ld P 41 r21.1 (dw r15.2)).bind fun r22 =>
 ifP (r22.2 = (dw r15.2)) <|
 (fa P 32 r1.1 0 (dw r15.2)).bind fun r23 =>
 ifP (r23.2 = (dw r15.2)) <|
 (ld P 3 r23.1 (dw r15.2)).bind fun r24 =>
 ifP (r24.2 = (dw r15.2)) <|
 (ld P 32 r1.1 (dw r15.2)).bind fun r25 =>
 ifP (r25.2 = (dw r15.2)) <|
 (EV P 61 #[r25.1] (dw r15.2)).bind fun r26 =>
 ifP (True ∧ ld P 3 r23.1 r26.2 = some (r24.1, r26.2) ∧ fa P 32 r1.1 0 r26.2 = some (r23.1, r26.2) ∧ ld P 41 r21.1 r26.2 = some (r22.1, r26.2) ∧ fa P 43 r20.1 0 r26.2 = some (r21.1, r26.2) ∧ fa P 45 r19.1 0 r26.2 = some (r20.1, r26.2) ∧ nk P r18.1 r26.2 = some (r19.1, r26.2) ∧ True) <|
 (ia P 41 r22.1 r24.1 r26.2).bind fun r27 =>
 ifP (r27.2 = r26.2) <|
 (st P 32 r27.1 r26.1 r26.2).bind fun r28 =>
 ifP (True ∧ True ∧ True ∧ True ∧ True ∧ True ∧ True ∧ True ∧ True) <|
 (vl x0 r28.2).bind fun r29 =>
 (nk P r29.1 r29.2).bind fun r30 =>
 (ld P 25 r30.1 r30.2).bind fun r31 =>
 (vl x1 r31.2).bind fun r32 =>
 (EV P 53 #[r31.1, r32.1] r32.2).bind fun r33 =>
 (uo P .not r33.1 r33.2).bind fun r34 =>
 cnd r34.1 (
 (vl r8.1 (dw r34.2)).bind fun r36 =>
 ifP (r36.2 = (dw r34.2)) <|
 (vl r8.1 (dw r34.2)).bind fun r37 =>
 ifP (r37.2 = (dw r34.2)) <|
 (nk P r37.1 (dw r34.2)).bind fun r38 =>
 ifP (r38.2 = (dw r34.2)) <|
 (fa P 45 r38.1 1 (dw r34.2)).bind fun r39 =>
 ifP (r39.2 = (dw r34.2)) <|
 (ld P 41 r39.1 (dw r34.2)).bind fun r40 =>
 ifP (r40.2 = (dw r34.2)) <|
 (ld P 32 r1.1 (dw r34.2)).bind fun r41 =>
 ifP (r41.2 = (dw r34.2)) <|
 (EV P 61 #[r41.1] (dw r34.2)).bind fun r42 =>
 ifP (True ∧ ld P 41 r39.1 r42.2 = some (r40.1, r42.2) ∧ fa P 45 r38.1 1 r42.2 = some (r39.1, r42.2) ∧ nk P r37.1 r42.2 = some (r38.1, r42.2) ∧ True) <|
 (bs P 41 1 #[(0, r42.1)] r42.2).bind fun r43 =>
 ifP (True ∧ ld P 41 r39.1 r43.2 = some (r40.1, r43.2) ∧ fa P 45 r38.1 1 r43.2 = some (r39.1, r43.2) ∧ nk P r37.1 r43.2 = some (r38.1, r43.2) ∧ True) <|
 (b_append P #[41, 41] 41 #[r40.1, r43.1] r43.2).bind fun r44 =>
 ifP (True ∧ True ∧ True ∧ True ∧ True) <|
 (EV P 103 #[r44.1] r44.2).bind fun r45 =>
 ifP (True ∧ True ∧ True ∧ True ∧ True) <|
 (nk P r36.1 r45.2).bind fun r46 =>
 ifP (r46.2 = r45.2) <|
 (fa P 45 r46.1 1 r45.2).bind fun r47 =>
 ifP (r47.2 = r45.2) <|
 (st P 41 r47.1 r45.1 r45.2).bind fun r48 =>
 ifP (True ∧ True ∧ True ∧ True ∧ True ∧ True ∧ True) <|
 some (.tuple #[], r48.2)) (
 some (.tuple #[], r34.2))) := by kernel_rfl
noncomputable def spec_l3Next_l1 (e : Env) (w : World) : Option (Value × World) := exC P (EV P) 89 51 (.loop (cA (cA (cB (cA (cB (cB (cB (Yi P 89))))))))) e w (Yj 0 (kSeq P (EV P) 89 51 (cB (cB (cB (cB (Yi P 89))))) (kFn P (fnOf P 89))))
theorem spec_l3Next_l1_eq (e : Env) (w : World) : spec_l3Next_l1 e w =
 (vl (e 6) w).bind fun r1 =>
 (fa P 45 (e 2) 1 r1.2).bind fun r2 =>
 (ld P 41 r2.1 r2.2).bind fun r3 =>
 (Yo P #[41] 3 #[r3.1] r3.2).bind fun r4 =>
 (bo P .lss 3 (.tmp 14) (.tmp 17) r1.1 r4.1 r4.2).bind fun r5 =>
 cnd r5.1 (
 (fa P 43 (e 5) 0 (dw r5.2)).bind fun r7 =>
 ifP (r7.2 = (dw r5.2)) <|
 (ld P 41 r7.1 (dw r5.2)).bind fun r8 =>
 ifP (r8.2 = (dw r5.2)) <|
 (fa P 45 (e 2) 1 (dw r5.2)).bind fun r9 =>
 ifP (r9.2 = (dw r5.2)) <|
 (ld P 41 r9.1 (dw r5.2)).bind fun r10 =>
 ifP (r10.2 = (dw r5.2)) <|
 (vl (e 6) (dw r5.2)).bind fun r11 =>
 ifP (r11.2 = (dw r5.2)) <|
 (ia P 41 r10.1 r11.1 (dw r5.2)).bind fun r12 =>
 ifP (r12.2 = (dw r5.2)) <|
 (fa P 32 r12.1 0 (dw r5.2)).bind fun r13 =>
 ifP (r13.2 = (dw r5.2)) <|
 (ld P 3 r13.1 (dw r5.2)).bind fun r14 =>
 ifP (r14.2 = (dw r5.2)) <|
 (ia P 41 r8.1 r14.1 (dw r5.2)).bind fun r15 =>
 ifP (r15.2 = (dw r5.2)) <|
 (fa P 32 r15.1 1 (dw r5.2)).bind fun r16 =>
 ifP (r16.2 = (dw r5.2)) <|
 (ld P 27 r16.1 (dw r5.2)).bind fun r17 =>
 ifP (r17.2 = (dw r5.2)) <|
 (fa P 45 (e 2) 1 (dw r5.2)).bind fun r18 =>
 ifP (r18.2 = (dw r5.2)) <|
 (ld P 41 r18.1 (dw r5.2)).bind fun r19 =>
 ifP (r19.2 = (dw r5.2)) <|
 (vl (e 6) (dw r5.2)).bind fun r20 =>
 ifP (r20.2 = (dw r5.2)) <|
 (ia P 41 r19.1 r20.1 (dw r5.2)).bind fun r21 =>
 ifP (r21.2 = (dw r5.2)) <|
 (fa P 32 r21.1 1 (dw r5.2)).bind fun r22 =>
 ifP (r22.2 = (dw r5.2)) <|
 (ld P 27 r22.1 (dw r5.2)).bind fun r23 =>
 ifP (r23.2 = (dw r5.2)) <|
 (EV P 94 #[r17.1, r23.1] (dw r5.2)).bind fun r24 =>
 ifP (True ∧ True ∧ True ∧ True ∧ True ∧ True ∧ True ∧ True ∧ True ∧ True ∧ True ∧ True ∧ True ∧ True ∧ True ∧ True) <|
 (uo P .not r24.1 r24.2).bind fun r25 =>
 ifP (r25.2 = r24.2) <|
 cnd r25.1 (
 (vl (.bool false) r24.2).bind fun r26 =>
 some (r26.1, r26.2)) (
 (ld P 43 (e 5) (dw r24.2)).bind fun r28 =>
 ifP (r28.2 = (dw r24.2)) <|
 (fa P 45 (e 2) 1 (dw r24.2)).bind fun r29 =>
 ifP (r29.2 = (dw r24.2)) <|
 (ld P 41 r29.1 (dw r24.2)).bind fun r30 =>
 ifP (r30.2 = (dw r24.2)) <|
 (vl (e 6) (dw r24.2)).bind fun r31 =>
 ifP (r31.2 = (dw r24.2)) <|
 (ia P 41 r30.1 r31.1 (dw r24.2)).bind fun r32 =>
 ifP (r32.2 = (dw r24.2)) <|
 (ld P 32 r32.1 (dw r24.2)).bind fun r33 =>
 ifP (r33.2 = (dw r24.2)) <|
 (EV P 69 #[r28.1, r33.1] (dw r24.2)).bind fun r34 =>
 ifP (True ∧ True ∧ True ∧ True ∧ True ∧ True) <|
 (st P 43 (e 5) r34.1 r34.2).bind fun r35 =>
 ifP (True ∧ True ∧ True ∧ True ∧ True ∧ True) <|
 (vl (e 6) r35.2).bind fun r36 =>
 (bo P .add 3 (.tmp 19) (.const (.int .i64 1)) r36.1 (.int .i64 1) r36.2).bind fun r37 =>
 (vl r37.1 r37.2).bind fun r38 =>
 spec_l3Next_l1 (ups e [(14, r1.1), (15, r2.1), (16, r3.1), (17, r4.1), (18, r5.1), (21, r7.1), (22, r8.1), (23, r9.1), (24, r10.1), (25, r11.1), (26, r12.1), (27, r13.1), (28, r14.1), (29, r15.1), (30, r16.1), (31, r17.1), (32, r18.1), (33, r19.1), (34, r20.1), (35, r21.1), (36, r22.1), (37, r23.1), (38, r24.1), (39, r25.1), (40, r28.1), (41, r29.1), (42, r30.1), (43, r31.1), (44, r32.1), (45, r33.1), (46, r34.1), (19, r36.1), (20, r37.1), (6, r38.1)]) r38.2)) (
 (ld P 43 (e 5) r5.2).bind fun r39 =>
 (fa P 45 (e 2) 0 r39.2).bind fun r40 =>
 (ld P 43 r40.1 r40.2).bind fun r41 =>
 (EV P 116 #[r39.1, r41.1] r41.2).bind fun r42 =>
 (vl r42.1 r42.2).bind fun r43 =>
 some (r43.1, r43.2)) := (exC_loop P (EV P) 89 51 (cA (cA (cB (cA (cB (cB (cB (Yi P 89)))))))) e w (Yj 0 (kSeq P (EV P) 89 51 (cB (cB (cB (cB (Yi P 89))))) (kFn P (fnOf P 89))))).trans (by kernel_rfl)
theorem spec_l3Next_fn (x0 x1 : Value) (w : World) : fnC P (EV P) 89 #[x0, x1] w =
 (bx P 45 x0 w).bind fun r1 =>
 (bx P 45 x1 r1.2).bind fun r2 =>
 (vl (.bool false) r2.2).bind fun r3 =>
 (fa P 45 r2.1 0 r3.2).bind fun r4 =>
 (ld P 43 r4.1 r4.2).bind fun r5 =>
 (EV P 68 #[r5.1] r5.2).bind fun r6 =>
 (uo P .not r6.1 r6.2).bind fun r7 =>
 cnd r7.1 (
 (vl (.bool false) r7.2).bind fun r8 =>
 some (r8.1, r8.2)) (
 (fa P 45 r2.1 0 r7.2).bind fun r9 =>
 (ld P 43 r9.1 r9.2).bind fun r10 =>
 (EV P 70 #[r10.1] r10.2).bind fun r11 =>
 (al P 43 r11.2).bind fun r12 =>
 (st P 43 r12.1 r11.1 r12.2).bind fun r13 =>
 (vl (.int .i64 0) r13.2).bind fun r14 =>
 spec_l3Next_l1 (ups (env0 #[x0, x1]) [(2, r1.1), (3, r2.1), (4, r3.1), (7, r4.1), (8, r5.1), (9, r6.1), (10, r7.1), (11, r9.1), (12, r10.1), (13, r11.1), (5, r12.1), (6, r14.1)]) r14.2) := by kernel_rfl
theorem spec_l1In_fn (x0 x1 x2 : Value) (w : World) : fnC P (EV P) 90 #[x0, x1, x2] w =
 (vl (.bool false) w).bind fun r1 =>
 (vl x0 r1.2).bind fun r2 =>
 (vl x1 r2.2).bind fun r3 =>
 (bo P .geq 3 (.tmp 7) (.tmp 8) r2.1 r3.1 r3.2).bind fun r4 =>
 (vl r4.1 r4.2).bind fun r5 =>
 (gif r5.1 true (vl x0 r5.2) r5.2).bind fun r6 =>
 (gif r5.1 true (vl x2 r6.2) r6.2).bind fun r7 =>
 (gif r5.1 true (bo P .leq 3 (.tmp 11) (.tmp 12) r6.1 r7.1 r7.2) r7.2).bind fun r8 =>
 (pickV r5.1 r8.1 (.bool false) r8.2).bind fun r9 =>
 (vl r9.1 r9.2).bind fun r10 =>
 some (r10.1, r10.2) := by kernel_rfl
noncomputable def spec_l2TextOk_l1 (e : Env) (w : World) : Option (Value × World) := exC P (EV P) 91 23 (.loop (cA (cA (cB (cA (cB (Yi P 91))))))) e w (Yj 0 (kSeq P (EV P) 91 23 (cB (cB (Yi P 91))) (kFn P (fnOf P 91))))
theorem spec_l2TextOk_l1_eq (e : Env) (w : World) : spec_l2TextOk_l1 e w =
 (vl (e 3) w).bind fun r1 =>
 (vl (e 0) r1.2).bind fun r2 =>
 (Yo P #[9] 3 #[r2.1] r2.2).bind fun r3 =>
 (bo P .lss 3 (.tmp 4) (.tmp 6) r1.1 r3.1 r3.2).bind fun r4 =>
 cnd r4.1 (
 (vl (e 0) r4.2).bind fun r5 =>
 (vl (e 3) r5.2).bind fun r6 =>
 (ix P 9 r5.1 r6.1 r6.2).bind fun r7 =>
 (bo P .lss 5 (.tmp 12) (.const (.int .u8 33)) r7.1 (.int .u8 33) r7.2).bind fun r8 =>
 (vl r8.1 r8.2).bind fun r9 =>
 (gif r9.1 false (vl (e 0) r9.2) r9.2).bind fun r10 =>
 (gif r9.1 false (vl (e 3) r10.2) r10.2).bind fun r11 =>
 (gif r9.1 false (ix P 9 r10.1 r11.1 r11.2) r11.2).bind fun r12 =>
 (gif r9.1 false (bo P .gtr 5 (.tmp 17) (.const (.int .u8 126)) r12.1 (.int .u8 126) r12.2) r12.2).bind fun r13 =>
 (pickV r9.1 (.bool true) r13.1 r13.2).bind fun r14 =>
 cnd r14.1 (
 (vl (.bool false) r14.2).bind fun r15 =>
 some (r15.1, r15.2)) (
 (vl (e 3) r14.2).bind fun r16 =>
 (bo P .add 3 (.tmp 8) (.const (.int .i64 1)) r16.1 (.int .i64 1) r16.2).bind fun r17 =>
 (vl r17.1 r17.2).bind fun r18 =>
 spec_l2TextOk_l1 (ups e [(4, r1.1), (5, r2.1), (6, r3.1), (7, r4.1), (10, r5.1), (11, r6.1), (12, r7.1), (13, r8.1), (14, r9.1), (15, r10.1), (16, r11.1), (17, r12.1), (18, r13.1), (19, r14.1), (8, r16.1), (9, r17.1), (3, r18.1)]) r18.2)) (
 (vl (e 0) r4.2).bind fun r19 =>
 (Yo P #[9] 3 #[r19.1] r19.2).bind fun r20 =>
 (bo P .leq 3 (.tmp 21) (.const (.int .i64 8)) r20.1 (.int .i64 8) r20.2).bind fun r21 =>
 (vl r21.1 r21.2).bind fun r22 =>
 some (r22.1, r22.2)) := (exC_loop P (EV P) 91 23 (cA (cA (cB (cA (cB (Yi P 91)))))) e w (Yj 0 (kSeq P (EV P) 91 23 (cB (cB (Yi P 91))) (kFn P (fnOf P 91))))).trans (by kernel_rfl)
theorem spec_l2TextOk_fn (x0 : Value) (w : World) : fnC P (EV P) 91 #[x0] w =
 (vl (.bool false) w).bind fun r1 =>
 (vl (.int .i64 0) r1.2).bind fun r2 =>
 spec_l2TextOk_l1 (ups (env0 #[x0]) [(2, r1.1), (3, r2.1)]) r2.2 := by kernel_rfl
theorem spec_l1TagOk_fn (x0 : Value) (w : World) : fnC P (EV P) 92 #[x0] w =
 (bx P 27 x0 w).bind fun r1 =>
 (vl (.bool false) r1.2).bind fun r2 =>
 (ld P 27 r1.1 r2.2).bind fun r3 =>
 (bd P 27 #[] r3.2).bind fun r4 =>
 (bo P .eql 27 (.tmp 3) (.tmp 4) r3.1 r4.1 r4.2).bind fun r5 =>
 (vl r5.1 r5.2).bind fun r6 =>
 (gif r6.1 false (fa P 27 r1.1 0 r6.2) r6.2).bind fun r7 =>
 (gif r6.1 false (ld P 3 r7.1 r7.2) r7.2).bind fun r8 =>
 (gif r6.1 false (EV P 90 #[r8.1, (.int .i64 1), (.int .i64 999)] r8.2) r8.2).bind fun r9 =>
 (gif r6.1 false (vl r9.1 r9.2) r9.2).bind fun r10 =>
 (gif r10.1 true (fa P 27 r1.1 1 r10.2) r10.2).bind fun r11 =>
 (gif r10.1 true (ld P 3 r11.1 r11.2) r11.2).bind fun r12 =>
 (gif r10.1 true (EV P 90 #[r12.1, (.int .i64 0), (.int .i64 2)] r12.2) r12.2).bind fun r13 =>
 (gif r6.1 false (pickV r10.1 r13.1 (.bool false) r13.2) r13.2).bind fun r14 =>
 (pickV r6.1 (.bool true) r14.1 r14.2).bind fun r15 =>
 (vl r15.1 r15.2).bind fun r16 =>
 some (r16.1, r16.2) := by kernel_rfl
theorem spec_l2Copy_fn (x0 : Value) (w : World) : fnC P (EV P) 93 #[x0] w =
 (bx P 32 x0 w).bind fun r1 =>
 (al P 32 r1.2).bind fun r2 =>
 (bs P 28 0 #[] r2.2).bind fun r3 =>
 (fa P 32 r1.1 2 r3.2).bind fun r4 =>
 (fa P 30 r4.1 0 r4.2).bind fun r5 =>
 (ld P 28 r5.1 r5.2).bind fun r6 =>
 (b_append P #[28, 28] 28 #[r3.1, r6.1] r6.2).bind fun r7 =>
 (bd P 30 #[(0, r7.1)] r7.2).bind fun r8 =>
 (fa P 32 r1.1 2 r8.2).bind fun r9 =>
 (st P 30 r9.1 r8.1 r9.2).bind fun r10 =>
 (ld P 32 r1.1 r10.2).bind fun r11 =>
 (st P 32 r2.1 r11.1 r11.2).bind fun r12 =>
 ((ld P 32 r2.1 r12.2).bind fun r13 => ifP (r13.2 = r12.2) (some r13.1)).bind fun v14 =>
 some (v14, r12.2) := by kernel_rfl
theorem spec_l1Less_fn (x0 x1 : Value) (w : World) : fnC P (EV P) 94 #[x0, x1] w =
 (bx P 27 x0 w).bind fun r1 =>
 (bx P 27 x1 r1.2).bind fun r2 =>
 (vl (.bool false) r2.2).bind fun r3 =>
 (fa P 27 r1.1 0 r3.2).bind fun r4 =>
 (ld P 3 r4.1 r4.2).bind fun r5 =>
 (fa P 27 r2.1 0 r5.2).bind fun r6 =>
 (ld P 3 r6.1 r6.2).bind fun r7 =>
 (bo P .lss 3 (.tmp 6) (.tmp 8) r5.1 r7.1 r7.2).bind fun r8 =>
 (vl r8.1 r8.2).bind fun r9 =>
 (gif r9.1 false (fa P 27 r1.1 0 r9.2) r9.2).bind fun r10 =>
 (gif r9.1 false (ld P 3 r10.1 r10.2) r10.2).bind fun r11 =>
 (gif r9.1 false (fa P 27 r2.1 0 r11.2) r11.2).bind fun r12 =>
 (gif r9.1 false (ld P 3 r12.1 r12.2) r12.2).bind fun r13 =>
 (gif r9.1 false (bo P .eql 3 (.tmp 12) (.tmp 14) r11.1 r13.1 r13.2) r13.2).bind fun r14 =>
 (gif r9.1 false (vl r14.1 r14.2) r14.2).bind fun r15 =>
 (gif r15.1 true (fa P 27 r1.1 1 r15.2) r15.2).bind fun r16 =>
 (gif r15.1 true (ld P 3 r16.1 r16.2) r16.2).bind fun r17 =>
 (gif r15.1 true (fa P 27 r2.1 1 r17.2) r17.2).bind fun r18 =>
 (gif r15.1 true (ld P 3 r18.1 r18.2) r18.2).bind fun r19 =>
 (gif r15.1 true (bo P .lss 3 (.tmp 18) (.tmp 20) r17.1 r19.1 r19.2) r19.2).bind fun r20 =>
 (gif r9.1 false (pickV r15.1 r20.1 (.bool false) r20.2) r20.2).bind fun r21 =>
 (pickV r9.1 (.bool true) r21.1 r21.2).bind fun r22 =>
 (vl r22.1 r22.2).bind fun r23 =>
 some (r23.1, r23.2) := by kernel_rfl
theorem impl_within_fn (x0 x1 x2 : Value) (w : World) : fnC P (EV P) 95 #[x0, x1, x2] w =
 (vl (.bool false) w).bind fun r1 =>
 (vl x0 r1.2).bind fun r2 =>
 (vl x1 r2.2).bind fun r3 =>
 (bo P .geq 3 (.tmp 7) (.tmp 8) r2.1 r3.1 r3.2).bind fun r4 =>
 (vl r4.1 r4.2).bind fun r5 =>
 (gif r5.1 true (vl x0 r5.2) r5.2).bind fun r6 =>
 (gif r5.1 true (vl x2 r6.2) r6.2).bind fun r7 =>
 (gif r5.1 true (bo P .leq 3 (.tmp 11) (.tmp 12) r6.1 r7.1 r7.2) r7.2).bind fun r8 =>
 (pickV r5.1 r8.1 (.bool false) r8.2).bind fun r9 =>
 (vl r9.1 r9.2).bind fun r10 =>
 some (r10.1, r10.2) := by kernel_rfl
noncomputable def slices_IndexFunc_Ver_l1 (e : Env) (w : World) : Option (Value × World) := exC P (EV P) 96 19 (.loop (cA (cA (cB (cA (cB (Yi P 96))))))) e w (Yj 0 (kSeq P (EV P) 96 19 (cB (cB (Yi P 96))) (kFn P (fnOf P 96))))
theorem slices_IndexFunc_Ver_l1_eq (e : Env) (w : World) : slices_IndexFunc_Ver_l1 e w =
 (bo P .lss 3 (.tmp 8) (.tmp 7) (e 8) (e 7) w).bind fun r1 =>
 cnd r1.1 (
 (vl (e 8) r1.2).bind fun r2 =>
 (vl r2.1 r2.2).bind fun r3 =>
 (vl (e 1) r3.2).bind fun r4 =>
 (vl (e 0) r4.2).bind fun r5 =>
 (vl r3.1 r5.2).bind fun r6 =>
 (ia P 41 r5.1 r6.1 r6.2).bind fun r7 =>
 (ld P 32 r7.1 r7.2).bind fun r8 =>
 (clo P r4.1 #[r8.1] r8.2).bind fun r9 =>
 cnd r9.1 (
 (vl r3.1 r9.2).bind fun r10 =>
 (vl r10.1 r10.2).bind fun r11 =>
 some (r11.1, r11.2)) (
 (bo P .add 3 (.tmp 8) (.const (.int .i64 1)) (e 8) (.int .i64 1) r9.2).bind fun r12 =>
 (vl r12.1 r12.2).bind fun r13 =>
 slices_IndexFunc_Ver_l1 (ups e [(9, r1.1), (10, r2.1), (5, r3.1), (11, r4.1), (12, r5.1), (13, r6.1), (14, r7.1), (15, r8.1), (16, r9.1), (18, r12.1), (8, r13.1)]) r13.2)) (
 (vl (.int .i64 (-1)) r1.2).bind fun r14 =>
 some (r14.1, r14.2)) := (exC_loop P (EV P) 96 19 (cA (cA (cB (cA (cB (Yi P 96)))))) e w (Yj 0 (kSeq P (EV P) 96 19 (cB (cB (Yi P 96))) (kFn P (fnOf P 96))))).trans (by kernel_rfl)
theorem slices_IndexFunc_Ver_fn (x0 x1 : Value) (w : World) : fnC P (EV P) 96 #[x0, x1] w =
 (vl (.int .i64 0) w).bind fun r1 =>
 (vl x0 r1.2).bind fun r2 =>
 (Yo P #[41] 3 #[r2.1] r2.2).bind fun r3 =>
 (vl (.int .i64 0) r3.2).bind fun r4 =>
 slices_IndexFunc_Ver_l1 (ups (env0 #[x0, x1]) [(4, r1.1), (6, r2.1), (7, r3.1), (8, r4.1)]) r4.2 := by kernel_rfl
theorem impl_Store_same_fn (x0 x1 : Value) (w : World) : fnC P (EV P) 97 #[x0, x1] w =
 (bx P 43 x0 w).bind fun r1 =>
 (bx P 43 x1 r1.2).bind fun r2 =>
 (vl (.bool false) r2.2).bind fun r3 =>
 (fa P 43 r1.1 0 r3.2).bind fun r4 =>
 (ld P 41 r4.1 r4.2).bind fun r5 =>
 (fa P 43 r2.1 0 r5.2).bind fun r6 =>
 (ld P 41 r6.1 r6.2).bind fun r7 =>
 (EV P 117 #[r5.1, r7.1, (.func (.func 71) #[] #[])] r7.2).bind fun r8 =>
 (vl r8.1 r8.2).bind fun r9 =>
 some (r9.1, r9.2) := by kernel_rfl
theorem impl_keyOk_fn (x0 : Value) (w : World) : fnC P (EV P) 98 #[x0] w =
 (vl (.bool false) w).bind fun r1 =>
 (vl x0 r1.2).bind fun r2 =>
 (EV P 95 #[r2.1, (.int .i64 0), (.int .i64 3)] r2.2).bind fun r3 =>
 (vl r3.1 r3.2).bind fun r4 =>
 some (r4.1, r4.2) := by kernel_rfl
noncomputable def impl_textOk_l1 (e : Env) (w : World) : Option (Value × World) := exC P (EV P) 99 19 (.loop (cA (cA (cB (cA (cB (Yi P 99))))))) e w (Yj 0 (kSeq P (EV P) 99 19 (cB (cB (Yi P 99))) (kFn P (fnOf P 99))))
theorem impl_textOk_l1_eq (e : Env) (w : World) : impl_textOk_l1 e w =
 (bo P .lss 3 (.tmp 6) (.tmp 5) (e 6) (e 5) w).bind fun r1 =>
 cnd r1.1 (
 (vl (e 6) r1.2).bind fun r2 =>
 (vl r2.1 r2.2).bind fun r3 =>
 (vl (e 0) r3.2).bind fun r4 =>
 (vl r3.1 r4.2).bind fun r5 =>
 (ix P 9 r4.1 r5.1 r5.2).bind fun r6 =>
 (cv P 5 3 r6.1 r6.2).bind fun r7 =>
 (EV P 95 #[r7.1, (.int .i64 33), (.int .i64 126)] r7.2).bind fun r8 =>
 (uo P .not r8.1 r8.2).bind fun r9 =>
 cnd r9.1 (
 (vl (.bool false) r9.2).bind fun r10 =>
 some (r10.1, r10.2)) (
 (bo P .add 3 (.tmp 6) (.const (.int .i64 1)) (e 6) (.int .i64 1) r9.2).bind fun r11 =>
 (vl r11.1 r11.2).bind fun r12 =>
 impl_textOk_l1 (ups e [(7, r1.1), (8, r2.1), (3, r3.1), (9, r4.1), (10, r5.1), (11, r6.1), (12, r7.1), (13, r8.1), (14, r9.1), (15, r11.1), (6, r12.1)]) r12.2)) (
 (vl (e 0) r1.2).bind fun r13 =>
 (Yo P #[9] 3 #[r13.1] r13.2).bind fun r14 =>
 (bo P .leq 3 (.tmp 17) (.const (.int .i64 8)) r14.1 (.int .i64 8) r14.2).bind fun r15 =>
 (vl r15.1 r15.2).bind fun r16 =>
 some (r16.1, r16.2)) := (exC_loop P (EV P) 99 19 (cA (cA (cB (cA (cB (Yi P 99)))))) e w (Yj 0 (kSeq P (EV P) 99 19 (cB (cB (Yi P 99))) (kFn P (fnOf P 99))))).trans (by kernel_rfl)
theorem impl_textOk_fn (x0 : Value) (w : World) : fnC P (EV P) 99 #[x0] w =
 (vl (.bool false) w).bind fun r1 =>
 (vl x0 r1.2).bind fun r2 =>
 (Yo P #[9] 3 #[r2.1] r2.2).bind fun r3 =>
 (vl (.int .i64 0) r3.2).bind fun r4 =>
 impl_textOk_l1 (ups (env0 #[x0]) [(2, r1.1), (4, r2.1), (5, r3.1), (6, r4.1)]) r4.2 := by kernel_rfl
theorem impl_placeOk_fn (x0 : Value) (w : World) : fnC P (EV P) 100 #[x0] w =
 (vl (.bool false) w).bind fun r1 =>
 (vl x0 r1.2).bind fun r2 =>
 (EV P 95 #[r2.1, (.int .i64 0), (.int .i64 2)] r2.2).bind fun r3 =>
 (vl r3.1 r3.2).bind fun r4 =>
 some (r4.1, r4.2) := by kernel_rfl
noncomputable def impl_versCopied_l1 (e : Env) (w : World) : Option (Value × World) := exC P (EV P) 101 22 (.loop (cA (cA (cB (cA (cB (cB (Yi P 101)))))))) e w (Yj 0 (kSeq P (EV P) 101 22 (cB (cB (cB (Yi P 101)))) (kFn P (fnOf P 101))))
theorem impl_versCopied_l1_eq (e : Env) (w : World) : impl_versCopied_l1 e w =
 (bo P .lss 3 (.tmp 11) (.tmp 10) (e 11) (e 10) w).bind fun r1 =>
 cnd r1.1 (
 (ia P 41 (e 9) (e 11) r1.2).bind fun r2 =>
 (ld P 32 r2.1 r2.2).bind fun r3 =>
 (al P 32 r3.2).bind fun r4 =>
 (st P 32 r4.1 r3.1 r4.2).bind fun r5 =>
 (vl (e 3) r5.2).bind fun r6 =>
 (ld P 32 r4.1 r6.2).bind fun r7 =>
 (EV P 61 #[r7.1] r7.2).bind fun r8 =>
 (bs P 41 1 #[(0, r8.1)] r8.2).bind fun r9 =>
 (b_append P #[41, 41] 41 #[r6.1, r9.1] r9.2).bind fun r10 =>
 (vl r10.1 r10.2).bind fun r11 =>
 (bo P .add 3 (.tmp 11) (.const (.int .i64 1)) (e 11) (.int .i64 1) r11.2).bind fun r12 =>
 (vl r12.1 r12.2).bind fun r13 =>
 impl_versCopied_l1 (ups e [(12, r1.1), (13, r2.1), (14, r3.1), (5, r4.1), (15, r6.1), (16, r7.1), (17, r8.1), (18, r9.1), (19, r10.1), (3, r11.1), (20, r12.1), (11, r13.1)]) r13.2) (
 (vl (e 3) r1.2).bind fun r14 =>
 (vl r14.1 r14.2).bind fun r15 =>
 some (r15.1, r15.2)) := (exC_loop P (EV P) 101 22 (cA (cA (cB (cA (cB (cB (Yi P 101))))))) e w (Yj 0 (kSeq P (EV P) 101 22 (cB (cB (cB (Yi P 101)))) (kFn P (fnOf P 101))))).trans (by kernel_rfl)
theorem impl_versCopied_fn (x0 : Value) (w : World) : fnC P (EV P) 101 #[x0] w =
 (vl (Go.Value.slice none 0 0) w).bind fun r1 =>
 (vl x0 r1.2).bind fun r2 =>
 (Yo P #[41] 3 #[r2.1] r2.2).bind fun r3 =>
 (ms P 41 (.int .i64 0) r3.1 r3.2).bind fun r4 =>
 (vl r4.1 r4.2).bind fun r5 =>
 (vl x0 r5.2).bind fun r6 =>
 (Yo P #[41] 3 #[r6.1] r6.2).bind fun r7 =>
 (vl (.int .i64 0) r7.2).bind fun r8 =>
 impl_versCopied_l1 (ups (env0 #[x0]) [(2, r1.1), (6, r2.1), (7, r3.1), (8, r4.1), (3, r5.1), (9, r6.1), (10, r7.1), (11, r8.1)]) r8.2 := by kernel_rfl
theorem impl_Past_copied_fn (x0 : Value) (w : World) : fnC P (EV P) 102 #[x0] w =
 (bx P 30 x0 w).bind fun r1 =>
 (al P 30 r1.2).bind fun r2 =>
 (fa P 30 r1.1 0 r2.2).bind fun r3 =>
 (ld P 28 r3.1 r3.2).bind fun r4 =>
 (EV P 119 #[r4.1] r4.2).bind fun r5 =>
 (EV P 118 #[r5.1] r5.2).bind fun r6 =>
 (bd P 30 #[(0, r6.1)] r6.2).bind fun r7 =>
 (st P 30 r2.1 r7.1 r7.2).bind fun r8 =>
 ((ld P 30 r2.1 r8.2).bind fun r9 => ifP (r9.2 = r8.2) (some r9.1)).bind fun v10 =>
 some (v10, r8.2) := by kernel_rfl
theorem slices_Clip_Ver_fn (x0 : Value) (w : World) : fnC P (EV P) 103 #[x0] w =
 (vl (Go.Value.slice none 0 0) w).bind fun r1 =>
 (vl x0 r1.2).bind fun r2 =>
 (vl x0 r2.2).bind fun r3 =>
 (Yo P #[41] 3 #[r3.1] r3.2).bind fun r4 =>
 (vl x0 r4.2).bind fun r5 =>
 (Yo P #[41] 3 #[r5.1] r5.2).bind fun r6 =>
 (sl P 41 r2.1 none (some r4.1) (some r6.1) r6.2).bind fun r7 =>
 (vl r7.1 r7.2).bind fun r8 =>
 some (r8.1, r8.2) := by kernel_rfl
theorem slices_Delete_Ver_fn (x0 x1 x2 : Value) (w : World) : fnC P (EV P) 104 #[x0, x1, x2] w =
 (vl (Go.Value.slice none 0 0) w).bind fun r1 =>
 (vl x0 r1.2).bind fun r2 =>
 (vl x1 r2.2).bind fun r3 =>
 (vl x2 r3.2).bind fun r4 =>
 (vl x0 r4.2).bind fun r5 =>
 (Yo P #[41] 3 #[r5.1] r5.2).bind fun r6 =>
 (sl P 41 r2.1 (some r3.1) (some r4.1) (some r6.1) r6.2).bind fun r7 =>
 (vl x1 r7.2).bind fun r8 =>
 (vl x2 r8.2).bind fun r9 =>
 (bo P .eql 3 (.tmp 14) (.tmp 15) r8.1 r9.1 r9.2).bind fun r10 =>
 cnd r10.1 (
 (vl x0 r10.2).bind fun r11 =>
 (vl r11.1 r11.2).bind fun r12 =>
 some (r12.1, r12.2)) (
 (vl x0 r10.2).bind fun r13 =>
 (Yo P #[41] 3 #[r13.1] r13.2).bind fun r14 =>
 (vl r14.1 r14.2).bind fun r15 =>
 (vl x0 (dw r15.2)).bind fun r17 =>
 ifP (r17.2 = (dw r15.2)) <|
 (vl x1 (dw r15.2)).bind fun r18 =>
 ifP (r18.2 = (dw r15.2)) <|
 (sl P 41 r17.1 none (some r18.1) none (dw r15.2)).bind fun r19 =>
 ifP (r19.2 = (dw r15.2)) <|
 (vl x0 (dw r15.2)).bind fun r20 =>
 ifP (r20.2 = (dw r15.2)) <|
 (vl x2 (dw r15.2)).bind fun r21 =>
 ifP (r21.2 = (dw r15.2)) <|
 (sl P 41 r20.1 (some r21.1) none none (dw r15.2)).bind fun r22 =>
 ifP (r22.2 = (dw r15.2)) <|
 (b_append P #[41, 41] 41 #[r19.1, r22.1] (dw r15.2)).bind fun r23 =>
 ifP (True ∧ True ∧ True) <|
 (vl r23.1 r23.2).bind fun r24 =>
 ifP (r24.2 = r23.2) <|
 (vl r24.1 r23.2).bind fun r25 =>
 (vl r24.1 r25.2).bind fun r26 =>
 (Yo P #[41] 3 #[r26.1] r26.2).bind fun r27 =>
 (vl r15.1 r27.2).bind fun r28 =>
 (sl P 41 r25.1 (some r27.1) (some r28.1) none r28.2).bind fun r29 =>
 (b_clear P #[41] 0 #[r29.1] r29.2).bind fun r30 =>
 (vl r24.1 r30.2).bind fun r31 =>
 (vl r31.1 r31.2).bind fun r32 =>
 some (r32.1, r32.2)) := by kernel_rfl
noncomputable def spec_l20Store_l1 (e : Env) (w : World) : Option (Value × World) := exC P (EV P) 105 17 (.loop (cA (cA (cB (cA (cB (cB (Yi P 105)))))))) e w (Yj 0 (kSeq P (EV P) 105 17 (cB (cB (cB (Yi P 105)))) (kFn P (fnOf P 105))))
theorem spec_l20Store_l1_eq (e : Env) (w : World) : spec_l20Store_l1 e w =
 (vl (e 4) w).bind fun r1 =>
 (bo P .gtr 3 (.tmp 8) (.const (.int .i64 0)) r1.1 (.int .i64 0) r1.2).bind fun r2 =>
 cnd r2.1 (
 (ld P 43 (e 3) (dw r2.2)).bind fun r4 =>
 ifP (r4.2 = (dw r2.2)) <|
 (vl (e 0) (dw r2.2)).bind fun r5 =>
 ifP (r5.2 = (dw r2.2)) <|
 (EV P 83 #[r5.1] (dw r2.2)).bind fun r6 =>
 ifP (ld P 43 (e 3) r6.2 = some (r4.1, r6.2) ∧ True) <|
 (EV P 69 #[r4.1, r6.1] r6.2).bind fun r7 =>
 ifP (True ∧ True) <|
 (st P 43 (e 3) r7.1 r7.2).bind fun r8 =>
 ifP (True ∧ True) <|
 (vl (e 4) r8.2).bind fun r9 =>
 (bo P .sub 3 (.tmp 10) (.const (.int .i64 1)) r9.1 (.int .i64 1) r9.2).bind fun r10 =>
 (vl r10.1 r10.2).bind fun r11 =>
 spec_l20Store_l1 (ups e [(8, r1.1), (9, r2.1), (12, r4.1), (13, r5.1), (14, r6.1), (15, r7.1), (10, r9.1), (11, r10.1), (4, r11.1)]) r11.2) (
 (ld P 43 (e 3) r2.2).bind fun r12 =>
 (st P 43 (e 2) r12.1 r12.2).bind fun r13 =>
 ((ld P 43 (e 2) r13.2).bind fun r14 => ifP (r14.2 = r13.2) (some r14.1)).bind fun v15 =>
 some (v15, r13.2)) := (exC_loop P (EV P) 105 17 (cA (cA (cB (cA (cB (cB (Yi P 105))))))) e w (Yj 0 (kSeq P (EV P) 105 17 (cB (cB (cB (Yi P 105)))) (kFn P (fnOf P 105))))).trans (by kernel_rfl)
theorem spec_l20Store_fn (x0 : Value) (w : World) : fnC P (EV P) 105 #[x0] w =
 (al P 43 w).bind fun r1 =>
 (EV P 120 #[] r1.2).bind fun r2 =>
 (al P 43 r2.2).bind fun r3 =>
 (st P 43 r3.1 r2.1 r3.2).bind fun r4 =>
 (vl x0 r4.2).bind fun r5 =>
 (EV P 82 #[r5.1, (.int .i64 7)] r5.2).bind fun r6 =>
 (vl r6.1 r6.2).bind fun r7 =>
 spec_l20Store_l1 (ups (env0 #[x0]) [(2, r1.1), (5, r2.1), (3, r3.1), (6, r5.1), (7, r6.1), (4, r7.1)]) r7.2 := by kernel_rfl
noncomputable def slices_Equal_Tag_l1 (e : Env) (w : World) : Option (Value × World) := exC P (EV P) 106 26 (.loop (cA (cA (cB (cA (cB (cB (Yi P 106)))))))) e w (Yj 0 (kSeq P (EV P) 106 26 (cB (cB (cB (Yi P 106)))) (kFn P (fnOf P 106))))
theorem slices_Equal_Tag_l1_eq (e : Env) (w : World) : slices_Equal_Tag_l1 e w =
 (bo P .lss 3 (.tmp 13) (.tmp 12) (e 13) (e 12) w).bind fun r1 =>
 cnd r1.1 (
 (vl (e 13) r1.2).bind fun r2 =>
 (vl r2.1 r2.2).bind fun r3 =>
 (vl (e 0) (dw r3.2)).bind fun r5 =>
 ifP (r5.2 = (dw r3.2)) <|
 (vl r3.1 (dw r3.2)).bind fun r6 =>
 ifP (r6.2 = (dw r3.2)) <|
 (ia P 28 r5.1 r6.1 (dw r3.2)).bind fun r7 =>
 ifP (r7.2 = (dw r3.2)) <|
 (ld P 27 r7.1 (dw r3.2)).bind fun r8 =>
 ifP (r8.2 = (dw r3.2)) <|
 (vl (e 1) (dw r3.2)).bind fun r9 =>
 ifP (r9.2 = (dw r3.2)) <|
 (vl r3.1 (dw r3.2)).bind fun r10 =>
 ifP (r10.2 = (dw r3.2)) <|
 (ia P 28 r9.1 r10.1 (dw r3.2)).bind fun r11 =>
 ifP (r11.2 = (dw r3.2)) <|
 (ld P 27 r11.1 (dw r3.2)).bind fun r12 =>
 ifP (r12.2 = (dw r3.2)) <|
 (bo P .neq 27 (.tmp 19) (.tmp 23) r8.1 r12.1 (dw r3.2)).bind fun r13 =>
 ifP (r13.2 = (dw r3.2)) <|
 cnd r13.1 (
 (vl (.bool false) (dw r3.2)).bind fun r14 =>
 some (r14.1, r14.2)) (
 (bo P .add 3 (.tmp 13) (.const (.int .i64 1)) (e 13) (.int .i64 1) (dw r3.2)).bind fun r15 =>
 (vl r15.1 r15.2).bind fun r16 =>
 slices_Equal_Tag_l1 (ups e [(14, r1.1), (15, r2.1), (5, r3.1), (16, r5.1), (17, r6.1), (18, r7.1), (19, r8.1), (20, r9.1), (21, r10.1), (22, r11.1), (23, r12.1), (24, r13.1), (25, r15.1), (13, r16.1)]) r16.2)) (
 (vl (.bool true) r1.2).bind fun r17 =>
 some (r17.1, r17.2)) := (exC_loop P (EV P) 106 26 (cA (cA (cB (cA (cB (cB (Yi P 106))))))) e w (Yj 0 (kSeq P (EV P) 106 26 (cB (cB (cB (Yi P 106)))) (kFn P (fnOf P 106))))).trans (by kernel_rfl)
theorem slices_Equal_Tag_fn (x0 x1 : Value) (w : World) : fnC P (EV P) 106 #[x0, x1] w =
 (vl (.bool false) w).bind fun r1 =>
 (vl x0 r1.2).bind fun r2 =>
 (Yo P #[28] 3 #[r2.1] r2.2).bind fun r3 =>
 (vl x1 r3.2).bind fun r4 =>
 (Yo P #[28] 3 #[r4.1] r4.2).bind fun r5 =>
 (bo P .neq 3 (.tmp 7) (.tmp 9) r3.1 r5.1 r5.2).bind fun r6 =>
 cnd r6.1 (
 (vl (.bool false) r6.2).bind fun r7 =>
 some (r7.1, r7.2)) (
 (vl x0 r6.2).bind fun r8 =>
 (Yo P #[28] 3 #[r8.1] r8.2).bind fun r9 =>
 (vl (.int .i64 0) r9.2).bind fun r10 =>
 slices_Equal_Tag_l1 (ups (env0 #[x0, x1]) [(4, r1.1), (6, r2.1), (7, r3.1), (8, r4.1), (9, r5.1), (10, r6.1), (11, r8.1), (12, r9.1), (13, r10.1)]) r10.2) := by kernel_rfl
theorem impl_Tag_compare_fn (x0 x1 : Value) (w : World) : fnC P (EV P) 107 #[x0, x1] w =
 (bx P 27 x0 w).bind fun r1 =>
 (bx P 27 x1 r1.2).bind fun r2 =>
 (vl (.int .i64 0) r2.2).bind fun r3 =>
 (fa P 27 r1.1 0 (dw r3.2)).bind fun r5 =>
 ifP (r5.2 = (dw r3.2)) <|
 (ld P 3 r5.1 (dw r3.2)).bind fun r6 =>
 ifP (r6.2 = (dw r3.2)) <|
 (fa P 27 r2.1 0 (dw r3.2)).bind fun r7 =>
 ifP (r7.2 = (dw r3.2)) <|
 (ld P 3 r7.1 (dw r3.2)).bind fun r8 =>
 ifP (r8.2 = (dw r3.2)) <|
 (fa P 27 r1.1 1 (dw r3.2)).bind fun r9 =>
 ifP (r9.2 = (dw r3.2)) <|
 (ld P 3 r9.1 (dw r3.2)).bind fun r10 =>
 ifP (r10.2 = (dw r3.2)) <|
 (fa P 27 r2.1 1 (dw r3.2)).bind fun r11 =>
 ifP (r11.2 = (dw r3.2)) <|
 (ld P 3 r11.1 (dw r3.2)).bind fun r12 =>
 ifP (r12.2 = (dw r3.2)) <|
 (EV P 122 #[r6.1, r8.1] (dw r3.2)).bind fun r13 =>
 ifP (ld P 3 r11.1 r13.2 = some (r12.1, r13.2) ∧ fa P 27 r2.1 1 r13.2 = some (r11.1, r13.2) ∧ ld P 3 r9.1 r13.2 = some (r10.1, r13.2) ∧ fa P 27 r1.1 1 r13.2 = some (r9.1, r13.2) ∧ True ∧ True ∧ True ∧ True ∧ True) <|
 (EV P 122 #[r10.1, r12.1] r13.2).bind fun r14 =>
 ifP (True ∧ True ∧ True ∧ True ∧ True ∧ True ∧ True ∧ True ∧ True) <|
 (bs P 85 2 #[(0, r13.1), (1, r14.1)] r14.2).bind fun r15 =>
 ifP (True ∧ True ∧ True ∧ True ∧ True ∧ True ∧ True ∧ True ∧ True) <|
 (EV P 121 #[r15.1] r15.2).bind fun r16 =>
 ifP (True ∧ True ∧ True ∧ True ∧ True ∧ True ∧ True ∧ True ∧ True) <|
 (vl r16.1 r16.2).bind fun r17 =>
 ifP (r17.2 = r16.2) <|
 some (r17.1, r16.2) := by kernel_rfl
theorem spec_l1None_fn (w : World) : fnC P (EV P) 108 #[] w =
 (al P 30 w).bind fun r1 =>
 (ms P 28 (.int .i64 4) (.int .i64 4) r1.2).bind fun r2 =>
 (bd P 30 #[(0, r2.1)] r2.2).bind fun r3 =>
 (st P 30 r1.1 r3.1 r3.2).bind fun r4 =>
 ((ld P 30 r1.1 r4.2).bind fun r5 => ifP (r5.2 = r4.2) (some r5.1)).bind fun v6 =>
 some (v6, r4.2) := by kernel_rfl
theorem spec_l20Tag_fn (x0 : Value) (w : World) : fnC P (EV P) 109 #[x0] w =
 (al P 27 w).bind fun r1 =>
 (vl x0 r1.2).bind fun r2 =>
 (EV P 82 #[r2.1, (.int .i64 3)] r2.2).bind fun r3 =>
 (bo P .eql 3 (.tmp 4) (.const (.int .i64 0)) r3.1 (.int .i64 0) r3.2).bind fun r4 =>
 cnd r4.1 (
 (bd P 27 #[] r4.2).bind fun r5 =>
 (st P 27 r1.1 r5.1 r5.2).bind fun r6 =>
 ((ld P 27 r1.1 r6.2).bind fun r7 => ifP (r7.2 = r6.2) (some r7.1)).bind fun v8 =>
 some (v8, r6.2)) (
 (vl x0 r4.2).bind fun r9 =>
 (EV P 82 #[r9.1, (.int .i64 9)] r9.2).bind fun r10 =>
 (bo P .add 3 (.const (.int .i64 1)) (.tmp 8) (.int .i64 1) r10.1 r10.2).bind fun r11 =>
 (vl x0 r11.2).bind fun r12 =>
 (EV P 82 #[r12.1, (.int .i64 3)] r12.2).bind fun r13 =>
 (bd P 27 #[(0, r11.1), (1, r13.1)] r13.2).bind fun r14 =>
 (st P 27 r1.1 r14.1 r14.2).bind fun r15 =>
 ((ld P 27 r1.1 r15.2).bind fun r16 => ifP (r16.2 = r15.2) (some r16.1)).bind fun v17 =>
 some (v17, r15.2)) := by kernel_rfl
end Go.Proofs.Ytjagkbamkohnoaa.X
