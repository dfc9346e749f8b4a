/- A part of the proof: an evaluator of the model, its laws, and contracts of functions; no condition. -/
import Derived.Test.YtjagkbamkohnoaaEvT
set_option linter.unusedVariables false
set_option maxRecDepth 100000
namespace Go.Proofs.Ytjagkbamkohnoaa.X
open Go Go.Ev
noncomputable def laws_FnPastJoin_l1 (e : Env) (w : World) : Option (Value × World) := exC P (EV P) 7 110 (.loop (cA (cA (cB (cA (cB (cB (cB (cB (cB (bodyOf P 7))))))))))) e w (kBlock 0 (kSeq P (EV P) 7 110 (cB (cB (cB (cB (cB (cB (bodyOf P 7))))))) (kFn P (fnOf P 7))))
theorem laws_FnPastJoin_l1_eq (e : Env) (w : World) : laws_FnPastJoin_l1 e w =
 (vl (e 6) w).bind fun r1 =>
 (bo P .lss 3 (.tmp 53) (.const (.int .i64 4)) r1.1 (.int .i64 4) r1.2).bind fun r2 =>
 cnd r2.1 (
 (fa P 30 (e 5) 0 (dw r2.2)).bind fun r4 =>
 ifP (r4.2 = (dw r2.2)) <|
 (ld P 28 r4.1 (dw r2.2)).bind fun r5 =>
 ifP (r5.2 = (dw r2.2)) <|
 (vl (e 6) (dw r2.2)).bind fun r6 =>
 ifP (r6.2 = (dw r2.2)) <|
 (ia P 28 r5.1 r6.1 (dw r2.2)).bind fun r7 =>
 ifP (r7.2 = (dw r2.2)) <|
 (ld P 27 r7.1 (dw r2.2)).bind fun r8 =>
 ifP (r8.2 = (dw r2.2)) <|
 (fa P 30 (e 3) 0 (dw r2.2)).bind fun r9 =>
 ifP (r9.2 = (dw r2.2)) <|
 (ld P 28 r9.1 (dw r2.2)).bind fun r10 =>
 ifP (r10.2 = (dw r2.2)) <|
 (vl (e 6) (dw r2.2)).bind fun r11 =>
 ifP (r11.2 = (dw r2.2)) <|
 (ia P 28 r10.1 r11.1 (dw r2.2)).bind fun r12 =>
 ifP (r12.2 = (dw r2.2)) <|
 (ld P 27 r12.1 (dw r2.2)).bind fun r13 =>
 ifP (r13.2 = (dw r2.2)) <|
 (bo P .neq 27 (.tmp 61) (.tmp 66) r8.1 r13.1 (dw r2.2)).bind fun r14 =>
 ifP (r14.2 = (dw r2.2)) <|
 (vl r14.1 (dw r2.2)).bind fun r15 =>
 ifP (r15.2 = (dw r2.2)) <|
 (gif r15.1 true (fa P 30 (e 5) 0 (dw r2.2)) (dw r2.2)).bind fun r16 =>
 ifP (r16.2 = (dw r2.2)) <|
 (gif r15.1 true (ld P 28 r16.1 (dw r2.2)) (dw r2.2)).bind fun r17 =>
 ifP (r17.2 = (dw r2.2)) <|
 (gif r15.1 true (vl (e 6) (dw r2.2)) (dw r2.2)).bind fun r18 =>
 ifP (r18.2 = (dw r2.2)) <|
 (gif r15.1 true (ia P 28 r17.1 r18.1 (dw r2.2)) (dw r2.2)).bind fun r19 =>
 ifP (r19.2 = (dw r2.2)) <|
 (gif r15.1 true (ld P 27 r19.1 (dw r2.2)) (dw r2.2)).bind fun r20 =>
 ifP (r20.2 = (dw r2.2)) <|
 (gif r15.1 true (fa P 30 (e 4) 0 (dw r2.2)) (dw r2.2)).bind fun r21 =>
 ifP (r21.2 = (dw r2.2)) <|
 (gif r15.1 true (ld P 28 r21.1 (dw r2.2)) (dw r2.2)).bind fun r22 =>
 ifP (r22.2 = (dw r2.2)) <|
 (gif r15.1 true (vl (e 6) (dw r2.2)) (dw r2.2)).bind fun r23 =>
 ifP (r23.2 = (dw r2.2)) <|
 (gif r15.1 true (ia P 28 r22.1 r23.1 (dw r2.2)) (dw r2.2)).bind fun r24 =>
 ifP (r24.2 = (dw r2.2)) <|
 (gif r15.1 true (ld P 27 r24.1 (dw r2.2)) (dw r2.2)).bind fun r25 =>
 ifP (r25.2 = (dw r2.2)) <|
 (gif r15.1 true (bo P .neq 27 (.tmp 73) (.tmp 78) r20.1 r25.1 (dw r2.2)) (dw r2.2)).bind fun r26 =>
 ifP (r26.2 = (dw r2.2)) <|
 (pickV r15.1 r26.1 (.bool false) (dw r2.2)).bind fun r27 =>
 ifP (r27.2 = (dw r2.2)) <|
 cnd r27.1 (
 (vl (.bool false) (dw r2.2)).bind fun r28 =>
 some (r28.1, r28.2)) (
 (vl (e 6) (dw r2.2)).bind fun r29 =>
 (bo P .add 3 (.tmp 55) (.const (.int .i64 1)) r29.1 (.int .i64 1) r29.2).bind fun r30 =>
 (vl r30.1 r30.2).bind fun r31 =>
 laws_FnPastJoin_l1 (ups e [(53, r1.1), (54, r2.1), (57, r4.1), (58, r5.1), (59, r6.1), (60, r7.1), (61, r8.1), (62, r9.1), (63, r10.1), (64, r11.1), (65, r12.1), (66, r13.1), (67, r14.1), (68, r15.1), (69, r16.1), (70, r17.1), (71, r18.1), (72, r19.1), (73, r20.1), (74, r21.1), (75, r22.1), (76, r23.1), (77, r24.1), (78, r25.1), (79, r26.1), (80, r27.1), (55, r29.1), (56, r30.1), (6, r31.1)]) r31.2)) (
 (ld P 30 (e 3) (dw r2.2)).bind fun r33 =>
 ifP (r33.2 = (dw r2.2)) <|
 (ld P 30 (e 5) (dw r2.2)).bind fun r34 =>
 ifP (r34.2 = (dw r2.2)) <|
 (EV P 36 #[r33.1, r34.1] (dw r2.2)).bind fun r35 =>
 ifP (True ∧ True ∧ True) <|
 (vl r35.1 r35.2).bind fun r36 =>
 ifP (r36.2 = r35.2) <|
 (gif r36.1 true (ld P 30 (e 4) r35.2) r35.2).bind fun r37 =>
 ifP (r37.2 = r35.2) <|
 (gif r36.1 true (ld P 30 (e 5) r35.2) r35.2).bind fun r38 =>
 ifP (r38.2 = r35.2) <|
 (gif r36.1 true (EV P 36 #[r37.1, r38.1] r35.2) r35.2).bind fun r39 =>
 ifP (True ∧ True ∧ True ∧ True ∧ True) <|
 (pickV r36.1 r39.1 (.bool false) r39.2).bind fun r40 =>
 ifP (r40.2 = r39.2) <|
 (vl r40.1 r39.2).bind fun r41 =>
 ifP (r41.2 = r39.2) <|
 (gif r41.1 true (ld P 30 (e 4) r39.2) r39.2).bind fun r42 =>
 ifP (r42.2 = r39.2) <|
 (gif r41.1 true (ld P 30 (e 3) r39.2) r39.2).bind fun r43 =>
 ifP (r43.2 = r39.2) <|
 (gif r41.1 true (ld P 30 (e 5) r39.2) r39.2).bind fun r44 =>
 ifP (r44.2 = r39.2) <|
 (gif r41.1 true (EV P 30 #[r42.1, r43.1] r39.2) r39.2).bind fun r45 =>
 ifP (gif r41.1 true (ld P 30 (e 5) r45.2) r45.2 = some (r44.1, r45.2) ∧ True ∧ True ∧ True ∧ True ∧ True ∧ True ∧ True) <|
 (gif r41.1 true (EV P 29 #[r45.1, r44.1] r45.2) r45.2).bind fun r46 =>
 ifP (True ∧ True ∧ True ∧ True ∧ True ∧ True ∧ True ∧ True) <|
 (pickV r41.1 r46.1 (.bool false) r46.2).bind fun r47 =>
 ifP (r47.2 = r46.2) <|
 (vl r47.1 r46.2).bind fun r48 =>
 ifP (r48.2 = r46.2) <|
 (gif r48.1 true (ld P 30 (e 3) r46.2) r46.2).bind fun r49 =>
 ifP (r49.2 = r46.2) <|
 (gif r48.1 true (ld P 30 (e 3) r46.2) r46.2).bind fun r50 =>
 ifP (r50.2 = r46.2) <|
 (gif r48.1 true (ld P 30 (e 3) r46.2) r46.2).bind fun r51 =>
 ifP (r51.2 = r46.2) <|
 (gif r48.1 true (EV P 30 #[r49.1, r50.1] r46.2) r46.2).bind fun r52 =>
 ifP (gif r48.1 true (ld P 30 (e 3) r52.2) r52.2 = some (r51.1, r52.2) ∧ True ∧ True ∧ True ∧ True ∧ True ∧ True ∧ True ∧ True ∧ True ∧ True) <|
 (gif r48.1 true (EV P 29 #[r52.1, r51.1] r52.2) r52.2).bind fun r53 =>
 ifP (True ∧ True ∧ True ∧ True ∧ True ∧ True ∧ True ∧ True ∧ True ∧ True ∧ True) <|
 (pickV r48.1 r53.1 (.bool false) r53.2).bind fun r54 =>
 ifP (r54.2 = r53.2) <|
 (vl r54.1 r53.2).bind fun r55 =>
 ifP (r55.2 = r53.2) <|
 (gif r55.1 true (ld P 30 (e 3) r53.2) r53.2).bind fun r56 =>
 ifP (r56.2 = r53.2) <|
 (gif r55.1 true (ld P 30 (e 3) r53.2) r53.2).bind fun r57 =>
 ifP (r57.2 = r53.2) <|
 (gif r55.1 true (EV P 37 #[] r53.2) r53.2).bind fun r58 =>
 ifP (gif r55.1 true (ld P 30 (e 3) r58.2) r58.2 = some (r57.1, r58.2) ∧ gif r55.1 true (ld P 30 (e 3) r58.2) r58.2 = some (r56.1, r58.2) ∧ True ∧ True ∧ True ∧ True ∧ True ∧ True ∧ True ∧ True ∧ True ∧ True ∧ True) <|
 (gif r55.1 true (EV P 30 #[r56.1, r58.1] r58.2) r58.2).bind fun r59 =>
 ifP (gif r55.1 true (ld P 30 (e 3) r59.2) r59.2 = some (r57.1, r59.2) ∧ True ∧ True ∧ True ∧ True ∧ True ∧ True ∧ True ∧ True ∧ True ∧ True ∧ True ∧ True) <|
 (gif r55.1 true (EV P 29 #[r59.1, r57.1] r59.2) r59.2).bind fun r60 =>
 ifP (True ∧ True ∧ True ∧ True ∧ True ∧ True ∧ True ∧ True ∧ True ∧ True ∧ True ∧ True ∧ True) <|
 (pickV r55.1 r60.1 (.bool false) r60.2).bind fun r61 =>
 ifP (r61.2 = r60.2) <|
 (vl r61.1 r60.2).bind fun r62 =>
 ifP (r62.2 = r60.2) <|
 some (r62.1, r60.2)) := (exC_loop P (EV P) 7 110 (cA (cA (cB (cA (cB (cB (cB (cB (cB (bodyOf P 7)))))))))) e w (kBlock 0 (kSeq P (EV P) 7 110 (cB (cB (cB (cB (cB (cB (bodyOf P 7))))))) (kFn P (fnOf P 7))))).trans (by kernel_rfl)
theorem laws_FnPastJoin_fn (x0 : Value) (w : World) : fnC P (EV P) 7 #[x0] w =
 (vl (.bool false) w).bind fun r1 =>
 (vl x0 r1.2).bind fun r2 =>
 (b_len P #[22] 3 #[r2.1] r2.2).bind fun r3 =>
 (bo P .gtr 3 (.tmp 8) (.const (.int .i64 1048576)) r3.1 (.int .i64 1048576) r3.2).bind fun r4 =>
 cnd r4.1 (
 (vl (.bool true) r4.2).bind fun r5 =>
 some (r5.1, r5.2)) (
 (vl x0 r4.2).bind fun r6 =>
 (EV P 32 #[r6.1] r6.2).bind fun r7 =>
 (vl r7.1 r7.2).bind fun r8 =>
 (xt P r8.1 0 r8.2).bind fun r9 =>
 (xt P r8.1 1 r9.2).bind fun r10 =>
 (al P 30 r10.2).bind fun r11 =>
 (al P 30 r11.2).bind fun r12 =>
 (st P 30 r11.1 r9.1 r12.2).bind fun r13 =>
 (st P 30 r12.1 r10.1 r13.2).bind fun r14 =>
 (ld P 30 r11.1 r14.2).bind fun r15 =>
 (ld P 30 r12.1 r15.2).bind fun r16 =>
 (EV P 30 #[r15.1, r16.1] r16.2).bind fun r17 =>
 (al P 30 r17.2).bind fun r18 =>
 (st P 30 r18.1 r17.1 r18.2).bind fun r19 =>
 (ld P 30 r18.1 (dw r19.2)).bind fun r21 =>
 ifP (r21.2 = (dw r19.2)) <|
 (ld P 30 r11.1 (dw r19.2)).bind fun r22 =>
 ifP (r22.2 = (dw r19.2)) <|
 (ld P 30 r12.1 (dw r19.2)).bind fun r23 =>
 ifP (r23.2 = (dw r19.2)) <|
 (EV P 33 #[r22.1, r23.1] (dw r19.2)).bind fun r24 =>
 ifP (True ∧ True ∧ ld P 30 r18.1 r24.2 = some (r21.1, r24.2) ∧ True) <|
 (EV P 29 #[r21.1, r24.1] r24.2).bind fun r25 =>
 ifP (True ∧ True ∧ True ∧ True) <|
 (uo P .not r25.1 r25.2).bind fun r26 =>
 ifP (r26.2 = r25.2) <|
 (vl r26.1 r25.2).bind fun r27 =>
 ifP (r27.2 = r25.2) <|
 (gif r27.1 false (ld P 30 r11.1 r25.2) r25.2).bind fun r28 =>
 ifP (r28.2 = r25.2) <|
 (gif r27.1 false (ld P 30 r11.1 r25.2) r25.2).bind fun r29 =>
 ifP (r29.2 = r25.2) <|
 (gif r27.1 false (EV P 34 #[r28.1] r25.2) r25.2).bind fun r30 =>
 ifP (gif r27.1 false (ld P 30 r11.1 r30.2) r30.2 = some (r29.1, r30.2) ∧ True ∧ True ∧ True ∧ True ∧ True ∧ True) <|
 (gif r27.1 false (EV P 35 #[r29.1] r30.2) r30.2).bind fun r31 =>
 ifP (True ∧ True ∧ True ∧ True ∧ True ∧ True ∧ True) <|
 (gif r27.1 false (bo P .neq 4 (.tmp 26) (.tmp 28) r30.1 r31.1 r31.2) r31.2).bind fun r32 =>
 ifP (r32.2 = r31.2) <|
 (pickV r27.1 (.bool true) r32.1 r31.2).bind fun r33 =>
 ifP (r33.2 = r31.2) <|
 (vl r33.1 r31.2).bind fun r34 =>
 ifP (r34.2 = r31.2) <|
 (gif r34.1 false (ld P 30 r11.1 r31.2) r31.2).bind fun r35 =>
 ifP (r35.2 = r31.2) <|
 (gif r34.1 false (EV P 34 #[r35.1] r31.2) r31.2).bind fun r36 =>
 ifP (True ∧ True ∧ True ∧ True ∧ True ∧ True ∧ True ∧ True ∧ True) <|
 (gif r34.1 false (uo P .not r36.1 r36.2) r36.2).bind fun r37 =>
 ifP (r37.2 = r36.2) <|
 (pickV r34.1 (.bool true) r37.1 r36.2).bind fun r38 =>
 ifP (r38.2 = r36.2) <|
 (vl r38.1 r36.2).bind fun r39 =>
 ifP (r39.2 = r36.2) <|
 (gif r39.1 false (ld P 30 r12.1 r36.2) r36.2).bind fun r40 =>
 ifP (r40.2 = r36.2) <|
 (gif r39.1 false (EV P 34 #[r40.1] r36.2) r36.2).bind fun r41 =>
 ifP (True ∧ True ∧ True ∧ True ∧ True ∧ True ∧ True ∧ True ∧ True ∧ True ∧ True) <|
 (gif r39.1 false (uo P .not r41.1 r41.2) r41.2).bind fun r42 =>
 ifP (r42.2 = r41.2) <|
 (pickV r39.1 (.bool true) r42.1 r41.2).bind fun r43 =>
 ifP (r43.2 = r41.2) <|
 cnd r43.1 (
 (ld P 30 r18.1 (dw r41.2)).bind fun r45 =>
 ifP (r45.2 = (dw r41.2)) <|
 (ld P 30 r11.1 (dw r41.2)).bind fun r46 =>
 ifP (r46.2 = (dw r41.2)) <|
 (ld P 30 r12.1 (dw r41.2)).bind fun r47 =>
 ifP (r47.2 = (dw r41.2)) <|
 (EV P 33 #[r46.1, r47.1] (dw r41.2)).bind fun r48 =>
 ifP (True ∧ True ∧ ld P 30 r18.1 r48.2 = some (r45.1, r48.2) ∧ True) <|
 (EV P 29 #[r45.1, r48.1] r48.2).bind fun r49 =>
 ifP (True ∧ True ∧ True ∧ True) <|
 (vl r49.1 r49.2).bind fun r50 =>
 ifP (r50.2 = r49.2) <|
 (gif r50.1 true (ld P 30 r11.1 r49.2) r49.2).bind fun r51 =>
 ifP (r51.2 = r49.2) <|
 (gif r50.1 true (ld P 30 r11.1 r49.2) r49.2).bind fun r52 =>
 ifP (r52.2 = r49.2) <|
 (gif r50.1 true (EV P 34 #[r51.1] r49.2) r49.2).bind fun r53 =>
 ifP (gif r50.1 true (ld P 30 r11.1 r53.2) r53.2 = some (r52.1, r53.2) ∧ True ∧ True ∧ True ∧ True ∧ True) <|
 (gif r50.1 true (EV P 35 #[r52.1] r53.2) r53.2).bind fun r54 =>
 ifP (True ∧ True ∧ True ∧ True ∧ True ∧ True) <|
 (gif r50.1 true (bo P .eql 4 (.tmp 48) (.tmp 50) r53.1 r54.1 r54.2) r54.2).bind fun r55 =>
 ifP (r55.2 = r54.2) <|
 (pickV r50.1 r55.1 (.bool false) r54.2).bind fun r56 =>
 ifP (r56.2 = r54.2) <|
 (vl r56.1 r54.2).bind fun r57 =>
 ifP (r57.2 = r54.2) <|
 some (r57.1, r54.2)) (
 (vl (.int .i64 0) r41.2).bind fun r58 =>
 laws_FnPastJoin_l1 (ups (env0 #[x0]) [(2, r1.1), (7, r2.1), (8, r3.1), (9, r4.1), (11, r6.1), (12, r7.1), (10, r8.1), (13, r9.1), (14, r10.1), (3, r11.1), (4, r12.1), (15, r15.1), (16, r16.1), (17, r17.1), (5, r18.1), (18, r21.1), (19, r22.1), (20, r23.1), (21, r24.1), (22, r25.1), (23, r26.1), (24, r27.1), (25, r28.1), (27, r29.1), (26, r30.1), (28, r31.1), (29, r32.1), (30, r33.1), (31, r34.1), (32, r35.1), (33, r36.1), (34, r37.1), (35, r38.1), (36, r39.1), (37, r40.1), (38, r41.1), (39, r42.1), (40, r43.1), (6, r58.1)]) r58.2)) := by kernel_rfl
theorem impl_TagMax_fn (x0 x1 : Value) (w : World) : fnC P (EV P) 25 #[x0, x1] w =
 (bx P 27 x0 w).bind fun r1 =>
 (bx P 27 x1 r1.2).bind fun r2 =>
 (al P 27 r2.2).bind fun r3 =>
 (ld P 27 r1.1 r3.2).bind fun r4 =>
 (ld P 27 r2.1 r4.2).bind fun r5 =>
 (EV P 73 #[r4.1, r5.1] r5.2).bind fun r6 =>
 cnd r6.1 (
 (ld P 27 r2.1 r6.2).bind fun r7 =>
 (st P 27 r3.1 r7.1 r7.2).bind fun r8 =>
 ((ld P 27 r3.1 r8.2).bind fun r9 => ifP (r9.2 = r8.2) (some r9.1)).bind fun v10 =>
 some (v10, r8.2)) (
 (ld P 27 r1.1 r6.2).bind fun r11 =>
 (st P 27 r3.1 r11.1 r11.2).bind fun r12 =>
 ((ld P 27 r3.1 r12.2).bind fun r13 => ifP (r13.2 = r12.2) (some r13.1)).bind fun v14 =>
 some (v14, r12.2)) := by kernel_rfl
end Go.Proofs.Ytjagkbamkohnoaa.X
