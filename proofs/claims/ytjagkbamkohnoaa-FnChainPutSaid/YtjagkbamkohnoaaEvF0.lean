/- A part of the proof: an evaluator of the model, its laws, and contracts of functions; no condition. -/
import Derived.Test.YtjagkbamkohnoaaEvT
set_option linter.unusedVariables false
set_option maxRecDepth 100000
namespace Go.Proofs.Ytjagkbamkohnoaa.X
open Go Go.Ev
noncomputable def laws_FnChainPut_l1 (e : Env) (w : World) : Option (Value × World) := exC P (EV P) 3 114 (.loop (cA (cA (cB (cA (cB (cB (cB (cB (cB (cB (cB (Yi P 3))))))))))))) e w (Yj 0 (kSeq P (EV P) 3 114 (cB (cB (cB (cB (cB (cB (cB (cB (Yi P 3))))))))) (kFn P (fnOf P 3))))
theorem laws_FnChainPut_l1_eq (e : Env) (w : World) : laws_FnChainPut_l1 e w =
 (vl (e 9) w).bind fun r1 =>
 (fa P 25 (e 3) 0 r1.2).bind fun r2 =>
 (ld P 23 r2.1 r2.2).bind fun r3 =>
 (b_len P #[23] 3 #[r3.1] r3.2).bind fun r4 =>
 (bo P .lss 3 (.tmp 76) (.tmp 79) r1.1 r4.1 r4.2).bind fun r5 =>
 cnd r5.1 (
 (fa P 25 (e 5) 0 (dw r5.2)).bind fun r7 =>
 ifP (r7.2 = (dw r5.2)) <|
 (ld P 23 r7.1 (dw r5.2)).bind fun r8 =>
 ifP (r8.2 = (dw r5.2)) <|
 (vl (e 9) (dw r5.2)).bind fun r9 =>
 ifP (r9.2 = (dw r5.2)) <|
 (ia P 23 r8.1 r9.1 (dw r5.2)).bind fun r10 =>
 ifP (r10.2 = (dw r5.2)) <|
 (fa P 45 r10.1 0 (dw r5.2)).bind fun r11 =>
 ifP (r11.2 = (dw r5.2)) <|
 (ld P 43 r11.1 (dw r5.2)).bind fun r12 =>
 ifP (r12.2 = (dw r5.2)) <|
 (fa P 25 (e 3) 0 (dw r5.2)).bind fun r13 =>
 ifP (r13.2 = (dw r5.2)) <|
 (ld P 23 r13.1 (dw r5.2)).bind fun r14 =>
 ifP (r14.2 = (dw r5.2)) <|
 (vl (e 9) (dw r5.2)).bind fun r15 =>
 ifP (r15.2 = (dw r5.2)) <|
 (ia P 23 r14.1 r15.1 (dw r5.2)).bind fun r16 =>
 ifP (r16.2 = (dw r5.2)) <|
 (fa P 45 r16.1 0 (dw r5.2)).bind fun r17 =>
 ifP (r17.2 = (dw r5.2)) <|
 (ld P 43 r17.1 (dw r5.2)).bind fun r18 =>
 ifP (r18.2 = (dw r5.2)) <|
 (EV P 15 #[r12.1, r18.1] (dw r5.2)).bind fun r19 =>
 ifP (True ∧ True ∧ True ∧ True ∧ True ∧ True ∧ True ∧ True ∧ True ∧ True ∧ True) <|
 (uo P .not r19.1 r19.2).bind fun r20 =>
 ifP (r20.2 = r19.2) <|
 cnd r20.1 (
 (vl (.bool false) r19.2).bind fun r21 =>
 some (r21.1, r21.2)) (
 (vl (e 9) r19.2).bind fun r22 =>
 (bo P .add 3 (.tmp 81) (.const (.int .i64 1)) r22.1 (.int .i64 1) r22.2).bind fun r23 =>
 (vl r23.1 r23.2).bind fun r24 =>
 laws_FnChainPut_l1 (ups e [(76, r1.1), (77, r2.1), (78, r3.1), (79, r4.1), (80, r5.1), (83, r7.1), (84, r8.1), (85, r9.1), (86, r10.1), (87, r11.1), (88, r12.1), (89, r13.1), (90, r14.1), (91, r15.1), (92, r16.1), (93, r17.1), (94, r18.1), (95, r19.1), (96, r20.1), (81, r22.1), (82, r23.1), (9, r24.1)]) r24.2)) (
 (ld P 25 (e 5) (dw r5.2)).bind fun r26 =>
 ifP (r26.2 = (dw r5.2)) <|
 (EV P 12 #[r26.1] (dw r5.2)).bind fun r27 =>
 ifP (True ∧ True) <|
 (vl r27.1 r27.2).bind fun r28 =>
 ifP (r28.2 = r27.2) <|
 (gif r28.1 true (fa P 25 (e 5) 0 r27.2) r27.2).bind fun r29 =>
 ifP (r29.2 = r27.2) <|
 (gif r28.1 true (ld P 23 r29.1 r27.2) r27.2).bind fun r30 =>
 ifP (r30.2 = r27.2) <|
 (gif r28.1 true (ia P 23 r30.1 (.int .i64 0) r27.2) r27.2).bind fun r31 =>
 ifP (r31.2 = r27.2) <|
 (gif r28.1 true (fa P 45 r31.1 0 r27.2) r27.2).bind fun r32 =>
 ifP (r32.2 = r27.2) <|
 (gif r28.1 true (ld P 43 r32.1 r27.2) r27.2).bind fun r33 =>
 ifP (r33.2 = r27.2) <|
 (gif r28.1 true (fa P 25 (e 3) 0 r27.2) r27.2).bind fun r34 =>
 ifP (r34.2 = r27.2) <|
 (gif r28.1 true (ld P 23 r34.1 r27.2) r27.2).bind fun r35 =>
 ifP (r35.2 = r27.2) <|
 (gif r28.1 true (ia P 23 r35.1 (.int .i64 0) r27.2) r27.2).bind fun r36 =>
 ifP (r36.2 = r27.2) <|
 (gif r28.1 true (fa P 45 r36.1 0 r27.2) r27.2).bind fun r37 =>
 ifP (r37.2 = r27.2) <|
 (gif r28.1 true (ld P 43 r37.1 r27.2) r27.2).bind fun r38 =>
 ifP (r38.2 = r27.2) <|
 (gif r28.1 true (ld P 32 (e 4) r27.2) r27.2).bind fun r39 =>
 ifP (r39.2 = r27.2) <|
 (gif r28.1 true (EV P 16 #[r38.1, r39.1] r27.2) r27.2).bind fun r40 =>
 ifP (True ∧ True ∧ True ∧ True ∧ True ∧ True ∧ gif r28.1 true (ld P 43 r32.1 r40.2) r40.2 = some (r33.1, r40.2) ∧ gif r28.1 true (fa P 45 r31.1 0 r40.2) r40.2 = some (r32.1, r40.2) ∧ gif r28.1 true (ia P 23 r30.1 (.int .i64 0) r40.2) r40.2 = some (r31.1, r40.2) ∧ gif r28.1 true (ld P 23 r29.1 r40.2) r40.2 = some (r30.1, r40.2) ∧ gif r28.1 true (fa P 25 (e 5) 0 r40.2) r40.2 = some (r29.1, r40.2) ∧ True ∧ True) <|
 (gif r28.1 true (EV P 15 #[r33.1, r40.1] r40.2) r40.2).bind fun r41 =>
 ifP (True ∧ True ∧ True ∧ True ∧ True ∧ True ∧ True ∧ True ∧ True ∧ True ∧ True ∧ True ∧ True) <|
 (pickV r28.1 r41.1 (.bool false) r41.2).bind fun r42 =>
 ifP (r42.2 = r41.2) <|
 (vl r42.1 r41.2).bind fun r43 =>
 ifP (r43.2 = r41.2) <|
 some (r43.1, r41.2)) := (exC_loop P (EV P) 3 114 (cA (cA (cB (cA (cB (cB (cB (cB (cB (cB (cB (Yi P 3)))))))))))) e w (Yj 0 (kSeq P (EV P) 3 114 (cB (cB (cB (cB (cB (cB (cB (cB (Yi P 3))))))))) (kFn P (fnOf P 3))))).trans (by kernel_rfl)
theorem laws_FnChainPut_fn (x0 : Value) (w : World) : fnC P (EV P) 3 #[x0] w =
 (vl (.bool false) w).bind fun r1 =>
 (vl x0 r1.2).bind fun r2 =>
 (b_len P #[22] 3 #[r2.1] r2.2).bind fun r3 =>
 (bo P .gtr 3 (.tmp 11) (.const (.int .i64 1048576)) r3.1 (.int .i64 1048576) r3.2).bind fun r4 =>
 cnd r4.1 (
 (vl (.bool true) r4.2).bind fun r5 =>
 some (r5.1, r5.2)) (
 (vl x0 r4.2).bind fun r6 =>
 (EV P 8 #[r6.1] r6.2).bind fun r7 =>
 (vl r7.1 r7.2).bind fun r8 =>
 (xt P r8.1 0 r8.2).bind fun r9 =>
 (xt P r8.1 1 r9.2).bind fun r10 =>
 (al P 25 r10.2).bind fun r11 =>
 (al P 32 r11.2).bind fun r12 =>
 (st P 25 r11.1 r9.1 r12.2).bind fun r13 =>
 (st P 32 r12.1 r10.1 r13.2).bind fun r14 =>
 (ld P 25 r11.1 r14.2).bind fun r15 =>
 (ld P 32 r12.1 r15.2).bind fun r16 =>
 (EV P 9 #[r15.1, r16.1] r16.2).bind fun r17 =>
 (vl r17.1 r17.2).bind fun r18 =>
 (xt P r18.1 0 r18.2).bind fun r19 =>
 (xt P r18.1 1 r19.2).bind fun r20 =>
 (al P 25 r20.2).bind fun r21 =>
 (st P 25 r21.1 r19.1 r21.2).bind fun r22 =>
 (vl r20.1 r22.2).bind fun r23 =>
 (ld P 25 r11.1 r23.2).bind fun r24 =>
 (ld P 32 r12.1 r24.2).bind fun r25 =>
 (EV P 10 #[r24.1, r25.1] r25.2).bind fun r26 =>
 (vl r26.1 r26.2).bind fun r27 =>
 (xt P r27.1 0 r27.2).bind fun r28 =>
 (xt P r27.1 1 r28.2).bind fun r29 =>
 (al P 25 r29.2).bind fun r30 =>
 (st P 25 r30.1 r28.1 r30.2).bind fun r31 =>
 (vl r29.1 r31.2).bind fun r32 =>
 (vl r23.1 (dw r32.2)).bind fun r34 =>
 ifP (r34.2 = (dw r32.2)) <|
 (vl r32.1 (dw r32.2)).bind fun r35 =>
 ifP (r35.2 = (dw r32.2)) <|
 (bo P .neq 4 (.tmp 30) (.tmp 31) r34.1 r35.1 (dw r32.2)).bind fun r36 =>
 ifP (r36.2 = (dw r32.2)) <|
 (vl r36.1 (dw r32.2)).bind fun r37 =>
 ifP (r37.2 = (dw r32.2)) <|
 (gif r37.1 false (ld P 25 r21.1 (dw r32.2)) (dw r32.2)).bind fun r38 =>
 ifP (r38.2 = (dw r32.2)) <|
 (gif r37.1 false (ld P 25 r30.1 (dw r32.2)) (dw r32.2)).bind fun r39 =>
 ifP (r39.2 = (dw r32.2)) <|
 (gif r37.1 false (EV P 11 #[r38.1, r39.1] (dw r32.2)) (dw r32.2)).bind fun r40 =>
 ifP (True ∧ True ∧ True ∧ True) <|
 (gif r37.1 false (uo P .not r40.1 r40.2) r40.2).bind fun r41 =>
 ifP (r41.2 = r40.2) <|
 (pickV r37.1 (.bool true) r41.1 r40.2).bind fun r42 =>
 ifP (r42.2 = r40.2) <|
 (vl r42.1 r40.2).bind fun r43 =>
 ifP (r43.2 = r40.2) <|
 (gif r43.1 false (ld P 25 r11.1 r40.2) r40.2).bind fun r44 =>
 ifP (r44.2 = r40.2) <|
 (gif r43.1 false (ld P 25 r11.1 r40.2) r40.2).bind fun r45 =>
 ifP (r45.2 = r40.2) <|
 (gif r43.1 false (EV P 12 #[r44.1] r40.2) r40.2).bind fun r46 =>
 ifP (gif r43.1 false (ld P 25 r11.1 r46.2) r46.2 = some (r45.1, r46.2) ∧ True ∧ True ∧ True ∧ True ∧ True ∧ True) <|
 (gif r43.1 false (EV P 13 #[r45.1] r46.2) r46.2).bind fun r47 =>
 ifP (True ∧ True ∧ True ∧ True ∧ True ∧ True ∧ True) <|
 (gif r43.1 false (bo P .neq 4 (.tmp 41) (.tmp 43) r46.1 r47.1 r47.2) r47.2).bind fun r48 =>
 ifP (r48.2 = r47.2) <|
 (pickV r43.1 (.bool true) r48.1 r47.2).bind fun r49 =>
 ifP (r49.2 = r47.2) <|
 (vl r49.1 r47.2).bind fun r50 =>
 ifP (r50.2 = r47.2) <|
 (gif r50.1 false (ld P 25 r11.1 r47.2) r47.2).bind fun r51 =>
 ifP (r51.2 = r47.2) <|
 (gif r50.1 false (EV P 12 #[r51.1] r47.2) r47.2).bind fun r52 =>
 ifP (True ∧ True ∧ True ∧ True ∧ True ∧ True ∧ True ∧ True ∧ True) <|
 (gif r50.1 false (uo P .not r52.1 r52.2) r52.2).bind fun r53 =>
 ifP (r53.2 = r52.2) <|
 (pickV r50.1 (.bool true) r53.1 r52.2).bind fun r54 =>
 ifP (r54.2 = r52.2) <|
 (vl r54.1 r52.2).bind fun r55 =>
 ifP (r55.2 = r52.2) <|
 (gif r55.1 false (ld P 32 r12.1 r52.2) r52.2).bind fun r56 =>
 ifP (r56.2 = r52.2) <|
 (gif r55.1 false (EV P 14 #[r56.1] r52.2) r52.2).bind fun r57 =>
 ifP (True ∧ True ∧ True ∧ True ∧ True ∧ True ∧ True ∧ True ∧ True ∧ True ∧ True) <|
 (gif r55.1 false (uo P .not r57.1 r57.2) r57.2).bind fun r58 =>
 ifP (r58.2 = r57.2) <|
 (pickV r55.1 (.bool true) r58.1 r57.2).bind fun r59 =>
 ifP (r59.2 = r57.2) <|
 cnd r59.1 (
 (vl r23.1 (dw r57.2)).bind fun r61 =>
 ifP (r61.2 = (dw r57.2)) <|
 (vl r32.1 (dw r57.2)).bind fun r62 =>
 ifP (r62.2 = (dw r57.2)) <|
 (bo P .eql 4 (.tmp 56) (.tmp 57) r61.1 r62.1 (dw r57.2)).bind fun r63 =>
 ifP (r63.2 = (dw r57.2)) <|
 (vl r63.1 (dw r57.2)).bind fun r64 =>
 ifP (r64.2 = (dw r57.2)) <|
 (gif r64.1 true (ld P 25 r21.1 (dw r57.2)) (dw r57.2)).bind fun r65 =>
 ifP (r65.2 = (dw r57.2)) <|
 (gif r64.1 true (ld P 25 r30.1 (dw r57.2)) (dw r57.2)).bind fun r66 =>
 ifP (r66.2 = (dw r57.2)) <|
 (gif r64.1 true (EV P 11 #[r65.1, r66.1] (dw r57.2)) (dw r57.2)).bind fun r67 =>
 ifP (True ∧ True ∧ True ∧ True) <|
 (pickV r64.1 r67.1 (.bool false) r67.2).bind fun r68 =>
 ifP (r68.2 = r67.2) <|
 (vl r68.1 r67.2).bind fun r69 =>
 ifP (r69.2 = r67.2) <|
 (gif r69.1 true (ld P 25 r11.1 r67.2) r67.2).bind fun r70 =>
 ifP (r70.2 = r67.2) <|
 (gif r69.1 true (ld P 25 r11.1 r67.2) r67.2).bind fun r71 =>
 ifP (r71.2 = r67.2) <|
 (gif r69.1 true (EV P 12 #[r70.1] r67.2) r67.2).bind fun r72 =>
 ifP (gif r69.1 true (ld P 25 r11.1 r72.2) r72.2 = some (r71.1, r72.2) ∧ True ∧ True ∧ True ∧ True ∧ True) <|
 (gif r69.1 true (EV P 13 #[r71.1] r72.2) r72.2).bind fun r73 =>
 ifP (True ∧ True ∧ True ∧ True ∧ True ∧ True) <|
 (gif r69.1 true (bo P .eql 4 (.tmp 66) (.tmp 68) r72.1 r73.1 r73.2) r73.2).bind fun r74 =>
 ifP (r74.2 = r73.2) <|
 (pickV r69.1 r74.1 (.bool false) r73.2).bind fun r75 =>
 ifP (r75.2 = r73.2) <|
 (vl r75.1 r73.2).bind fun r76 =>
 ifP (r76.2 = r73.2) <|
 some (r76.1, r73.2)) (
 (vl r23.1 r57.2).bind fun r77 =>
 (uo P .not r77.1 r77.2).bind fun r78 =>
 cnd r78.1 (
 (ld P 25 r21.1 r78.2).bind fun r79 =>
 (ld P 25 r11.1 r79.2).bind fun r80 =>
 (EV P 11 #[r79.1, r80.1] r80.2).bind fun r81 =>
 (vl r81.1 r81.2).bind fun r82 =>
 some (r82.1, r82.2)) (
 (vl (.int .i64 1) r78.2).bind fun r83 =>
 laws_FnChainPut_l1 (ups (env0 #[x0]) [(2, r1.1), (10, r2.1), (11, r3.1), (12, r4.1), (14, r6.1), (15, r7.1), (13, r8.1), (16, r9.1), (17, r10.1), (3, r11.1), (4, r12.1), (19, r15.1), (20, r16.1), (21, r17.1), (18, r18.1), (22, r19.1), (23, r20.1), (5, r21.1), (6, r23.1), (25, r24.1), (26, r25.1), (27, r26.1), (24, r27.1), (28, r28.1), (29, r29.1), (7, r30.1), (8, r32.1), (30, r34.1), (31, r35.1), (32, r36.1), (33, r37.1), (34, r38.1), (35, r39.1), (36, r40.1), (37, r41.1), (38, r42.1), (39, r43.1), (40, r44.1), (42, r45.1), (41, r46.1), (43, r47.1), (44, r48.1), (45, r49.1), (46, r50.1), (47, r51.1), (48, r52.1), (49, r53.1), (50, r54.1), (51, r55.1), (52, r56.1), (53, r57.1), (54, r58.1), (55, r59.1), (71, r77.1), (72, r78.1), (9, r83.1)]) r83.2))) := by kernel_rfl
theorem spec_DrawChainPut_fn (x0 : Value) (w : World) : fnC P (EV P) 8 #[x0] w =
 (al P 25 w).bind fun r1 =>
 (al P 32 r1.2).bind fun r2 =>
 (vl x0 r2.2).bind fun r3 =>
 (EV P 38 #[r3.1] r3.2).bind fun r4 =>
 (vl r4.1 r4.2).bind fun r5 =>
 (vl r5.1 r5.2).bind fun r6 =>
 (EV P 39 #[r6.1] r6.2).bind fun r7 =>
 (al P 25 r7.2).bind fun r8 =>
 (st P 25 r8.1 r7.1 r8.2).bind fun r9 =>
 (ld P 25 r8.1 (dw r9.2)).bind fun r11 =>
 ifP (r11.2 = (dw r9.2)) <|
 (vl r5.1 (dw r9.2)).bind fun r12 =>
 ifP (r12.2 = (dw r9.2)) <|
 (EV P 40 #[r12.1] (dw r9.2)).bind fun r13 =>
 ifP (ld P 25 r8.1 r13.2 = some (r11.1, r13.2) ∧ True) <|
 (st P 25 r1.1 r11.1 r13.2).bind fun r14 =>
 ifP (True ∧ True) <|
 (st P 32 r2.1 r13.1 r14.2).bind fun r15 =>
 ifP (True ∧ True) <|
 ((ld P 25 r1.1 r15.2).bind fun r16 => ifP (r16.2 = r15.2) (some r16.1)).bind fun v17 =>
 ((ld P 32 r2.1 r15.2).bind fun r18 => ifP (r18.2 = r15.2) (some r18.1)).bind fun v19 =>
 some (.tuple #[v17, v19], r15.2) := by kernel_rfl
theorem impl_ChainPut_fn (x0 x1 : Value) (w : World) : fnC P (EV P) 9 #[x0, x1] w =
 (bx P 25 x0 w).bind fun r1 =>
 (bx P 32 x1 r1.2).bind fun r2 =>
 (al P 25 r2.2).bind fun r3 =>
 (vl (.bool false) r3.2).bind fun r4 =>
 (ld P 25 r1.1 r4.2).bind fun r5 =>
 (EV P 12 #[r5.1] r5.2).bind fun r6 =>
 (uo P .not r6.1 r6.2).bind fun r7 =>
 (vl r7.1 r7.2).bind fun r8 =>
 (gif r8.1 false (ld P 32 r2.1 r8.2) r8.2).bind fun r9 =>
 (gif r8.1 false (EV P 14 #[r9.1] r9.2) r9.2).bind fun r10 =>
 (gif r8.1 false (uo P .not r10.1 r10.2) r10.2).bind fun r11 =>
 (pickV r8.1 (.bool true) r11.1 r11.2).bind fun r12 =>
 cnd r12.1 (
 (bd P 25 #[] r12.2).bind fun r13 =>
 (st P 25 r3.1 r13.1 r13.2).bind fun r14 =>
 (vl (.bool false) r14.2).bind fun r15 =>
 ((ld P 25 r3.1 r15.2).bind fun r16 => ifP (r16.2 = r15.2) (some r16.1)).bind fun v17 =>
 some (.tuple #[v17, r15.1], r15.2)) (
 (ld P 25 r1.1 r12.2).bind fun r18 =>
 (vl (.func (Go.Fn.func 42) #[] #[r2.1]) r18.2).bind fun r19 =>
 (EV P 41 #[r18.1, r19.1] r19.2).bind fun r20 =>
 (xt P r20.1 0 r20.2).bind fun r21 =>
 (xt P r20.1 1 r21.2).bind fun r22 =>
 (st P 25 r3.1 r21.1 r22.2).bind fun r23 =>
 (vl r22.1 r23.2).bind fun r24 =>
 ((ld P 25 r3.1 r24.2).bind fun r25 => ifP (r25.2 = r24.2) (some r25.1)).bind fun v26 =>
 some (.tuple #[v26, r24.1], r24.2)) := by kernel_rfl
theorem spec_ChainPut_fn (x0 x1 : Value) (w : World) : fnC P (EV P) 10 #[x0, x1] w =
 (bx P 25 x0 w).bind fun r1 =>
 (bx P 32 x1 r1.2).bind fun r2 =>
 (al P 25 r2.2).bind fun r3 =>
 (vl (.bool false) r3.2).bind fun r4 =>
 (ld P 25 r1.1 r4.2).bind fun r5 =>
 (EV P 44 #[r5.1] r5.2).bind fun r6 =>
 (uo P .not r6.1 r6.2).bind fun r7 =>
 (vl r7.1 r7.2).bind fun r8 =>
 (gif r8.1 false (ld P 32 r2.1 r8.2) r8.2).bind fun r9 =>
 (gif r8.1 false (EV P 45 #[r9.1] r9.2) r9.2).bind fun r10 =>
 (gif r8.1 false (uo P .not r10.1 r10.2) r10.2).bind fun r11 =>
 (pickV r8.1 (.bool true) r11.1 r11.2).bind fun r12 =>
 cnd r12.1 (
 (bd P 25 #[] r12.2).bind fun r13 =>
 (st P 25 r3.1 r13.1 r13.2).bind fun r14 =>
 (vl (.bool false) r14.2).bind fun r15 =>
 ((ld P 25 r3.1 r15.2).bind fun r16 => ifP (r16.2 = r15.2) (some r16.1)).bind fun v17 =>
 some (.tuple #[v17, r15.1], r15.2)) (
 (ld P 25 r1.1 r12.2).bind fun r18 =>
 (EV P 46 #[r18.1] r18.2).bind fun r19 =>
 (uo P .not r19.1 r19.2).bind fun r20 =>
 cnd r20.1 (
 (ld P 25 r1.1 r20.2).bind fun r21 =>
 (EV P 47 #[r21.1] r21.2).bind fun r22 =>
 (st P 25 r3.1 r22.1 r22.2).bind fun r23 =>
 (vl (.bool false) r23.2).bind fun r24 =>
 ((ld P 25 r3.1 r24.2).bind fun r25 => ifP (r25.2 = r24.2) (some r25.1)).bind fun v26 =>
 some (.tuple #[v26, r24.1], r24.2)) (
 (ld P 25 r1.1 (dw r20.2)).bind fun r28 =>
 ifP (r28.2 = (dw r20.2)) <|
 (ld P 32 r2.1 (dw r20.2)).bind fun r29 =>
 ifP (r29.2 = (dw r20.2)) <|
 (EV P 47 #[r28.1] (dw r20.2)).bind fun r30 =>
 ifP (ld P 32 r2.1 r30.2 = some (r29.1, r30.2) ∧ True ∧ True) <|
 (EV P 48 #[r30.1, (.int .i64 0), r29.1] r30.2).bind fun r31 =>
 ifP (True ∧ True ∧ True) <|
 (st P 25 r3.1 r31.1 r31.2).bind fun r32 =>
 ifP (True ∧ True ∧ True) <|
 (vl (.bool true) r32.2).bind fun r33 =>
 ifP (r33.2 = r32.2) <|
 ((ld P 25 r3.1 r32.2).bind fun r34 => ifP (r34.2 = r32.2) (some r34.1)).bind fun v35 =>
 some (.tuple #[v35, r33.1], r32.2))) := by kernel_rfl
noncomputable def laws_cfChain_l1 (e : Env) (w : World) : Option (Value × World) := exC P (EV P) 11 50 (.loop (cA (cA (cB (cA (cB (cB (Yi P 11)))))))) e w (Yj 0 (kSeq P (EV P) 11 50 (cB (cB (cB (Yi P 11)))) (kFn P (fnOf P 11))))
theorem laws_cfChain_l1_eq (e : Env) (w : World) : laws_cfChain_l1 e w =
 (vl (e 5) w).bind fun r1 =>
 (fa P 25 (e 2) 0 r1.2).bind fun r2 =>
 (ld P 23 r2.1 r2.2).bind fun r3 =>
 (b_len P #[23] 3 #[r3.1] r3.2).bind fun r4 =>
 (bo P .lss 3 (.tmp 13) (.tmp 16) r1.1 r4.1 r4.2).bind fun r5 =>
 cnd r5.1 (
 (fa P 25 (e 2) 0 (dw r5.2)).bind fun r7 =>
 ifP (r7.2 = (dw r5.2)) <|
 (ld P 23 r7.1 (dw r5.2)).bind fun r8 =>
 ifP (r8.2 = (dw r5.2)) <|
 (vl (e 5) (dw r5.2)).bind fun r9 =>
 ifP (r9.2 = (dw r5.2)) <|
 (ia P 23 r8.1 r9.1 (dw r5.2)).bind fun r10 =>
 ifP (r10.2 = (dw r5.2)) <|
 (fa P 45 r10.1 0 (dw r5.2)).bind fun r11 =>
 ifP (r11.2 = (dw r5.2)) <|
 (ld P 43 r11.1 (dw r5.2)).bind fun r12 =>
 ifP (r12.2 = (dw r5.2)) <|
 (fa P 25 (e 3) 0 (dw r5.2)).bind fun r13 =>
 ifP (r13.2 = (dw r5.2)) <|
 (ld P 23 r13.1 (dw r5.2)).bind fun r14 =>
 ifP (r14.2 = (dw r5.2)) <|
 (vl (e 5) (dw r5.2)).bind fun r15 =>
 ifP (r15.2 = (dw r5.2)) <|
 (ia P 23 r14.1 r15.1 (dw r5.2)).bind fun r16 =>
 ifP (r16.2 = (dw r5.2)) <|
 (fa P 45 r16.1 0 (dw r5.2)).bind fun r17 =>
 ifP (r17.2 = (dw r5.2)) <|
 (ld P 43 r17.1 (dw r5.2)).bind fun r18 =>
 ifP (r18.2 = (dw r5.2)) <|
 (EV P 15 #[r12.1, r18.1] (dw r5.2)).bind fun r19 =>
 ifP (True ∧ True ∧ True ∧ True ∧ True ∧ True ∧ True ∧ True ∧ True ∧ True ∧ True) <|
 (uo P .not r19.1 r19.2).bind fun r20 =>
 ifP (r20.2 = r19.2) <|
 (vl r20.1 r19.2).bind fun r21 =>
 ifP (r21.2 = r19.2) <|
 (gif r21.1 false (fa P 25 (e 2) 0 r19.2) r19.2).bind fun r22 =>
 ifP (r22.2 = r19.2) <|
 (gif r21.1 false (ld P 23 r22.1 r19.2) r19.2).bind fun r23 =>
 ifP (r23.2 = r19.2) <|
 (gif r21.1 false (vl (e 5) r19.2) r19.2).bind fun r24 =>
 ifP (r24.2 = r19.2) <|
 (gif r21.1 false (ia P 23 r23.1 r24.1 r19.2) r19.2).bind fun r25 =>
 ifP (r25.2 = r19.2) <|
 (gif r21.1 false (fa P 45 r25.1 1 r19.2) r19.2).bind fun r26 =>
 ifP (r26.2 = r19.2) <|
 (gif r21.1 false (ld P 41 r26.1 r19.2) r19.2).bind fun r27 =>
 ifP (r27.2 = r19.2) <|
 (gif r21.1 false (fa P 25 (e 3) 0 r19.2) r19.2).bind fun r28 =>
 ifP (r28.2 = r19.2) <|
 (gif r21.1 false (ld P 23 r28.1 r19.2) r19.2).bind fun r29 =>
 ifP (r29.2 = r19.2) <|
 (gif r21.1 false (vl (e 5) r19.2) r19.2).bind fun r30 =>
 ifP (r30.2 = r19.2) <|
 (gif r21.1 false (ia P 23 r29.1 r30.1 r19.2) r19.2).bind fun r31 =>
 ifP (r31.2 = r19.2) <|
 (gif r21.1 false (fa P 45 r31.1 1 r19.2) r19.2).bind fun r32 =>
 ifP (r32.2 = r19.2) <|
 (gif r21.1 false (ld P 41 r32.1 r19.2) r19.2).bind fun r33 =>
 ifP (r33.2 = r19.2) <|
 (gif r21.1 false (EV P 49 #[r27.1, r33.1] r19.2) r19.2).bind fun r34 =>
 ifP (True ∧ True ∧ True ∧ True ∧ True ∧ True ∧ True ∧ True ∧ True ∧ True ∧ True ∧ True ∧ True ∧ True ∧ True ∧ True ∧ True ∧ True ∧ True ∧ True ∧ True ∧ True) <|
 (gif r21.1 false (uo P .not r34.1 r34.2) r34.2).bind fun r35 =>
 ifP (r35.2 = r34.2) <|
 (pickV r21.1 (.bool true) r35.1 r34.2).bind fun r36 =>
 ifP (r36.2 = r34.2) <|
 cnd r36.1 (
 (vl (.bool false) r34.2).bind fun r37 =>
 some (r37.1, r37.2)) (
 (vl (e 5) r34.2).bind fun r38 =>
 (bo P .add 3 (.tmp 18) (.const (.int .i64 1)) r38.1 (.int .i64 1) r38.2).bind fun r39 =>
 (vl r39.1 r39.2).bind fun r40 =>
 laws_cfChain_l1 (ups e [(13, r1.1), (14, r2.1), (15, r3.1), (16, r4.1), (17, r5.1), (20, r7.1), (21, r8.1), (22, r9.1), (23, r10.1), (24, r11.1), (25, r12.1), (26, r13.1), (27, r14.1), (28, r15.1), (29, r16.1), (30, r17.1), (31, r18.1), (32, r19.1), (33, r20.1), (34, r21.1), (35, r22.1), (36, r23.1), (37, r24.1), (38, r25.1), (39, r26.1), (40, r27.1), (41, r28.1), (42, r29.1), (43, r30.1), (44, r31.1), (45, r32.1), (46, r33.1), (47, r34.1), (48, r35.1), (49, r36.1), (18, r38.1), (19, r39.1), (5, r40.1)]) r40.2)) (
 (vl (.bool true) r5.2).bind fun r41 =>
 some (r41.1, r41.2)) := (exC_loop P (EV P) 11 50 (cA (cA (cB (cA (cB (cB (Yi P 11))))))) e w (Yj 0 (kSeq P (EV P) 11 50 (cB (cB (cB (Yi P 11)))) (kFn P (fnOf P 11))))).trans (by kernel_rfl)
theorem laws_cfChain_fn (x0 x1 : Value) (w : World) : fnC P (EV P) 11 #[x0, x1] w =
 (bx P 25 x0 w).bind fun r1 =>
 (bx P 25 x1 r1.2).bind fun r2 =>
 (vl (.bool false) r2.2).bind fun r3 =>
 (fa P 25 r1.1 0 r3.2).bind fun r4 =>
 (ld P 23 r4.1 r4.2).bind fun r5 =>
 (b_len P #[23] 3 #[r5.1] r5.2).bind fun r6 =>
 (fa P 25 r2.1 0 r6.2).bind fun r7 =>
 (ld P 23 r7.1 r7.2).bind fun r8 =>
 (b_len P #[23] 3 #[r8.1] r8.2).bind fun r9 =>
 (bo P .neq 3 (.tmp 8) (.tmp 11) r6.1 r9.1 r9.2).bind fun r10 =>
 cnd r10.1 (
 (vl (.bool false) r10.2).bind fun r11 =>
 some (r11.1, r11.2)) (
 (vl (.int .i64 0) r10.2).bind fun r12 =>
 laws_cfChain_l1 (ups (env0 #[x0, x1]) [(2, r1.1), (3, r2.1), (4, r3.1), (6, r4.1), (7, r5.1), (8, r6.1), (9, r7.1), (10, r8.1), (11, r9.1), (12, r10.1), (5, r12.1)]) r12.2) := by kernel_rfl
noncomputable def impl_ChainOk_l1 (e : Env) (w : World) : Option (Value × World) := exC P (EV P) 12 71 (.loop (cA (cA (cB (cA (cB (cB (Yi P 12)))))))) e w (Yj 0 (kSeq P (EV P) 12 71 (cB (cB (cB (Yi P 12)))) (kFn P (fnOf P 12))))
noncomputable def impl_ChainOk_l2 (e : Env) (w : World) : Option (Value × World) := exC P (EV P) 12 71 (.loop (cA (cA (cB (cA (cB (cB (cB (Yi P 12))))))))) e w (Yj 2 (kSeq P (EV P) 12 71 (cB (cB (cB (cB (Yi P 12))))) (kFn P (fnOf P 12))))
theorem impl_ChainOk_l1_eq (e : Env) (w : World) : impl_ChainOk_l1 e w =
 (bo P .lss 3 (.tmp 15) (.tmp 14) (e 15) (e 14) w).bind fun r1 =>
 cnd r1.1 (
 (ia P 23 (e 13) (e 15) r1.2).bind fun r2 =>
 (ld P 45 r2.1 r2.2).bind fun r3 =>
 (al P 45 r3.2).bind fun r4 =>
 (st P 45 r4.1 r3.1 r4.2).bind fun r5 =>
 (fa P 45 r4.1 0 r5.2).bind fun r6 =>
 (ld P 43 r6.1 r6.2).bind fun r7 =>
 (EV P 22 #[r7.1] r7.2).bind fun r8 =>
 (uo P .not r8.1 r8.2).bind fun r9 =>
 (vl r9.1 r9.2).bind fun r10 =>
 (gif r10.1 false (fa P 45 r4.1 1 r10.2) r10.2).bind fun r11 =>
 (gif r10.1 false (ld P 41 r11.1 r11.2) r11.2).bind fun r12 =>
 (gif r10.1 false (b_len P #[41] 3 #[r12.1] r12.2) r12.2).bind fun r13 =>
 (gif r10.1 false (bo P .gtr 3 (.tmp 26) (.const (.int .i64 6)) r13.1 (.int .i64 6) r13.2) r13.2).bind fun r14 =>
 (pickV r10.1 (.bool true) r14.1 r14.2).bind fun r15 =>
 (vl r15.1 r15.2).bind fun r16 =>
 (gif r16.1 false (fa P 45 r4.1 1 r16.2) r16.2).bind fun r17 =>
 (gif r16.1 false (ld P 41 r17.1 r17.2) r17.2).bind fun r18 =>
 (gif r16.1 false (EV P 51 #[r18.1, (.func (.func 52) #[] #[])] r18.2) r18.2).bind fun r19 =>
 (pickV r16.1 (.bool true) r19.1 r19.2).bind fun r20 =>
 cnd r20.1 (
 (vl (.bool false) r20.2).bind fun r21 =>
 some (r21.1, r21.2)) (
 (bo P .add 3 (.tmp 15) (.const (.int .i64 1)) (e 15) (.int .i64 1) r20.2).bind fun r22 =>
 (vl r22.1 r22.2).bind fun r23 =>
 impl_ChainOk_l1 (ups e [(16, r1.1), (17, r2.1), (18, r3.1), (4, r4.1), (19, r6.1), (20, r7.1), (21, r8.1), (22, r9.1), (23, r10.1), (24, r11.1), (25, r12.1), (26, r13.1), (27, r14.1), (28, r15.1), (29, r16.1), (30, r17.1), (31, r18.1), (32, r19.1), (33, r20.1), (34, r22.1), (15, r23.1)]) r23.2)) (
 (fa P 25 (e 1) 0 r1.2).bind fun r24 =>
 (ld P 23 r24.1 r24.2).bind fun r25 =>
 (b_len P #[23] 3 #[r25.1] r25.2).bind fun r26 =>
 (vl (.int .i64 0) r26.2).bind fun r27 =>
 impl_ChainOk_l2 (ups e [(16, r1.1), (35, r24.1), (36, r25.1), (37, r26.1), (38, r27.1)]) r27.2) := (exC_loop P (EV P) 12 71 (cA (cA (cB (cA (cB (cB (Yi P 12))))))) e w (Yj 0 (kSeq P (EV P) 12 71 (cB (cB (cB (Yi P 12)))) (kFn P (fnOf P 12))))).trans (by kernel_rfl)
theorem impl_ChainOk_l2_eq (e : Env) (w : World) : impl_ChainOk_l2 e w =
 (bo P .lss 3 (.tmp 38) (.tmp 37) (e 38) (e 37) w).bind fun r1 =>
 cnd r1.1 (
 (vl (e 38) r1.2).bind fun r2 =>
 (ia P 23 (e 36) (e 38) r2.2).bind fun r3 =>
 (ld P 45 r3.1 r3.2).bind fun r4 =>
 (al P 45 r4.2).bind fun r5 =>
 (vl r2.1 r5.2).bind fun r6 =>
 (st P 45 r5.1 r4.1 r6.2).bind fun r7 =>
 (ld P 25 (e 1) (dw r7.2)).bind fun r9 =>
 ifP (r9.2 = (dw r7.2)) <|
 (vl r6.1 (dw r7.2)).bind fun r10 =>
 ifP (r10.2 = (dw r7.2)) <|
 (EV P 53 #[r9.1, r10.1] (dw r7.2)).bind fun r11 =>
 ifP (True ∧ True) <|
 (vl r11.1 r11.2).bind fun r12 =>
 ifP (r12.2 = r11.2) <|
 (gif r12.1 true (fa P 45 r5.1 1 r11.2) r11.2).bind fun r13 =>
 ifP (r13.2 = r11.2) <|
 (gif r12.1 true (ld P 41 r13.1 r11.2) r11.2).bind fun r14 =>
 ifP (r14.2 = r11.2) <|
 (gif r12.1 true (b_len P #[41] 3 #[r14.1] r11.2) r11.2).bind fun r15 =>
 ifP (r15.2 = r11.2) <|
 (gif r12.1 true (bo P .gtr 3 (.tmp 49) (.const (.int .i64 0)) r15.1 (.int .i64 0) r11.2) r11.2).bind fun r16 =>
 ifP (r16.2 = r11.2) <|
 (pickV r12.1 r16.1 (.bool false) r11.2).bind fun r17 =>
 ifP (r17.2 = r11.2) <|
 (vl r17.1 r11.2).bind fun r18 =>
 ifP (r18.2 = r11.2) <|
 (gif r18.1 false (ld P 25 (e 1) r11.2) r11.2).bind fun r19 =>
 ifP (r19.2 = r11.2) <|
 (gif r18.1 false (vl r6.1 r11.2) r11.2).bind fun r20 =>
 ifP (r20.2 = r11.2) <|
 (gif r18.1 false (EV P 53 #[r19.1, r20.1] r11.2) r11.2).bind fun r21 =>
 ifP (True ∧ True ∧ True ∧ True ∧ True ∧ True ∧ True) <|
 (gif r18.1 false (uo P .not r21.1 r21.2) r21.2).bind fun r22 =>
 ifP (r22.2 = r21.2) <|
 (gif r18.1 false (vl r22.1 r21.2) r21.2).bind fun r23 =>
 ifP (r23.2 = r21.2) <|
 (gif r23.1 true (ld P 45 r5.1 r21.2) r21.2).bind fun r24 =>
 ifP (r24.2 = r21.2) <|
 (gif r23.1 true (fa P 25 (e 1) 0 r21.2) r21.2).bind fun r25 =>
 ifP (r25.2 = r21.2) <|
 (gif r23.1 true (ld P 23 r25.1 r21.2) r21.2).bind fun r26 =>
 ifP (r26.2 = r21.2) <|
 (gif r23.1 true (vl r6.1 r21.2) r21.2).bind fun r27 =>
 ifP (r27.2 = r21.2) <|
 (gif r23.1 true (bo P .add 3 (.tmp 61) (.const (.int .i64 1)) r27.1 (.int .i64 1) r21.2) r21.2).bind fun r28 =>
 ifP (r28.2 = r21.2) <|
 (gif r23.1 true (ia P 23 r26.1 r28.1 r21.2) r21.2).bind fun r29 =>
 ifP (r29.2 = r21.2) <|
 (gif r23.1 true (fa P 45 r29.1 0 r21.2) r21.2).bind fun r30 =>
 ifP (r30.2 = r21.2) <|
 (gif r23.1 true (ld P 43 r30.1 r21.2) r21.2).bind fun r31 =>
 ifP (r31.2 = r21.2) <|
 (gif r23.1 true (EV P 54 #[r24.1, r31.1] r21.2) r21.2).bind fun r32 =>
 ifP (True ∧ True ∧ True ∧ True ∧ True ∧ True ∧ True ∧ True ∧ True ∧ True ∧ True ∧ True ∧ True ∧ True ∧ True) <|
 (gif r23.1 true (uo P .not r32.1 r32.2) r32.2).bind fun r33 =>
 ifP (r33.2 = r32.2) <|
 (gif r18.1 false (pickV r23.1 r33.1 (.bool false) r32.2) r32.2).bind fun r34 =>
 ifP (r34.2 = r32.2) <|
 (pickV r18.1 (.bool true) r34.1 r32.2).bind fun r35 =>
 ifP (r35.2 = r32.2) <|
 cnd r35.1 (
 (vl (.bool false) r32.2).bind fun r36 =>
 some (r36.1, r36.2)) (
 (bo P .add 3 (.tmp 38) (.const (.int .i64 1)) (e 38) (.int .i64 1) r32.2).bind fun r37 =>
 (vl r37.1 r37.2).bind fun r38 =>
 impl_ChainOk_l2 (ups e [(39, r1.1), (40, r2.1), (41, r3.1), (42, r4.1), (6, r5.1), (5, r6.1), (43, r9.1), (44, r10.1), (45, r11.1), (46, r12.1), (47, r13.1), (48, r14.1), (49, r15.1), (50, r16.1), (51, r17.1), (52, r18.1), (53, r19.1), (54, r20.1), (55, r21.1), (56, r22.1), (57, r23.1), (58, r24.1), (59, r25.1), (60, r26.1), (61, r27.1), (62, r28.1), (63, r29.1), (64, r30.1), (65, r31.1), (66, r32.1), (67, r33.1), (68, r34.1), (69, r35.1), (70, r37.1), (38, r38.1)]) r38.2)) (
 (vl (.bool true) r1.2).bind fun r39 =>
 some (r39.1, r39.2)) := (exC_loop P (EV P) 12 71 (cA (cA (cB (cA (cB (cB (cB (Yi P 12)))))))) e w (Yj 2 (kSeq P (EV P) 12 71 (cB (cB (cB (cB (Yi P 12))))) (kFn P (fnOf P 12))))).trans (by kernel_rfl)
theorem impl_ChainOk_fn (x0 : Value) (w : World) : fnC P (EV P) 12 #[x0] w =
 (bx P 25 x0 w).bind fun r1 =>
 (vl (.bool false) r1.2).bind fun r2 =>
 (fa P 25 r1.1 0 r2.2).bind fun r3 =>
 (ld P 23 r3.1 r3.2).bind fun r4 =>
 (b_len P #[23] 3 #[r4.1] r4.2).bind fun r5 =>
 (EV P 50 #[r5.1] r5.2).bind fun r6 =>
 (uo P .not r6.1 r6.2).bind fun r7 =>
 cnd r7.1 (
 (vl (.bool false) r7.2).bind fun r8 =>
 some (r8.1, r8.2)) (
 (fa P 25 r1.1 0 r7.2).bind fun r9 =>
 (ld P 23 r9.1 r9.2).bind fun r10 =>
 (b_len P #[23] 3 #[r10.1] r10.2).bind fun r11 =>
 (vl (.int .i64 0) r11.2).bind fun r12 =>
 impl_ChainOk_l1 (ups (env0 #[x0]) [(1, r1.1), (2, r2.1), (7, r3.1), (8, r4.1), (9, r5.1), (10, r6.1), (11, r7.1), (12, r9.1), (13, r10.1), (14, r11.1), (15, r12.1)]) r12.2) := by kernel_rfl
theorem spec_ChainOk_fn (x0 : Value) (w : World) : fnC P (EV P) 13 #[x0] w =
 (bx P 25 x0 w).bind fun r1 =>
 (vl (.bool false) r1.2).bind fun r2 =>
 (ld P 25 r1.1 r2.2).bind fun r3 =>
 (EV P 44 #[r3.1] r3.2).bind fun r4 =>
 (vl r4.1 r4.2).bind fun r5 =>
 some (r5.1, r5.2) := by kernel_rfl
theorem impl_VerOk_fn (x0 : Value) (w : World) : fnC P (EV P) 14 #[x0] w =
 (bx P 32 x0 w).bind fun r1 =>
 (vl (.bool false) r1.2).bind fun r2 =>
 (ld P 32 r1.1 (dw r2.2)).bind fun r4 =>
 ifP (r4.2 = (dw r2.2)) <|
 (EV P 55 #[r4.1] (dw r2.2)).bind fun r5 =>
 ifP (True ∧ True) <|
 (vl r5.1 r5.2).bind fun r6 =>
 ifP (r6.2 = r5.2) <|
 (gif r6.1 true (fa P 32 r1.1 1 r5.2) r5.2).bind fun r7 =>
 ifP (r7.2 = r5.2) <|
 (gif r6.1 true (ld P 27 r7.1 r5.2) r5.2).bind fun r8 =>
 ifP (r8.2 = r5.2) <|
 (gif r6.1 true (EV P 56 #[r8.1] r5.2) r5.2).bind fun r9 =>
 ifP (True ∧ True ∧ True ∧ True) <|
 (pickV r6.1 r9.1 (.bool false) r9.2).bind fun r10 =>
 ifP (r10.2 = r9.2) <|
 (vl r10.1 r9.2).bind fun r11 =>
 ifP (r11.2 = r9.2) <|
 (gif r11.1 true (fa P 32 r1.1 1 r9.2) r9.2).bind fun r12 =>
 ifP (r12.2 = r9.2) <|
 (gif r11.1 true (fa P 27 r12.1 0 r9.2) r9.2).bind fun r13 =>
 ifP (r13.2 = r9.2) <|
 (gif r11.1 true (ld P 3 r13.1 r9.2) r9.2).bind fun r14 =>
 ifP (r14.2 = r9.2) <|
 (gif r11.1 true (fa P 32 r1.1 2 r9.2) r9.2).bind fun r15 =>
 ifP (r15.2 = r9.2) <|
 (gif r11.1 true (ld P 30 r15.1 r9.2) r9.2).bind fun r16 =>
 ifP (r16.2 = r9.2) <|
 (gif r11.1 true (EV P 57 #[r16.1] r9.2) r9.2).bind fun r17 =>
 ifP (True ∧ True ∧ gif r11.1 true (ld P 3 r13.1 r17.2) r17.2 = some (r14.1, r17.2) ∧ gif r11.1 true (fa P 27 r12.1 0 r17.2) r17.2 = some (r13.1, r17.2) ∧ gif r11.1 true (fa P 32 r1.1 1 r17.2) r17.2 = some (r12.1, r17.2) ∧ True ∧ True ∧ True ∧ True) <|
 (gif r11.1 true (bo P .gtr 3 (.tmp 13) (.tmp 16) r14.1 r17.1 r17.2) r17.2).bind fun r18 =>
 ifP (r18.2 = r17.2) <|
 (pickV r11.1 r18.1 (.bool false) r17.2).bind fun r19 =>
 ifP (r19.2 = r17.2) <|
 (vl r19.1 r17.2).bind fun r20 =>
 ifP (r20.2 = r17.2) <|
 some (r20.1, r17.2) := by kernel_rfl
noncomputable def laws_cfStore_l1 (e : Env) (w : World) : Option (Value × World) := exC P (EV P) 15 32 (.loop (cA (cA (cB (cA (cB (cB (Yi P 15)))))))) e w (Yj 0 (kSeq P (EV P) 15 32 (cB (cB (cB (Yi P 15)))) (kFn P (fnOf P 15))))
theorem laws_cfStore_l1_eq (e : Env) (w : World) : laws_cfStore_l1 e w =
 (vl (e 5) w).bind fun r1 =>
 (fa P 43 (e 2) 0 r1.2).bind fun r2 =>
 (ld P 41 r2.1 r2.2).bind fun r3 =>
 (b_len P #[41] 3 #[r3.1] r3.2).bind fun r4 =>
 (bo P .lss 3 (.tmp 13) (.tmp 16) r1.1 r4.1 r4.2).bind fun r5 =>
 cnd r5.1 (
 (fa P 43 (e 2) 0 (dw r5.2)).bind fun r7 =>
 ifP (r7.2 = (dw r5.2)) <|
 (ld P 41 r7.1 (dw r5.2)).bind fun r8 =>
 ifP (r8.2 = (dw r5.2)) <|
 (vl (e 5) (dw r5.2)).bind fun r9 =>
 ifP (r9.2 = (dw r5.2)) <|
 (ia P 41 r8.1 r9.1 (dw r5.2)).bind fun r10 =>
 ifP (r10.2 = (dw r5.2)) <|
 (ld P 32 r10.1 (dw r5.2)).bind fun r11 =>
 ifP (r11.2 = (dw r5.2)) <|
 (fa P 43 (e 3) 0 (dw r5.2)).bind fun r12 =>
 ifP (r12.2 = (dw r5.2)) <|
 (ld P 41 r12.1 (dw r5.2)).bind fun r13 =>
 ifP (r13.2 = (dw r5.2)) <|
 (vl (e 5) (dw r5.2)).bind fun r14 =>
 ifP (r14.2 = (dw r5.2)) <|
 (ia P 41 r13.1 r14.1 (dw r5.2)).bind fun r15 =>
 ifP (r15.2 = (dw r5.2)) <|
 (ld P 32 r15.1 (dw r5.2)).bind fun r16 =>
 ifP (r16.2 = (dw r5.2)) <|
 (EV P 58 #[r11.1, r16.1] (dw r5.2)).bind fun r17 =>
 ifP (True ∧ True ∧ True ∧ True ∧ True ∧ True ∧ True ∧ True ∧ True) <|
 (uo P .not r17.1 r17.2).bind fun r18 =>
 ifP (r18.2 = r17.2) <|
 cnd r18.1 (
 (vl (.bool false) r17.2).bind fun r19 =>
 some (r19.1, r19.2)) (
 (vl (e 5) r17.2).bind fun r20 =>
 (bo P .add 3 (.tmp 18) (.const (.int .i64 1)) r20.1 (.int .i64 1) r20.2).bind fun r21 =>
 (vl r21.1 r21.2).bind fun r22 =>
 laws_cfStore_l1 (ups e [(13, r1.1), (14, r2.1), (15, r3.1), (16, r4.1), (17, r5.1), (20, r7.1), (21, r8.1), (22, r9.1), (23, r10.1), (24, r11.1), (25, r12.1), (26, r13.1), (27, r14.1), (28, r15.1), (29, r16.1), (30, r17.1), (31, r18.1), (18, r20.1), (19, r21.1), (5, r22.1)]) r22.2)) (
 (vl (.bool true) r5.2).bind fun r23 =>
 some (r23.1, r23.2)) := (exC_loop P (EV P) 15 32 (cA (cA (cB (cA (cB (cB (Yi P 15))))))) e w (Yj 0 (kSeq P (EV P) 15 32 (cB (cB (cB (Yi P 15)))) (kFn P (fnOf P 15))))).trans (by kernel_rfl)
theorem laws_cfStore_fn (x0 x1 : Value) (w : World) : fnC P (EV P) 15 #[x0, x1] w =
 (bx P 43 x0 w).bind fun r1 =>
 (bx P 43 x1 r1.2).bind fun r2 =>
 (vl (.bool false) r2.2).bind fun r3 =>
 (fa P 43 r1.1 0 r3.2).bind fun r4 =>
 (ld P 41 r4.1 r4.2).bind fun r5 =>
 (b_len P #[41] 3 #[r5.1] r5.2).bind fun r6 =>
 (fa P 43 r2.1 0 r6.2).bind fun r7 =>
 (ld P 41 r7.1 r7.2).bind fun r8 =>
 (b_len P #[41] 3 #[r8.1] r8.2).bind fun r9 =>
 (bo P .neq 3 (.tmp 8) (.tmp 11) r6.1 r9.1 r9.2).bind fun r10 =>
 cnd r10.1 (
 (vl (.bool false) r10.2).bind fun r11 =>
 some (r11.1, r11.2)) (
 (vl (.int .i64 0) r10.2).bind fun r12 =>
 laws_cfStore_l1 (ups (env0 #[x0, x1]) [(2, r1.1), (3, r2.1), (4, r3.1), (6, r4.1), (7, r5.1), (8, r6.1), (9, r7.1), (10, r8.1), (11, r9.1), (12, r10.1), (5, r12.1)]) r12.2) := by kernel_rfl
noncomputable def impl_StoreAdd_j1 (e : Env) (w : World) : Option (Value × World) := exC P (EV P) 16 28 (cB (cB (cB (cB (Yi P 16))))) e w (kFn P (fnOf P 16))
theorem impl_StoreAdd_j1_eq (e : Env) (w : World) : impl_StoreAdd_j1 e w =
 (ld P 43 (e 5) w).bind fun r1 =>
 (st P 43 (e 4) r1.1 r1.2).bind fun r2 =>
 ((ld P 43 (e 4) r2.2).bind fun r3 => ifP (r3.2 = r2.2) (some r3.1)).bind fun v4 =>
 some (v4, r2.2) := by kernel_rfl
theorem impl_StoreAdd_fn (x0 x1 : Value) (w : World) : fnC P (EV P) 16 #[x0, x1] w =
 (bx P 43 x0 w).bind fun r1 =>
 (bx P 32 x1 r1.2).bind fun r2 =>
 (al P 43 r2.2).bind fun r3 =>
 (ld P 43 r1.1 r3.2).bind fun r4 =>
 (EV P 22 #[r4.1] r4.2).bind fun r5 =>
 (uo P .not r5.1 r5.2).bind fun r6 =>
 (vl r6.1 r6.2).bind fun r7 =>
 (gif r7.1 false (ld P 32 r2.1 r7.2) r7.2).bind fun r8 =>
 (gif r7.1 false (EV P 14 #[r8.1] r8.2) r8.2).bind fun r9 =>
 (gif r7.1 false (uo P .not r9.1 r9.2) r9.2).bind fun r10 =>
 (pickV r7.1 (.bool true) r10.1 r10.2).bind fun r11 =>
 cnd r11.1 (
 (bd P 43 #[] r11.2).bind fun r12 =>
 (st P 43 r3.1 r12.1 r12.2).bind fun r13 =>
 ((ld P 43 r3.1 r13.2).bind fun r14 => ifP (r14.2 = r13.2) (some r14.1)).bind fun v15 =>
 some (v15, r13.2)) (
 (ld P 43 r1.1 r11.2).bind fun r16 =>
 (EV P 59 #[r16.1] r16.2).bind fun r17 =>
 (al P 43 r17.2).bind fun r18 =>
 (st P 43 r18.1 r17.1 r18.2).bind fun r19 =>
 (ld P 43 r18.1 r19.2).bind fun r20 =>
 (ld P 32 r2.1 r20.2).bind fun r21 =>
 (EV P 60 #[r20.1, r21.1] r21.2).bind fun r22 =>
 cnd r22.1 (
 (fa P 43 r18.1 0 (dw r22.2)).bind fun r24 =>
 ifP (r24.2 = (dw r22.2)) <|
 (ld P 41 r24.1 (dw r22.2)).bind fun r25 =>
 ifP (r25.2 = (dw r22.2)) <|
 (fa P 32 r2.1 0 (dw r22.2)).bind fun r26 =>
 ifP (r26.2 = (dw r22.2)) <|
 (ld P 3 r26.1 (dw r22.2)).bind fun r27 =>
 ifP (r27.2 = (dw r22.2)) <|
 (ld P 32 r2.1 (dw r22.2)).bind fun r28 =>
 ifP (r28.2 = (dw r22.2)) <|
 (EV P 61 #[r28.1] (dw r22.2)).bind fun r29 =>
 ifP (True ∧ ld P 3 r26.1 r29.2 = some (r27.1, r29.2) ∧ fa P 32 r2.1 0 r29.2 = some (r26.1, r29.2) ∧ ld P 41 r24.1 r29.2 = some (r25.1, r29.2) ∧ fa P 43 r18.1 0 r29.2 = some (r24.1, r29.2) ∧ True) <|
 (ia P 41 r25.1 r27.1 r29.2).bind fun r30 =>
 ifP (r30.2 = r29.2) <|
 (st P 32 r30.1 r29.1 r29.2).bind fun r31 =>
 ifP (True ∧ True ∧ True ∧ True ∧ True ∧ True ∧ True) <|
 impl_StoreAdd_j1 (ups (env0 #[x0, x1]) [(2, r1.1), (3, r2.1), (4, r3.1), (6, r4.1), (7, r5.1), (8, r6.1), (9, r7.1), (10, r8.1), (11, r9.1), (12, r10.1), (13, r11.1), (15, r16.1), (16, r17.1), (5, r18.1), (17, r20.1), (18, r21.1), (19, r22.1), (20, r24.1), (21, r25.1), (22, r26.1), (23, r27.1), (24, r28.1), (25, r29.1), (26, r30.1)]) r31.2) (
 impl_StoreAdd_j1 (ups (env0 #[x0, x1]) [(2, r1.1), (3, r2.1), (4, r3.1), (6, r4.1), (7, r5.1), (8, r6.1), (9, r7.1), (10, r8.1), (11, r9.1), (12, r10.1), (13, r11.1), (15, r16.1), (16, r17.1), (5, r18.1), (17, r20.1), (18, r21.1), (19, r22.1)]) r22.2)) := by kernel_rfl
noncomputable def impl_StoreOk_l1 (e : Env) (w : World) : Option (Value × World) := exC P (EV P) 22 33 (.loop (cA (cA (cB (cA (cB (Yi P 22))))))) e w (Yj 0 (kSeq P (EV P) 22 33 (cB (cB (Yi P 22))) (kFn P (fnOf P 22))))
theorem impl_StoreOk_l1_eq (e : Env) (w : World) : impl_StoreOk_l1 e w =
 (bo P .lss 3 (.tmp 8) (.tmp 7) (e 8) (e 7) w).bind fun r1 =>
 cnd r1.1 (
 (vl (e 8) r1.2).bind fun r2 =>
 (ia P 41 (e 6) (e 8) r2.2).bind fun r3 =>
 (ld P 32 r3.1 r3.2).bind fun r4 =>
 (al P 32 r4.2).bind fun r5 =>
 (vl r2.1 r5.2).bind fun r6 =>
 (st P 32 r5.1 r4.1 r6.2).bind fun r7 =>
 (ld P 32 r5.1 r7.2).bind fun r8 =>
 (bd P 32 #[] r8.2).bind fun r9 =>
 (EV P 71 #[r8.1, r9.1] r9.2).bind fun r10 =>
 (uo P .not r10.1 r10.2).bind fun r11 =>
 (vl r11.1 r11.2).bind fun r12 =>
 (gif r12.1 true (ld P 32 r5.1 r12.2) r12.2).bind fun r13 =>
 (gif r12.1 true (EV P 14 #[r13.1] r13.2) r13.2).bind fun r14 =>
 (gif r12.1 true (uo P .not r14.1 r14.2) r14.2).bind fun r15 =>
 (gif r12.1 true (vl r15.1 r15.2) r15.2).bind fun r16 =>
 (gif r16.1 false (fa P 32 r5.1 0 r16.2) r16.2).bind fun r17 =>
 (gif r16.1 false (ld P 3 r17.1 r17.2) r17.2).bind fun r18 =>
 (gif r16.1 false (vl r6.1 r18.2) r18.2).bind fun r19 =>
 (gif r16.1 false (bo P .neq 3 (.tmp 23) (.tmp 24) r18.1 r19.1 r19.2) r19.2).bind fun r20 =>
 (gif r12.1 true (pickV r16.1 (.bool true) r20.1 r20.2) r20.2).bind fun r21 =>
 (pickV r12.1 r21.1 (.bool false) r21.2).bind fun r22 =>
 cnd r22.1 (
 (vl (.bool false) r22.2).bind fun r23 =>
 some (r23.1, r23.2)) (
 (bo P .add 3 (.tmp 8) (.const (.int .i64 1)) (e 8) (.int .i64 1) r22.2).bind fun r24 =>
 (vl r24.1 r24.2).bind fun r25 =>
 impl_StoreOk_l1 (ups e [(9, r1.1), (10, r2.1), (11, r3.1), (12, r4.1), (4, r5.1), (3, r6.1), (13, r8.1), (14, r9.1), (15, r10.1), (16, r11.1), (17, r12.1), (18, r13.1), (19, r14.1), (20, r15.1), (21, r16.1), (22, r17.1), (23, r18.1), (24, r19.1), (25, r20.1), (26, r21.1), (27, r22.1), (28, r24.1), (8, r25.1)]) r25.2)) (
 (fa P 43 (e 1) 0 r1.2).bind fun r26 =>
 (ld P 41 r26.1 r26.2).bind fun r27 =>
 (b_len P #[41] 3 #[r27.1] r27.2).bind fun r28 =>
 (bo P .eql 3 (.tmp 31) (.const (.int .i64 4)) r28.1 (.int .i64 4) r28.2).bind fun r29 =>
 (vl r29.1 r29.2).bind fun r30 =>
 some (r30.1, r30.2)) := (exC_loop P (EV P) 22 33 (cA (cA (cB (cA (cB (Yi P 22)))))) e w (Yj 0 (kSeq P (EV P) 22 33 (cB (cB (Yi P 22))) (kFn P (fnOf P 22))))).trans (by kernel_rfl)
theorem impl_StoreOk_fn (x0 : Value) (w : World) : fnC P (EV P) 22 #[x0] w =
 (bx P 43 x0 w).bind fun r1 =>
 (vl (.bool false) r1.2).bind fun r2 =>
 (fa P 43 r1.1 0 r2.2).bind fun r3 =>
 (ld P 41 r3.1 r3.2).bind fun r4 =>
 (b_len P #[41] 3 #[r4.1] r4.2).bind fun r5 =>
 (vl (.int .i64 0) r5.2).bind fun r6 =>
 impl_StoreOk_l1 (ups (env0 #[x0]) [(1, r1.1), (2, r2.1), (5, r3.1), (6, r4.1), (7, r5.1), (8, r6.1)]) r6.2 := by kernel_rfl
end Go.Proofs.Ytjagkbamkohnoaa.X
