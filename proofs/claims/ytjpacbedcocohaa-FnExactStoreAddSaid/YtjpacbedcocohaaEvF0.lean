/- A part of the proof: an evaluator of the model, its laws, and contracts of functions; no condition. -/
import Derived.Test.YtjpacbedcocohaaEvP
set_option linter.unusedVariables false
set_option maxRecDepth 100000
namespace Go.Proofs.Ytjpacbedcocohaa.X
open Go Go.Ev
/-! gosem_cut_init -/
theorem gosem_cut_init_fn (w : World) : fnC P (EV P) 2 #[] w =
 (xf P 1 #[] w).bind fun r1 =>
 some (.tuple #[], r1.2) := by kernel_rfl

/-! laws_FnPastJoin -/
noncomputable def laws_FnPastJoin_l1 (e : Env) (w : World) : Option (Value × World) := exC P (EV P) 3 110 (.loop (cA (cA (cB (cA (cB (cB (cB (cB (cB (bodyOf P 3))))))))))) e w (kBlock 0 (kSeq P (EV P) 3 110 (cB (cB (cB (cB (cB (cB (bodyOf P 3))))))) (kFn P (fnOf P 3))))
theorem laws_FnPastJoin_l1_eq (e : Env) (w : World) : laws_FnPastJoin_l1 e w =
 (vl (e 6) w).bind fun r1 =>
 (bo P .lss 3 (.tmp 53) (.const (.int .i64 4)) r1.1 (.int .i64 4) r1.2).bind fun r2 =>
 cnd r2.1 (
 (fa P 25 (e 5) 0 (dw r2.2)).bind fun r4 =>
 ifP (r4.2 = (dw r2.2)) <|
 (ld P 23 r4.1 (dw r2.2)).bind fun r5 =>
 ifP (r5.2 = (dw r2.2)) <|
 (vl (e 6) (dw r2.2)).bind fun r6 =>
 ifP (r6.2 = (dw r2.2)) <|
 (ia P 23 r5.1 r6.1 (dw r2.2)).bind fun r7 =>
 ifP (r7.2 = (dw r2.2)) <|
 (ld P 32 r7.1 (dw r2.2)).bind fun r8 =>
 ifP (r8.2 = (dw r2.2)) <|
 (fa P 25 (e 3) 0 (dw r2.2)).bind fun r9 =>
 ifP (r9.2 = (dw r2.2)) <|
 (ld P 23 r9.1 (dw r2.2)).bind fun r10 =>
 ifP (r10.2 = (dw r2.2)) <|
 (vl (e 6) (dw r2.2)).bind fun r11 =>
 ifP (r11.2 = (dw r2.2)) <|
 (ia P 23 r10.1 r11.1 (dw r2.2)).bind fun r12 =>
 ifP (r12.2 = (dw r2.2)) <|
 (ld P 32 r12.1 (dw r2.2)).bind fun r13 =>
 ifP (r13.2 = (dw r2.2)) <|
 (bo P .neq 32 (.tmp 61) (.tmp 66) r8.1 r13.1 (dw r2.2)).bind fun r14 =>
 ifP (r14.2 = (dw r2.2)) <|
 (vl r14.1 (dw r2.2)).bind fun r15 =>
 ifP (r15.2 = (dw r2.2)) <|
 (gif r15.1 true (fa P 25 (e 5) 0 (dw r2.2)) (dw r2.2)).bind fun r16 =>
 ifP (r16.2 = (dw r2.2)) <|
 (gif r15.1 true (ld P 23 r16.1 (dw r2.2)) (dw r2.2)).bind fun r17 =>
 ifP (r17.2 = (dw r2.2)) <|
 (gif r15.1 true (vl (e 6) (dw r2.2)) (dw r2.2)).bind fun r18 =>
 ifP (r18.2 = (dw r2.2)) <|
 (gif r15.1 true (ia P 23 r17.1 r18.1 (dw r2.2)) (dw r2.2)).bind fun r19 =>
 ifP (r19.2 = (dw r2.2)) <|
 (gif r15.1 true (ld P 32 r19.1 (dw r2.2)) (dw r2.2)).bind fun r20 =>
 ifP (r20.2 = (dw r2.2)) <|
 (gif r15.1 true (fa P 25 (e 4) 0 (dw r2.2)) (dw r2.2)).bind fun r21 =>
 ifP (r21.2 = (dw r2.2)) <|
 (gif r15.1 true (ld P 23 r21.1 (dw r2.2)) (dw r2.2)).bind fun r22 =>
 ifP (r22.2 = (dw r2.2)) <|
 (gif r15.1 true (vl (e 6) (dw r2.2)) (dw r2.2)).bind fun r23 =>
 ifP (r23.2 = (dw r2.2)) <|
 (gif r15.1 true (ia P 23 r22.1 r23.1 (dw r2.2)) (dw r2.2)).bind fun r24 =>
 ifP (r24.2 = (dw r2.2)) <|
 (gif r15.1 true (ld P 32 r24.1 (dw r2.2)) (dw r2.2)).bind fun r25 =>
 ifP (r25.2 = (dw r2.2)) <|
 (gif r15.1 true (bo P .neq 32 (.tmp 73) (.tmp 78) r20.1 r25.1 (dw r2.2)) (dw r2.2)).bind fun r26 =>
 ifP (r26.2 = (dw r2.2)) <|
 (pickV r15.1 r26.1 (.bool false) (dw r2.2)).bind fun r27 =>
 ifP (r27.2 = (dw r2.2)) <|
 cnd r27.1 (
 (vl (.bool false) (dw r2.2)).bind fun r28 =>
 some (r28.1, r28.2)) (
 (vl (e 6) (dw r2.2)).bind fun r29 =>
 (bo P .add 3 (.tmp 55) (.const (.int .i64 1)) r29.1 (.int .i64 1) r29.2).bind fun r30 =>
 (vl r30.1 r30.2).bind fun r31 =>
 laws_FnPastJoin_l1 (ups e [(53, r1.1), (54, r2.1), (57, r4.1), (58, r5.1), (59, r6.1), (60, r7.1), (61, r8.1), (62, r9.1), (63, r10.1), (64, r11.1), (65, r12.1), (66, r13.1), (67, r14.1), (68, r15.1), (69, r16.1), (70, r17.1), (71, r18.1), (72, r19.1), (73, r20.1), (74, r21.1), (75, r22.1), (76, r23.1), (77, r24.1), (78, r25.1), (79, r26.1), (80, r27.1), (55, r29.1), (56, r30.1), (6, r31.1)]) r31.2)) (
 (ld P 25 (e 3) (dw r2.2)).bind fun r33 =>
 ifP (r33.2 = (dw r2.2)) <|
 (ld P 25 (e 5) (dw r2.2)).bind fun r34 =>
 ifP (r34.2 = (dw r2.2)) <|
 (EV P 19 #[r33.1, r34.1] (dw r2.2)).bind fun r35 =>
 ifP (True ∧ True ∧ True) <|
 (vl r35.1 r35.2).bind fun r36 =>
 ifP (r36.2 = r35.2) <|
 (gif r36.1 true (ld P 25 (e 4) r35.2) r35.2).bind fun r37 =>
 ifP (r37.2 = r35.2) <|
 (gif r36.1 true (ld P 25 (e 5) r35.2) r35.2).bind fun r38 =>
 ifP (r38.2 = r35.2) <|
 (gif r36.1 true (EV P 19 #[r37.1, r38.1] r35.2) r35.2).bind fun r39 =>
 ifP (True ∧ True ∧ True ∧ True ∧ True) <|
 (pickV r36.1 r39.1 (.bool false) r39.2).bind fun r40 =>
 ifP (r40.2 = r39.2) <|
 (vl r40.1 r39.2).bind fun r41 =>
 ifP (r41.2 = r39.2) <|
 (gif r41.1 true (ld P 25 (e 4) r39.2) r39.2).bind fun r42 =>
 ifP (r42.2 = r39.2) <|
 (gif r41.1 true (ld P 25 (e 3) r39.2) r39.2).bind fun r43 =>
 ifP (r43.2 = r39.2) <|
 (gif r41.1 true (ld P 25 (e 5) r39.2) r39.2).bind fun r44 =>
 ifP (r44.2 = r39.2) <|
 (gif r41.1 true (EV P 14 #[r42.1, r43.1] r39.2) r39.2).bind fun r45 =>
 ifP (gif r41.1 true (ld P 25 (e 5) r45.2) r45.2 = some (r44.1, r45.2) ∧ True ∧ True ∧ True ∧ True ∧ True ∧ True ∧ True) <|
 (gif r41.1 true (EV P 15 #[r45.1, r44.1] r45.2) r45.2).bind fun r46 =>
 ifP (True ∧ True ∧ True ∧ True ∧ True ∧ True ∧ True ∧ True) <|
 (pickV r41.1 r46.1 (.bool false) r46.2).bind fun r47 =>
 ifP (r47.2 = r46.2) <|
 (vl r47.1 r46.2).bind fun r48 =>
 ifP (r48.2 = r46.2) <|
 (gif r48.1 true (ld P 25 (e 3) r46.2) r46.2).bind fun r49 =>
 ifP (r49.2 = r46.2) <|
 (gif r48.1 true (ld P 25 (e 3) r46.2) r46.2).bind fun r50 =>
 ifP (r50.2 = r46.2) <|
 (gif r48.1 true (ld P 25 (e 3) r46.2) r46.2).bind fun r51 =>
 ifP (r51.2 = r46.2) <|
 (gif r48.1 true (EV P 14 #[r49.1, r50.1] r46.2) r46.2).bind fun r52 =>
 ifP (gif r48.1 true (ld P 25 (e 3) r52.2) r52.2 = some (r51.1, r52.2) ∧ True ∧ True ∧ True ∧ True ∧ True ∧ True ∧ True ∧ True ∧ True ∧ True) <|
 (gif r48.1 true (EV P 15 #[r52.1, r51.1] r52.2) r52.2).bind fun r53 =>
 ifP (True ∧ True ∧ True ∧ True ∧ True ∧ True ∧ True ∧ True ∧ True ∧ True ∧ True) <|
 (pickV r48.1 r53.1 (.bool false) r53.2).bind fun r54 =>
 ifP (r54.2 = r53.2) <|
 (vl r54.1 r53.2).bind fun r55 =>
 ifP (r55.2 = r53.2) <|
 (gif r55.1 true (ld P 25 (e 3) r53.2) r53.2).bind fun r56 =>
 ifP (r56.2 = r53.2) <|
 (gif r55.1 true (ld P 25 (e 3) r53.2) r53.2).bind fun r57 =>
 ifP (r57.2 = r53.2) <|
 (gif r55.1 true (EV P 20 #[] r53.2) r53.2).bind fun r58 =>
 ifP (gif r55.1 true (ld P 25 (e 3) r58.2) r58.2 = some (r57.1, r58.2) ∧ gif r55.1 true (ld P 25 (e 3) r58.2) r58.2 = some (r56.1, r58.2) ∧ True ∧ True ∧ True ∧ True ∧ True ∧ True ∧ True ∧ True ∧ True ∧ True ∧ True) <|
 (gif r55.1 true (EV P 14 #[r56.1, r58.1] r58.2) r58.2).bind fun r59 =>
 ifP (gif r55.1 true (ld P 25 (e 3) r59.2) r59.2 = some (r57.1, r59.2) ∧ True ∧ True ∧ True ∧ True ∧ True ∧ True ∧ True ∧ True ∧ True ∧ True ∧ True ∧ True) <|
 (gif r55.1 true (EV P 15 #[r59.1, r57.1] r59.2) r59.2).bind fun r60 =>
 ifP (True ∧ True ∧ True ∧ True ∧ True ∧ True ∧ True ∧ True ∧ True ∧ True ∧ True ∧ True ∧ True) <|
 (pickV r55.1 r60.1 (.bool false) r60.2).bind fun r61 =>
 ifP (r61.2 = r60.2) <|
 (vl r61.1 r60.2).bind fun r62 =>
 ifP (r62.2 = r60.2) <|
 some (r62.1, r60.2)) := (exC_loop P (EV P) 3 110 (cA (cA (cB (cA (cB (cB (cB (cB (cB (bodyOf P 3)))))))))) e w (kBlock 0 (kSeq P (EV P) 3 110 (cB (cB (cB (cB (cB (cB (bodyOf P 3))))))) (kFn P (fnOf P 3))))).trans (by kernel_rfl)
theorem laws_FnPastJoin_fn (x0 : Value) (w : World) : fnC P (EV P) 3 #[x0] w =
 (vl (.bool false) w).bind fun r1 =>
 (vl x0 r1.2).bind fun r2 =>
 (b_len P #[22] 3 #[r2.1] r2.2).bind fun r3 =>
 (bo P .gtr 3 (.tmp 8) (.const (.int .i64 1048576)) r3.1 (.int .i64 1048576) r3.2).bind fun r4 =>
 cnd r4.1 (
 (vl (.bool true) r4.2).bind fun r5 =>
 some (r5.1, r5.2)) (
 (vl x0 r4.2).bind fun r6 =>
 (EV P 13 #[r6.1] r6.2).bind fun r7 =>
 (vl r7.1 r7.2).bind fun r8 =>
 (xt P r8.1 0 r8.2).bind fun r9 =>
 (xt P r8.1 1 r9.2).bind fun r10 =>
 (al P 25 r10.2).bind fun r11 =>
 (al P 25 r11.2).bind fun r12 =>
 (st P 25 r11.1 r9.1 r12.2).bind fun r13 =>
 (st P 25 r12.1 r10.1 r13.2).bind fun r14 =>
 (ld P 25 r11.1 r14.2).bind fun r15 =>
 (ld P 25 r12.1 r15.2).bind fun r16 =>
 (EV P 14 #[r15.1, r16.1] r16.2).bind fun r17 =>
 (al P 25 r17.2).bind fun r18 =>
 (st P 25 r18.1 r17.1 r18.2).bind fun r19 =>
 (ld P 25 r18.1 (dw r19.2)).bind fun r21 =>
 ifP (r21.2 = (dw r19.2)) <|
 (ld P 25 r11.1 (dw r19.2)).bind fun r22 =>
 ifP (r22.2 = (dw r19.2)) <|
 (ld P 25 r12.1 (dw r19.2)).bind fun r23 =>
 ifP (r23.2 = (dw r19.2)) <|
 (EV P 16 #[r22.1, r23.1] (dw r19.2)).bind fun r24 =>
 ifP (True ∧ True ∧ ld P 25 r18.1 r24.2 = some (r21.1, r24.2) ∧ True) <|
 (EV P 15 #[r21.1, r24.1] r24.2).bind fun r25 =>
 ifP (True ∧ True ∧ True ∧ True) <|
 (uo P .not r25.1 r25.2).bind fun r26 =>
 ifP (r26.2 = r25.2) <|
 (vl r26.1 r25.2).bind fun r27 =>
 ifP (r27.2 = r25.2) <|
 (gif r27.1 false (ld P 25 r11.1 r25.2) r25.2).bind fun r28 =>
 ifP (r28.2 = r25.2) <|
 (gif r27.1 false (ld P 25 r11.1 r25.2) r25.2).bind fun r29 =>
 ifP (r29.2 = r25.2) <|
 (gif r27.1 false (EV P 17 #[r28.1] r25.2) r25.2).bind fun r30 =>
 ifP (gif r27.1 false (ld P 25 r11.1 r30.2) r30.2 = some (r29.1, r30.2) ∧ True ∧ True ∧ True ∧ True ∧ True ∧ True) <|
 (gif r27.1 false (EV P 18 #[r29.1] r30.2) r30.2).bind fun r31 =>
 ifP (True ∧ True ∧ True ∧ True ∧ True ∧ True ∧ True) <|
 (gif r27.1 false (bo P .neq 4 (.tmp 26) (.tmp 28) r30.1 r31.1 r31.2) r31.2).bind fun r32 =>
 ifP (r32.2 = r31.2) <|
 (pickV r27.1 (.bool true) r32.1 r31.2).bind fun r33 =>
 ifP (r33.2 = r31.2) <|
 (vl r33.1 r31.2).bind fun r34 =>
 ifP (r34.2 = r31.2) <|
 (gif r34.1 false (ld P 25 r11.1 r31.2) r31.2).bind fun r35 =>
 ifP (r35.2 = r31.2) <|
 (gif r34.1 false (EV P 17 #[r35.1] r31.2) r31.2).bind fun r36 =>
 ifP (True ∧ True ∧ True ∧ True ∧ True ∧ True ∧ True ∧ True ∧ True) <|
 (gif r34.1 false (uo P .not r36.1 r36.2) r36.2).bind fun r37 =>
 ifP (r37.2 = r36.2) <|
 (pickV r34.1 (.bool true) r37.1 r36.2).bind fun r38 =>
 ifP (r38.2 = r36.2) <|
 (vl r38.1 r36.2).bind fun r39 =>
 ifP (r39.2 = r36.2) <|
 (gif r39.1 false (ld P 25 r12.1 r36.2) r36.2).bind fun r40 =>
 ifP (r40.2 = r36.2) <|
 (gif r39.1 false (EV P 17 #[r40.1] r36.2) r36.2).bind fun r41 =>
 ifP (True ∧ True ∧ True ∧ True ∧ True ∧ True ∧ True ∧ True ∧ True ∧ True ∧ True) <|
 (gif r39.1 false (uo P .not r41.1 r41.2) r41.2).bind fun r42 =>
 ifP (r42.2 = r41.2) <|
 (pickV r39.1 (.bool true) r42.1 r41.2).bind fun r43 =>
 ifP (r43.2 = r41.2) <|
 cnd r43.1 (
 (ld P 25 r18.1 (dw r41.2)).bind fun r45 =>
 ifP (r45.2 = (dw r41.2)) <|
 (ld P 25 r11.1 (dw r41.2)).bind fun r46 =>
 ifP (r46.2 = (dw r41.2)) <|
 (ld P 25 r12.1 (dw r41.2)).bind fun r47 =>
 ifP (r47.2 = (dw r41.2)) <|
 (EV P 16 #[r46.1, r47.1] (dw r41.2)).bind fun r48 =>
 ifP (True ∧ True ∧ ld P 25 r18.1 r48.2 = some (r45.1, r48.2) ∧ True) <|
 (EV P 15 #[r45.1, r48.1] r48.2).bind fun r49 =>
 ifP (True ∧ True ∧ True ∧ True) <|
 (vl r49.1 r49.2).bind fun r50 =>
 ifP (r50.2 = r49.2) <|
 (gif r50.1 true (ld P 25 r11.1 r49.2) r49.2).bind fun r51 =>
 ifP (r51.2 = r49.2) <|
 (gif r50.1 true (ld P 25 r11.1 r49.2) r49.2).bind fun r52 =>
 ifP (r52.2 = r49.2) <|
 (gif r50.1 true (EV P 17 #[r51.1] r49.2) r49.2).bind fun r53 =>
 ifP (gif r50.1 true (ld P 25 r11.1 r53.2) r53.2 = some (r52.1, r53.2) ∧ True ∧ True ∧ True ∧ True ∧ True) <|
 (gif r50.1 true (EV P 18 #[r52.1] r53.2) r53.2).bind fun r54 =>
 ifP (True ∧ True ∧ True ∧ True ∧ True ∧ True) <|
 (gif r50.1 true (bo P .eql 4 (.tmp 48) (.tmp 50) r53.1 r54.1 r54.2) r54.2).bind fun r55 =>
 ifP (r55.2 = r54.2) <|
 (pickV r50.1 r55.1 (.bool false) r54.2).bind fun r56 =>
 ifP (r56.2 = r54.2) <|
 (vl r56.1 r54.2).bind fun r57 =>
 ifP (r57.2 = r54.2) <|
 some (r57.1, r54.2)) (
 (vl (.int .i64 0) r41.2).bind fun r58 =>
 laws_FnPastJoin_l1 (ups (env0 #[x0]) [(2, r1.1), (7, r2.1), (8, r3.1), (9, r4.1), (11, r6.1), (12, r7.1), (10, r8.1), (13, r9.1), (14, r10.1), (3, r11.1), (4, r12.1), (15, r15.1), (16, r16.1), (17, r17.1), (5, r18.1), (18, r21.1), (19, r22.1), (20, r23.1), (21, r24.1), (22, r25.1), (23, r26.1), (24, r27.1), (25, r28.1), (27, r29.1), (26, r30.1), (28, r31.1), (29, r32.1), (30, r33.1), (31, r34.1), (32, r35.1), (33, r36.1), (34, r37.1), (35, r38.1), (36, r39.1), (37, r40.1), (38, r41.1), (39, r42.1), (40, r43.1), (6, r58.1)]) r58.2)) := by kernel_rfl

/-! laws_FnPastWithin -/
theorem laws_FnPastWithin_fn (x0 : Value) (w : World) : fnC P (EV P) 4 #[x0] w =
 (vl (.bool false) w).bind fun r1 =>
 (vl x0 r1.2).bind fun r2 =>
 (b_len P #[22] 3 #[r2.1] r2.2).bind fun r3 =>
 (bo P .gtr 3 (.tmp 7) (.const (.int .i64 1048576)) r3.1 (.int .i64 1048576) r3.2).bind fun r4 =>
 cnd r4.1 (
 (vl (.bool true) r4.2).bind fun r5 =>
 some (r5.1, r5.2)) (
 (vl x0 r4.2).bind fun r6 =>
 (EV P 21 #[r6.1] r6.2).bind fun r7 =>
 (vl r7.1 r7.2).bind fun r8 =>
 (xt P r8.1 0 r8.2).bind fun r9 =>
 (xt P r8.1 1 r9.2).bind fun r10 =>
 (al P 25 r10.2).bind fun r11 =>
 (al P 25 r11.2).bind fun r12 =>
 (st P 25 r11.1 r9.1 r12.2).bind fun r13 =>
 (st P 25 r12.1 r10.1 r13.2).bind fun r14 =>
 (ld P 25 r11.1 r14.2).bind fun r15 =>
 (ld P 25 r12.1 r15.2).bind fun r16 =>
 (EV P 19 #[r15.1, r16.1] r16.2).bind fun r17 =>
 (vl r17.1 r17.2).bind fun r18 =>
 (vl r18.1 r18.2).bind fun r19 =>
 (ld P 25 r11.1 r19.2).bind fun r20 =>
 (ld P 25 r12.1 r20.2).bind fun r21 =>
 (EV P 22 #[r20.1, r21.1] r21.2).bind fun r22 =>
 (bo P .neq 4 (.tmp 17) (.tmp 20) r19.1 r22.1 r22.2).bind fun r23 =>
 (vl r23.1 r23.2).bind fun r24 =>
 (gif r24.1 false (ld P 25 r11.1 r24.2) r24.2).bind fun r25 =>
 (gif r24.1 false (EV P 17 #[r25.1] r25.2) r25.2).bind fun r26 =>
 (gif r24.1 false (uo P .not r26.1 r26.2) r26.2).bind fun r27 =>
 (pickV r24.1 (.bool true) r27.1 r27.2).bind fun r28 =>
 (vl r28.1 r28.2).bind fun r29 =>
 (gif r29.1 false (ld P 25 r12.1 r29.2) r29.2).bind fun r30 =>
 (gif r29.1 false (EV P 17 #[r30.1] r30.2) r30.2).bind fun r31 =>
 (gif r29.1 false (uo P .not r31.1 r31.2) r31.2).bind fun r32 =>
 (pickV r29.1 (.bool true) r32.1 r32.2).bind fun r33 =>
 cnd r33.1 (
 (vl r18.1 r33.2).bind fun r34 =>
 (ld P 25 r11.1 r34.2).bind fun r35 =>
 (ld P 25 r12.1 r35.2).bind fun r36 =>
 (EV P 22 #[r35.1, r36.1] r36.2).bind fun r37 =>
 (bo P .eql 4 (.tmp 32) (.tmp 35) r34.1 r37.1 r37.2).bind fun r38 =>
 (vl r38.1 r38.2).bind fun r39 =>
 some (r39.1, r39.2)) (
 (vl r18.1 (dw r33.2)).bind fun r41 =>
 ifP (r41.2 = (dw r33.2)) <|
 (ld P 25 r11.1 (dw r33.2)).bind fun r42 =>
 ifP (r42.2 = (dw r33.2)) <|
 (ld P 25 r12.1 (dw r33.2)).bind fun r43 =>
 ifP (r43.2 = (dw r33.2)) <|
 (ld P 25 r12.1 (dw r33.2)).bind fun r44 =>
 ifP (r44.2 = (dw r33.2)) <|
 (EV P 14 #[r42.1, r43.1] (dw r33.2)).bind fun r45 =>
 ifP (ld P 25 r12.1 r45.2 = some (r44.1, r45.2) ∧ True ∧ True ∧ True) <|
 (EV P 15 #[r45.1, r44.1] r45.2).bind fun r46 =>
 ifP (True ∧ True ∧ True ∧ True) <|
 (bo P .eql 4 (.tmp 37) (.tmp 42) r41.1 r46.1 r46.2).bind fun r47 =>
 ifP (r47.2 = r46.2) <|
 (vl r47.1 r46.2).bind fun r48 =>
 ifP (r48.2 = r46.2) <|
 (gif r48.1 true (vl r18.1 r46.2) r46.2).bind fun r49 =>
 ifP (r49.2 = r46.2) <|
 (gif r48.1 true (vl r49.1 r46.2) r46.2).bind fun r50 =>
 ifP (r50.2 = r46.2) <|
 (gif r50.1 true (ld P 25 r12.1 r46.2) r46.2).bind fun r51 =>
 ifP (r51.2 = r46.2) <|
 (gif r50.1 true (ld P 25 r11.1 r46.2) r46.2).bind fun r52 =>
 ifP (r52.2 = r46.2) <|
 (gif r48.1 true (ld P 25 r11.1 r46.2) r46.2).bind fun r53 =>
 ifP (r53.2 = r46.2) <|
 (gif r48.1 true (ld P 25 r12.1 r46.2) r46.2).bind fun r54 =>
 ifP (r54.2 = r46.2) <|
 (gif r50.1 true (EV P 19 #[r51.1, r52.1] r46.2) r46.2).bind fun r55 =>
 ifP (gif r48.1 true (ld P 25 r12.1 r55.2) r55.2 = some (r54.1, r55.2) ∧ gif r48.1 true (ld P 25 r11.1 r55.2) r55.2 = some (r53.1, r55.2) ∧ True ∧ True ∧ True ∧ True ∧ True ∧ True ∧ True) <|
 (gif r48.1 true (pickV r50.1 r55.1 (.bool false) r55.2) r55.2).bind fun r56 =>
 ifP (r56.2 = r55.2) <|
 (gif r48.1 true (EV P 15 #[r53.1, r54.1] r55.2) r55.2).bind fun r57 =>
 ifP (True ∧ True ∧ True ∧ True ∧ True ∧ True ∧ True ∧ True ∧ True) <|
 (gif r48.1 true (bo P .eql 4 (.tmp 50) (.tmp 53) r56.1 r57.1 r57.2) r57.2).bind fun r58 =>
 ifP (r58.2 = r57.2) <|
 (pickV r48.1 r58.1 (.bool false) r57.2).bind fun r59 =>
 ifP (r59.2 = r57.2) <|
 (vl r59.1 r57.2).bind fun r60 =>
 ifP (r60.2 = r57.2) <|
 (gif r60.1 true (ld P 25 r11.1 r57.2) r57.2).bind fun r61 =>
 ifP (r61.2 = r57.2) <|
 (gif r60.1 true (EV P 20 #[] r57.2) r57.2).bind fun r62 =>
 ifP (gif r60.1 true (ld P 25 r11.1 r62.2) r62.2 = some (r61.1, r62.2) ∧ True ∧ True ∧ True ∧ True ∧ True ∧ True ∧ True ∧ True ∧ True ∧ True) <|
 (gif r60.1 true (EV P 19 #[r62.1, r61.1] r62.2) r62.2).bind fun r63 =>
 ifP (True ∧ True ∧ True ∧ True ∧ True ∧ True ∧ True ∧ True ∧ True ∧ True ∧ True) <|
 (pickV r60.1 r63.1 (.bool false) r63.2).bind fun r64 =>
 ifP (r64.2 = r63.2) <|
 (vl r64.1 r63.2).bind fun r65 =>
 ifP (r65.2 = r63.2) <|
 some (r65.1, r63.2))) := by kernel_rfl

/-! laws_FnExactPastJoin -/
noncomputable def laws_FnExactPastJoin_a1 (e : Env) (w : World) : Option (Value × World) := exC P (EV P) 5 92 (cA (cB (cB (cB (cB (cB (cB (bodyOf P 5)))))))) e w (kSeq P (EV P) 5 92 (cB (cB (cB (cB (cB (cB (cB (bodyOf P 5)))))))) (kFn P (fnOf P 5)))
noncomputable def laws_FnExactPastJoin_j1 (e : Env) (w : World) : Option (Value × World) := exC P (EV P) 5 92 (cB (cB (cB (cB (cB (cB (cB (bodyOf P 5)))))))) e w (kFn P (fnOf P 5))
noncomputable def laws_FnExactPastJoin_a2 (e : Env) (w : World) : Option (Value × World) := exC P (EV P) 5 92 (cA (cB (cB (cB (cB (cB (cB (cB (cB (cB (cB (cB (cB (cB (cB (cB (cB (cB (cB (cB (cB (cB (cB (cB (bodyOf P 5))))))))))))))))))))))))) e w (kSeq P (EV P) 5 92 (cB (cB (cB (cB (cB (cB (cB (cB (cB (cB (cB (cB (cB (cB (cB (cB (cB (cB (cB (cB (cB (cB (cB (cB (bodyOf P 5))))))))))))))))))))))))) (kFn P (fnOf P 5)))
noncomputable def laws_FnExactPastJoin_j2 (e : Env) (w : World) : Option (Value × World) := exC P (EV P) 5 92 (cB (cB (cB (cB (cB (cB (cB (cB (cB (cB (cB (cB (cB (cB (cB (cB (cB (cB (cB (cB (cB (cB (cB (cB (bodyOf P 5))))))))))))))))))))))))) e w (kFn P (fnOf P 5))
theorem laws_FnExactPastJoin_a1_any (e : Env) (w : World) {Q : Value × World → Prop} (h :
 (Ret (ld P 37 (e 2) (dw w)) fun r1 => r1.2 = (dw w) ∧
 (Ret (ld P 37 (e 3) (dw w)) fun r2 => r2.2 = (dw w) ∧
 ((Ret (EV P 24 #[r1.1] (dw w)) fun r3 => (ld P 37 (e 3) r3.2 = some (r2.1, r3.2) ∧ True ∧ True) ∧
 ((Ret (EV P 24 #[r2.1] r3.2) fun r4 => (True ∧ True ∧ True) ∧
 ((Ret (EV P 16 #[r3.1, r4.1] r4.2) fun r5 => (True ∧ True ∧ True) ∧
 ((Ret (al P 25 r5.2) fun r6 => (ld P 37 (e 3) r6.2 = some (r2.1, r6.2) ∧ ld P 37 (e 2) r6.2 = some (r1.1, r6.2) ∧ True) ∧
 ((Ret (st P 25 r6.1 r5.1 r6.2) fun r7 => (True ∧ True ∧ True) ∧
 Ret (laws_FnExactPastJoin_j1 (ups e [(24, r1.1), (26, r2.1), (25, r3.1), (27, r4.1), (28, r5.1), (6, r6.1)]) r7.2) Q))))) ∧
 (Ret (al P 25 r4.2) fun r8 => (ld P 37 (e 3) r8.2 = some (r2.1, r8.2) ∧ ld P 37 (e 2) r8.2 = some (r1.1, r8.2) ∧ True) ∧
 ((Ret (EV P 16 #[r3.1, r4.1] r8.2) fun r9 => (True ∧ True ∧ True) ∧
 ((Ret (st P 25 r8.1 r9.1 r9.2) fun r10 => (True ∧ True ∧ True) ∧
 Ret (laws_FnExactPastJoin_j1 (ups e [(24, r1.1), (26, r2.1), (25, r3.1), (27, r4.1), (6, r8.1), (28, r9.1)]) r10.2) Q))))))) ∧
 (Ret (al P 25 r3.2) fun r11 => (ld P 37 (e 3) r11.2 = some (r2.1, r11.2) ∧ ld P 37 (e 2) r11.2 = some (r1.1, r11.2) ∧ True) ∧
 ((Ret (EV P 24 #[r2.1] r11.2) fun r12 => (True ∧ True ∧ True) ∧
 ((Ret (EV P 16 #[r3.1, r12.1] r12.2) fun r13 => (True ∧ True ∧ True) ∧
 ((Ret (st P 25 r11.1 r13.1 r13.2) fun r14 => (True ∧ True ∧ True) ∧
 Ret (laws_FnExactPastJoin_j1 (ups e [(24, r1.1), (26, r2.1), (25, r3.1), (6, r11.1), (27, r12.1), (28, r13.1)]) r14.2) Q))))))))) ∧
 (Ret (al P 25 (dw w)) fun r15 => (ld P 37 (e 3) r15.2 = some (r2.1, r15.2) ∧ ld P 37 (e 2) r15.2 = some (r1.1, r15.2) ∧ True) ∧
 ((Ret (EV P 24 #[r1.1] r15.2) fun r16 => (ld P 37 (e 3) r16.2 = some (r2.1, r16.2) ∧ True ∧ True) ∧
 ((Ret (EV P 24 #[r2.1] r16.2) fun r17 => (True ∧ True ∧ True) ∧
 ((Ret (EV P 16 #[r16.1, r17.1] r17.2) fun r18 => (True ∧ True ∧ True) ∧
 ((Ret (st P 25 r15.1 r18.1 r18.2) fun r19 => (True ∧ True ∧ True) ∧
 Ret (laws_FnExactPastJoin_j1 (ups e [(24, r1.1), (26, r2.1), (6, r15.1), (25, r16.1), (27, r17.1), (28, r18.1)]) r19.2) Q))))))))))))) : Ret (laws_FnExactPastJoin_a1 e w) Q := exC_any (id := 8) (ops := opsOf (cA (cB (cB (cB (cB (cB (cB (bodyOf P 5))))))))) (by kernel_rfl) (by kernel_rfl) (Eq.mpr (by kernel_rfl) h)
theorem laws_FnExactPastJoin_j1_eq (e : Env) (w : World) : laws_FnExactPastJoin_j1 e w =
 (ld P 37 (e 2) w).bind fun r1 =>
 (EV P 24 #[r1.1] r1.2).bind fun r2 =>
 (al P 25 r2.2).bind fun r3 =>
 (st P 25 r3.1 r2.1 r3.2).bind fun r4 =>
 (ld P 37 (e 3) r4.2).bind fun r5 =>
 (EV P 24 #[r5.1] r5.2).bind fun r6 =>
 (al P 25 r6.2).bind fun r7 =>
 (st P 25 r7.1 r6.1 r7.2).bind fun r8 =>
 (ld P 25 r3.1 r8.2).bind fun r9 =>
 (ld P 25 r7.1 r9.2).bind fun r10 =>
 (EV P 14 #[r9.1, r10.1] r10.2).bind fun r11 =>
 (al P 25 r11.2).bind fun r12 =>
 (st P 25 r12.1 r11.1 r12.2).bind fun r13 =>
 (ld P 25 r12.1 r13.2).bind fun r14 =>
 (ld P 25 (e 6) r14.2).bind fun r15 =>
 (EV P 25 #[r14.1, r15.1] r15.2).bind fun r16 =>
 (uo P .not r16.1 r16.2).bind fun r17 =>
 cnd r17.1 (
 (vl (.bool false) r17.2).bind fun r18 =>
 some (r18.1, r18.2)) (
 (ld P 25 r3.1 (dw r17.2)).bind fun r20 =>
 ifP (r20.2 = (dw r17.2)) <|
 (ld P 37 (e 2) (dw r17.2)).bind fun r21 =>
 ifP (r21.2 = (dw r17.2)) <|
 (EV P 24 #[r21.1] (dw r17.2)).bind fun r22 =>
 ifP (True ∧ ld P 25 r3.1 r22.2 = some (r20.1, r22.2) ∧ True) <|
 (EV P 25 #[r20.1, r22.1] r22.2).bind fun r23 =>
 ifP (True ∧ True ∧ True) <|
 (uo P .not r23.1 r23.2).bind fun r24 =>
 ifP (r24.2 = r23.2) <|
 cnd r24.1 (
 (vl (.bool false) r23.2).bind fun r25 =>
 some (r25.1, r25.2)) (
 (ld P 25 r7.1 (dw r23.2)).bind fun r27 =>
 ifP (r27.2 = (dw r23.2)) <|
 (ld P 37 (e 3) (dw r23.2)).bind fun r28 =>
 ifP (r28.2 = (dw r23.2)) <|
 (EV P 24 #[r28.1] (dw r23.2)).bind fun r29 =>
 ifP (True ∧ ld P 25 r7.1 r29.2 = some (r27.1, r29.2) ∧ True) <|
 (EV P 25 #[r27.1, r29.1] r29.2).bind fun r30 =>
 ifP (True ∧ True ∧ True) <|
 (uo P .not r30.1 r30.2).bind fun r31 =>
 ifP (r31.2 = r30.2) <|
 cnd r31.1 (
 (vl (.bool false) r30.2).bind fun r32 =>
 some (r32.1, r32.2)) (
 (vl (.int .i64 1) r30.2).bind fun r33 =>
 (ld P 25 r3.1 r33.2).bind fun r34 =>
 (vl r33.1 r34.2).bind fun r35 =>
 (EV P 26 #[r34.1, r35.1] r35.2).bind fun r36 =>
 (vl r36.1 r36.2).bind fun r37 =>
 (ld P 25 r7.1 r37.2).bind fun r38 =>
 (vl r37.1 r38.2).bind fun r39 =>
 (EV P 26 #[r38.1, r39.1] r39.2).bind fun r40 =>
 (vl r40.1 r40.2).bind fun r41 =>
 (vl r41.1 r41.2).bind fun r42 =>
 (bo P .lss 3 (.tmp 56) (.const (.int .i64 0)) r42.1 (.int .i64 0) r42.2).bind fun r43 =>
 (vl r43.1 r43.2).bind fun r44 =>
 (gif r44.1 false (ld P 25 r12.1 r44.2) r44.2).bind fun r45 =>
 (gif r44.1 false (ld P 25 (e 6) r45.2) r45.2).bind fun r46 =>
 (gif r44.1 false (EV P 25 #[r45.1, r46.1] r46.2) r46.2).bind fun r47 =>
 (gif r44.1 false (uo P .not r47.1 r47.2) r47.2).bind fun r48 =>
 (pickV r44.1 (.bool true) r48.1 r48.2).bind fun r49 =>
 cnd r49.1 (
 (vl (.bool false) r49.2).bind fun r50 =>
 some (r50.1, r50.2)) (
 (vl (.int .i64 1) r49.2).bind fun r51 =>
 (ld P 25 r12.1 r51.2).bind fun r52 =>
 (vl r51.1 r52.2).bind fun r53 =>
 (EV P 26 #[r52.1, r53.1] r53.2).bind fun r54 =>
 (vl r54.1 r54.2).bind fun r55 =>
 (vl (.int .i64 1) r55.2).bind fun r56 =>
 (ld P 25 r12.1 r56.2).bind fun r57 =>
 (vl r56.1 r57.2).bind fun r58 =>
 (EV P 27 #[r57.1, r58.1] r58.2).bind fun r59 =>
 (vl r59.1 r59.2).bind fun r60 =>
 (vl r60.1 r60.2).bind fun r61 =>
 (bo P .lss 3 (.tmp 70) (.const (.int .i64 0)) r61.1 (.int .i64 0) r61.2).bind fun r62 =>
 cnd r62.1 (
 (vl (.bool false) r62.2).bind fun r63 =>
 some (r63.1, r63.2)) (
 (vl r60.1 r62.2).bind fun r64 =>
 (vl r55.1 r64.2).bind fun r65 =>
 (bo P .neq 3 (.tmp 72) (.tmp 73) r64.1 r65.1 r65.2).bind fun r66 =>
 cnd r66.1 (
 (vl (.bool false) r66.2).bind fun r67 =>
 some (r67.1, r67.2)) (
 laws_FnExactPastJoin_a2 (ups e [(29, r1.1), (30, r2.1), (7, r3.1), (31, r5.1), (32, r6.1), (8, r7.1), (33, r9.1), (34, r10.1), (35, r11.1), (9, r12.1), (36, r14.1), (37, r15.1), (38, r16.1), (39, r17.1), (40, r20.1), (41, r21.1), (42, r22.1), (43, r23.1), (44, r24.1), (45, r27.1), (46, r28.1), (47, r29.1), (48, r30.1), (49, r31.1), (10, r33.1), (50, r34.1), (51, r35.1), (52, r36.1), (10, r37.1), (53, r38.1), (54, r39.1), (55, r40.1), (10, r41.1), (56, r42.1), (57, r43.1), (58, r44.1), (59, r45.1), (60, r46.1), (61, r47.1), (62, r48.1), (63, r49.1), (11, r51.1), (64, r52.1), (65, r53.1), (66, r54.1), (11, r55.1), (12, r56.1), (67, r57.1), (68, r58.1), (69, r59.1), (12, r60.1), (70, r61.1), (71, r62.1), (72, r64.1), (73, r65.1), (74, r66.1)]) r66.2)))))) := by kernel_rfl
theorem laws_FnExactPastJoin_a2_any (e : Env) (w : World) {Q : Value × World → Prop} (h :
 (Ret (ld P 37 (e 2) (dw w)) fun r1 => r1.2 = (dw w) ∧
 (Ret (ld P 37 (e 3) (dw w)) fun r2 => r2.2 = (dw w) ∧
 ((Ret (EV P 24 #[r1.1] (dw w)) fun r3 => (ld P 37 (e 3) r3.2 = some (r2.1, r3.2) ∧ True ∧ True) ∧
 ((Ret (EV P 24 #[r2.1] r3.2) fun r4 => (True ∧ True ∧ True) ∧
 ((Ret (EV P 14 #[r3.1, r4.1] r4.2) fun r5 => (True ∧ True ∧ True) ∧
 ((Ret (al P 25 r5.2) fun r6 => (ld P 37 (e 3) r6.2 = some (r2.1, r6.2) ∧ ld P 37 (e 2) r6.2 = some (r1.1, r6.2) ∧ True) ∧
 ((Ret (st P 25 r6.1 r5.1 r6.2) fun r7 => (True ∧ True ∧ True) ∧
 Ret (laws_FnExactPastJoin_j2 (ups e [(75, r1.1), (77, r2.1), (76, r3.1), (78, r4.1), (79, r5.1), (13, r6.1)]) r7.2) Q))))) ∧
 (Ret (al P 25 r4.2) fun r8 => (ld P 37 (e 3) r8.2 = some (r2.1, r8.2) ∧ ld P 37 (e 2) r8.2 = some (r1.1, r8.2) ∧ True) ∧
 ((Ret (EV P 14 #[r3.1, r4.1] r8.2) fun r9 => (True ∧ True ∧ True) ∧
 ((Ret (st P 25 r8.1 r9.1 r9.2) fun r10 => (True ∧ True ∧ True) ∧
 Ret (laws_FnExactPastJoin_j2 (ups e [(75, r1.1), (77, r2.1), (76, r3.1), (78, r4.1), (13, r8.1), (79, r9.1)]) r10.2) Q))))))) ∧
 (Ret (al P 25 r3.2) fun r11 => (ld P 37 (e 3) r11.2 = some (r2.1, r11.2) ∧ ld P 37 (e 2) r11.2 = some (r1.1, r11.2) ∧ True) ∧
 ((Ret (EV P 24 #[r2.1] r11.2) fun r12 => (True ∧ True ∧ True) ∧
 ((Ret (EV P 14 #[r3.1, r12.1] r12.2) fun r13 => (True ∧ True ∧ True) ∧
 ((Ret (st P 25 r11.1 r13.1 r13.2) fun r14 => (True ∧ True ∧ True) ∧
 Ret (laws_FnExactPastJoin_j2 (ups e [(75, r1.1), (77, r2.1), (76, r3.1), (13, r11.1), (78, r12.1), (79, r13.1)]) r14.2) Q))))))))) ∧
 (Ret (al P 25 (dw w)) fun r15 => (ld P 37 (e 3) r15.2 = some (r2.1, r15.2) ∧ ld P 37 (e 2) r15.2 = some (r1.1, r15.2) ∧ True) ∧
 ((Ret (EV P 24 #[r1.1] r15.2) fun r16 => (ld P 37 (e 3) r16.2 = some (r2.1, r16.2) ∧ True ∧ True) ∧
 ((Ret (EV P 24 #[r2.1] r16.2) fun r17 => (True ∧ True ∧ True) ∧
 ((Ret (EV P 14 #[r16.1, r17.1] r17.2) fun r18 => (True ∧ True ∧ True) ∧
 ((Ret (st P 25 r15.1 r18.1 r18.2) fun r19 => (True ∧ True ∧ True) ∧
 Ret (laws_FnExactPastJoin_j2 (ups e [(75, r1.1), (77, r2.1), (13, r15.1), (76, r16.1), (78, r17.1), (79, r18.1)]) r19.2) Q))))))))))))) : Ret (laws_FnExactPastJoin_a2 e w) Q := exC_any (id := 31) (ops := opsOf (cA (cB (cB (cB (cB (cB (cB (cB (cB (cB (cB (cB (cB (cB (cB (cB (cB (cB (cB (cB (cB (cB (cB (cB (bodyOf P 5)))))))))))))))))))))))))) (by kernel_rfl) (by kernel_rfl) (Eq.mpr (by kernel_rfl) h)
theorem laws_FnExactPastJoin_j2_eq (e : Env) (w : World) : laws_FnExactPastJoin_j2 e w =
 (ld P 25 (e 13) w).bind fun r1 =>
 (ld P 25 (e 6) r1.2).bind fun r2 =>
 (EV P 25 #[r1.1, r2.1] r2.2).bind fun r3 =>
 (uo P .not r3.1 r3.2).bind fun r4 =>
 cnd r4.1 (
 (vl (.bool false) r4.2).bind fun r5 =>
 some (r5.1, r5.2)) (
 (vl (.int .i64 1) r4.2).bind fun r6 =>
 (ld P 25 (e 9) r6.2).bind fun r7 =>
 (vl r6.1 r7.2).bind fun r8 =>
 (EV P 27 #[r7.1, r8.1] r8.2).bind fun r9 =>
 (vl r9.1 r9.2).bind fun r10 =>
 (vl r10.1 r10.2).bind fun r11 =>
 (bo P .lss 3 (.tmp 87) (.const (.int .i64 0)) r11.1 (.int .i64 0) r11.2).bind fun r12 =>
 cnd r12.1 (
 (vl (.bool false) r12.2).bind fun r13 =>
 some (r13.1, r13.2)) (
 (vl r10.1 r12.2).bind fun r14 =>
 (vl (e 11) r14.2).bind fun r15 =>
 (bo P .neq 3 (.tmp 89) (.tmp 90) r14.1 r15.1 r15.2).bind fun r16 =>
 cnd r16.1 (
 (vl (.bool false) r16.2).bind fun r17 =>
 some (r17.1, r17.2)) (
 (vl (.bool true) r16.2).bind fun r18 =>
 some (r18.1, r18.2)))) := by kernel_rfl
theorem laws_FnExactPastJoin_fn (x0 x1 : Value) (w : World) : fnC P (EV P) 5 #[x0, x1] w =
 (bx P 37 x0 w).bind fun r1 =>
 (bx P 37 x1 r1.2).bind fun r2 =>
 (vl (.bool false) r2.2).bind fun r3 =>
 (vl (.int .i64 1048576) r3.2).bind fun r4 =>
 (ld P 37 r1.1 r4.2).bind fun r5 =>
 (vl r4.1 r5.2).bind fun r6 =>
 (EV P 23 #[r5.1, r6.1] r6.2).bind fun r7 =>
 (vl r7.1 r7.2).bind fun r8 =>
 (vl r8.1 r8.2).bind fun r9 =>
 (bo P .lss 3 (.tmp 17) (.const (.int .i64 0)) r9.1 (.int .i64 0) r9.2).bind fun r10 =>
 cnd r10.1 (
 (vl (.bool true) r10.2).bind fun r11 =>
 some (r11.1, r11.2)) (
 (ld P 37 r2.1 r10.2).bind fun r12 =>
 (vl r8.1 r12.2).bind fun r13 =>
 (EV P 23 #[r12.1, r13.1] r13.2).bind fun r14 =>
 (vl r14.1 r14.2).bind fun r15 =>
 (vl r15.1 r15.2).bind fun r16 =>
 (bo P .lss 3 (.tmp 22) (.const (.int .i64 0)) r16.1 (.int .i64 0) r16.2).bind fun r17 =>
 cnd r17.1 (
 (vl (.bool true) r17.2).bind fun r18 =>
 some (r18.1, r18.2)) (
 laws_FnExactPastJoin_a1 (ups (env0 #[x0, x1]) [(2, r1.1), (3, r2.1), (4, r3.1), (5, r4.1), (14, r5.1), (15, r6.1), (16, r7.1), (5, r8.1), (17, r9.1), (18, r10.1), (19, r12.1), (20, r13.1), (21, r14.1), (5, r15.1), (22, r16.1), (23, r17.1)]) r17.2)) := by kernel_rfl

/-! laws_FnExactStoreOk -/
theorem laws_FnExactStoreOk_fn (x0 : Value) (w : World) : fnC P (EV P) 6 #[x0] w =
 (bx P 44 x0 w).bind fun r1 =>
 (vl (.bool false) r1.2).bind fun r2 =>
 (vl (.int .i64 1048576) r2.2).bind fun r3 =>
 (ld P 44 r1.1 r3.2).bind fun r4 =>
 (vl r3.1 r4.2).bind fun r5 =>
 (EV P 28 #[r4.1, r5.1] r5.2).bind fun r6 =>
 (vl r6.1 r6.2).bind fun r7 =>
 (vl r7.1 r7.2).bind fun r8 =>
 (bo P .lss 3 (.tmp 10) (.const (.int .i64 0)) r8.1 (.int .i64 0) r8.2).bind fun r9 =>
 cnd r9.1 (
 (vl (.bool true) r9.2).bind fun r10 =>
 some (r10.1, r10.2)) (
 (ld P 44 r1.1 r9.2).bind fun r11 =>
 (EV P 30 #[r11.1] r11.2).bind fun r12 =>
 (EV P 29 #[r12.1] r12.2).bind fun r13 =>
 (vl r13.1 r13.2).bind fun r14 =>
 (ld P 44 r1.1 r14.2).bind fun r15 =>
 (EV P 30 #[r15.1] r15.2).bind fun r16 =>
 (al P 49 r16.2).bind fun r17 =>
 (st P 49 r17.1 r16.1 r17.2).bind fun r18 =>
 (ld P 49 r17.1 r18.2).bind fun r19 =>
 (EV P 31 #[r19.1] r19.2).bind fun r20 =>
 (vl r20.1 r20.2).bind fun r21 =>
 (vl r21.1 r21.2).bind fun r22 =>
 (vl r14.1 r22.2).bind fun r23 =>
 (bo P .neq 4 (.tmp 19) (.tmp 20) r22.1 r23.1 r23.2).bind fun r24 =>
 cnd r24.1 (
 (vl (.bool false) r24.2).bind fun r25 =>
 some (r25.1, r25.2)) (
 (ld P 49 r17.1 (dw r24.2)).bind fun r27 =>
 ifP (r27.2 = (dw r24.2)) <|
 (ld P 44 r1.1 (dw r24.2)).bind fun r28 =>
 ifP (r28.2 = (dw r24.2)) <|
 (EV P 30 #[r28.1] (dw r24.2)).bind fun r29 =>
 ifP (True ∧ ld P 49 r17.1 r29.2 = some (r27.1, r29.2) ∧ True) <|
 (EV P 32 #[r27.1, r29.1] r29.2).bind fun r30 =>
 ifP (True ∧ True ∧ True) <|
 (uo P .not r30.1 r30.2).bind fun r31 =>
 ifP (r31.2 = r30.2) <|
 cnd r31.1 (
 (vl (.bool false) r30.2).bind fun r32 =>
 some (r32.1, r32.2)) (
 (vl (.bool true) r30.2).bind fun r33 =>
 some (r33.1, r33.2)))) := by kernel_rfl

/-! laws_FnExactStoreClosed -/
theorem laws_FnExactStoreClosed_fn (x0 : Value) (w : World) : fnC P (EV P) 7 #[x0] w =
 (bx P 44 x0 w).bind fun r1 =>
 (vl (.bool false) r1.2).bind fun r2 =>
 (vl (.int .i64 1048576) r2.2).bind fun r3 =>
 (ld P 44 r1.1 r3.2).bind fun r4 =>
 (vl r3.1 r4.2).bind fun r5 =>
 (EV P 28 #[r4.1, r5.1] r5.2).bind fun r6 =>
 (vl r6.1 r6.2).bind fun r7 =>
 (vl r7.1 r7.2).bind fun r8 =>
 (bo P .lss 3 (.tmp 10) (.const (.int .i64 0)) r8.1 (.int .i64 0) r8.2).bind fun r9 =>
 cnd r9.1 (
 (vl (.bool true) r9.2).bind fun r10 =>
 some (r10.1, r10.2)) (
 (ld P 44 r1.1 r9.2).bind fun r11 =>
 (EV P 30 #[r11.1] r11.2).bind fun r12 =>
 (EV P 33 #[r12.1] r12.2).bind fun r13 =>
 (vl r13.1 r13.2).bind fun r14 =>
 (ld P 44 r1.1 r14.2).bind fun r15 =>
 (EV P 30 #[r15.1] r15.2).bind fun r16 =>
 (al P 49 r16.2).bind fun r17 =>
 (st P 49 r17.1 r16.1 r17.2).bind fun r18 =>
 (ld P 49 r17.1 r18.2).bind fun r19 =>
 (EV P 34 #[r19.1] r19.2).bind fun r20 =>
 (vl r20.1 r20.2).bind fun r21 =>
 (vl r21.1 r21.2).bind fun r22 =>
 (vl r14.1 r22.2).bind fun r23 =>
 (bo P .neq 4 (.tmp 19) (.tmp 20) r22.1 r23.1 r23.2).bind fun r24 =>
 cnd r24.1 (
 (vl (.bool false) r24.2).bind fun r25 =>
 some (r25.1, r25.2)) (
 (ld P 49 r17.1 (dw r24.2)).bind fun r27 =>
 ifP (r27.2 = (dw r24.2)) <|
 (ld P 44 r1.1 (dw r24.2)).bind fun r28 =>
 ifP (r28.2 = (dw r24.2)) <|
 (EV P 30 #[r28.1] (dw r24.2)).bind fun r29 =>
 ifP (True ∧ ld P 49 r17.1 r29.2 = some (r27.1, r29.2) ∧ True) <|
 (EV P 32 #[r27.1, r29.1] r29.2).bind fun r30 =>
 ifP (True ∧ True ∧ True) <|
 (uo P .not r30.1 r30.2).bind fun r31 =>
 ifP (r31.2 = r30.2) <|
 cnd r31.1 (
 (vl (.bool false) r30.2).bind fun r32 =>
 some (r32.1, r32.2)) (
 (vl (.bool true) r30.2).bind fun r33 =>
 some (r33.1, r33.2)))) := by kernel_rfl

/-! laws_FnExactStoreTags -/
theorem laws_FnExactStoreTags_fn (x0 : Value) (w : World) : fnC P (EV P) 8 #[x0] w =
 (bx P 44 x0 w).bind fun r1 =>
 (vl (.bool false) r1.2).bind fun r2 =>
 (vl (.int .i64 1048576) r2.2).bind fun r3 =>
 (ld P 44 r1.1 r3.2).bind fun r4 =>
 (vl r3.1 r4.2).bind fun r5 =>
 (EV P 28 #[r4.1, r5.1] r5.2).bind fun r6 =>
 (vl r6.1 r6.2).bind fun r7 =>
 (vl r7.1 r7.2).bind fun r8 =>
 (bo P .lss 3 (.tmp 14) (.const (.int .i64 0)) r8.1 (.int .i64 0) r8.2).bind fun r9 =>
 cnd r9.1 (
 (vl (.bool true) r9.2).bind fun r10 =>
 some (r10.1, r10.2)) (
 (ld P 44 r1.1 r9.2).bind fun r11 =>
 (EV P 30 #[r11.1] r11.2).bind fun r12 =>
 (EV P 35 #[r12.1] r12.2).bind fun r13 =>
 (al P 25 r13.2).bind fun r14 =>
 (st P 25 r14.1 r13.1 r14.2).bind fun r15 =>
 (ld P 44 r1.1 r15.2).bind fun r16 =>
 (EV P 30 #[r16.1] r16.2).bind fun r17 =>
 (al P 49 r17.2).bind fun r18 =>
 (st P 49 r18.1 r17.1 r18.2).bind fun r19 =>
 (ld P 49 r18.1 r19.2).bind fun r20 =>
 (EV P 36 #[r20.1] r20.2).bind fun r21 =>
 (al P 25 r21.2).bind fun r22 =>
 (st P 25 r22.1 r21.1 r22.2).bind fun r23 =>
 (ld P 25 r22.1 r23.2).bind fun r24 =>
 (ld P 25 r14.1 r24.2).bind fun r25 =>
 (EV P 25 #[r24.1, r25.1] r25.2).bind fun r26 =>
 (uo P .not r26.1 r26.2).bind fun r27 =>
 cnd r27.1 (
 (vl (.bool false) r27.2).bind fun r28 =>
 some (r28.1, r28.2)) (
 (ld P 49 r18.1 (dw r27.2)).bind fun r30 =>
 ifP (r30.2 = (dw r27.2)) <|
 (ld P 44 r1.1 (dw r27.2)).bind fun r31 =>
 ifP (r31.2 = (dw r27.2)) <|
 (EV P 30 #[r31.1] (dw r27.2)).bind fun r32 =>
 ifP (True ∧ ld P 49 r18.1 r32.2 = some (r30.1, r32.2) ∧ True) <|
 (EV P 32 #[r30.1, r32.1] r32.2).bind fun r33 =>
 ifP (True ∧ True ∧ True) <|
 (uo P .not r33.1 r33.2).bind fun r34 =>
 ifP (r34.2 = r33.2) <|
 cnd r34.1 (
 (vl (.bool false) r33.2).bind fun r35 =>
 some (r35.1, r35.2)) (
 (vl (.int .i64 1) r33.2).bind fun r36 =>
 (ld P 49 r18.1 r36.2).bind fun r37 =>
 (vl r36.1 r37.2).bind fun r38 =>
 (EV P 37 #[r37.1, r38.1] r38.2).bind fun r39 =>
 (vl r39.1 r39.2).bind fun r40 =>
 (vl r40.1 r40.2).bind fun r41 =>
 (bo P .lss 3 (.tmp 35) (.const (.int .i64 0)) r41.1 (.int .i64 0) r41.2).bind fun r42 =>
 (vl r42.1 r42.2).bind fun r43 =>
 (gif r43.1 false (ld P 25 r22.1 r43.2) r43.2).bind fun r44 =>
 (gif r43.1 false (ld P 25 r14.1 r44.2) r44.2).bind fun r45 =>
 (gif r43.1 false (EV P 25 #[r44.1, r45.1] r45.2) r45.2).bind fun r46 =>
 (gif r43.1 false (uo P .not r46.1 r46.2) r46.2).bind fun r47 =>
 (pickV r43.1 (.bool true) r47.1 r47.2).bind fun r48 =>
 cnd r48.1 (
 (vl (.bool false) r48.2).bind fun r49 =>
 some (r49.1, r49.2)) (
 (vl (.int .i64 1) r48.2).bind fun r50 =>
 (ld P 25 r22.1 r50.2).bind fun r51 =>
 (vl r50.1 r51.2).bind fun r52 =>
 (EV P 26 #[r51.1, r52.1] r52.2).bind fun r53 =>
 (vl r53.1 r53.2).bind fun r54 =>
 (vl (.int .i64 1) r54.2).bind fun r55 =>
 (ld P 25 r22.1 r55.2).bind fun r56 =>
 (vl r55.1 r56.2).bind fun r57 =>
 (EV P 27 #[r56.1, r57.1] r57.2).bind fun r58 =>
 (vl r58.1 r58.2).bind fun r59 =>
 (vl r59.1 r59.2).bind fun r60 =>
 (bo P .lss 3 (.tmp 49) (.const (.int .i64 0)) r60.1 (.int .i64 0) r60.2).bind fun r61 =>
 cnd r61.1 (
 (vl (.bool false) r61.2).bind fun r62 =>
 some (r62.1, r62.2)) (
 (vl r59.1 r61.2).bind fun r63 =>
 (vl r54.1 r63.2).bind fun r64 =>
 (bo P .neq 3 (.tmp 51) (.tmp 52) r63.1 r64.1 r64.2).bind fun r65 =>
 cnd r65.1 (
 (vl (.bool false) r65.2).bind fun r66 =>
 some (r66.1, r66.2)) (
 (ld P 44 r1.1 r65.2).bind fun r67 =>
 (EV P 30 #[r67.1] r67.2).bind fun r68 =>
 (EV P 36 #[r68.1] r68.2).bind fun r69 =>
 (al P 25 r69.2).bind fun r70 =>
 (st P 25 r70.1 r69.1 r70.2).bind fun r71 =>
 (ld P 25 r70.1 r71.2).bind fun r72 =>
 (ld P 25 r14.1 r72.2).bind fun r73 =>
 (EV P 25 #[r72.1, r73.1] r73.2).bind fun r74 =>
 (uo P .not r74.1 r74.2).bind fun r75 =>
 cnd r75.1 (
 (vl (.bool false) r75.2).bind fun r76 =>
 some (r76.1, r76.2)) (
 (vl (.int .i64 1) r75.2).bind fun r77 =>
 (ld P 25 r22.1 r77.2).bind fun r78 =>
 (vl r77.1 r78.2).bind fun r79 =>
 (EV P 27 #[r78.1, r79.1] r79.2).bind fun r80 =>
 (vl r80.1 r80.2).bind fun r81 =>
 (vl r81.1 r81.2).bind fun r82 =>
 (bo P .lss 3 (.tmp 64) (.const (.int .i64 0)) r82.1 (.int .i64 0) r82.2).bind fun r83 =>
 cnd r83.1 (
 (vl (.bool false) r83.2).bind fun r84 =>
 some (r84.1, r84.2)) (
 (vl r81.1 r83.2).bind fun r85 =>
 (vl r54.1 r85.2).bind fun r86 =>
 (bo P .neq 3 (.tmp 66) (.tmp 67) r85.1 r86.1 r86.2).bind fun r87 =>
 cnd r87.1 (
 (vl (.bool false) r87.2).bind fun r88 =>
 some (r88.1, r88.2)) (
 (vl (.bool true) r87.2).bind fun r89 =>
 some (r89.1, r89.2)))))))))) := by kernel_rfl

/-! laws_FnStoreAdd -/
noncomputable def laws_FnStoreAdd_a1 (e : Env) (w : World) : Option (Value × World) := exC P (EV P) 9 151 (cA (cB (cB (cB (cB (cB (cB (cB (cB (bodyOf P 9)))))))))) e w (kSeq P (EV P) 9 151 (cB (cB (cB (cB (cB (cB (cB (cB (cB (bodyOf P 9)))))))))) (kFn P (fnOf P 9)))
noncomputable def laws_FnStoreAdd_j1 (e : Env) (w : World) : Option (Value × World) := exC P (EV P) 9 151 (cB (cB (cB (cB (cB (cB (cB (cB (cB (bodyOf P 9)))))))))) e w (kFn P (fnOf P 9))
theorem laws_FnStoreAdd_a1_any (e : Env) (w : World) {Q : Value × World → Prop} (h :
 (Ret (ld P 49 (e 5) (dw w)) fun r1 => r1.2 = (dw w) ∧
 (Ret (ld P 56 (e 8) (dw w)) fun r2 => r2.2 = (dw w) ∧
 (Ret (ld P 56 (e 6) (dw w)) fun r3 => r3.2 = (dw w) ∧
 ((Ret (EV P 39 #[r1.1, r2.1] (dw w)) fun r4 => (ld P 56 (e 6) r4.2 = some (r3.1, r4.2) ∧ True ∧ True ∧ True) ∧
 ((Ret (EV P 39 #[r4.1, r3.1] r4.2) fun r5 => (True ∧ True ∧ True ∧ True) ∧
 ((Ret (al P 49 r5.2) fun r6 => (ld P 56 (e 6) r6.2 = some (r3.1, r6.2) ∧ ld P 56 (e 8) r6.2 = some (r2.1, r6.2) ∧ ld P 49 (e 5) r6.2 = some (r1.1, r6.2) ∧ True) ∧
 ((Ret (st P 49 r6.1 r5.1 r6.2) fun r7 => (True ∧ True ∧ True ∧ True) ∧
 Ret (laws_FnStoreAdd_j1 (ups e [(80, r1.1), (81, r2.1), (83, r3.1), (82, r4.1), (84, r5.1), (12, r6.1)]) r7.2) Q))))) ∧
 (Ret (al P 49 r4.2) fun r8 => (ld P 56 (e 6) r8.2 = some (r3.1, r8.2) ∧ ld P 56 (e 8) r8.2 = some (r2.1, r8.2) ∧ ld P 49 (e 5) r8.2 = some (r1.1, r8.2) ∧ True) ∧
 ((Ret (EV P 39 #[r4.1, r3.1] r8.2) fun r9 => (True ∧ True ∧ True ∧ True) ∧
 ((Ret (st P 49 r8.1 r9.1 r9.2) fun r10 => (True ∧ True ∧ True ∧ True) ∧
 Ret (laws_FnStoreAdd_j1 (ups e [(80, r1.1), (81, r2.1), (83, r3.1), (82, r4.1), (12, r8.1), (84, r9.1)]) r10.2) Q))))))) ∧
 (Ret (al P 49 (dw w)) fun r11 => (ld P 56 (e 6) r11.2 = some (r3.1, r11.2) ∧ ld P 56 (e 8) r11.2 = some (r2.1, r11.2) ∧ ld P 49 (e 5) r11.2 = some (r1.1, r11.2) ∧ True) ∧
 ((Ret (EV P 39 #[r1.1, r2.1] r11.2) fun r12 => (ld P 56 (e 6) r12.2 = some (r3.1, r12.2) ∧ True ∧ True ∧ True) ∧
 ((Ret (EV P 39 #[r12.1, r3.1] r12.2) fun r13 => (True ∧ True ∧ True ∧ True) ∧
 ((Ret (st P 49 r11.1 r13.1 r13.2) fun r14 => (True ∧ True ∧ True ∧ True) ∧
 Ret (laws_FnStoreAdd_j1 (ups e [(80, r1.1), (81, r2.1), (83, r3.1), (12, r11.1), (82, r12.1), (84, r13.1)]) r14.2) Q)))))))))))) : Ret (laws_FnStoreAdd_a1 e w) Q := exC_any (id := 10) (ops := opsOf (cA (cB (cB (cB (cB (cB (cB (cB (cB (bodyOf P 9))))))))))) (by kernel_rfl) (by kernel_rfl) (Eq.mpr (by kernel_rfl) h)
theorem laws_FnStoreAdd_j1_eq (e : Env) (w : World) : laws_FnStoreAdd_j1 e w =
 (fa P 56 (e 6) 1 (dw w)).bind fun r2 =>
 ifP (r2.2 = (dw w)) <|
 (ld P 32 r2.1 (dw w)).bind fun r3 =>
 ifP (r3.2 = (dw w)) <|
 (fa P 56 (e 8) 1 (dw w)).bind fun r4 =>
 ifP (r4.2 = (dw w)) <|
 (ld P 32 r4.1 (dw w)).bind fun r5 =>
 ifP (r5.2 = (dw w)) <|
 (bo P .neq 32 (.tmp 86) (.tmp 88) r3.1 r5.1 (dw w)).bind fun r6 =>
 ifP (r6.2 = (dw w)) <|
 (vl r6.1 (dw w)).bind fun r7 =>
 ifP (r7.2 = (dw w)) <|
 (gif r7.1 true (fa P 56 (e 6) 1 (dw w)) (dw w)).bind fun r8 =>
 ifP (r8.2 = (dw w)) <|
 (gif r7.1 true (ld P 32 r8.1 (dw w)) (dw w)).bind fun r9 =>
 ifP (r9.2 = (dw w)) <|
 (gif r7.1 true (fa P 49 (e 5) 0 (dw w)) (dw w)).bind fun r10 =>
 ifP (r10.2 = (dw w)) <|
 (gif r7.1 true (ld P 47 r10.1 (dw w)) (dw w)).bind fun r11 =>
 ifP (r11.2 = (dw w)) <|
 (gif r7.1 true (fa P 56 (e 6) 0 (dw w)) (dw w)).bind fun r12 =>
 ifP (r12.2 = (dw w)) <|
 (gif r7.1 true (ld P 3 r12.1 (dw w)) (dw w)).bind fun r13 =>
 ifP (r13.2 = (dw w)) <|
 (gif r7.1 true (ia P 47 r11.1 r13.1 (dw w)) (dw w)).bind fun r14 =>
 ifP (r14.2 = (dw w)) <|
 (gif r7.1 true (fa P 56 r14.1 1 (dw w)) (dw w)).bind fun r15 =>
 ifP (r15.2 = (dw w)) <|
 (gif r7.1 true (ld P 32 r15.1 (dw w)) (dw w)).bind fun r16 =>
 ifP (r16.2 = (dw w)) <|
 (gif r7.1 true (bo P .neq 32 (.tmp 92) (.tmp 99) r9.1 r16.1 (dw w)) (dw w)).bind fun r17 =>
 ifP (r17.2 = (dw w)) <|
 (pickV r7.1 r17.1 (.bool false) (dw w)).bind fun r18 =>
 ifP (r18.2 = (dw w)) <|
 (vl r18.1 (dw w)).bind fun r19 =>
 ifP (r19.2 = (dw w)) <|
 (gif r19.1 true (fa P 56 (e 8) 1 (dw w)) (dw w)).bind fun r20 =>
 ifP (r20.2 = (dw w)) <|
 (gif r19.1 true (ld P 32 r20.1 (dw w)) (dw w)).bind fun r21 =>
 ifP (r21.2 = (dw w)) <|
 (gif r19.1 true (fa P 49 (e 5) 0 (dw w)) (dw w)).bind fun r22 =>
 ifP (r22.2 = (dw w)) <|
 (gif r19.1 true (ld P 47 r22.1 (dw w)) (dw w)).bind fun r23 =>
 ifP (r23.2 = (dw w)) <|
 (gif r19.1 true (fa P 56 (e 8) 0 (dw w)) (dw w)).bind fun r24 =>
 ifP (r24.2 = (dw w)) <|
 (gif r19.1 true (ld P 3 r24.1 (dw w)) (dw w)).bind fun r25 =>
 ifP (r25.2 = (dw w)) <|
 (gif r19.1 true (ia P 47 r23.1 r25.1 (dw w)) (dw w)).bind fun r26 =>
 ifP (r26.2 = (dw w)) <|
 (gif r19.1 true (fa P 56 r26.1 1 (dw w)) (dw w)).bind fun r27 =>
 ifP (r27.2 = (dw w)) <|
 (gif r19.1 true (ld P 32 r27.1 (dw w)) (dw w)).bind fun r28 =>
 ifP (r28.2 = (dw w)) <|
 (gif r19.1 true (bo P .neq 32 (.tmp 104) (.tmp 111) r21.1 r28.1 (dw w)) (dw w)).bind fun r29 =>
 ifP (r29.2 = (dw w)) <|
 (pickV r19.1 r29.1 (.bool false) (dw w)).bind fun r30 =>
 ifP (r30.2 = (dw w)) <|
 (vl r30.1 (dw w)).bind fun r31 =>
 ifP (r31.2 = (dw w)) <|
 (ld P 49 (e 9) (dw (dw w))).bind fun r33 =>
 ifP (r33.2 = (dw (dw w))) <|
 (EV P 31 #[r33.1] (dw (dw w))).bind fun r34 =>
 ifP (True ∧ True) <|
 (vl r34.1 r34.2).bind fun r35 =>
 ifP (r35.2 = r34.2) <|
 (gif r35.1 true (fa P 25 (e 10) 0 r34.2) r34.2).bind fun r36 =>
 ifP (r36.2 = r34.2) <|
 (gif r35.1 true (ld P 23 r36.1 r34.2) r34.2).bind fun r37 =>
 ifP (r37.2 = r34.2) <|
 (gif r35.1 true (fa P 56 (e 6) 0 r34.2) r34.2).bind fun r38 =>
 ifP (r38.2 = r34.2) <|
 (gif r35.1 true (ld P 3 r38.1 r34.2) r34.2).bind fun r39 =>
 ifP (r39.2 = r34.2) <|
 (gif r35.1 true (ia P 23 r37.1 r39.1 r34.2) r34.2).bind fun r40 =>
 ifP (r40.2 = r34.2) <|
 (gif r35.1 true (ld P 32 r40.1 r34.2) r34.2).bind fun r41 =>
 ifP (r41.2 = r34.2) <|
 (gif r35.1 true (fa P 49 (e 5) 0 r34.2) r34.2).bind fun r42 =>
 ifP (r42.2 = r34.2) <|
 (gif r35.1 true (ld P 47 r42.1 r34.2) r34.2).bind fun r43 =>
 ifP (r43.2 = r34.2) <|
 (gif r35.1 true (fa P 56 (e 6) 0 r34.2) r34.2).bind fun r44 =>
 ifP (r44.2 = r34.2) <|
 (gif r35.1 true (ld P 3 r44.1 r34.2) r34.2).bind fun r45 =>
 ifP (r45.2 = r34.2) <|
 (gif r35.1 true (ia P 47 r43.1 r45.1 r34.2) r34.2).bind fun r46 =>
 ifP (r46.2 = r34.2) <|
 (gif r35.1 true (fa P 56 r46.1 1 r34.2) r34.2).bind fun r47 =>
 ifP (r47.2 = r34.2) <|
 (gif r35.1 true (ld P 32 r47.1 r34.2) r34.2).bind fun r48 =>
 ifP (r48.2 = r34.2) <|
 (gif r35.1 true (fa P 56 (e 6) 1 r34.2) r34.2).bind fun r49 =>
 ifP (r49.2 = r34.2) <|
 (gif r35.1 true (ld P 32 r49.1 r34.2) r34.2).bind fun r50 =>
 ifP (r50.2 = r34.2) <|
 (gif r35.1 true (EV P 43 #[r48.1, r50.1] r34.2) r34.2).bind fun r51 =>
 ifP (True ∧ True ∧ True ∧ True ∧ True ∧ True ∧ True ∧ True ∧ True ∧ gif r35.1 true (ld P 32 r40.1 r51.2) r51.2 = some (r41.1, r51.2) ∧ gif r35.1 true (ia P 23 r37.1 r39.1 r51.2) r51.2 = some (r40.1, r51.2) ∧ gif r35.1 true (ld P 3 r38.1 r51.2) r51.2 = some (r39.1, r51.2) ∧ gif r35.1 true (fa P 56 (e 6) 0 r51.2) r51.2 = some (r38.1, r51.2) ∧ gif r35.1 true (ld P 23 r36.1 r51.2) r51.2 = some (r37.1, r51.2) ∧ gif r35.1 true (fa P 25 (e 10) 0 r51.2) r51.2 = some (r36.1, r51.2) ∧ True ∧ True) <|
 (gif r35.1 true (bo P .eql 32 (.tmp 122) (.tmp 132) r41.1 r51.1 r51.2) r51.2).bind fun r52 =>
 ifP (r52.2 = r51.2) <|
 (pickV r35.1 r52.1 (.bool false) r51.2).bind fun r53 =>
 ifP (r53.2 = r51.2) <|
 (vl r53.1 r51.2).bind fun r54 =>
 ifP (r54.2 = r51.2) <|
 (gif r54.1 true (ld P 49 (e 9) r51.2) r51.2).bind fun r55 =>
 ifP (r55.2 = r51.2) <|
 (gif r54.1 true (ld P 56 (e 6) r51.2) r51.2).bind fun r56 =>
 ifP (r56.2 = r51.2) <|
 (gif r54.1 true (ld P 49 (e 9) r51.2) r51.2).bind fun r57 =>
 ifP (r57.2 = r51.2) <|
 (gif r54.1 true (EV P 39 #[r55.1, r56.1] r51.2) r51.2).bind fun r58 =>
 ifP (gif r54.1 true (ld P 49 (e 9) r58.2) r58.2 = some (r57.1, r58.2) ∧ True ∧ True ∧ True ∧ True ∧ True ∧ True ∧ True ∧ True ∧ True ∧ True ∧ True ∧ True ∧ True ∧ True ∧ True ∧ True ∧ True ∧ True ∧ True ∧ True) <|
 (gif r54.1 true (EV P 40 #[r58.1, r57.1] r58.2) r58.2).bind fun r59 =>
 ifP (True ∧ True ∧ True ∧ True ∧ True ∧ True ∧ True ∧ True ∧ True ∧ True ∧ True ∧ True ∧ True ∧ True ∧ True ∧ True ∧ True ∧ True ∧ True ∧ True ∧ True) <|
 (pickV r54.1 r59.1 (.bool false) r59.2).bind fun r60 =>
 ifP (r60.2 = r59.2) <|
 (vl r60.1 r59.2).bind fun r61 =>
 ifP (r61.2 = r59.2) <|
 (gif r61.1 true (vl r31.1 r59.2) r59.2).bind fun r62 =>
 ifP (r62.2 = r59.2) <|
 (gif r61.1 true (uo P .not r62.1 r59.2) r59.2).bind fun r63 =>
 ifP (r63.2 = r59.2) <|
 (gif r61.1 true (vl r63.1 r59.2) r59.2).bind fun r64 =>
 ifP (r64.2 = r59.2) <|
 (gif r64.1 false (ld P 49 (e 11) r59.2) r59.2).bind fun r65 =>
 ifP (r65.2 = r59.2) <|
 (gif r64.1 false (ld P 49 (e 12) r59.2) r59.2).bind fun r66 =>
 ifP (r66.2 = r59.2) <|
 (gif r64.1 false (EV P 40 #[r65.1, r66.1] r59.2) r59.2).bind fun r67 =>
 ifP (True ∧ True ∧ True ∧ True ∧ True ∧ True ∧ True ∧ True ∧ True ∧ True ∧ True ∧ True ∧ True ∧ True ∧ True ∧ True ∧ True ∧ True ∧ True ∧ True ∧ True ∧ True ∧ True ∧ True) <|
 (gif r61.1 true (pickV r64.1 (.bool true) r67.1 r67.2) r67.2).bind fun r68 =>
 ifP (r68.2 = r67.2) <|
 (pickV r61.1 r68.1 (.bool false) r67.2).bind fun r69 =>
 ifP (r69.2 = r67.2) <|
 (vl r69.1 r67.2).bind fun r70 =>
 ifP (r70.2 = r67.2) <|
 some (r70.1, r67.2) := by kernel_rfl
theorem laws_FnStoreAdd_fn (x0 x1 : Value) (w : World) : fnC P (EV P) 9 #[x0, x1] w =
 (vl (.bool false) w).bind fun r1 =>
 (vl x0 r1.2).bind fun r2 =>
 (b_len P #[22] 3 #[r2.1] r2.2).bind fun r3 =>
 (bo P .gtr 3 (.tmp 15) (.const (.int .i64 1048576)) r3.1 (.int .i64 1048576) r3.2).bind fun r4 =>
 (vl r4.1 r4.2).bind fun r5 =>
 (gif r5.1 false (vl x1 r5.2) r5.2).bind fun r6 =>
 (gif r5.1 false (b_len P #[22] 3 #[r6.1] r6.2) r6.2).bind fun r7 =>
 (gif r5.1 false (bo P .gtr 3 (.tmp 19) (.const (.int .i64 1048576)) r7.1 (.int .i64 1048576) r7.2) r7.2).bind fun r8 =>
 (pickV r5.1 (.bool true) r8.1 r8.2).bind fun r9 =>
 cnd r9.1 (
 (vl (.bool true) r9.2).bind fun r10 =>
 some (r10.1, r10.2)) (
 (vl x0 r9.2).bind fun r11 =>
 (EV P 38 #[r11.1] r11.2).bind fun r12 =>
 (vl r12.1 r12.2).bind fun r13 =>
 (xt P r13.1 0 r13.2).bind fun r14 =>
 (xt P r13.1 1 r14.2).bind fun r15 =>
 (al P 49 r15.2).bind fun r16 =>
 (al P 56 r16.2).bind fun r17 =>
 (st P 49 r16.1 r14.1 r17.2).bind fun r18 =>
 (st P 56 r17.1 r15.1 r18.2).bind fun r19 =>
 (vl x1 r19.2).bind fun r20 =>
 (EV P 38 #[r20.1] r20.2).bind fun r21 =>
 (vl r21.1 r21.2).bind fun r22 =>
 (xt P r22.1 0 r22.2).bind fun r23 =>
 (xt P r22.1 1 r23.2).bind fun r24 =>
 (al P 49 r24.2).bind fun r25 =>
 (al P 56 r25.2).bind fun r26 =>
 (st P 49 r25.1 r23.1 r26.2).bind fun r27 =>
 (st P 56 r26.1 r24.1 r27.2).bind fun r28 =>
 (ld P 49 r16.1 r28.2).bind fun r29 =>
 (ld P 56 r17.1 r29.2).bind fun r30 =>
 (EV P 39 #[r29.1, r30.1] r30.2).bind fun r31 =>
 (al P 49 r31.2).bind fun r32 =>
 (st P 49 r32.1 r31.1 r32.2).bind fun r33 =>
 (ld P 49 r32.1 (dw r33.2)).bind fun r35 =>
 ifP (r35.2 = (dw r33.2)) <|
 (ld P 49 r16.1 (dw r33.2)).bind fun r36 =>
 ifP (r36.2 = (dw r33.2)) <|
 (ld P 56 r17.1 (dw r33.2)).bind fun r37 =>
 ifP (r37.2 = (dw r33.2)) <|
 (EV P 41 #[r36.1, r37.1] (dw r33.2)).bind fun r38 =>
 ifP (True ∧ True ∧ ld P 49 r32.1 r38.2 = some (r35.1, r38.2) ∧ True) <|
 (EV P 40 #[r35.1, r38.1] r38.2).bind fun r39 =>
 ifP (True ∧ True ∧ True ∧ True) <|
 (uo P .not r39.1 r39.2).bind fun r40 =>
 ifP (r40.2 = r39.2) <|
 (vl r40.1 r39.2).bind fun r41 =>
 ifP (r41.2 = r39.2) <|
 (gif r41.1 false (ld P 49 r16.1 r39.2) r39.2).bind fun r42 =>
 ifP (r42.2 = r39.2) <|
 (gif r41.1 false (ld P 49 r16.1 r39.2) r39.2).bind fun r43 =>
 ifP (r43.2 = r39.2) <|
 (gif r41.1 false (EV P 31 #[r42.1] r39.2) r39.2).bind fun r44 =>
 ifP (gif r41.1 false (ld P 49 r16.1 r44.2) r44.2 = some (r43.1, r44.2) ∧ True ∧ True ∧ True ∧ True ∧ True ∧ True) <|
 (gif r41.1 false (EV P 29 #[r43.1] r44.2) r44.2).bind fun r45 =>
 ifP (True ∧ True ∧ True ∧ True ∧ True ∧ True ∧ True) <|
 (gif r41.1 false (bo P .neq 4 (.tmp 43) (.tmp 45) r44.1 r45.1 r45.2) r45.2).bind fun r46 =>
 ifP (r46.2 = r45.2) <|
 (pickV r41.1 (.bool true) r46.1 r45.2).bind fun r47 =>
 ifP (r47.2 = r45.2) <|
 (vl r47.1 r45.2).bind fun r48 =>
 ifP (r48.2 = r45.2) <|
 (gif r48.1 false (ld P 49 r16.1 r45.2) r45.2).bind fun r49 =>
 ifP (r49.2 = r45.2) <|
 (gif r48.1 false (EV P 31 #[r49.1] r45.2) r45.2).bind fun r50 =>
 ifP (True ∧ True ∧ True ∧ True ∧ True ∧ True ∧ True ∧ True ∧ True) <|
 (gif r48.1 false (uo P .not r50.1 r50.2) r50.2).bind fun r51 =>
 ifP (r51.2 = r50.2) <|
 (pickV r48.1 (.bool true) r51.1 r50.2).bind fun r52 =>
 ifP (r52.2 = r50.2) <|
 (vl r52.1 r50.2).bind fun r53 =>
 ifP (r53.2 = r50.2) <|
 (gif r53.1 false (ld P 56 r17.1 r50.2) r50.2).bind fun r54 =>
 ifP (r54.2 = r50.2) <|
 (gif r53.1 false (EV P 42 #[r54.1] r50.2) r50.2).bind fun r55 =>
 ifP (True ∧ True ∧ True ∧ True ∧ True ∧ True ∧ True ∧ True ∧ True ∧ True ∧ True) <|
 (gif r53.1 false (uo P .not r55.1 r55.2) r55.2).bind fun r56 =>
 ifP (r56.2 = r55.2) <|
 (pickV r53.1 (.bool true) r56.1 r55.2).bind fun r57 =>
 ifP (r57.2 = r55.2) <|
 (vl r57.1 r55.2).bind fun r58 =>
 ifP (r58.2 = r55.2) <|
 (gif r58.1 false (ld P 56 r26.1 r55.2) r55.2).bind fun r59 =>
 ifP (r59.2 = r55.2) <|
 (gif r58.1 false (EV P 42 #[r59.1] r55.2) r55.2).bind fun r60 =>
 ifP (True ∧ True ∧ True ∧ True ∧ True ∧ True ∧ True ∧ True ∧ True ∧ True ∧ True ∧ True ∧ True) <|
 (gif r58.1 false (uo P .not r60.1 r60.2) r60.2).bind fun r61 =>
 ifP (r61.2 = r60.2) <|
 (pickV r58.1 (.bool true) r61.1 r60.2).bind fun r62 =>
 ifP (r62.2 = r60.2) <|
 cnd r62.1 (
 (ld P 49 r32.1 (dw r60.2)).bind fun r64 =>
 ifP (r64.2 = (dw r60.2)) <|
 (ld P 49 r16.1 (dw r60.2)).bind fun r65 =>
 ifP (r65.2 = (dw r60.2)) <|
 (ld P 56 r17.1 (dw r60.2)).bind fun r66 =>
 ifP (r66.2 = (dw r60.2)) <|
 (EV P 41 #[r65.1, r66.1] (dw r60.2)).bind fun r67 =>
 ifP (True ∧ True ∧ ld P 49 r32.1 r67.2 = some (r64.1, r67.2) ∧ True) <|
 (EV P 40 #[r64.1, r67.1] r67.2).bind fun r68 =>
 ifP (True ∧ True ∧ True ∧ True) <|
 (vl r68.1 r68.2).bind fun r69 =>
 ifP (r69.2 = r68.2) <|
 (gif r69.1 true (ld P 49 r16.1 r68.2) r68.2).bind fun r70 =>
 ifP (r70.2 = r68.2) <|
 (gif r69.1 true (ld P 49 r16.1 r68.2) r68.2).bind fun r71 =>
 ifP (r71.2 = r68.2) <|
 (gif r69.1 true (EV P 31 #[r70.1] r68.2) r68.2).bind fun r72 =>
 ifP (gif r69.1 true (ld P 49 r16.1 r72.2) r72.2 = some (r71.1, r72.2) ∧ True ∧ True ∧ True ∧ True ∧ True) <|
 (gif r69.1 true (EV P 29 #[r71.1] r72.2) r72.2).bind fun r73 =>
 ifP (True ∧ True ∧ True ∧ True ∧ True ∧ True) <|
 (gif r69.1 true (bo P .eql 4 (.tmp 70) (.tmp 72) r72.1 r73.1 r73.2) r73.2).bind fun r74 =>
 ifP (r74.2 = r73.2) <|
 (pickV r69.1 r74.1 (.bool false) r73.2).bind fun r75 =>
 ifP (r75.2 = r73.2) <|
 (vl r75.1 r73.2).bind fun r76 =>
 ifP (r76.2 = r73.2) <|
 some (r76.1, r73.2)) (
 (ld P 49 r32.1 r60.2).bind fun r77 =>
 (EV P 36 #[r77.1] r77.2).bind fun r78 =>
 (al P 25 r78.2).bind fun r79 =>
 (st P 25 r79.1 r78.1 r79.2).bind fun r80 =>
 (ld P 49 r32.1 r80.2).bind fun r81 =>
 (ld P 56 r26.1 r81.2).bind fun r82 =>
 (EV P 39 #[r81.1, r82.1] r82.2).bind fun r83 =>
 (al P 49 r83.2).bind fun r84 =>
 (st P 49 r84.1 r83.1 r84.2).bind fun r85 =>
 laws_FnStoreAdd_a1 (ups (env0 #[x0, x1]) [(4, r1.1), (14, r2.1), (15, r3.1), (16, r4.1), (17, r5.1), (18, r6.1), (19, r7.1), (20, r8.1), (21, r9.1), (23, r11.1), (24, r12.1), (22, r13.1), (25, r14.1), (26, r15.1), (5, r16.1), (6, r17.1), (28, r20.1), (29, r21.1), (27, r22.1), (30, r23.1), (31, r24.1), (7, r25.1), (8, r26.1), (32, r29.1), (33, r30.1), (34, r31.1), (9, r32.1), (35, r35.1), (36, r36.1), (37, r37.1), (38, r38.1), (39, r39.1), (40, r40.1), (41, r41.1), (42, r42.1), (44, r43.1), (43, r44.1), (45, r45.1), (46, r46.1), (47, r47.1), (48, r48.1), (49, r49.1), (50, r50.1), (51, r51.1), (52, r52.1), (53, r53.1), (54, r54.1), (55, r55.1), (56, r56.1), (57, r57.1), (58, r58.1), (59, r59.1), (60, r60.1), (61, r61.1), (62, r62.1), (75, r77.1), (76, r78.1), (10, r79.1), (77, r81.1), (78, r82.1), (79, r83.1), (11, r84.1)]) r85.2)) := by kernel_rfl

/-! laws_FnStoreJoin -/
theorem laws_FnStoreJoin_fn (x0 : Value) (w : World) : fnC P (EV P) 10 #[x0] w =
 (vl (.bool false) w).bind fun r1 =>
 (vl x0 r1.2).bind fun r2 =>
 (b_len P #[22] 3 #[r2.1] r2.2).bind fun r3 =>
 (bo P .gtr 3 (.tmp 7) (.const (.int .i64 1048576)) r3.1 (.int .i64 1048576) r3.2).bind fun r4 =>
 cnd r4.1 (
 (vl (.bool true) r4.2).bind fun r5 =>
 some (r5.1, r5.2)) (
 (vl x0 r4.2).bind fun r6 =>
 (EV P 44 #[r6.1] r6.2).bind fun r7 =>
 (vl r7.1 r7.2).bind fun r8 =>
 (xt P r8.1 0 r8.2).bind fun r9 =>
 (xt P r8.1 1 r9.2).bind fun r10 =>
 (al P 49 r10.2).bind fun r11 =>
 (al P 49 r11.2).bind fun r12 =>
 (st P 49 r11.1 r9.1 r12.2).bind fun r13 =>
 (st P 49 r12.1 r10.1 r13.2).bind fun r14 =>
 (ld P 49 r11.1 r14.2).bind fun r15 =>
 (ld P 49 r12.1 r15.2).bind fun r16 =>
 (EV P 45 #[r15.1, r16.1] r16.2).bind fun r17 =>
 (al P 49 r17.2).bind fun r18 =>
 (st P 49 r18.1 r17.1 r18.2).bind fun r19 =>
 (ld P 49 r18.1 (dw r19.2)).bind fun r21 =>
 ifP (r21.2 = (dw r19.2)) <|
 (ld P 49 r11.1 (dw r19.2)).bind fun r22 =>
 ifP (r22.2 = (dw r19.2)) <|
 (ld P 49 r12.1 (dw r19.2)).bind fun r23 =>
 ifP (r23.2 = (dw r19.2)) <|
 (EV P 46 #[r22.1, r23.1] (dw r19.2)).bind fun r24 =>
 ifP (True ∧ True ∧ ld P 49 r18.1 r24.2 = some (r21.1, r24.2) ∧ True) <|
 (EV P 40 #[r21.1, r24.1] r24.2).bind fun r25 =>
 ifP (True ∧ True ∧ True ∧ True) <|
 (uo P .not r25.1 r25.2).bind fun r26 =>
 ifP (r26.2 = r25.2) <|
 (vl r26.1 r25.2).bind fun r27 =>
 ifP (r27.2 = r25.2) <|
 (gif r27.1 false (ld P 49 r11.1 r25.2) r25.2).bind fun r28 =>
 ifP (r28.2 = r25.2) <|
 (gif r27.1 false (EV P 31 #[r28.1] r25.2) r25.2).bind fun r29 =>
 ifP (True ∧ True ∧ True ∧ True ∧ True ∧ True) <|
 (gif r27.1 false (uo P .not r29.1 r29.2) r29.2).bind fun r30 =>
 ifP (r30.2 = r29.2) <|
 (pickV r27.1 (.bool true) r30.1 r29.2).bind fun r31 =>
 ifP (r31.2 = r29.2) <|
 (vl r31.1 r29.2).bind fun r32 =>
 ifP (r32.2 = r29.2) <|
 (gif r32.1 false (ld P 49 r12.1 r29.2) r29.2).bind fun r33 =>
 ifP (r33.2 = r29.2) <|
 (gif r32.1 false (EV P 31 #[r33.1] r29.2) r29.2).bind fun r34 =>
 ifP (True ∧ True ∧ True ∧ True ∧ True ∧ True ∧ True ∧ True) <|
 (gif r32.1 false (uo P .not r34.1 r34.2) r34.2).bind fun r35 =>
 ifP (r35.2 = r34.2) <|
 (pickV r32.1 (.bool true) r35.1 r34.2).bind fun r36 =>
 ifP (r36.2 = r34.2) <|
 cnd r36.1 (
 (ld P 49 r18.1 (dw r34.2)).bind fun r38 =>
 ifP (r38.2 = (dw r34.2)) <|
 (ld P 49 r11.1 (dw r34.2)).bind fun r39 =>
 ifP (r39.2 = (dw r34.2)) <|
 (ld P 49 r12.1 (dw r34.2)).bind fun r40 =>
 ifP (r40.2 = (dw r34.2)) <|
 (EV P 46 #[r39.1, r40.1] (dw r34.2)).bind fun r41 =>
 ifP (True ∧ True ∧ ld P 49 r18.1 r41.2 = some (r38.1, r41.2) ∧ True) <|
 (EV P 40 #[r38.1, r41.1] r41.2).bind fun r42 =>
 ifP (True ∧ True ∧ True ∧ True) <|
 (vl r42.1 r42.2).bind fun r43 =>
 ifP (r43.2 = r42.2) <|
 some (r43.1, r42.2)) (
 (ld P 49 r18.1 (dw r34.2)).bind fun r45 =>
 ifP (r45.2 = (dw r34.2)) <|
 (EV P 31 #[r45.1] (dw r34.2)).bind fun r46 =>
 ifP (True ∧ True) <|
 (vl r46.1 r46.2).bind fun r47 =>
 ifP (r47.2 = r46.2) <|
 (gif r47.1 true (ld P 49 r18.1 r46.2) r46.2).bind fun r48 =>
 ifP (r48.2 = r46.2) <|
 (gif r47.1 true (ld P 49 r11.1 r46.2) r46.2).bind fun r49 =>
 ifP (r49.2 = r46.2) <|
 (gif r47.1 true (ld P 49 r12.1 r46.2) r46.2).bind fun r50 =>
 ifP (r50.2 = r46.2) <|
 (gif r47.1 true (EV P 36 #[r48.1] r46.2) r46.2).bind fun r51 =>
 ifP (gif r47.1 true (ld P 49 r12.1 r51.2) r51.2 = some (r50.1, r51.2) ∧ gif r47.1 true (ld P 49 r11.1 r51.2) r51.2 = some (r49.1, r51.2) ∧ True ∧ True ∧ True) <|
 (gif r47.1 true (EV P 36 #[r49.1] r51.2) r51.2).bind fun r52 =>
 ifP (gif r47.1 true (ld P 49 r12.1 r52.2) r52.2 = some (r50.1, r52.2) ∧ True ∧ True ∧ True ∧ True) <|
 (gif r47.1 true (EV P 36 #[r50.1] r52.2) r52.2).bind fun r53 =>
 ifP (True ∧ True ∧ True ∧ True ∧ True) <|
 (gif r47.1 true (EV P 14 #[r52.1, r53.1] r53.2) r53.2).bind fun r54 =>
 ifP (True ∧ True ∧ True ∧ True ∧ True) <|
 (gif r47.1 true (EV P 15 #[r51.1, r54.1] r54.2) r54.2).bind fun r55 =>
 ifP (True ∧ True ∧ True ∧ True ∧ True) <|
 (pickV r47.1 r55.1 (.bool false) r55.2).bind fun r56 =>
 ifP (r56.2 = r55.2) <|
 (vl r56.1 r55.2).bind fun r57 =>
 ifP (r57.2 = r55.2) <|
 (gif r57.1 true (ld P 49 r11.1 r55.2) r55.2).bind fun r58 =>
 ifP (r58.2 = r55.2) <|
 (gif r57.1 true (ld P 49 r11.1 r55.2) r55.2).bind fun r59 =>
 ifP (r59.2 = r55.2) <|
 (gif r57.1 true (ld P 49 r11.1 r55.2) r55.2).bind fun r60 =>
 ifP (r60.2 = r55.2) <|
 (gif r57.1 true (EV P 45 #[r58.1, r59.1] r55.2) r55.2).bind fun r61 =>
 ifP (gif r57.1 true (ld P 49 r11.1 r61.2) r61.2 = some (r60.1, r61.2) ∧ True ∧ True ∧ True ∧ True ∧ True ∧ True ∧ True) <|
 (gif r57.1 true (EV P 40 #[r61.1, r60.1] r61.2) r61.2).bind fun r62 =>
 ifP (True ∧ True ∧ True ∧ True ∧ True ∧ True ∧ True ∧ True) <|
 (pickV r57.1 r62.1 (.bool false) r62.2).bind fun r63 =>
 ifP (r63.2 = r62.2) <|
 (vl r63.1 r62.2).bind fun r64 =>
 ifP (r64.2 = r62.2) <|
 (gif r64.1 true (ld P 49 r11.1 r62.2) r62.2).bind fun r65 =>
 ifP (r65.2 = r62.2) <|
 (gif r64.1 true (ld P 49 r11.1 r62.2) r62.2).bind fun r66 =>
 ifP (r66.2 = r62.2) <|
 (gif r64.1 true (EV P 47 #[] r62.2) r62.2).bind fun r67 =>
 ifP (gif r64.1 true (ld P 49 r11.1 r67.2) r67.2 = some (r66.1, r67.2) ∧ gif r64.1 true (ld P 49 r11.1 r67.2) r67.2 = some (r65.1, r67.2) ∧ True ∧ True ∧ True ∧ True ∧ True ∧ True ∧ True ∧ True) <|
 (gif r64.1 true (EV P 45 #[r65.1, r67.1] r67.2) r67.2).bind fun r68 =>
 ifP (gif r64.1 true (ld P 49 r11.1 r68.2) r68.2 = some (r66.1, r68.2) ∧ True ∧ True ∧ True ∧ True ∧ True ∧ True ∧ True ∧ True ∧ True) <|
 (gif r64.1 true (EV P 40 #[r68.1, r66.1] r68.2) r68.2).bind fun r69 =>
 ifP (True ∧ True ∧ True ∧ True ∧ True ∧ True ∧ True ∧ True ∧ True ∧ True) <|
 (pickV r64.1 r69.1 (.bool false) r69.2).bind fun r70 =>
 ifP (r70.2 = r69.2) <|
 (vl r70.1 r69.2).bind fun r71 =>
 ifP (r71.2 = r69.2) <|
 some (r71.1, r69.2))) := by kernel_rfl

/-! laws_FnExactStoreJoin -/
noncomputable def laws_FnExactStoreJoin_a1 (e : Env) (w : World) : Option (Value × World) := exC P (EV P) 11 92 (cA (cB (cB (cB (cB (cB (cB (bodyOf P 11)))))))) e w (kSeq P (EV P) 11 92 (cB (cB (cB (cB (cB (cB (cB (bodyOf P 11)))))))) (kFn P (fnOf P 11)))
noncomputable def laws_FnExactStoreJoin_j1 (e : Env) (w : World) : Option (Value × World) := exC P (EV P) 11 92 (cB (cB (cB (cB (cB (cB (cB (bodyOf P 11)))))))) e w (kFn P (fnOf P 11))
noncomputable def laws_FnExactStoreJoin_a2 (e : Env) (w : World) : Option (Value × World) := exC P (EV P) 11 92 (cA (cB (cB (cB (cB (cB (cB (cB (cB (cB (cB (cB (cB (cB (cB (cB (cB (cB (cB (cB (cB (cB (cB (cB (bodyOf P 11))))))))))))))))))))))))) e w (kSeq P (EV P) 11 92 (cB (cB (cB (cB (cB (cB (cB (cB (cB (cB (cB (cB (cB (cB (cB (cB (cB (cB (cB (cB (cB (cB (cB (cB (bodyOf P 11))))))))))))))))))))))))) (kFn P (fnOf P 11)))
noncomputable def laws_FnExactStoreJoin_j2 (e : Env) (w : World) : Option (Value × World) := exC P (EV P) 11 92 (cB (cB (cB (cB (cB (cB (cB (cB (cB (cB (cB (cB (cB (cB (cB (cB (cB (cB (cB (cB (cB (cB (cB (cB (bodyOf P 11))))))))))))))))))))))))) e w (kFn P (fnOf P 11))
theorem laws_FnExactStoreJoin_a1_any (e : Env) (w : World) {Q : Value × World → Prop} (h :
 (Ret (ld P 44 (e 2) (dw w)) fun r1 => r1.2 = (dw w) ∧
 (Ret (ld P 44 (e 3) (dw w)) fun r2 => r2.2 = (dw w) ∧
 ((Ret (EV P 30 #[r1.1] (dw w)) fun r3 => (ld P 44 (e 3) r3.2 = some (r2.1, r3.2) ∧ True ∧ True) ∧
 ((Ret (EV P 30 #[r2.1] r3.2) fun r4 => (True ∧ True ∧ True) ∧
 ((Ret (EV P 46 #[r3.1, r4.1] r4.2) fun r5 => (True ∧ True ∧ True) ∧
 ((Ret (al P 49 r5.2) fun r6 => (ld P 44 (e 3) r6.2 = some (r2.1, r6.2) ∧ ld P 44 (e 2) r6.2 = some (r1.1, r6.2) ∧ True) ∧
 ((Ret (st P 49 r6.1 r5.1 r6.2) fun r7 => (True ∧ True ∧ True) ∧
 Ret (laws_FnExactStoreJoin_j1 (ups e [(24, r1.1), (26, r2.1), (25, r3.1), (27, r4.1), (28, r5.1), (6, r6.1)]) r7.2) Q))))) ∧
 (Ret (al P 49 r4.2) fun r8 => (ld P 44 (e 3) r8.2 = some (r2.1, r8.2) ∧ ld P 44 (e 2) r8.2 = some (r1.1, r8.2) ∧ True) ∧
 ((Ret (EV P 46 #[r3.1, r4.1] r8.2) fun r9 => (True ∧ True ∧ True) ∧
 ((Ret (st P 49 r8.1 r9.1 r9.2) fun r10 => (True ∧ True ∧ True) ∧
 Ret (laws_FnExactStoreJoin_j1 (ups e [(24, r1.1), (26, r2.1), (25, r3.1), (27, r4.1), (6, r8.1), (28, r9.1)]) r10.2) Q))))))) ∧
 (Ret (al P 49 r3.2) fun r11 => (ld P 44 (e 3) r11.2 = some (r2.1, r11.2) ∧ ld P 44 (e 2) r11.2 = some (r1.1, r11.2) ∧ True) ∧
 ((Ret (EV P 30 #[r2.1] r11.2) fun r12 => (True ∧ True ∧ True) ∧
 ((Ret (EV P 46 #[r3.1, r12.1] r12.2) fun r13 => (True ∧ True ∧ True) ∧
 ((Ret (st P 49 r11.1 r13.1 r13.2) fun r14 => (True ∧ True ∧ True) ∧
 Ret (laws_FnExactStoreJoin_j1 (ups e [(24, r1.1), (26, r2.1), (25, r3.1), (6, r11.1), (27, r12.1), (28, r13.1)]) r14.2) Q))))))))) ∧
 (Ret (al P 49 (dw w)) fun r15 => (ld P 44 (e 3) r15.2 = some (r2.1, r15.2) ∧ ld P 44 (e 2) r15.2 = some (r1.1, r15.2) ∧ True) ∧
 ((Ret (EV P 30 #[r1.1] r15.2) fun r16 => (ld P 44 (e 3) r16.2 = some (r2.1, r16.2) ∧ True ∧ True) ∧
 ((Ret (EV P 30 #[r2.1] r16.2) fun r17 => (True ∧ True ∧ True) ∧
 ((Ret (EV P 46 #[r16.1, r17.1] r17.2) fun r18 => (True ∧ True ∧ True) ∧
 ((Ret (st P 49 r15.1 r18.1 r18.2) fun r19 => (True ∧ True ∧ True) ∧
 Ret (laws_FnExactStoreJoin_j1 (ups e [(24, r1.1), (26, r2.1), (6, r15.1), (25, r16.1), (27, r17.1), (28, r18.1)]) r19.2) Q))))))))))))) : Ret (laws_FnExactStoreJoin_a1 e w) Q := exC_any (id := 8) (ops := opsOf (cA (cB (cB (cB (cB (cB (cB (bodyOf P 11))))))))) (by kernel_rfl) (by kernel_rfl) (Eq.mpr (by kernel_rfl) h)
theorem laws_FnExactStoreJoin_j1_eq (e : Env) (w : World) : laws_FnExactStoreJoin_j1 e w =
 (ld P 44 (e 2) w).bind fun r1 =>
 (EV P 30 #[r1.1] r1.2).bind fun r2 =>
 (al P 49 r2.2).bind fun r3 =>
 (st P 49 r3.1 r2.1 r3.2).bind fun r4 =>
 (ld P 44 (e 3) r4.2).bind fun r5 =>
 (EV P 30 #[r5.1] r5.2).bind fun r6 =>
 (al P 49 r6.2).bind fun r7 =>
 (st P 49 r7.1 r6.1 r7.2).bind fun r8 =>
 (ld P 49 r3.1 r8.2).bind fun r9 =>
 (ld P 49 r7.1 r9.2).bind fun r10 =>
 (EV P 45 #[r9.1, r10.1] r10.2).bind fun r11 =>
 (al P 49 r11.2).bind fun r12 =>
 (st P 49 r12.1 r11.1 r12.2).bind fun r13 =>
 (ld P 49 r12.1 r13.2).bind fun r14 =>
 (ld P 49 (e 6) r14.2).bind fun r15 =>
 (EV P 32 #[r14.1, r15.1] r15.2).bind fun r16 =>
 (uo P .not r16.1 r16.2).bind fun r17 =>
 cnd r17.1 (
 (vl (.bool false) r17.2).bind fun r18 =>
 some (r18.1, r18.2)) (
 (ld P 49 r3.1 (dw r17.2)).bind fun r20 =>
 ifP (r20.2 = (dw r17.2)) <|
 (ld P 44 (e 2) (dw r17.2)).bind fun r21 =>
 ifP (r21.2 = (dw r17.2)) <|
 (EV P 30 #[r21.1] (dw r17.2)).bind fun r22 =>
 ifP (True ∧ ld P 49 r3.1 r22.2 = some (r20.1, r22.2) ∧ True) <|
 (EV P 32 #[r20.1, r22.1] r22.2).bind fun r23 =>
 ifP (True ∧ True ∧ True) <|
 (uo P .not r23.1 r23.2).bind fun r24 =>
 ifP (r24.2 = r23.2) <|
 cnd r24.1 (
 (vl (.bool false) r23.2).bind fun r25 =>
 some (r25.1, r25.2)) (
 (ld P 49 r7.1 (dw r23.2)).bind fun r27 =>
 ifP (r27.2 = (dw r23.2)) <|
 (ld P 44 (e 3) (dw r23.2)).bind fun r28 =>
 ifP (r28.2 = (dw r23.2)) <|
 (EV P 30 #[r28.1] (dw r23.2)).bind fun r29 =>
 ifP (True ∧ ld P 49 r7.1 r29.2 = some (r27.1, r29.2) ∧ True) <|
 (EV P 32 #[r27.1, r29.1] r29.2).bind fun r30 =>
 ifP (True ∧ True ∧ True) <|
 (uo P .not r30.1 r30.2).bind fun r31 =>
 ifP (r31.2 = r30.2) <|
 cnd r31.1 (
 (vl (.bool false) r30.2).bind fun r32 =>
 some (r32.1, r32.2)) (
 (vl (.int .i64 1) r30.2).bind fun r33 =>
 (ld P 49 r3.1 r33.2).bind fun r34 =>
 (vl r33.1 r34.2).bind fun r35 =>
 (EV P 37 #[r34.1, r35.1] r35.2).bind fun r36 =>
 (vl r36.1 r36.2).bind fun r37 =>
 (ld P 49 r7.1 r37.2).bind fun r38 =>
 (vl r37.1 r38.2).bind fun r39 =>
 (EV P 37 #[r38.1, r39.1] r39.2).bind fun r40 =>
 (vl r40.1 r40.2).bind fun r41 =>
 (vl r41.1 r41.2).bind fun r42 =>
 (bo P .lss 3 (.tmp 56) (.const (.int .i64 0)) r42.1 (.int .i64 0) r42.2).bind fun r43 =>
 (vl r43.1 r43.2).bind fun r44 =>
 (gif r44.1 false (ld P 49 r12.1 r44.2) r44.2).bind fun r45 =>
 (gif r44.1 false (ld P 49 (e 6) r45.2) r45.2).bind fun r46 =>
 (gif r44.1 false (EV P 32 #[r45.1, r46.1] r46.2) r46.2).bind fun r47 =>
 (gif r44.1 false (uo P .not r47.1 r47.2) r47.2).bind fun r48 =>
 (pickV r44.1 (.bool true) r48.1 r48.2).bind fun r49 =>
 cnd r49.1 (
 (vl (.bool false) r49.2).bind fun r50 =>
 some (r50.1, r50.2)) (
 (vl (.int .i64 1) r49.2).bind fun r51 =>
 (ld P 49 r12.1 r51.2).bind fun r52 =>
 (vl r51.1 r52.2).bind fun r53 =>
 (EV P 37 #[r52.1, r53.1] r53.2).bind fun r54 =>
 (vl r54.1 r54.2).bind fun r55 =>
 (vl (.int .i64 1) r55.2).bind fun r56 =>
 (ld P 49 r12.1 r56.2).bind fun r57 =>
 (vl r56.1 r57.2).bind fun r58 =>
 (EV P 48 #[r57.1, r58.1] r58.2).bind fun r59 =>
 (vl r59.1 r59.2).bind fun r60 =>
 (vl r60.1 r60.2).bind fun r61 =>
 (bo P .lss 3 (.tmp 70) (.const (.int .i64 0)) r61.1 (.int .i64 0) r61.2).bind fun r62 =>
 cnd r62.1 (
 (vl (.bool false) r62.2).bind fun r63 =>
 some (r63.1, r63.2)) (
 (vl r60.1 r62.2).bind fun r64 =>
 (vl r55.1 r64.2).bind fun r65 =>
 (bo P .neq 3 (.tmp 72) (.tmp 73) r64.1 r65.1 r65.2).bind fun r66 =>
 cnd r66.1 (
 (vl (.bool false) r66.2).bind fun r67 =>
 some (r67.1, r67.2)) (
 laws_FnExactStoreJoin_a2 (ups e [(29, r1.1), (30, r2.1), (7, r3.1), (31, r5.1), (32, r6.1), (8, r7.1), (33, r9.1), (34, r10.1), (35, r11.1), (9, r12.1), (36, r14.1), (37, r15.1), (38, r16.1), (39, r17.1), (40, r20.1), (41, r21.1), (42, r22.1), (43, r23.1), (44, r24.1), (45, r27.1), (46, r28.1), (47, r29.1), (48, r30.1), (49, r31.1), (10, r33.1), (50, r34.1), (51, r35.1), (52, r36.1), (10, r37.1), (53, r38.1), (54, r39.1), (55, r40.1), (10, r41.1), (56, r42.1), (57, r43.1), (58, r44.1), (59, r45.1), (60, r46.1), (61, r47.1), (62, r48.1), (63, r49.1), (11, r51.1), (64, r52.1), (65, r53.1), (66, r54.1), (11, r55.1), (12, r56.1), (67, r57.1), (68, r58.1), (69, r59.1), (12, r60.1), (70, r61.1), (71, r62.1), (72, r64.1), (73, r65.1), (74, r66.1)]) r66.2)))))) := by kernel_rfl
theorem laws_FnExactStoreJoin_a2_any (e : Env) (w : World) {Q : Value × World → Prop} (h :
 (Ret (ld P 44 (e 2) (dw w)) fun r1 => r1.2 = (dw w) ∧
 (Ret (ld P 44 (e 3) (dw w)) fun r2 => r2.2 = (dw w) ∧
 ((Ret (EV P 30 #[r1.1] (dw w)) fun r3 => (ld P 44 (e 3) r3.2 = some (r2.1, r3.2) ∧ True ∧ True) ∧
 ((Ret (EV P 30 #[r2.1] r3.2) fun r4 => (True ∧ True ∧ True) ∧
 ((Ret (EV P 45 #[r3.1, r4.1] r4.2) fun r5 => (True ∧ True ∧ True) ∧
 ((Ret (al P 49 r5.2) fun r6 => (ld P 44 (e 3) r6.2 = some (r2.1, r6.2) ∧ ld P 44 (e 2) r6.2 = some (r1.1, r6.2) ∧ True) ∧
 ((Ret (st P 49 r6.1 r5.1 r6.2) fun r7 => (True ∧ True ∧ True) ∧
 Ret (laws_FnExactStoreJoin_j2 (ups e [(75, r1.1), (77, r2.1), (76, r3.1), (78, r4.1), (79, r5.1), (13, r6.1)]) r7.2) Q))))) ∧
 (Ret (al P 49 r4.2) fun r8 => (ld P 44 (e 3) r8.2 = some (r2.1, r8.2) ∧ ld P 44 (e 2) r8.2 = some (r1.1, r8.2) ∧ True) ∧
 ((Ret (EV P 45 #[r3.1, r4.1] r8.2) fun r9 => (True ∧ True ∧ True) ∧
 ((Ret (st P 49 r8.1 r9.1 r9.2) fun r10 => (True ∧ True ∧ True) ∧
 Ret (laws_FnExactStoreJoin_j2 (ups e [(75, r1.1), (77, r2.1), (76, r3.1), (78, r4.1), (13, r8.1), (79, r9.1)]) r10.2) Q))))))) ∧
 (Ret (al P 49 r3.2) fun r11 => (ld P 44 (e 3) r11.2 = some (r2.1, r11.2) ∧ ld P 44 (e 2) r11.2 = some (r1.1, r11.2) ∧ True) ∧
 ((Ret (EV P 30 #[r2.1] r11.2) fun r12 => (True ∧ True ∧ True) ∧
 ((Ret (EV P 45 #[r3.1, r12.1] r12.2) fun r13 => (True ∧ True ∧ True) ∧
 ((Ret (st P 49 r11.1 r13.1 r13.2) fun r14 => (True ∧ True ∧ True) ∧
 Ret (laws_FnExactStoreJoin_j2 (ups e [(75, r1.1), (77, r2.1), (76, r3.1), (13, r11.1), (78, r12.1), (79, r13.1)]) r14.2) Q))))))))) ∧
 (Ret (al P 49 (dw w)) fun r15 => (ld P 44 (e 3) r15.2 = some (r2.1, r15.2) ∧ ld P 44 (e 2) r15.2 = some (r1.1, r15.2) ∧ True) ∧
 ((Ret (EV P 30 #[r1.1] r15.2) fun r16 => (ld P 44 (e 3) r16.2 = some (r2.1, r16.2) ∧ True ∧ True) ∧
 ((Ret (EV P 30 #[r2.1] r16.2) fun r17 => (True ∧ True ∧ True) ∧
 ((Ret (EV P 45 #[r16.1, r17.1] r17.2) fun r18 => (True ∧ True ∧ True) ∧
 ((Ret (st P 49 r15.1 r18.1 r18.2) fun r19 => (True ∧ True ∧ True) ∧
 Ret (laws_FnExactStoreJoin_j2 (ups e [(75, r1.1), (77, r2.1), (13, r15.1), (76, r16.1), (78, r17.1), (79, r18.1)]) r19.2) Q))))))))))))) : Ret (laws_FnExactStoreJoin_a2 e w) Q := exC_any (id := 31) (ops := opsOf (cA (cB (cB (cB (cB (cB (cB (cB (cB (cB (cB (cB (cB (cB (cB (cB (cB (cB (cB (cB (cB (cB (cB (cB (bodyOf P 11)))))))))))))))))))))))))) (by kernel_rfl) (by kernel_rfl) (Eq.mpr (by kernel_rfl) h)
theorem laws_FnExactStoreJoin_j2_eq (e : Env) (w : World) : laws_FnExactStoreJoin_j2 e w =
 (ld P 49 (e 13) w).bind fun r1 =>
 (ld P 49 (e 6) r1.2).bind fun r2 =>
 (EV P 32 #[r1.1, r2.1] r2.2).bind fun r3 =>
 (uo P .not r3.1 r3.2).bind fun r4 =>
 cnd r4.1 (
 (vl (.bool false) r4.2).bind fun r5 =>
 some (r5.1, r5.2)) (
 (vl (.int .i64 1) r4.2).bind fun r6 =>
 (ld P 49 (e 9) r6.2).bind fun r7 =>
 (vl r6.1 r7.2).bind fun r8 =>
 (EV P 48 #[r7.1, r8.1] r8.2).bind fun r9 =>
 (vl r9.1 r9.2).bind fun r10 =>
 (vl r10.1 r10.2).bind fun r11 =>
 (bo P .lss 3 (.tmp 87) (.const (.int .i64 0)) r11.1 (.int .i64 0) r11.2).bind fun r12 =>
 cnd r12.1 (
 (vl (.bool false) r12.2).bind fun r13 =>
 some (r13.1, r13.2)) (
 (vl r10.1 r12.2).bind fun r14 =>
 (vl (e 11) r14.2).bind fun r15 =>
 (bo P .neq 3 (.tmp 89) (.tmp 90) r14.1 r15.1 r15.2).bind fun r16 =>
 cnd r16.1 (
 (vl (.bool false) r16.2).bind fun r17 =>
 some (r17.1, r17.2)) (
 (vl (.bool true) r16.2).bind fun r18 =>
 some (r18.1, r18.2)))) := by kernel_rfl
theorem laws_FnExactStoreJoin_fn (x0 x1 : Value) (w : World) : fnC P (EV P) 11 #[x0, x1] w =
 (bx P 44 x0 w).bind fun r1 =>
 (bx P 44 x1 r1.2).bind fun r2 =>
 (vl (.bool false) r2.2).bind fun r3 =>
 (vl (.int .i64 1048576) r3.2).bind fun r4 =>
 (ld P 44 r1.1 r4.2).bind fun r5 =>
 (vl r4.1 r5.2).bind fun r6 =>
 (EV P 28 #[r5.1, r6.1] r6.2).bind fun r7 =>
 (vl r7.1 r7.2).bind fun r8 =>
 (vl r8.1 r8.2).bind fun r9 =>
 (bo P .lss 3 (.tmp 17) (.const (.int .i64 0)) r9.1 (.int .i64 0) r9.2).bind fun r10 =>
 cnd r10.1 (
 (vl (.bool true) r10.2).bind fun r11 =>
 some (r11.1, r11.2)) (
 (ld P 44 r2.1 r10.2).bind fun r12 =>
 (vl r8.1 r12.2).bind fun r13 =>
 (EV P 28 #[r12.1, r13.1] r13.2).bind fun r14 =>
 (vl r14.1 r14.2).bind fun r15 =>
 (vl r15.1 r15.2).bind fun r16 =>
 (bo P .lss 3 (.tmp 22) (.const (.int .i64 0)) r16.1 (.int .i64 0) r16.2).bind fun r17 =>
 cnd r17.1 (
 (vl (.bool true) r17.2).bind fun r18 =>
 some (r18.1, r18.2)) (
 laws_FnExactStoreJoin_a1 (ups (env0 #[x0, x1]) [(2, r1.1), (3, r2.1), (4, r3.1), (5, r4.1), (14, r5.1), (15, r6.1), (16, r7.1), (5, r8.1), (17, r9.1), (18, r10.1), (19, r12.1), (20, r13.1), (21, r14.1), (5, r15.1), (22, r16.1), (23, r17.1)]) r17.2)) := by kernel_rfl

/-! laws_FnExactStoreAdd -/
noncomputable def laws_FnExactStoreAdd_a1 (e : Env) (w : World) : Option (Value × World) := exC P (EV P) 12 92 (cA (cB (cB (cB (cB (cB (cB (bodyOf P 12)))))))) e w (kSeq P (EV P) 12 92 (cB (cB (cB (cB (cB (cB (cB (bodyOf P 12)))))))) (kFn P (fnOf P 12)))
noncomputable def laws_FnExactStoreAdd_j1 (e : Env) (w : World) : Option (Value × World) := exC P (EV P) 12 92 (cB (cB (cB (cB (cB (cB (cB (bodyOf P 12)))))))) e w (kFn P (fnOf P 12))
noncomputable def laws_FnExactStoreAdd_a2 (e : Env) (w : World) : Option (Value × World) := exC P (EV P) 12 92 (cA (cB (cB (cB (cB (cB (cB (cB (cB (cB (cB (cB (cB (cB (cB (cB (cB (cB (cB (cB (cB (cB (cB (cB (bodyOf P 12))))))))))))))))))))))))) e w (kSeq P (EV P) 12 92 (cB (cB (cB (cB (cB (cB (cB (cB (cB (cB (cB (cB (cB (cB (cB (cB (cB (cB (cB (cB (cB (cB (cB (cB (bodyOf P 12))))))))))))))))))))))))) (kFn P (fnOf P 12)))
noncomputable def laws_FnExactStoreAdd_j2 (e : Env) (w : World) : Option (Value × World) := exC P (EV P) 12 92 (cB (cB (cB (cB (cB (cB (cB (cB (cB (cB (cB (cB (cB (cB (cB (cB (cB (cB (cB (cB (cB (cB (cB (cB (bodyOf P 12))))))))))))))))))))))))) e w (kFn P (fnOf P 12))
theorem laws_FnExactStoreAdd_a1_any (e : Env) (w : World) {Q : Value × World → Prop} (h :
 (Ret (ld P 44 (e 2) (dw w)) fun r1 => r1.2 = (dw w) ∧
 (Ret (ld P 70 (e 3) (dw w)) fun r2 => r2.2 = (dw w) ∧
 ((Ret (EV P 30 #[r1.1] (dw w)) fun r3 => (ld P 70 (e 3) r3.2 = some (r2.1, r3.2) ∧ True ∧ True) ∧
 ((Ret (EV P 50 #[r2.1] r3.2) fun r4 => (True ∧ True ∧ True) ∧
 ((Ret (EV P 41 #[r3.1, r4.1] r4.2) fun r5 => (True ∧ True ∧ True) ∧
 ((Ret (al P 49 r5.2) fun r6 => (ld P 70 (e 3) r6.2 = some (r2.1, r6.2) ∧ ld P 44 (e 2) r6.2 = some (r1.1, r6.2) ∧ True) ∧
 ((Ret (st P 49 r6.1 r5.1 r6.2) fun r7 => (True ∧ True ∧ True) ∧
 Ret (laws_FnExactStoreAdd_j1 (ups e [(24, r1.1), (26, r2.1), (25, r3.1), (27, r4.1), (28, r5.1), (6, r6.1)]) r7.2) Q))))) ∧
 (Ret (al P 49 r4.2) fun r8 => (ld P 70 (e 3) r8.2 = some (r2.1, r8.2) ∧ ld P 44 (e 2) r8.2 = some (r1.1, r8.2) ∧ True) ∧
 ((Ret (EV P 41 #[r3.1, r4.1] r8.2) fun r9 => (True ∧ True ∧ True) ∧
 ((Ret (st P 49 r8.1 r9.1 r9.2) fun r10 => (True ∧ True ∧ True) ∧
 Ret (laws_FnExactStoreAdd_j1 (ups e [(24, r1.1), (26, r2.1), (25, r3.1), (27, r4.1), (6, r8.1), (28, r9.1)]) r10.2) Q))))))) ∧
 (Ret (al P 49 r3.2) fun r11 => (ld P 70 (e 3) r11.2 = some (r2.1, r11.2) ∧ ld P 44 (e 2) r11.2 = some (r1.1, r11.2) ∧ True) ∧
 ((Ret (EV P 50 #[r2.1] r11.2) fun r12 => (True ∧ True ∧ True) ∧
 ((Ret (EV P 41 #[r3.1, r12.1] r12.2) fun r13 => (True ∧ True ∧ True) ∧
 ((Ret (st P 49 r11.1 r13.1 r13.2) fun r14 => (True ∧ True ∧ True) ∧
 Ret (laws_FnExactStoreAdd_j1 (ups e [(24, r1.1), (26, r2.1), (25, r3.1), (6, r11.1), (27, r12.1), (28, r13.1)]) r14.2) Q))))))))) ∧
 (Ret (al P 49 (dw w)) fun r15 => (ld P 70 (e 3) r15.2 = some (r2.1, r15.2) ∧ ld P 44 (e 2) r15.2 = some (r1.1, r15.2) ∧ True) ∧
 ((Ret (EV P 30 #[r1.1] r15.2) fun r16 => (ld P 70 (e 3) r16.2 = some (r2.1, r16.2) ∧ True ∧ True) ∧
 ((Ret (EV P 50 #[r2.1] r16.2) fun r17 => (True ∧ True ∧ True) ∧
 ((Ret (EV P 41 #[r16.1, r17.1] r17.2) fun r18 => (True ∧ True ∧ True) ∧
 ((Ret (st P 49 r15.1 r18.1 r18.2) fun r19 => (True ∧ True ∧ True) ∧
 Ret (laws_FnExactStoreAdd_j1 (ups e [(24, r1.1), (26, r2.1), (6, r15.1), (25, r16.1), (27, r17.1), (28, r18.1)]) r19.2) Q))))))))))))) : Ret (laws_FnExactStoreAdd_a1 e w) Q := exC_any (id := 8) (ops := opsOf (cA (cB (cB (cB (cB (cB (cB (bodyOf P 12))))))))) (by kernel_rfl) (by kernel_rfl) (Eq.mpr (by kernel_rfl) h)
theorem laws_FnExactStoreAdd_j1_eq (e : Env) (w : World) : laws_FnExactStoreAdd_j1 e w =
 (ld P 44 (e 2) w).bind fun r1 =>
 (EV P 30 #[r1.1] r1.2).bind fun r2 =>
 (al P 49 r2.2).bind fun r3 =>
 (st P 49 r3.1 r2.1 r3.2).bind fun r4 =>
 (ld P 70 (e 3) r4.2).bind fun r5 =>
 (EV P 50 #[r5.1] r5.2).bind fun r6 =>
 (al P 56 r6.2).bind fun r7 =>
 (st P 56 r7.1 r6.1 r7.2).bind fun r8 =>
 (ld P 49 r3.1 r8.2).bind fun r9 =>
 (ld P 56 r7.1 r9.2).bind fun r10 =>
 (EV P 39 #[r9.1, r10.1] r10.2).bind fun r11 =>
 (al P 49 r11.2).bind fun r12 =>
 (st P 49 r12.1 r11.1 r12.2).bind fun r13 =>
 (ld P 49 r12.1 r13.2).bind fun r14 =>
 (ld P 49 (e 6) r14.2).bind fun r15 =>
 (EV P 32 #[r14.1, r15.1] r15.2).bind fun r16 =>
 (uo P .not r16.1 r16.2).bind fun r17 =>
 cnd r17.1 (
 (vl (.bool false) r17.2).bind fun r18 =>
 some (r18.1, r18.2)) (
 (ld P 49 r3.1 (dw r17.2)).bind fun r20 =>
 ifP (r20.2 = (dw r17.2)) <|
 (ld P 44 (e 2) (dw r17.2)).bind fun r21 =>
 ifP (r21.2 = (dw r17.2)) <|
 (EV P 30 #[r21.1] (dw r17.2)).bind fun r22 =>
 ifP (True ∧ ld P 49 r3.1 r22.2 = some (r20.1, r22.2) ∧ True) <|
 (EV P 32 #[r20.1, r22.1] r22.2).bind fun r23 =>
 ifP (True ∧ True ∧ True) <|
 (uo P .not r23.1 r23.2).bind fun r24 =>
 ifP (r24.2 = r23.2) <|
 cnd r24.1 (
 (vl (.bool false) r23.2).bind fun r25 =>
 some (r25.1, r25.2)) (
 (ld P 56 r7.1 (dw r23.2)).bind fun r27 =>
 ifP (r27.2 = (dw r23.2)) <|
 (ld P 70 (e 3) (dw r23.2)).bind fun r28 =>
 ifP (r28.2 = (dw r23.2)) <|
 (EV P 50 #[r28.1] (dw r23.2)).bind fun r29 =>
 ifP (True ∧ ld P 56 r7.1 r29.2 = some (r27.1, r29.2) ∧ True) <|
 (EV P 51 #[r27.1, r29.1] r29.2).bind fun r30 =>
 ifP (True ∧ True ∧ True) <|
 (uo P .not r30.1 r30.2).bind fun r31 =>
 ifP (r31.2 = r30.2) <|
 cnd r31.1 (
 (vl (.bool false) r30.2).bind fun r32 =>
 some (r32.1, r32.2)) (
 (vl (.int .i64 1) r30.2).bind fun r33 =>
 (ld P 49 r3.1 r33.2).bind fun r34 =>
 (vl r33.1 r34.2).bind fun r35 =>
 (EV P 37 #[r34.1, r35.1] r35.2).bind fun r36 =>
 (vl r36.1 r36.2).bind fun r37 =>
 (ld P 56 r7.1 r37.2).bind fun r38 =>
 (vl r37.1 r38.2).bind fun r39 =>
 (EV P 52 #[r38.1, r39.1] r39.2).bind fun r40 =>
 (vl r40.1 r40.2).bind fun r41 =>
 (vl r41.1 r41.2).bind fun r42 =>
 (bo P .lss 3 (.tmp 56) (.const (.int .i64 0)) r42.1 (.int .i64 0) r42.2).bind fun r43 =>
 (vl r43.1 r43.2).bind fun r44 =>
 (gif r44.1 false (ld P 49 r12.1 r44.2) r44.2).bind fun r45 =>
 (gif r44.1 false (ld P 49 (e 6) r45.2) r45.2).bind fun r46 =>
 (gif r44.1 false (EV P 32 #[r45.1, r46.1] r46.2) r46.2).bind fun r47 =>
 (gif r44.1 false (uo P .not r47.1 r47.2) r47.2).bind fun r48 =>
 (pickV r44.1 (.bool true) r48.1 r48.2).bind fun r49 =>
 cnd r49.1 (
 (vl (.bool false) r49.2).bind fun r50 =>
 some (r50.1, r50.2)) (
 (vl (.int .i64 1) r49.2).bind fun r51 =>
 (ld P 49 r12.1 r51.2).bind fun r52 =>
 (vl r51.1 r52.2).bind fun r53 =>
 (EV P 37 #[r52.1, r53.1] r53.2).bind fun r54 =>
 (vl r54.1 r54.2).bind fun r55 =>
 (vl (.int .i64 1) r55.2).bind fun r56 =>
 (ld P 49 r12.1 r56.2).bind fun r57 =>
 (vl r56.1 r57.2).bind fun r58 =>
 (EV P 48 #[r57.1, r58.1] r58.2).bind fun r59 =>
 (vl r59.1 r59.2).bind fun r60 =>
 (vl r60.1 r60.2).bind fun r61 =>
 (bo P .lss 3 (.tmp 70) (.const (.int .i64 0)) r61.1 (.int .i64 0) r61.2).bind fun r62 =>
 cnd r62.1 (
 (vl (.bool false) r62.2).bind fun r63 =>
 some (r63.1, r63.2)) (
 (vl r60.1 r62.2).bind fun r64 =>
 (vl r55.1 r64.2).bind fun r65 =>
 (bo P .neq 3 (.tmp 72) (.tmp 73) r64.1 r65.1 r65.2).bind fun r66 =>
 cnd r66.1 (
 (vl (.bool false) r66.2).bind fun r67 =>
 some (r67.1, r67.2)) (
 laws_FnExactStoreAdd_a2 (ups e [(29, r1.1), (30, r2.1), (7, r3.1), (31, r5.1), (32, r6.1), (8, r7.1), (33, r9.1), (34, r10.1), (35, r11.1), (9, r12.1), (36, r14.1), (37, r15.1), (38, r16.1), (39, r17.1), (40, r20.1), (41, r21.1), (42, r22.1), (43, r23.1), (44, r24.1), (45, r27.1), (46, r28.1), (47, r29.1), (48, r30.1), (49, r31.1), (10, r33.1), (50, r34.1), (51, r35.1), (52, r36.1), (10, r37.1), (53, r38.1), (54, r39.1), (55, r40.1), (10, r41.1), (56, r42.1), (57, r43.1), (58, r44.1), (59, r45.1), (60, r46.1), (61, r47.1), (62, r48.1), (63, r49.1), (11, r51.1), (64, r52.1), (65, r53.1), (66, r54.1), (11, r55.1), (12, r56.1), (67, r57.1), (68, r58.1), (69, r59.1), (12, r60.1), (70, r61.1), (71, r62.1), (72, r64.1), (73, r65.1), (74, r66.1)]) r66.2)))))) := by kernel_rfl
theorem laws_FnExactStoreAdd_a2_any (e : Env) (w : World) {Q : Value × World → Prop} (h :
 (Ret (ld P 44 (e 2) (dw w)) fun r1 => r1.2 = (dw w) ∧
 (Ret (ld P 70 (e 3) (dw w)) fun r2 => r2.2 = (dw w) ∧
 ((Ret (EV P 30 #[r1.1] (dw w)) fun r3 => (ld P 70 (e 3) r3.2 = some (r2.1, r3.2) ∧ True ∧ True) ∧
 ((Ret (EV P 50 #[r2.1] r3.2) fun r4 => (True ∧ True ∧ True) ∧
 ((Ret (EV P 39 #[r3.1, r4.1] r4.2) fun r5 => (True ∧ True ∧ True) ∧
 ((Ret (al P 49 r5.2) fun r6 => (ld P 70 (e 3) r6.2 = some (r2.1, r6.2) ∧ ld P 44 (e 2) r6.2 = some (r1.1, r6.2) ∧ True) ∧
 ((Ret (st P 49 r6.1 r5.1 r6.2) fun r7 => (True ∧ True ∧ True) ∧
 Ret (laws_FnExactStoreAdd_j2 (ups e [(75, r1.1), (77, r2.1), (76, r3.1), (78, r4.1), (79, r5.1), (13, r6.1)]) r7.2) Q))))) ∧
 (Ret (al P 49 r4.2) fun r8 => (ld P 70 (e 3) r8.2 = some (r2.1, r8.2) ∧ ld P 44 (e 2) r8.2 = some (r1.1, r8.2) ∧ True) ∧
 ((Ret (EV P 39 #[r3.1, r4.1] r8.2) fun r9 => (True ∧ True ∧ True) ∧
 ((Ret (st P 49 r8.1 r9.1 r9.2) fun r10 => (True ∧ True ∧ True) ∧
 Ret (laws_FnExactStoreAdd_j2 (ups e [(75, r1.1), (77, r2.1), (76, r3.1), (78, r4.1), (13, r8.1), (79, r9.1)]) r10.2) Q))))))) ∧
 (Ret (al P 49 r3.2) fun r11 => (ld P 70 (e 3) r11.2 = some (r2.1, r11.2) ∧ ld P 44 (e 2) r11.2 = some (r1.1, r11.2) ∧ True) ∧
 ((Ret (EV P 50 #[r2.1] r11.2) fun r12 => (True ∧ True ∧ True) ∧
 ((Ret (EV P 39 #[r3.1, r12.1] r12.2) fun r13 => (True ∧ True ∧ True) ∧
 ((Ret (st P 49 r11.1 r13.1 r13.2) fun r14 => (True ∧ True ∧ True) ∧
 Ret (laws_FnExactStoreAdd_j2 (ups e [(75, r1.1), (77, r2.1), (76, r3.1), (13, r11.1), (78, r12.1), (79, r13.1)]) r14.2) Q))))))))) ∧
 (Ret (al P 49 (dw w)) fun r15 => (ld P 70 (e 3) r15.2 = some (r2.1, r15.2) ∧ ld P 44 (e 2) r15.2 = some (r1.1, r15.2) ∧ True) ∧
 ((Ret (EV P 30 #[r1.1] r15.2) fun r16 => (ld P 70 (e 3) r16.2 = some (r2.1, r16.2) ∧ True ∧ True) ∧
 ((Ret (EV P 50 #[r2.1] r16.2) fun r17 => (True ∧ True ∧ True) ∧
 ((Ret (EV P 39 #[r16.1, r17.1] r17.2) fun r18 => (True ∧ True ∧ True) ∧
 ((Ret (st P 49 r15.1 r18.1 r18.2) fun r19 => (True ∧ True ∧ True) ∧
 Ret (laws_FnExactStoreAdd_j2 (ups e [(75, r1.1), (77, r2.1), (13, r15.1), (76, r16.1), (78, r17.1), (79, r18.1)]) r19.2) Q))))))))))))) : Ret (laws_FnExactStoreAdd_a2 e w) Q := exC_any (id := 31) (ops := opsOf (cA (cB (cB (cB (cB (cB (cB (cB (cB (cB (cB (cB (cB (cB (cB (cB (cB (cB (cB (cB (cB (cB (cB (cB (bodyOf P 12)))))))))))))))))))))))))) (by kernel_rfl) (by kernel_rfl) (Eq.mpr (by kernel_rfl) h)
theorem laws_FnExactStoreAdd_j2_eq (e : Env) (w : World) : laws_FnExactStoreAdd_j2 e w =
 (ld P 49 (e 13) w).bind fun r1 =>
 (ld P 49 (e 6) r1.2).bind fun r2 =>
 (EV P 32 #[r1.1, r2.1] r2.2).bind fun r3 =>
 (uo P .not r3.1 r3.2).bind fun r4 =>
 cnd r4.1 (
 (vl (.bool false) r4.2).bind fun r5 =>
 some (r5.1, r5.2)) (
 (vl (.int .i64 1) r4.2).bind fun r6 =>
 (ld P 49 (e 9) r6.2).bind fun r7 =>
 (vl r6.1 r7.2).bind fun r8 =>
 (EV P 48 #[r7.1, r8.1] r8.2).bind fun r9 =>
 (vl r9.1 r9.2).bind fun r10 =>
 (vl r10.1 r10.2).bind fun r11 =>
 (bo P .lss 3 (.tmp 87) (.const (.int .i64 0)) r11.1 (.int .i64 0) r11.2).bind fun r12 =>
 cnd r12.1 (
 (vl (.bool false) r12.2).bind fun r13 =>
 some (r13.1, r13.2)) (
 (vl r10.1 r12.2).bind fun r14 =>
 (vl (e 11) r14.2).bind fun r15 =>
 (bo P .neq 3 (.tmp 89) (.tmp 90) r14.1 r15.1 r15.2).bind fun r16 =>
 cnd r16.1 (
 (vl (.bool false) r16.2).bind fun r17 =>
 some (r17.1, r17.2)) (
 (vl (.bool true) r16.2).bind fun r18 =>
 some (r18.1, r18.2)))) := by kernel_rfl
theorem laws_FnExactStoreAdd_fn (x0 x1 : Value) (w : World) : fnC P (EV P) 12 #[x0, x1] w =
 (bx P 44 x0 w).bind fun r1 =>
 (bx P 70 x1 r1.2).bind fun r2 =>
 (vl (.bool false) r2.2).bind fun r3 =>
 (vl (.int .i64 1048576) r3.2).bind fun r4 =>
 (ld P 44 r1.1 r4.2).bind fun r5 =>
 (vl r4.1 r5.2).bind fun r6 =>
 (EV P 28 #[r5.1, r6.1] r6.2).bind fun r7 =>
 (vl r7.1 r7.2).bind fun r8 =>
 (vl r8.1 r8.2).bind fun r9 =>
 (bo P .lss 3 (.tmp 17) (.const (.int .i64 0)) r9.1 (.int .i64 0) r9.2).bind fun r10 =>
 cnd r10.1 (
 (vl (.bool true) r10.2).bind fun r11 =>
 some (r11.1, r11.2)) (
 (ld P 70 r2.1 r10.2).bind fun r12 =>
 (vl r8.1 r12.2).bind fun r13 =>
 (EV P 49 #[r12.1, r13.1] r13.2).bind fun r14 =>
 (vl r14.1 r14.2).bind fun r15 =>
 (vl r15.1 r15.2).bind fun r16 =>
 (bo P .lss 3 (.tmp 22) (.const (.int .i64 0)) r16.1 (.int .i64 0) r16.2).bind fun r17 =>
 cnd r17.1 (
 (vl (.bool true) r17.2).bind fun r18 =>
 some (r18.1, r18.2)) (
 laws_FnExactStoreAdd_a1 (ups (env0 #[x0, x1]) [(2, r1.1), (3, r2.1), (4, r3.1), (5, r4.1), (14, r5.1), (15, r6.1), (16, r7.1), (5, r8.1), (17, r9.1), (18, r10.1), (19, r12.1), (20, r13.1), (21, r14.1), (5, r15.1), (22, r16.1), (23, r17.1)]) r17.2)) := by kernel_rfl

/-! spec_DrawPastJoin -/
theorem spec_DrawPastJoin_fn (x0 : Value) (w : World) : fnC P (EV P) 13 #[x0] w =
 (al P 25 w).bind fun r1 =>
 (al P 25 r1.2).bind fun r2 =>
 (vl x0 r2.2).bind fun r3 =>
 (EV P 53 #[r3.1] r3.2).bind fun r4 =>
 (vl r4.1 r4.2).bind fun r5 =>
 (vl r5.1 r5.2).bind fun r6 =>
 (EV P 54 #[r6.1] r6.2).bind fun r7 =>
 (al P 25 r7.2).bind fun r8 =>
 (st P 25 r8.1 r7.1 r8.2).bind fun r9 =>
 (ld P 25 r8.1 (dw r9.2)).bind fun r11 =>
 ifP (r11.2 = (dw r9.2)) <|
 (vl r5.1 (dw r9.2)).bind fun r12 =>
 ifP (r12.2 = (dw r9.2)) <|
 (EV P 54 #[r12.1] (dw r9.2)).bind fun r13 =>
 ifP (ld P 25 r8.1 r13.2 = some (r11.1, r13.2) ∧ True) <|
 (st P 25 r1.1 r11.1 r13.2).bind fun r14 =>
 ifP (True ∧ True) <|
 (st P 25 r2.1 r13.1 r14.2).bind fun r15 =>
 ifP (True ∧ True) <|
 ((ld P 25 r1.1 r15.2).bind fun r16 => ifP (r16.2 = r15.2) (some r16.1)).bind fun v17 =>
 ((ld P 25 r2.1 r15.2).bind fun r18 => ifP (r18.2 = r15.2) (some r18.1)).bind fun v19 =>
 some (.tuple #[v17, v19], r15.2) := by kernel_rfl

/-! impl_PastJoin -/
theorem impl_PastJoin_fn (x0 x1 : Value) (w : World) : fnC P (EV P) 14 #[x0, x1] w =
 (bx P 25 x0 w).bind fun r1 =>
 (bx P 25 x1 r1.2).bind fun r2 =>
 (al P 25 r2.2).bind fun r3 =>
 (ld P 25 r1.1 r3.2).bind fun r4 =>
 (EV P 17 #[r4.1] r4.2).bind fun r5 =>
 (uo P .not r5.1 r5.2).bind fun r6 =>
 (vl r6.1 r6.2).bind fun r7 =>
 (gif r7.1 false (ld P 25 r2.1 r7.2) r7.2).bind fun r8 =>
 (gif r7.1 false (EV P 17 #[r8.1] r8.2) r8.2).bind fun r9 =>
 (gif r7.1 false (uo P .not r9.1 r9.2) r9.2).bind fun r10 =>
 (pickV r7.1 (.bool true) r10.1 r10.2).bind fun r11 =>
 cnd r11.1 (
 (bd P 25 #[] r11.2).bind fun r12 =>
 (st P 25 r3.1 r12.1 r12.2).bind fun r13 =>
 ((ld P 25 r3.1 r13.2).bind fun r14 => ifP (r14.2 = r13.2) (some r14.1)).bind fun v15 =>
 some (v15, r13.2)) (
 (ld P 25 r1.1 r11.2).bind fun r16 =>
 (ld P 25 r2.1 r16.2).bind fun r17 =>
 (EV P 55 #[r16.1, r17.1] r17.2).bind fun r18 =>
 (st P 25 r3.1 r18.1 r18.2).bind fun r19 =>
 ((ld P 25 r3.1 r19.2).bind fun r20 => ifP (r20.2 = r19.2) (some r20.1)).bind fun v21 =>
 some (v21, r19.2)) := by kernel_rfl

/-! laws_cfPast -/
noncomputable def laws_cfPast_l1 (e : Env) (w : World) : Option (Value × World) := exC P (EV P) 15 31 (.loop (cA (cA (cB (cA (cB (cB (bodyOf P 15)))))))) e w (kBlock 0 (kSeq P (EV P) 15 31 (cB (cB (cB (bodyOf P 15)))) (kFn P (fnOf P 15))))
theorem laws_cfPast_l1_eq (e : Env) (w : World) : laws_cfPast_l1 e w =
 (vl (e 5) w).bind fun r1 =>
 (fa P 25 (e 2) 0 r1.2).bind fun r2 =>
 (ld P 23 r2.1 r2.2).bind fun r3 =>
 (b_len P #[23] 3 #[r3.1] r3.2).bind fun r4 =>
 (bo P .lss 3 (.tmp 13) (.tmp 16) r1.1 r4.1 r4.2).bind fun r5 =>
 cnd r5.1 (
 (fa P 25 (e 2) 0 (dw r5.2)).bind fun r7 =>
 ifP (r7.2 = (dw r5.2)) <|
 (ld P 23 r7.1 (dw r5.2)).bind fun r8 =>
 ifP (r8.2 = (dw r5.2)) <|
 (vl (e 5) (dw r5.2)).bind fun r9 =>
 ifP (r9.2 = (dw r5.2)) <|
 (ia P 23 r8.1 r9.1 (dw r5.2)).bind fun r10 =>
 ifP (r10.2 = (dw r5.2)) <|
 (ld P 32 r10.1 (dw r5.2)).bind fun r11 =>
 ifP (r11.2 = (dw r5.2)) <|
 (fa P 25 (e 3) 0 (dw r5.2)).bind fun r12 =>
 ifP (r12.2 = (dw r5.2)) <|
 (ld P 23 r12.1 (dw r5.2)).bind fun r13 =>
 ifP (r13.2 = (dw r5.2)) <|
 (vl (e 5) (dw r5.2)).bind fun r14 =>
 ifP (r14.2 = (dw r5.2)) <|
 (ia P 23 r13.1 r14.1 (dw r5.2)).bind fun r15 =>
 ifP (r15.2 = (dw r5.2)) <|
 (ld P 32 r15.1 (dw r5.2)).bind fun r16 =>
 ifP (r16.2 = (dw r5.2)) <|
 (bo P .neq 32 (.tmp 24) (.tmp 29) r11.1 r16.1 (dw r5.2)).bind fun r17 =>
 ifP (r17.2 = (dw r5.2)) <|
 cnd r17.1 (
 (vl (.bool false) (dw r5.2)).bind fun r18 =>
 some (r18.1, r18.2)) (
 (vl (e 5) (dw r5.2)).bind fun r19 =>
 (bo P .add 3 (.tmp 18) (.const (.int .i64 1)) r19.1 (.int .i64 1) r19.2).bind fun r20 =>
 (vl r20.1 r20.2).bind fun r21 =>
 laws_cfPast_l1 (ups e [(13, r1.1), (14, r2.1), (15, r3.1), (16, r4.1), (17, r5.1), (20, r7.1), (21, r8.1), (22, r9.1), (23, r10.1), (24, r11.1), (25, r12.1), (26, r13.1), (27, r14.1), (28, r15.1), (29, r16.1), (30, r17.1), (18, r19.1), (19, r20.1), (5, r21.1)]) r21.2)) (
 (vl (.bool true) r5.2).bind fun r22 =>
 some (r22.1, r22.2)) := (exC_loop P (EV P) 15 31 (cA (cA (cB (cA (cB (cB (bodyOf P 15))))))) e w (kBlock 0 (kSeq P (EV P) 15 31 (cB (cB (cB (bodyOf P 15)))) (kFn P (fnOf P 15))))).trans (by kernel_rfl)
theorem laws_cfPast_fn (x0 x1 : Value) (w : World) : fnC P (EV P) 15 #[x0, x1] w =
 (bx P 25 x0 w).bind fun r1 =>
 (bx P 25 x1 r1.2).bind fun r2 =>
 (vl (.bool false) r2.2).bind fun r3 =>
 (fa P 25 r1.1 0 r3.2).bind fun r4 =>
 (ld P 23 r4.1 r4.2).bind fun r5 =>
 (b_len P #[23] 3 #[r5.1] r5.2).bind fun r6 =>
 (fa P 25 r2.1 0 r6.2).bind fun r7 =>
 (ld P 23 r7.1 r7.2).bind fun r8 =>
 (b_len P #[23] 3 #[r8.1] r8.2).bind fun r9 =>
 (bo P .neq 3 (.tmp 8) (.tmp 11) r6.1 r9.1 r9.2).bind fun r10 =>
 cnd r10.1 (
 (vl (.bool false) r10.2).bind fun r11 =>
 some (r11.1, r11.2)) (
 (vl (.int .i64 0) r10.2).bind fun r12 =>
 laws_cfPast_l1 (ups (env0 #[x0, x1]) [(2, r1.1), (3, r2.1), (4, r3.1), (6, r4.1), (7, r5.1), (8, r6.1), (9, r7.1), (10, r8.1), (11, r9.1), (12, r10.1), (5, r12.1)]) r12.2) := by kernel_rfl

/-! spec_PastJoin -/
theorem spec_PastJoin_fn (x0 x1 : Value) (w : World) : fnC P (EV P) 16 #[x0, x1] w =
 (bx P 25 x0 w).bind fun r1 =>
 (bx P 25 x1 r1.2).bind fun r2 =>
 (al P 25 r2.2).bind fun r3 =>
 (ld P 25 r1.1 r3.2).bind fun r4 =>
 (EV P 56 #[r4.1] r4.2).bind fun r5 =>
 (uo P .not r5.1 r5.2).bind fun r6 =>
 (vl r6.1 r6.2).bind fun r7 =>
 (gif r7.1 false (ld P 25 r2.1 r7.2) r7.2).bind fun r8 =>
 (gif r7.1 false (EV P 56 #[r8.1] r8.2) r8.2).bind fun r9 =>
 (gif r7.1 false (uo P .not r9.1 r9.2) r9.2).bind fun r10 =>
 (pickV r7.1 (.bool true) r10.1 r10.2).bind fun r11 =>
 cnd r11.1 (
 (bd P 25 #[] r11.2).bind fun r12 =>
 (st P 25 r3.1 r12.1 r12.2).bind fun r13 =>
 ((ld P 25 r3.1 r13.2).bind fun r14 => ifP (r14.2 = r13.2) (some r14.1)).bind fun v15 =>
 some (v15, r13.2)) (
 (ld P 25 r1.1 r11.2).bind fun r16 =>
 (ld P 25 r2.1 r16.2).bind fun r17 =>
 (EV P 57 #[r16.1, r17.1] r17.2).bind fun r18 =>
 (st P 25 r3.1 r18.1 r18.2).bind fun r19 =>
 ((ld P 25 r3.1 r19.2).bind fun r20 => ifP (r20.2 = r19.2) (some r20.1)).bind fun v21 =>
 some (v21, r19.2)) := by kernel_rfl


end Go.Proofs.Ytjpacbedcocohaa.X
