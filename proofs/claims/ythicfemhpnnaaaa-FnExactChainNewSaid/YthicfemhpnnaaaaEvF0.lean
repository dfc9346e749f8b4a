/- A part of the proof: an evaluator of the model, its laws, and contracts of functions; no condition. -/
import Derived.Test.YthicfemhpnnaaaaEvP
set_option linter.unusedVariables false
set_option maxRecDepth 100000
namespace Go.Proofs.Ythicfemhpnnaaaa.X
open Go Go.Ev
/-! gosem_cut_init -/
theorem gosem_cut_init_fn (w : World) : fnC P (EV P) 2 #[] w =
 (xf P 1 #[] w).bind fun r1 =>
 some (.tuple #[], r1.2) := by kernel_rfl

/-! laws_FnExactChainNew -/
theorem laws_FnExactChainNew_fn (x0 : Value) (w : World) : fnC P (EV P) 3 #[x0] w =
 (vl (.bool false) w).bind fun r1 =>
 (vl x0 r1.2).bind fun r2 =>
 (EV P 11 #[r2.1] r2.2).bind fun r3 =>
 (al P 24 r3.2).bind fun r4 =>
 (st P 24 r4.1 r3.1 r4.2).bind fun r5 =>
 (vl x0 r5.2).bind fun r6 =>
 (EV P 12 #[r6.1] r6.2).bind fun r7 =>
 (al P 24 r7.2).bind fun r8 =>
 (st P 24 r8.1 r7.1 r8.2).bind fun r9 =>
 (ld P 24 r8.1 r9.2).bind fun r10 =>
 (ld P 24 r4.1 r10.2).bind fun r11 =>
 (EV P 13 #[r10.1, r11.1] r11.2).bind fun r12 =>
 (uo P .not r12.1 r12.2).bind fun r13 =>
 cnd r13.1 (
 (vl (.bool false) r13.2).bind fun r14 =>
 some (r14.1, r14.2)) (
 (vl (.int .i64 1) r13.2).bind fun r15 =>
 (ld P 24 r8.1 r15.2).bind fun r16 =>
 (vl r15.1 r16.2).bind fun r17 =>
 (EV P 14 #[r16.1, r17.1] r17.2).bind fun r18 =>
 (vl r18.1 r18.2).bind fun r19 =>
 (vl (.int .i64 1) r19.2).bind fun r20 =>
 (ld P 24 r8.1 r20.2).bind fun r21 =>
 (vl r20.1 r21.2).bind fun r22 =>
 (EV P 15 #[r21.1, r22.1] r22.2).bind fun r23 =>
 (vl r23.1 r23.2).bind fun r24 =>
 (vl r24.1 r24.2).bind fun r25 =>
 (bo P .lss 3 (.tmp 22) (.const (.int .i64 0)) r25.1 (.int .i64 0) r25.2).bind fun r26 =>
 cnd r26.1 (
 (vl (.bool false) r26.2).bind fun r27 =>
 some (r27.1, r27.2)) (
 (vl r24.1 r26.2).bind fun r28 =>
 (vl r19.1 r28.2).bind fun r29 =>
 (bo P .neq 3 (.tmp 24) (.tmp 25) r28.1 r29.1 r29.2).bind fun r30 =>
 cnd r30.1 (
 (vl (.bool false) r30.2).bind fun r31 =>
 some (r31.1, r31.2)) (
 (vl x0 r30.2).bind fun r32 =>
 (EV P 12 #[r32.1] r32.2).bind fun r33 =>
 (al P 24 r33.2).bind fun r34 =>
 (st P 24 r34.1 r33.1 r34.2).bind fun r35 =>
 (ld P 24 r34.1 r35.2).bind fun r36 =>
 (ld P 24 r4.1 r36.2).bind fun r37 =>
 (EV P 13 #[r36.1, r37.1] r37.2).bind fun r38 =>
 (uo P .not r38.1 r38.2).bind fun r39 =>
 cnd r39.1 (
 (vl (.bool false) r39.2).bind fun r40 =>
 some (r40.1, r40.2)) (
 (vl (.int .i64 1) r39.2).bind fun r41 =>
 (ld P 24 r8.1 r41.2).bind fun r42 =>
 (vl r41.1 r42.2).bind fun r43 =>
 (EV P 15 #[r42.1, r43.1] r43.2).bind fun r44 =>
 (vl r44.1 r44.2).bind fun r45 =>
 (vl r45.1 r45.2).bind fun r46 =>
 (bo P .lss 3 (.tmp 36) (.const (.int .i64 0)) r46.1 (.int .i64 0) r46.2).bind fun r47 =>
 cnd r47.1 (
 (vl (.bool false) r47.2).bind fun r48 =>
 some (r48.1, r48.2)) (
 (vl r45.1 r47.2).bind fun r49 =>
 (vl r19.1 r49.2).bind fun r50 =>
 (bo P .neq 3 (.tmp 38) (.tmp 39) r49.1 r50.1 r50.2).bind fun r51 =>
 cnd r51.1 (
 (vl (.bool false) r51.2).bind fun r52 =>
 some (r52.1, r52.2)) (
 (vl (.bool true) r51.2).bind fun r53 =>
 some (r53.1, r53.2))))))) := by kernel_rfl

/-! laws_FnChainNew -/
theorem laws_FnChainNew_fn (x0 : Value) (w : World) : fnC P (EV P) 4 #[x0] w =
 (vl (.bool false) w).bind fun r1 =>
 (vl x0 r1.2).bind fun r2 =>
 (b_len P #[29] 3 #[r2.1] r2.2).bind fun r3 =>
 (bo P .gtr 3 (.tmp 6) (.const (.int .i64 1048576)) r3.1 (.int .i64 1048576) r3.2).bind fun r4 =>
 cnd r4.1 (
 (vl (.bool true) r4.2).bind fun r5 =>
 some (r5.1, r5.2)) (
 (vl x0 r4.2).bind fun r6 =>
 (EV P 16 #[r6.1] r6.2).bind fun r7 =>
 (vl r7.1 r7.2).bind fun r8 =>
 (vl r8.1 r8.2).bind fun r9 =>
 (EV P 12 #[r9.1] r9.2).bind fun r10 =>
 (al P 24 r10.2).bind fun r11 =>
 (st P 24 r11.1 r10.1 r11.2).bind fun r12 =>
 (ld P 24 r11.1 (dw r12.2)).bind fun r14 =>
 ifP (r14.2 = (dw r12.2)) <|
 (vl r8.1 (dw r12.2)).bind fun r15 =>
 ifP (r15.2 = (dw r12.2)) <|
 (EV P 11 #[r15.1] (dw r12.2)).bind fun r16 =>
 ifP (ld P 24 r11.1 r16.2 = some (r14.1, r16.2) ∧ True) <|
 (EV P 17 #[r14.1, r16.1] r16.2).bind fun r17 =>
 ifP (True ∧ True) <|
 (uo P .not r17.1 r17.2).bind fun r18 =>
 ifP (r18.2 = r17.2) <|
 (vl r18.1 r17.2).bind fun r19 =>
 ifP (r19.2 = r17.2) <|
 (gif r19.1 false (fa P 24 r11.1 0 r17.2) r17.2).bind fun r20 =>
 ifP (r20.2 = r17.2) <|
 (gif r19.1 false (ld P 22 r20.1 r17.2) r17.2).bind fun r21 =>
 ifP (r21.2 = r17.2) <|
 (gif r19.1 false (b_len P #[22] 3 #[r21.1] r17.2) r17.2).bind fun r22 =>
 ifP (r22.2 = r17.2) <|
 (gif r19.1 false (bo P .eql 3 (.tmp 20) (.const (.int .i64 0)) r22.1 (.int .i64 0) r17.2) r17.2).bind fun r23 =>
 ifP (r23.2 = r17.2) <|
 (pickV r19.1 (.bool true) r23.1 r17.2).bind fun r24 =>
 ifP (r24.2 = r17.2) <|
 cnd r24.1 (
 (ld P 24 r11.1 (dw r17.2)).bind fun r26 =>
 ifP (r26.2 = (dw r17.2)) <|
 (vl r8.1 (dw r17.2)).bind fun r27 =>
 ifP (r27.2 = (dw r17.2)) <|
 (EV P 11 #[r27.1] (dw r17.2)).bind fun r28 =>
 ifP (ld P 24 r11.1 r28.2 = some (r26.1, r28.2) ∧ True) <|
 (EV P 17 #[r26.1, r28.1] r28.2).bind fun r29 =>
 ifP (True ∧ True) <|
 (vl r29.1 r29.2).bind fun r30 =>
 ifP (r30.2 = r29.2) <|
 (gif r30.1 true (vl r8.1 r29.2) r29.2).bind fun r31 =>
 ifP (r31.2 = r29.2) <|
 (gif r30.1 true (bo P .lss 3 (.tmp 28) (.const (.int .i64 1)) r31.1 (.int .i64 1) r29.2) r29.2).bind fun r32 =>
 ifP (r32.2 = r29.2) <|
 (gif r30.1 true (vl r32.1 r29.2) r29.2).bind fun r33 =>
 ifP (r33.2 = r29.2) <|
 (gif r33.1 false (vl r8.1 r29.2) r29.2).bind fun r34 =>
 ifP (r34.2 = r29.2) <|
 (gif r33.1 false (bo P .gtr 3 (.tmp 31) (.const (.int .i64 4)) r34.1 (.int .i64 4) r29.2) r29.2).bind fun r35 =>
 ifP (r35.2 = r29.2) <|
 (gif r30.1 true (pickV r33.1 (.bool true) r35.1 r29.2) r29.2).bind fun r36 =>
 ifP (r36.2 = r29.2) <|
 (pickV r30.1 r36.1 (.bool false) r29.2).bind fun r37 =>
 ifP (r37.2 = r29.2) <|
 (vl r37.1 r29.2).bind fun r38 =>
 ifP (r38.2 = r29.2) <|
 some (r38.1, r29.2)) (
 (ld P 24 r11.1 r17.2).bind fun r39 =>
 (EV P 18 #[r39.1] r39.2).bind fun r40 =>
 (vl r40.1 r40.2).bind fun r41 =>
 (gif r41.1 true (fa P 24 r11.1 0 r41.2) r41.2).bind fun r42 =>
 (gif r41.1 true (ld P 22 r42.1 r42.2) r42.2).bind fun r43 =>
 (gif r41.1 true (b_len P #[22] 3 #[r43.1] r43.2) r43.2).bind fun r44 =>
 (gif r41.1 true (vl r8.1 r44.2) r44.2).bind fun r45 =>
 (gif r41.1 true (bo P .eql 3 (.tmp 40) (.tmp 41) r44.1 r45.1 r45.2) r45.2).bind fun r46 =>
 (pickV r41.1 r46.1 (.bool false) r46.2).bind fun r47 =>
 (vl r47.1 r47.2).bind fun r48 =>
 (gif r48.1 true (ld P 24 r11.1 r48.2) r48.2).bind fun r49 =>
 (gif r48.1 true (EV P 20 #[r49.1] r49.2) r49.2).bind fun r50 =>
 (gif r48.1 true (EV P 21 #[] r50.2) r50.2).bind fun r51 =>
 (gif r48.1 true (EV P 19 #[r50.1, r51.1] r51.2) r51.2).bind fun r52 =>
 (pickV r48.1 r52.1 (.bool false) r52.2).bind fun r53 =>
 (vl r53.1 r53.2).bind fun r54 =>
 some (r54.1, r54.2))) := by kernel_rfl

/-! laws_FnExactChainOk -/
theorem laws_FnExactChainOk_fn (x0 : Value) (w : World) : fnC P (EV P) 5 #[x0] w =
 (bx P 41 x0 w).bind fun r1 =>
 (vl (.bool false) r1.2).bind fun r2 =>
 (vl (.int .i64 1048576) r2.2).bind fun r3 =>
 (ld P 41 r1.1 r3.2).bind fun r4 =>
 (vl r3.1 r4.2).bind fun r5 =>
 (EV P 22 #[r4.1, r5.1] r5.2).bind fun r6 =>
 (vl r6.1 r6.2).bind fun r7 =>
 (vl r7.1 r7.2).bind fun r8 =>
 (bo P .lss 3 (.tmp 10) (.const (.int .i64 0)) r8.1 (.int .i64 0) r8.2).bind fun r9 =>
 cnd r9.1 (
 (vl (.bool true) r9.2).bind fun r10 =>
 some (r10.1, r10.2)) (
 (ld P 41 r1.1 r9.2).bind fun r11 =>
 (EV P 24 #[r11.1] r11.2).bind fun r12 =>
 (EV P 23 #[r12.1] r12.2).bind fun r13 =>
 (vl r13.1 r13.2).bind fun r14 =>
 (ld P 41 r1.1 r14.2).bind fun r15 =>
 (EV P 24 #[r15.1] r15.2).bind fun r16 =>
 (al P 24 r16.2).bind fun r17 =>
 (st P 24 r17.1 r16.1 r17.2).bind fun r18 =>
 (ld P 24 r17.1 r18.2).bind fun r19 =>
 (EV P 18 #[r19.1] r19.2).bind fun r20 =>
 (vl r20.1 r20.2).bind fun r21 =>
 (vl r21.1 r21.2).bind fun r22 =>
 (vl r14.1 r22.2).bind fun r23 =>
 (bo P .neq 4 (.tmp 19) (.tmp 20) r22.1 r23.1 r23.2).bind fun r24 =>
 cnd r24.1 (
 (vl (.bool false) r24.2).bind fun r25 =>
 some (r25.1, r25.2)) (
 (ld P 24 r17.1 (dw r24.2)).bind fun r27 =>
 ifP (r27.2 = (dw r24.2)) <|
 (ld P 41 r1.1 (dw r24.2)).bind fun r28 =>
 ifP (r28.2 = (dw r24.2)) <|
 (EV P 24 #[r28.1] (dw r24.2)).bind fun r29 =>
 ifP (True ∧ ld P 24 r17.1 r29.2 = some (r27.1, r29.2) ∧ True) <|
 (EV P 13 #[r27.1, r29.1] r29.2).bind fun r30 =>
 ifP (True ∧ True ∧ True) <|
 (uo P .not r30.1 r30.2).bind fun r31 =>
 ifP (r31.2 = r30.2) <|
 cnd r31.1 (
 (vl (.bool false) r30.2).bind fun r32 =>
 some (r32.1, r32.2)) (
 (vl (.bool true) r30.2).bind fun r33 =>
 some (r33.1, r33.2)))) := by kernel_rfl

/-! laws_FnChainPut -/
noncomputable def laws_FnChainPut_l1 (e : Env) (w : World) : Option (Value × World) := exC P (EV P) 6 114 (.loop (cA (cA (cB (cA (cB (cB (cB (cB (cB (cB (cB (bodyOf P 6))))))))))))) e w (kBlock 0 (kSeq P (EV P) 6 114 (cB (cB (cB (cB (cB (cB (cB (cB (bodyOf P 6))))))))) (kFn P (fnOf P 6))))
theorem laws_FnChainPut_l1_eq (e : Env) (w : World) : laws_FnChainPut_l1 e w =
 (vl (e 9) w).bind fun r1 =>
 (fa P 24 (e 3) 0 r1.2).bind fun r2 =>
 (ld P 22 r2.1 r2.2).bind fun r3 =>
 (b_len P #[22] 3 #[r3.1] r3.2).bind fun r4 =>
 (bo P .lss 3 (.tmp 76) (.tmp 79) r1.1 r4.1 r4.2).bind fun r5 =>
 cnd r5.1 (
 (fa P 24 (e 5) 0 (dw r5.2)).bind fun r7 =>
 ifP (r7.2 = (dw r5.2)) <|
 (ld P 22 r7.1 (dw r5.2)).bind fun r8 =>
 ifP (r8.2 = (dw r5.2)) <|
 (vl (e 9) (dw r5.2)).bind fun r9 =>
 ifP (r9.2 = (dw r5.2)) <|
 (ia P 22 r8.1 r9.1 (dw r5.2)).bind fun r10 =>
 ifP (r10.2 = (dw r5.2)) <|
 (fa P 59 r10.1 0 (dw r5.2)).bind fun r11 =>
 ifP (r11.2 = (dw r5.2)) <|
 (ld P 57 r11.1 (dw r5.2)).bind fun r12 =>
 ifP (r12.2 = (dw r5.2)) <|
 (fa P 24 (e 3) 0 (dw r5.2)).bind fun r13 =>
 ifP (r13.2 = (dw r5.2)) <|
 (ld P 22 r13.1 (dw r5.2)).bind fun r14 =>
 ifP (r14.2 = (dw r5.2)) <|
 (vl (e 9) (dw r5.2)).bind fun r15 =>
 ifP (r15.2 = (dw r5.2)) <|
 (ia P 22 r14.1 r15.1 (dw r5.2)).bind fun r16 =>
 ifP (r16.2 = (dw r5.2)) <|
 (fa P 59 r16.1 0 (dw r5.2)).bind fun r17 =>
 ifP (r17.2 = (dw r5.2)) <|
 (ld P 57 r17.1 (dw r5.2)).bind fun r18 =>
 ifP (r18.2 = (dw r5.2)) <|
 (EV P 29 #[r12.1, r18.1] (dw r5.2)).bind fun r19 =>
 ifP (True ∧ True ∧ True ∧ True ∧ True ∧ True ∧ True ∧ True ∧ True ∧ True ∧ True) <|
 (uo P .not r19.1 r19.2).bind fun r20 =>
 ifP (r20.2 = r19.2) <|
 cnd r20.1 (
 (vl (.bool false) r19.2).bind fun r21 =>
 some (r21.1, r21.2)) (
 (vl (e 9) r19.2).bind fun r22 =>
 (bo P .add 3 (.tmp 81) (.const (.int .i64 1)) r22.1 (.int .i64 1) r22.2).bind fun r23 =>
 (vl r23.1 r23.2).bind fun r24 =>
 laws_FnChainPut_l1 (ups e [(76, r1.1), (77, r2.1), (78, r3.1), (79, r4.1), (80, r5.1), (83, r7.1), (84, r8.1), (85, r9.1), (86, r10.1), (87, r11.1), (88, r12.1), (89, r13.1), (90, r14.1), (91, r15.1), (92, r16.1), (93, r17.1), (94, r18.1), (95, r19.1), (96, r20.1), (81, r22.1), (82, r23.1), (9, r24.1)]) r24.2)) (
 (ld P 24 (e 5) (dw r5.2)).bind fun r26 =>
 ifP (r26.2 = (dw r5.2)) <|
 (EV P 18 #[r26.1] (dw r5.2)).bind fun r27 =>
 ifP (True ∧ True) <|
 (vl r27.1 r27.2).bind fun r28 =>
 ifP (r28.2 = r27.2) <|
 (gif r28.1 true (fa P 24 (e 5) 0 r27.2) r27.2).bind fun r29 =>
 ifP (r29.2 = r27.2) <|
 (gif r28.1 true (ld P 22 r29.1 r27.2) r27.2).bind fun r30 =>
 ifP (r30.2 = r27.2) <|
 (gif r28.1 true (ia P 22 r30.1 (.int .i64 0) r27.2) r27.2).bind fun r31 =>
 ifP (r31.2 = r27.2) <|
 (gif r28.1 true (fa P 59 r31.1 0 r27.2) r27.2).bind fun r32 =>
 ifP (r32.2 = r27.2) <|
 (gif r28.1 true (ld P 57 r32.1 r27.2) r27.2).bind fun r33 =>
 ifP (r33.2 = r27.2) <|
 (gif r28.1 true (fa P 24 (e 3) 0 r27.2) r27.2).bind fun r34 =>
 ifP (r34.2 = r27.2) <|
 (gif r28.1 true (ld P 22 r34.1 r27.2) r27.2).bind fun r35 =>
 ifP (r35.2 = r27.2) <|
 (gif r28.1 true (ia P 22 r35.1 (.int .i64 0) r27.2) r27.2).bind fun r36 =>
 ifP (r36.2 = r27.2) <|
 (gif r28.1 true (fa P 59 r36.1 0 r27.2) r27.2).bind fun r37 =>
 ifP (r37.2 = r27.2) <|
 (gif r28.1 true (ld P 57 r37.1 r27.2) r27.2).bind fun r38 =>
 ifP (r38.2 = r27.2) <|
 (gif r28.1 true (ld P 48 (e 4) r27.2) r27.2).bind fun r39 =>
 ifP (r39.2 = r27.2) <|
 (gif r28.1 true (EV P 30 #[r38.1, r39.1] r27.2) r27.2).bind fun r40 =>
 ifP (True ∧ True ∧ True ∧ True ∧ True ∧ True ∧ gif r28.1 true (ld P 57 r32.1 r40.2) r40.2 = some (r33.1, r40.2) ∧ gif r28.1 true (fa P 59 r31.1 0 r40.2) r40.2 = some (r32.1, r40.2) ∧ gif r28.1 true (ia P 22 r30.1 (.int .i64 0) r40.2) r40.2 = some (r31.1, r40.2) ∧ gif r28.1 true (ld P 22 r29.1 r40.2) r40.2 = some (r30.1, r40.2) ∧ gif r28.1 true (fa P 24 (e 5) 0 r40.2) r40.2 = some (r29.1, r40.2) ∧ True ∧ True) <|
 (gif r28.1 true (EV P 29 #[r33.1, r40.1] r40.2) r40.2).bind fun r41 =>
 ifP (True ∧ True ∧ True ∧ True ∧ True ∧ True ∧ True ∧ True ∧ True ∧ True ∧ True ∧ True ∧ True) <|
 (pickV r28.1 r41.1 (.bool false) r41.2).bind fun r42 =>
 ifP (r42.2 = r41.2) <|
 (vl r42.1 r41.2).bind fun r43 =>
 ifP (r43.2 = r41.2) <|
 some (r43.1, r41.2)) := (exC_loop P (EV P) 6 114 (cA (cA (cB (cA (cB (cB (cB (cB (cB (cB (cB (bodyOf P 6)))))))))))) e w (kBlock 0 (kSeq P (EV P) 6 114 (cB (cB (cB (cB (cB (cB (cB (cB (bodyOf P 6))))))))) (kFn P (fnOf P 6))))).trans (by kernel_rfl)
theorem laws_FnChainPut_fn (x0 : Value) (w : World) : fnC P (EV P) 6 #[x0] w =
 (vl (.bool false) w).bind fun r1 =>
 (vl x0 r1.2).bind fun r2 =>
 (b_len P #[29] 3 #[r2.1] r2.2).bind fun r3 =>
 (bo P .gtr 3 (.tmp 11) (.const (.int .i64 1048576)) r3.1 (.int .i64 1048576) r3.2).bind fun r4 =>
 cnd r4.1 (
 (vl (.bool true) r4.2).bind fun r5 =>
 some (r5.1, r5.2)) (
 (vl x0 r4.2).bind fun r6 =>
 (EV P 25 #[r6.1] r6.2).bind fun r7 =>
 (vl r7.1 r7.2).bind fun r8 =>
 (xt P r8.1 0 r8.2).bind fun r9 =>
 (xt P r8.1 1 r9.2).bind fun r10 =>
 (al P 24 r10.2).bind fun r11 =>
 (al P 48 r11.2).bind fun r12 =>
 (st P 24 r11.1 r9.1 r12.2).bind fun r13 =>
 (st P 48 r12.1 r10.1 r13.2).bind fun r14 =>
 (ld P 24 r11.1 r14.2).bind fun r15 =>
 (ld P 48 r12.1 r15.2).bind fun r16 =>
 (EV P 26 #[r15.1, r16.1] r16.2).bind fun r17 =>
 (vl r17.1 r17.2).bind fun r18 =>
 (xt P r18.1 0 r18.2).bind fun r19 =>
 (xt P r18.1 1 r19.2).bind fun r20 =>
 (al P 24 r20.2).bind fun r21 =>
 (st P 24 r21.1 r19.1 r21.2).bind fun r22 =>
 (vl r20.1 r22.2).bind fun r23 =>
 (ld P 24 r11.1 r23.2).bind fun r24 =>
 (ld P 48 r12.1 r24.2).bind fun r25 =>
 (EV P 27 #[r24.1, r25.1] r25.2).bind fun r26 =>
 (vl r26.1 r26.2).bind fun r27 =>
 (xt P r27.1 0 r27.2).bind fun r28 =>
 (xt P r27.1 1 r28.2).bind fun r29 =>
 (al P 24 r29.2).bind fun r30 =>
 (st P 24 r30.1 r28.1 r30.2).bind fun r31 =>
 (vl r29.1 r31.2).bind fun r32 =>
 (vl r23.1 (dw r32.2)).bind fun r34 =>
 ifP (r34.2 = (dw r32.2)) <|
 (vl r32.1 (dw r32.2)).bind fun r35 =>
 ifP (r35.2 = (dw r32.2)) <|
 (bo P .neq 4 (.tmp 30) (.tmp 31) r34.1 r35.1 (dw r32.2)).bind fun r36 =>
 ifP (r36.2 = (dw r32.2)) <|
 (vl r36.1 (dw r32.2)).bind fun r37 =>
 ifP (r37.2 = (dw r32.2)) <|
 (gif r37.1 false (ld P 24 r21.1 (dw r32.2)) (dw r32.2)).bind fun r38 =>
 ifP (r38.2 = (dw r32.2)) <|
 (gif r37.1 false (ld P 24 r30.1 (dw r32.2)) (dw r32.2)).bind fun r39 =>
 ifP (r39.2 = (dw r32.2)) <|
 (gif r37.1 false (EV P 17 #[r38.1, r39.1] (dw r32.2)) (dw r32.2)).bind fun r40 =>
 ifP (True ∧ True ∧ True ∧ True) <|
 (gif r37.1 false (uo P .not r40.1 r40.2) r40.2).bind fun r41 =>
 ifP (r41.2 = r40.2) <|
 (pickV r37.1 (.bool true) r41.1 r40.2).bind fun r42 =>
 ifP (r42.2 = r40.2) <|
 (vl r42.1 r40.2).bind fun r43 =>
 ifP (r43.2 = r40.2) <|
 (gif r43.1 false (ld P 24 r11.1 r40.2) r40.2).bind fun r44 =>
 ifP (r44.2 = r40.2) <|
 (gif r43.1 false (ld P 24 r11.1 r40.2) r40.2).bind fun r45 =>
 ifP (r45.2 = r40.2) <|
 (gif r43.1 false (EV P 18 #[r44.1] r40.2) r40.2).bind fun r46 =>
 ifP (gif r43.1 false (ld P 24 r11.1 r46.2) r46.2 = some (r45.1, r46.2) ∧ True ∧ True ∧ True ∧ True ∧ True ∧ True) <|
 (gif r43.1 false (EV P 23 #[r45.1] r46.2) r46.2).bind fun r47 =>
 ifP (True ∧ True ∧ True ∧ True ∧ True ∧ True ∧ True) <|
 (gif r43.1 false (bo P .neq 4 (.tmp 41) (.tmp 43) r46.1 r47.1 r47.2) r47.2).bind fun r48 =>
 ifP (r48.2 = r47.2) <|
 (pickV r43.1 (.bool true) r48.1 r47.2).bind fun r49 =>
 ifP (r49.2 = r47.2) <|
 (vl r49.1 r47.2).bind fun r50 =>
 ifP (r50.2 = r47.2) <|
 (gif r50.1 false (ld P 24 r11.1 r47.2) r47.2).bind fun r51 =>
 ifP (r51.2 = r47.2) <|
 (gif r50.1 false (EV P 18 #[r51.1] r47.2) r47.2).bind fun r52 =>
 ifP (True ∧ True ∧ True ∧ True ∧ True ∧ True ∧ True ∧ True ∧ True) <|
 (gif r50.1 false (uo P .not r52.1 r52.2) r52.2).bind fun r53 =>
 ifP (r53.2 = r52.2) <|
 (pickV r50.1 (.bool true) r53.1 r52.2).bind fun r54 =>
 ifP (r54.2 = r52.2) <|
 (vl r54.1 r52.2).bind fun r55 =>
 ifP (r55.2 = r52.2) <|
 (gif r55.1 false (ld P 48 r12.1 r52.2) r52.2).bind fun r56 =>
 ifP (r56.2 = r52.2) <|
 (gif r55.1 false (EV P 28 #[r56.1] r52.2) r52.2).bind fun r57 =>
 ifP (True ∧ True ∧ True ∧ True ∧ True ∧ True ∧ True ∧ True ∧ True ∧ True ∧ True) <|
 (gif r55.1 false (uo P .not r57.1 r57.2) r57.2).bind fun r58 =>
 ifP (r58.2 = r57.2) <|
 (pickV r55.1 (.bool true) r58.1 r57.2).bind fun r59 =>
 ifP (r59.2 = r57.2) <|
 cnd r59.1 (
 (vl r23.1 (dw r57.2)).bind fun r61 =>
 ifP (r61.2 = (dw r57.2)) <|
 (vl r32.1 (dw r57.2)).bind fun r62 =>
 ifP (r62.2 = (dw r57.2)) <|
 (bo P .eql 4 (.tmp 56) (.tmp 57) r61.1 r62.1 (dw r57.2)).bind fun r63 =>
 ifP (r63.2 = (dw r57.2)) <|
 (vl r63.1 (dw r57.2)).bind fun r64 =>
 ifP (r64.2 = (dw r57.2)) <|
 (gif r64.1 true (ld P 24 r21.1 (dw r57.2)) (dw r57.2)).bind fun r65 =>
 ifP (r65.2 = (dw r57.2)) <|
 (gif r64.1 true (ld P 24 r30.1 (dw r57.2)) (dw r57.2)).bind fun r66 =>
 ifP (r66.2 = (dw r57.2)) <|
 (gif r64.1 true (EV P 17 #[r65.1, r66.1] (dw r57.2)) (dw r57.2)).bind fun r67 =>
 ifP (True ∧ True ∧ True ∧ True) <|
 (pickV r64.1 r67.1 (.bool false) r67.2).bind fun r68 =>
 ifP (r68.2 = r67.2) <|
 (vl r68.1 r67.2).bind fun r69 =>
 ifP (r69.2 = r67.2) <|
 (gif r69.1 true (ld P 24 r11.1 r67.2) r67.2).bind fun r70 =>
 ifP (r70.2 = r67.2) <|
 (gif r69.1 true (ld P 24 r11.1 r67.2) r67.2).bind fun r71 =>
 ifP (r71.2 = r67.2) <|
 (gif r69.1 true (EV P 18 #[r70.1] r67.2) r67.2).bind fun r72 =>
 ifP (gif r69.1 true (ld P 24 r11.1 r72.2) r72.2 = some (r71.1, r72.2) ∧ True ∧ True ∧ True ∧ True ∧ True) <|
 (gif r69.1 true (EV P 23 #[r71.1] r72.2) r72.2).bind fun r73 =>
 ifP (True ∧ True ∧ True ∧ True ∧ True ∧ True) <|
 (gif r69.1 true (bo P .eql 4 (.tmp 66) (.tmp 68) r72.1 r73.1 r73.2) r73.2).bind fun r74 =>
 ifP (r74.2 = r73.2) <|
 (pickV r69.1 r74.1 (.bool false) r73.2).bind fun r75 =>
 ifP (r75.2 = r73.2) <|
 (vl r75.1 r73.2).bind fun r76 =>
 ifP (r76.2 = r73.2) <|
 some (r76.1, r73.2)) (
 (vl r23.1 r57.2).bind fun r77 =>
 (uo P .not r77.1 r77.2).bind fun r78 =>
 cnd r78.1 (
 (ld P 24 r21.1 r78.2).bind fun r79 =>
 (ld P 24 r11.1 r79.2).bind fun r80 =>
 (EV P 17 #[r79.1, r80.1] r80.2).bind fun r81 =>
 (vl r81.1 r81.2).bind fun r82 =>
 some (r82.1, r82.2)) (
 (vl (.int .i64 1) r78.2).bind fun r83 =>
 laws_FnChainPut_l1 (ups (env0 #[x0]) [(2, r1.1), (10, r2.1), (11, r3.1), (12, r4.1), (14, r6.1), (15, r7.1), (13, r8.1), (16, r9.1), (17, r10.1), (3, r11.1), (4, r12.1), (19, r15.1), (20, r16.1), (21, r17.1), (18, r18.1), (22, r19.1), (23, r20.1), (5, r21.1), (6, r23.1), (25, r24.1), (26, r25.1), (27, r26.1), (24, r27.1), (28, r28.1), (29, r29.1), (7, r30.1), (8, r32.1), (30, r34.1), (31, r35.1), (32, r36.1), (33, r37.1), (34, r38.1), (35, r39.1), (36, r40.1), (37, r41.1), (38, r42.1), (39, r43.1), (40, r44.1), (42, r45.1), (41, r46.1), (43, r47.1), (44, r48.1), (45, r49.1), (46, r50.1), (47, r51.1), (48, r52.1), (49, r53.1), (50, r54.1), (51, r55.1), (52, r56.1), (53, r57.1), (54, r58.1), (55, r59.1), (71, r77.1), (72, r78.1), (9, r83.1)]) r83.2))) := by kernel_rfl

/-! laws_FnChainDrain -/
noncomputable def laws_FnChainDrain_l1 (e : Env) (w : World) : Option (Value × World) := exC P (EV P) 7 106 (.loop (cA (cA (cB (cA (cB (cB (cB (cB (cB (cB (cB (bodyOf P 7))))))))))))) e w (kBlock 0 (kSeq P (EV P) 7 106 (cB (cB (cB (cB (cB (cB (cB (cB (bodyOf P 7))))))))) (kFn P (fnOf P 7))))
noncomputable def laws_FnChainDrain_l2 (e : Env) (w : World) : Option (Value × World) := exC P (EV P) 7 106 (.loop (cA (cA (cB (cA (cA (cB (cA (cA (cB (cA (cB (cB (cB (cB (cB (cB (cB (bodyOf P 7))))))))))))))))))) e w (kBlock 2 (kBlock 1 (kSeq P (EV P) 7 106 (cB (cB (cA (cA (cB (cA (cB (cB (cB (cB (cB (cB (cB (bodyOf P 7)))))))))))))) (kLoop P (EV P) 7 106 (cA (cA (cB (cA (cB (cB (cB (cB (cB (cB (cB (bodyOf P 7)))))))))))) (kBlock 0 (kSeq P (EV P) 7 106 (cB (cB (cB (cB (cB (cB (cB (cB (bodyOf P 7))))))))) (kFn P (fnOf P 7))))))))
noncomputable def laws_FnChainDrain_l3 (e : Env) (w : World) : Option (Value × World) := exC P (EV P) 7 106 (.loop (cA (cA (cB (cA (cB (cB (cB (cB (cB (cB (cB (cB (bodyOf P 7)))))))))))))) e w (kBlock 4 (kSeq P (EV P) 7 106 (cB (cB (cB (cB (cB (cB (cB (cB (cB (bodyOf P 7)))))))))) (kFn P (fnOf P 7))))
theorem laws_FnChainDrain_l1_eq (e : Env) (w : World) : laws_FnChainDrain_l1 e w =
 (vl (e 10) w).bind fun r1 =>
 (bo P .lss 3 (.tmp 56) (.const (.int .i64 24)) r1.1 (.int .i64 24) r1.2).bind fun r2 =>
 cnd r2.1 (
 (fa P 24 (e 3) 0 r2.2).bind fun r3 =>
 (ld P 22 r3.1 r3.2).bind fun r4 =>
 (b_len P #[22] 3 #[r4.1] r4.2).bind fun r5 =>
 (bo P .sub 3 (.tmp 62) (.const (.int .i64 1)) r5.1 (.int .i64 1) r5.2).bind fun r6 =>
 (vl r6.1 r6.2).bind fun r7 =>
 laws_FnChainDrain_l2 (ups e [(56, r1.1), (57, r2.1), (60, r3.1), (61, r4.1), (62, r5.1), (63, r6.1), (11, r7.1)]) r7.2) (
 (vl (.int .i64 0) r2.2).bind fun r8 =>
 laws_FnChainDrain_l3 (ups e [(56, r1.1), (57, r2.1), (12, r8.1)]) r8.2) := (exC_loop P (EV P) 7 106 (cA (cA (cB (cA (cB (cB (cB (cB (cB (cB (cB (bodyOf P 7)))))))))))) e w (kBlock 0 (kSeq P (EV P) 7 106 (cB (cB (cB (cB (cB (cB (cB (cB (bodyOf P 7))))))))) (kFn P (fnOf P 7))))).trans (by kernel_rfl)
theorem laws_FnChainDrain_l2_eq (e : Env) (w : World) : laws_FnChainDrain_l2 e w =
 (vl (e 11) w).bind fun r1 =>
 (bo P .geq 3 (.tmp 64) (.const (.int .i64 0)) r1.1 (.int .i64 0) r1.2).bind fun r2 =>
 cnd r2.1 (
 (ld P 24 (e 9) r2.2).bind fun r3 =>
 (vl (e 11) r3.2).bind fun r4 =>
 (EV P 32 #[r3.1, r4.1] r4.2).bind fun r5 =>
 (vl r5.1 r5.2).bind fun r6 =>
 (xt P r6.1 0 r6.2).bind fun r7 =>
 (xt P r6.1 1 r7.2).bind fun r8 =>
 (st P 24 (e 9) r7.1 r8.2).bind fun r9 =>
 (vl (e 11) r9.2).bind fun r10 =>
 (bo P .sub 3 (.tmp 66) (.const (.int .i64 1)) r10.1 (.int .i64 1) r10.2).bind fun r11 =>
 (vl r11.1 r11.2).bind fun r12 =>
 laws_FnChainDrain_l2 (ups e [(64, r1.1), (65, r2.1), (69, r3.1), (70, r4.1), (71, r5.1), (68, r6.1), (72, r7.1), (73, r8.1), (66, r10.1), (67, r11.1), (11, r12.1)]) r12.2) (
 (vl (e 10) r2.2).bind fun r13 =>
 (bo P .add 3 (.tmp 58) (.const (.int .i64 1)) r13.1 (.int .i64 1) r13.2).bind fun r14 =>
 (vl r14.1 r14.2).bind fun r15 =>
 laws_FnChainDrain_l1 (ups e [(64, r1.1), (65, r2.1), (58, r13.1), (59, r14.1), (10, r15.1)]) r15.2) := (exC_loop P (EV P) 7 106 (cA (cA (cB (cA (cA (cB (cA (cA (cB (cA (cB (cB (cB (cB (cB (cB (cB (bodyOf P 7)))))))))))))))))) e w (kBlock 2 (kBlock 1 (kSeq P (EV P) 7 106 (cB (cB (cA (cA (cB (cA (cB (cB (cB (cB (cB (cB (cB (bodyOf P 7)))))))))))))) (kLoop P (EV P) 7 106 (cA (cA (cB (cA (cB (cB (cB (cB (cB (cB (cB (bodyOf P 7)))))))))))) (kBlock 0 (kSeq P (EV P) 7 106 (cB (cB (cB (cB (cB (cB (cB (cB (bodyOf P 7))))))))) (kFn P (fnOf P 7))))))))).trans (by kernel_rfl)
theorem laws_FnChainDrain_l3_eq (e : Env) (w : World) : laws_FnChainDrain_l3 e w =
 (vl (e 12) w).bind fun r1 =>
 (fa P 24 (e 9) 0 r1.2).bind fun r2 =>
 (ld P 22 r2.1 r2.2).bind fun r3 =>
 (b_len P #[22] 3 #[r3.1] r3.2).bind fun r4 =>
 (bo P .lss 3 (.tmp 74) (.tmp 77) r1.1 r4.1 r4.2).bind fun r5 =>
 cnd r5.1 (
 (fa P 24 (e 9) 0 (dw r5.2)).bind fun r7 =>
 ifP (r7.2 = (dw r5.2)) <|
 (ld P 22 r7.1 (dw r5.2)).bind fun r8 =>
 ifP (r8.2 = (dw r5.2)) <|
 (vl (e 12) (dw r5.2)).bind fun r9 =>
 ifP (r9.2 = (dw r5.2)) <|
 (ia P 22 r8.1 r9.1 (dw r5.2)).bind fun r10 =>
 ifP (r10.2 = (dw r5.2)) <|
 (fa P 59 r10.1 1 (dw r5.2)).bind fun r11 =>
 ifP (r11.2 = (dw r5.2)) <|
 (ld P 55 r11.1 (dw r5.2)).bind fun r12 =>
 ifP (r12.2 = (dw r5.2)) <|
 (b_len P #[55] 3 #[r12.1] (dw r5.2)).bind fun r13 =>
 ifP (r13.2 = (dw r5.2)) <|
 (bo P .gtr 3 (.tmp 87) (.const (.int .i64 0)) r13.1 (.int .i64 0) (dw r5.2)).bind fun r14 =>
 ifP (r14.2 = (dw r5.2)) <|
 (vl r14.1 (dw r5.2)).bind fun r15 =>
 ifP (r15.2 = (dw r5.2)) <|
 (gif r15.1 false (fa P 24 (e 9) 0 (dw r5.2)) (dw r5.2)).bind fun r16 =>
 ifP (r16.2 = (dw r5.2)) <|
 (gif r15.1 false (ld P 22 r16.1 (dw r5.2)) (dw r5.2)).bind fun r17 =>
 ifP (r17.2 = (dw r5.2)) <|
 (gif r15.1 false (vl (e 12) (dw r5.2)) (dw r5.2)).bind fun r18 =>
 ifP (r18.2 = (dw r5.2)) <|
 (gif r15.1 false (ia P 22 r17.1 r18.1 (dw r5.2)) (dw r5.2)).bind fun r19 =>
 ifP (r19.2 = (dw r5.2)) <|
 (gif r15.1 false (fa P 59 r19.1 0 (dw r5.2)) (dw r5.2)).bind fun r20 =>
 ifP (r20.2 = (dw r5.2)) <|
 (gif r15.1 false (ld P 57 r20.1 (dw r5.2)) (dw r5.2)).bind fun r21 =>
 ifP (r21.2 = (dw r5.2)) <|
 (gif r15.1 false (fa P 24 (e 3) 0 (dw r5.2)) (dw r5.2)).bind fun r22 =>
 ifP (r22.2 = (dw r5.2)) <|
 (gif r15.1 false (ld P 22 r22.1 (dw r5.2)) (dw r5.2)).bind fun r23 =>
 ifP (r23.2 = (dw r5.2)) <|
 (gif r15.1 false (ia P 22 r23.1 (.int .i64 0) (dw r5.2)) (dw r5.2)).bind fun r24 =>
 ifP (r24.2 = (dw r5.2)) <|
 (gif r15.1 false (fa P 59 r24.1 0 (dw r5.2)) (dw r5.2)).bind fun r25 =>
 ifP (r25.2 = (dw r5.2)) <|
 (gif r15.1 false (ld P 57 r25.1 (dw r5.2)) (dw r5.2)).bind fun r26 =>
 ifP (r26.2 = (dw r5.2)) <|
 (gif r15.1 false (EV P 29 #[r21.1, r26.1] (dw r5.2)) (dw r5.2)).bind fun r27 =>
 ifP (True ∧ True ∧ True ∧ True ∧ True ∧ True ∧ True ∧ True ∧ True ∧ True ∧ True ∧ True ∧ True ∧ True ∧ True ∧ True ∧ True ∧ True) <|
 (gif r15.1 false (uo P .not r27.1 r27.2) r27.2).bind fun r28 =>
 ifP (r28.2 = r27.2) <|
 (pickV r15.1 (.bool true) r28.1 r27.2).bind fun r29 =>
 ifP (r29.2 = r27.2) <|
 cnd r29.1 (
 (vl (.bool false) r27.2).bind fun r30 =>
 some (r30.1, r30.2)) (
 (vl (e 12) r27.2).bind fun r31 =>
 (bo P .add 3 (.tmp 79) (.const (.int .i64 1)) r31.1 (.int .i64 1) r31.2).bind fun r32 =>
 (vl r32.1 r32.2).bind fun r33 =>
 laws_FnChainDrain_l3 (ups e [(74, r1.1), (75, r2.1), (76, r3.1), (77, r4.1), (78, r5.1), (81, r7.1), (82, r8.1), (83, r9.1), (84, r10.1), (85, r11.1), (86, r12.1), (87, r13.1), (88, r14.1), (89, r15.1), (90, r16.1), (91, r17.1), (92, r18.1), (93, r19.1), (94, r20.1), (95, r21.1), (96, r22.1), (97, r23.1), (98, r24.1), (99, r25.1), (100, r26.1), (101, r27.1), (102, r28.1), (103, r29.1), (79, r31.1), (80, r32.1), (12, r33.1)]) r33.2)) (
 (ld P 24 (e 9) r5.2).bind fun r34 =>
 (EV P 18 #[r34.1] r34.2).bind fun r35 =>
 (vl r35.1 r35.2).bind fun r36 =>
 some (r36.1, r36.2)) := (exC_loop P (EV P) 7 106 (cA (cA (cB (cA (cB (cB (cB (cB (cB (cB (cB (cB (bodyOf P 7))))))))))))) e w (kBlock 4 (kSeq P (EV P) 7 106 (cB (cB (cB (cB (cB (cB (cB (cB (cB (bodyOf P 7)))))))))) (kFn P (fnOf P 7))))).trans (by kernel_rfl)
theorem laws_FnChainDrain_fn (x0 : Value) (w : World) : fnC P (EV P) 7 #[x0] w =
 (vl (.bool false) w).bind fun r1 =>
 (vl x0 r1.2).bind fun r2 =>
 (b_len P #[29] 3 #[r2.1] r2.2).bind fun r3 =>
 (bo P .gtr 3 (.tmp 14) (.const (.int .i64 1048576)) r3.1 (.int .i64 1048576) r3.2).bind fun r4 =>
 cnd r4.1 (
 (vl (.bool true) r4.2).bind fun r5 =>
 some (r5.1, r5.2)) (
 (vl x0 r4.2).bind fun r6 =>
 (EV P 31 #[r6.1] r6.2).bind fun r7 =>
 (vl r7.1 r7.2).bind fun r8 =>
 (xt P r8.1 0 r8.2).bind fun r9 =>
 (xt P r8.1 1 r9.2).bind fun r10 =>
 (al P 24 r10.2).bind fun r11 =>
 (st P 24 r11.1 r9.1 r11.2).bind fun r12 =>
 (vl r10.1 r12.2).bind fun r13 =>
 (ld P 24 r11.1 r13.2).bind fun r14 =>
 (vl r13.1 r14.2).bind fun r15 =>
 (EV P 32 #[r14.1, r15.1] r15.2).bind fun r16 =>
 (vl r16.1 r16.2).bind fun r17 =>
 (xt P r17.1 0 r17.2).bind fun r18 =>
 (xt P r17.1 1 r18.2).bind fun r19 =>
 (al P 24 r19.2).bind fun r20 =>
 (st P 24 r20.1 r18.1 r20.2).bind fun r21 =>
 (vl r19.1 r21.2).bind fun r22 =>
 (ld P 24 r11.1 r22.2).bind fun r23 =>
 (vl r13.1 r23.2).bind fun r24 =>
 (EV P 33 #[r23.1, r24.1] r24.2).bind fun r25 =>
 (vl r25.1 r25.2).bind fun r26 =>
 (xt P r26.1 0 r26.2).bind fun r27 =>
 (xt P r26.1 1 r27.2).bind fun r28 =>
 (al P 24 r28.2).bind fun r29 =>
 (st P 24 r29.1 r27.1 r29.2).bind fun r30 =>
 (vl r28.1 r30.2).bind fun r31 =>
 (vl r22.1 r31.2).bind fun r32 =>
 (vl r31.1 r32.2).bind fun r33 =>
 (bo P .neq 4 (.tmp 33) (.tmp 34) r32.1 r33.1 r33.2).bind fun r34 =>
 (vl r34.1 r34.2).bind fun r35 =>
 (gif r35.1 false (ld P 24 r20.1 r35.2) r35.2).bind fun r36 =>
 (gif r35.1 false (ld P 24 r29.1 r36.2) r36.2).bind fun r37 =>
 (gif r35.1 false (EV P 17 #[r36.1, r37.1] r37.2) r37.2).bind fun r38 =>
 (gif r35.1 false (uo P .not r38.1 r38.2) r38.2).bind fun r39 =>
 (pickV r35.1 (.bool true) r39.1 r39.2).bind fun r40 =>
 (vl r40.1 r40.2).bind fun r41 =>
 (gif r41.1 false (ld P 24 r11.1 r41.2) r41.2).bind fun r42 =>
 (gif r41.1 false (EV P 18 #[r42.1] r42.2) r42.2).bind fun r43 =>
 (gif r41.1 false (uo P .not r43.1 r43.2) r43.2).bind fun r44 =>
 (pickV r41.1 (.bool true) r44.1 r44.2).bind fun r45 =>
 cnd r45.1 (
 (vl r22.1 r45.2).bind fun r46 =>
 (vl r31.1 r46.2).bind fun r47 =>
 (bo P .eql 4 (.tmp 47) (.tmp 48) r46.1 r47.1 r47.2).bind fun r48 =>
 (vl r48.1 r48.2).bind fun r49 =>
 (gif r49.1 true (ld P 24 r20.1 r49.2) r49.2).bind fun r50 =>
 (gif r49.1 true (ld P 24 r29.1 r50.2) r50.2).bind fun r51 =>
 (gif r49.1 true (EV P 17 #[r50.1, r51.1] r51.2) r51.2).bind fun r52 =>
 (pickV r49.1 r52.1 (.bool false) r52.2).bind fun r53 =>
 (vl r53.1 r53.2).bind fun r54 =>
 some (r54.1, r54.2)) (
 (ld P 24 r11.1 r45.2).bind fun r55 =>
 (al P 24 r55.2).bind fun r56 =>
 (st P 24 r56.1 r55.1 r56.2).bind fun r57 =>
 (vl (.int .i64 0) r57.2).bind fun r58 =>
 laws_FnChainDrain_l1 (ups (env0 #[x0]) [(2, r1.1), (13, r2.1), (14, r3.1), (15, r4.1), (17, r6.1), (18, r7.1), (16, r8.1), (19, r9.1), (20, r10.1), (3, r11.1), (4, r13.1), (22, r14.1), (23, r15.1), (24, r16.1), (21, r17.1), (25, r18.1), (26, r19.1), (5, r20.1), (6, r22.1), (28, r23.1), (29, r24.1), (30, r25.1), (27, r26.1), (31, r27.1), (32, r28.1), (7, r29.1), (8, r31.1), (33, r32.1), (34, r33.1), (35, r34.1), (36, r35.1), (37, r36.1), (38, r37.1), (39, r38.1), (40, r39.1), (41, r40.1), (42, r41.1), (43, r42.1), (44, r43.1), (45, r44.1), (46, r45.1), (55, r55.1), (9, r56.1), (10, r58.1)]) r58.2)) := by kernel_rfl

/-! laws_FnExactChainStable -/
theorem laws_FnExactChainStable_fn (x0 : Value) (w : World) : fnC P (EV P) 8 #[x0] w =
 (bx P 41 x0 w).bind fun r1 =>
 (vl (.bool false) r1.2).bind fun r2 =>
 (vl (.int .i64 1048576) r2.2).bind fun r3 =>
 (ld P 41 r1.1 r3.2).bind fun r4 =>
 (vl r3.1 r4.2).bind fun r5 =>
 (EV P 22 #[r4.1, r5.1] r5.2).bind fun r6 =>
 (vl r6.1 r6.2).bind fun r7 =>
 (vl r7.1 r7.2).bind fun r8 =>
 (bo P .lss 3 (.tmp 14) (.const (.int .i64 0)) r8.1 (.int .i64 0) r8.2).bind fun r9 =>
 cnd r9.1 (
 (vl (.bool true) r9.2).bind fun r10 =>
 some (r10.1, r10.2)) (
 (ld P 41 r1.1 r9.2).bind fun r11 =>
 (EV P 24 #[r11.1] r11.2).bind fun r12 =>
 (EV P 34 #[r12.1] r12.2).bind fun r13 =>
 (al P 35 r13.2).bind fun r14 =>
 (st P 35 r14.1 r13.1 r14.2).bind fun r15 =>
 (ld P 41 r1.1 r15.2).bind fun r16 =>
 (EV P 24 #[r16.1] r16.2).bind fun r17 =>
 (al P 24 r17.2).bind fun r18 =>
 (st P 24 r18.1 r17.1 r18.2).bind fun r19 =>
 (ld P 24 r18.1 r19.2).bind fun r20 =>
 (EV P 20 #[r20.1] r20.2).bind fun r21 =>
 (al P 35 r21.2).bind fun r22 =>
 (st P 35 r22.1 r21.1 r22.2).bind fun r23 =>
 (ld P 35 r22.1 r23.2).bind fun r24 =>
 (ld P 35 r14.1 r24.2).bind fun r25 =>
 (EV P 35 #[r24.1, r25.1] r25.2).bind fun r26 =>
 (uo P .not r26.1 r26.2).bind fun r27 =>
 cnd r27.1 (
 (vl (.bool false) r27.2).bind fun r28 =>
 some (r28.1, r28.2)) (
 (ld P 24 r18.1 (dw r27.2)).bind fun r30 =>
 ifP (r30.2 = (dw r27.2)) <|
 (ld P 41 r1.1 (dw r27.2)).bind fun r31 =>
 ifP (r31.2 = (dw r27.2)) <|
 (EV P 24 #[r31.1] (dw r27.2)).bind fun r32 =>
 ifP (True ∧ ld P 24 r18.1 r32.2 = some (r30.1, r32.2) ∧ True) <|
 (EV P 13 #[r30.1, r32.1] r32.2).bind fun r33 =>
 ifP (True ∧ True ∧ True) <|
 (uo P .not r33.1 r33.2).bind fun r34 =>
 ifP (r34.2 = r33.2) <|
 cnd r34.1 (
 (vl (.bool false) r33.2).bind fun r35 =>
 some (r35.1, r35.2)) (
 (vl (.int .i64 1) r33.2).bind fun r36 =>
 (ld P 24 r18.1 r36.2).bind fun r37 =>
 (vl r36.1 r37.2).bind fun r38 =>
 (EV P 14 #[r37.1, r38.1] r38.2).bind fun r39 =>
 (vl r39.1 r39.2).bind fun r40 =>
 (vl r40.1 r40.2).bind fun r41 =>
 (bo P .lss 3 (.tmp 35) (.const (.int .i64 0)) r41.1 (.int .i64 0) r41.2).bind fun r42 =>
 (vl r42.1 r42.2).bind fun r43 =>
 (gif r43.1 false (ld P 35 r22.1 r43.2) r43.2).bind fun r44 =>
 (gif r43.1 false (ld P 35 r14.1 r44.2) r44.2).bind fun r45 =>
 (gif r43.1 false (EV P 35 #[r44.1, r45.1] r45.2) r45.2).bind fun r46 =>
 (gif r43.1 false (uo P .not r46.1 r46.2) r46.2).bind fun r47 =>
 (pickV r43.1 (.bool true) r47.1 r47.2).bind fun r48 =>
 cnd r48.1 (
 (vl (.bool false) r48.2).bind fun r49 =>
 some (r49.1, r49.2)) (
 (vl (.int .i64 1) r48.2).bind fun r50 =>
 (ld P 35 r22.1 r50.2).bind fun r51 =>
 (vl r50.1 r51.2).bind fun r52 =>
 (EV P 36 #[r51.1, r52.1] r52.2).bind fun r53 =>
 (vl r53.1 r53.2).bind fun r54 =>
 (vl (.int .i64 1) r54.2).bind fun r55 =>
 (ld P 35 r22.1 r55.2).bind fun r56 =>
 (vl r55.1 r56.2).bind fun r57 =>
 (EV P 37 #[r56.1, r57.1] r57.2).bind fun r58 =>
 (vl r58.1 r58.2).bind fun r59 =>
 (vl r59.1 r59.2).bind fun r60 =>
 (bo P .lss 3 (.tmp 49) (.const (.int .i64 0)) r60.1 (.int .i64 0) r60.2).bind fun r61 =>
 cnd r61.1 (
 (vl (.bool false) r61.2).bind fun r62 =>
 some (r62.1, r62.2)) (
 (vl r59.1 r61.2).bind fun r63 =>
 (vl r54.1 r63.2).bind fun r64 =>
 (bo P .neq 3 (.tmp 51) (.tmp 52) r63.1 r64.1 r64.2).bind fun r65 =>
 cnd r65.1 (
 (vl (.bool false) r65.2).bind fun r66 =>
 some (r66.1, r66.2)) (
 (ld P 41 r1.1 r65.2).bind fun r67 =>
 (EV P 24 #[r67.1] r67.2).bind fun r68 =>
 (EV P 20 #[r68.1] r68.2).bind fun r69 =>
 (al P 35 r69.2).bind fun r70 =>
 (st P 35 r70.1 r69.1 r70.2).bind fun r71 =>
 (ld P 35 r70.1 r71.2).bind fun r72 =>
 (ld P 35 r14.1 r72.2).bind fun r73 =>
 (EV P 35 #[r72.1, r73.1] r73.2).bind fun r74 =>
 (uo P .not r74.1 r74.2).bind fun r75 =>
 cnd r75.1 (
 (vl (.bool false) r75.2).bind fun r76 =>
 some (r76.1, r76.2)) (
 (vl (.int .i64 1) r75.2).bind fun r77 =>
 (ld P 35 r22.1 r77.2).bind fun r78 =>
 (vl r77.1 r78.2).bind fun r79 =>
 (EV P 37 #[r78.1, r79.1] r79.2).bind fun r80 =>
 (vl r80.1 r80.2).bind fun r81 =>
 (vl r81.1 r81.2).bind fun r82 =>
 (bo P .lss 3 (.tmp 64) (.const (.int .i64 0)) r82.1 (.int .i64 0) r82.2).bind fun r83 =>
 cnd r83.1 (
 (vl (.bool false) r83.2).bind fun r84 =>
 some (r84.1, r84.2)) (
 (vl r81.1 r83.2).bind fun r85 =>
 (vl r54.1 r85.2).bind fun r86 =>
 (bo P .neq 3 (.tmp 66) (.tmp 67) r85.1 r86.1 r86.2).bind fun r87 =>
 cnd r87.1 (
 (vl (.bool false) r87.2).bind fun r88 =>
 some (r88.1, r88.2)) (
 (vl (.bool true) r87.2).bind fun r89 =>
 some (r89.1, r89.2)))))))))) := by kernel_rfl

/-! laws_FnExactChainShows -/
theorem laws_FnExactChainShows_fn (x0 x1 x2 : Value) (w : World) : fnC P (EV P) 9 #[x0, x1, x2] w =
 (bx P 41 x0 w).bind fun r1 =>
 (vl (.bool false) r1.2).bind fun r2 =>
 (vl (.int .i64 1048576) r2.2).bind fun r3 =>
 (ld P 41 r1.1 r3.2).bind fun r4 =>
 (vl r3.1 r4.2).bind fun r5 =>
 (EV P 22 #[r4.1, r5.1] r5.2).bind fun r6 =>
 (vl r6.1 r6.2).bind fun r7 =>
 (vl r7.1 r7.2).bind fun r8 =>
 (bo P .lss 3 (.tmp 21) (.const (.int .i64 0)) r8.1 (.int .i64 0) r8.2).bind fun r9 =>
 cnd r9.1 (
 (vl (.bool true) r9.2).bind fun r10 =>
 some (r10.1, r10.2)) (
 (ld P 41 r1.1 r9.2).bind fun r11 =>
 (EV P 24 #[r11.1] r11.2).bind fun r12 =>
 (vl x1 r12.2).bind fun r13 =>
 (vl x2 r13.2).bind fun r14 =>
 (EV P 38 #[r12.1, r13.1, r14.1] r14.2).bind fun r15 =>
 (vl r15.1 r15.2).bind fun r16 =>
 (xt P r16.1 0 r16.2).bind fun r17 =>
 (xt P r16.1 1 r17.2).bind fun r18 =>
 (al P 48 r18.2).bind fun r19 =>
 (st P 48 r19.1 r17.1 r19.2).bind fun r20 =>
 (vl r18.1 r20.2).bind fun r21 =>
 (ld P 41 r1.1 r21.2).bind fun r22 =>
 (EV P 24 #[r22.1] r22.2).bind fun r23 =>
 (al P 24 r23.2).bind fun r24 =>
 (st P 24 r24.1 r23.1 r24.2).bind fun r25 =>
 (ld P 24 r24.1 r25.2).bind fun r26 =>
 (vl x1 r26.2).bind fun r27 =>
 (vl x2 r27.2).bind fun r28 =>
 (EV P 39 #[r26.1, r27.1, r28.1] r28.2).bind fun r29 =>
 (vl r29.1 r29.2).bind fun r30 =>
 (xt P r30.1 0 r30.2).bind fun r31 =>
 (xt P r30.1 1 r31.2).bind fun r32 =>
 (al P 48 r32.2).bind fun r33 =>
 (st P 48 r33.1 r31.1 r33.2).bind fun r34 =>
 (vl r32.1 r34.2).bind fun r35 =>
 (ld P 48 r33.1 r35.2).bind fun r36 =>
 (ld P 48 r19.1 r36.2).bind fun r37 =>
 (EV P 40 #[r36.1, r37.1] r37.2).bind fun r38 =>
 (uo P .not r38.1 r38.2).bind fun r39 =>
 (vl r39.1 r39.2).bind fun r40 =>
 (gif r40.1 false (vl r35.1 r40.2) r40.2).bind fun r41 =>
 (gif r40.1 false (vl r21.1 r41.2) r41.2).bind fun r42 =>
 (gif r40.1 false (bo P .neq 4 (.tmp 45) (.tmp 46) r41.1 r42.1 r42.2) r42.2).bind fun r43 =>
 (pickV r40.1 (.bool true) r43.1 r43.2).bind fun r44 =>
 cnd r44.1 (
 (vl (.bool false) r44.2).bind fun r45 =>
 some (r45.1, r45.2)) (
 (ld P 24 r24.1 (dw r44.2)).bind fun r47 =>
 ifP (r47.2 = (dw r44.2)) <|
 (ld P 41 r1.1 (dw r44.2)).bind fun r48 =>
 ifP (r48.2 = (dw r44.2)) <|
 (EV P 24 #[r48.1] (dw r44.2)).bind fun r49 =>
 ifP (True ∧ ld P 24 r24.1 r49.2 = some (r47.1, r49.2) ∧ True) <|
 (EV P 13 #[r47.1, r49.1] r49.2).bind fun r50 =>
 ifP (True ∧ True ∧ True) <|
 (uo P .not r50.1 r50.2).bind fun r51 =>
 ifP (r51.2 = r50.2) <|
 cnd r51.1 (
 (vl (.bool false) r50.2).bind fun r52 =>
 some (r52.1, r52.2)) (
 (vl (.int .i64 1) r50.2).bind fun r53 =>
 (ld P 24 r24.1 r53.2).bind fun r54 =>
 (vl r53.1 r54.2).bind fun r55 =>
 (EV P 14 #[r54.1, r55.1] r55.2).bind fun r56 =>
 (vl r56.1 r56.2).bind fun r57 =>
 (vl r57.1 r57.2).bind fun r58 =>
 (bo P .lss 3 (.tmp 57) (.const (.int .i64 0)) r58.1 (.int .i64 0) r58.2).bind fun r59 =>
 (vl r59.1 r59.2).bind fun r60 =>
 (gif r60.1 false (ld P 48 r33.1 r60.2) r60.2).bind fun r61 =>
 (gif r60.1 false (ld P 48 r19.1 r61.2) r61.2).bind fun r62 =>
 (gif r60.1 false (EV P 40 #[r61.1, r62.1] r62.2) r62.2).bind fun r63 =>
 (gif r60.1 false (uo P .not r63.1 r63.2) r63.2).bind fun r64 =>
 (pickV r60.1 (.bool true) r64.1 r64.2).bind fun r65 =>
 (vl r65.1 r65.2).bind fun r66 =>
 (gif r66.1 false (vl r35.1 r66.2) r66.2).bind fun r67 =>
 (gif r66.1 false (vl r21.1 r67.2) r67.2).bind fun r68 =>
 (gif r66.1 false (bo P .neq 4 (.tmp 66) (.tmp 67) r67.1 r68.1 r68.2) r68.2).bind fun r69 =>
 (pickV r66.1 (.bool true) r69.1 r69.2).bind fun r70 =>
 cnd r70.1 (
 (vl (.bool false) r70.2).bind fun r71 =>
 some (r71.1, r71.2)) (
 (vl (.int .i64 1) r70.2).bind fun r72 =>
 (ld P 48 r33.1 r72.2).bind fun r73 =>
 (vl r72.1 r73.2).bind fun r74 =>
 (EV P 41 #[r73.1, r74.1] r74.2).bind fun r75 =>
 (vl r75.1 r75.2).bind fun r76 =>
 (vl (.int .i64 1) r76.2).bind fun r77 =>
 (ld P 48 r33.1 r77.2).bind fun r78 =>
 (vl r77.1 r78.2).bind fun r79 =>
 (EV P 42 #[r78.1, r79.1] r79.2).bind fun r80 =>
 (vl r80.1 r80.2).bind fun r81 =>
 (vl r81.1 r81.2).bind fun r82 =>
 (bo P .lss 3 (.tmp 76) (.const (.int .i64 0)) r82.1 (.int .i64 0) r82.2).bind fun r83 =>
 cnd r83.1 (
 (vl (.bool false) r83.2).bind fun r84 =>
 some (r84.1, r84.2)) (
 (vl r81.1 r83.2).bind fun r85 =>
 (vl r76.1 r85.2).bind fun r86 =>
 (bo P .neq 3 (.tmp 78) (.tmp 79) r85.1 r86.1 r86.2).bind fun r87 =>
 cnd r87.1 (
 (vl (.bool false) r87.2).bind fun r88 =>
 some (r88.1, r88.2)) (
 (ld P 41 r1.1 r87.2).bind fun r89 =>
 (EV P 24 #[r89.1] r89.2).bind fun r90 =>
 (vl x1 r90.2).bind fun r91 =>
 (vl x2 r91.2).bind fun r92 =>
 (EV P 39 #[r90.1, r91.1, r92.1] r92.2).bind fun r93 =>
 (vl r93.1 r93.2).bind fun r94 =>
 (xt P r94.1 0 r94.2).bind fun r95 =>
 (xt P r94.1 1 r95.2).bind fun r96 =>
 (al P 48 r96.2).bind fun r97 =>
 (st P 48 r97.1 r95.1 r97.2).bind fun r98 =>
 (vl r96.1 r98.2).bind fun r99 =>
 (ld P 48 r97.1 r99.2).bind fun r100 =>
 (ld P 48 r19.1 r100.2).bind fun r101 =>
 (EV P 40 #[r100.1, r101.1] r101.2).bind fun r102 =>
 (uo P .not r102.1 r102.2).bind fun r103 =>
 (vl r103.1 r103.2).bind fun r104 =>
 (gif r104.1 false (vl r99.1 r104.2) r104.2).bind fun r105 =>
 (gif r104.1 false (vl r21.1 r105.2) r105.2).bind fun r106 =>
 (gif r104.1 false (bo P .neq 4 (.tmp 94) (.tmp 95) r105.1 r106.1 r106.2) r106.2).bind fun r107 =>
 (pickV r104.1 (.bool true) r107.1 r107.2).bind fun r108 =>
 cnd r108.1 (
 (vl (.bool false) r108.2).bind fun r109 =>
 some (r109.1, r109.2)) (
 (vl (.int .i64 1) r108.2).bind fun r110 =>
 (ld P 48 r33.1 r110.2).bind fun r111 =>
 (vl r110.1 r111.2).bind fun r112 =>
 (EV P 42 #[r111.1, r112.1] r112.2).bind fun r113 =>
 (vl r113.1 r113.2).bind fun r114 =>
 (vl r114.1 r114.2).bind fun r115 =>
 (bo P .lss 3 (.tmp 101) (.const (.int .i64 0)) r115.1 (.int .i64 0) r115.2).bind fun r116 =>
 cnd r116.1 (
 (vl (.bool false) r116.2).bind fun r117 =>
 some (r117.1, r117.2)) (
 (vl r114.1 r116.2).bind fun r118 =>
 (vl r76.1 r118.2).bind fun r119 =>
 (bo P .neq 3 (.tmp 103) (.tmp 104) r118.1 r119.1 r119.2).bind fun r120 =>
 cnd r120.1 (
 (vl (.bool false) r120.2).bind fun r121 =>
 some (r121.1, r121.2)) (
 (vl (.bool true) r120.2).bind fun r122 =>
 some (r122.1, r122.2)))))))))) := by kernel_rfl

/-! laws_FnExactChainJoin -/
theorem laws_FnExactChainJoin_fn (x0 : Value) (w : World) : fnC P (EV P) 10 #[x0] w =
 (bx P 41 x0 w).bind fun r1 =>
 (vl (.bool false) r1.2).bind fun r2 =>
 (vl (.int .i64 1048576) r2.2).bind fun r3 =>
 (ld P 41 r1.1 r3.2).bind fun r4 =>
 (vl r3.1 r4.2).bind fun r5 =>
 (EV P 22 #[r4.1, r5.1] r5.2).bind fun r6 =>
 (vl r6.1 r6.2).bind fun r7 =>
 (vl r7.1 r7.2).bind fun r8 =>
 (bo P .lss 3 (.tmp 17) (.const (.int .i64 0)) r8.1 (.int .i64 0) r8.2).bind fun r9 =>
 cnd r9.1 (
 (vl (.bool true) r9.2).bind fun r10 =>
 some (r10.1, r10.2)) (
 (ld P 41 r1.1 r9.2).bind fun r11 =>
 (EV P 24 #[r11.1] r11.2).bind fun r12 =>
 (EV P 43 #[r12.1] r12.2).bind fun r13 =>
 (vl r13.1 r13.2).bind fun r14 =>
 (xt P r14.1 0 r14.2).bind fun r15 =>
 (xt P r14.1 1 r15.2).bind fun r16 =>
 (al P 24 r16.2).bind fun r17 =>
 (st P 24 r17.1 r15.1 r17.2).bind fun r18 =>
 (vl r16.1 r18.2).bind fun r19 =>
 (ld P 41 r1.1 r19.2).bind fun r20 =>
 (EV P 24 #[r20.1] r20.2).bind fun r21 =>
 (al P 24 r21.2).bind fun r22 =>
 (st P 24 r22.1 r21.1 r22.2).bind fun r23 =>
 (ld P 24 r22.1 r23.2).bind fun r24 =>
 (EV P 44 #[r24.1] r24.2).bind fun r25 =>
 (vl r25.1 r25.2).bind fun r26 =>
 (xt P r26.1 0 r26.2).bind fun r27 =>
 (xt P r26.1 1 r27.2).bind fun r28 =>
 (al P 24 r28.2).bind fun r29 =>
 (st P 24 r29.1 r27.1 r29.2).bind fun r30 =>
 (vl r28.1 r30.2).bind fun r31 =>
 (ld P 24 r29.1 r31.2).bind fun r32 =>
 (ld P 24 r17.1 r32.2).bind fun r33 =>
 (EV P 13 #[r32.1, r33.1] r33.2).bind fun r34 =>
 (uo P .not r34.1 r34.2).bind fun r35 =>
 (vl r35.1 r35.2).bind fun r36 =>
 (gif r36.1 false (vl r31.1 r36.2) r36.2).bind fun r37 =>
 (gif r36.1 false (vl r19.1 r37.2) r37.2).bind fun r38 =>
 (gif r36.1 false (bo P .neq 4 (.tmp 37) (.tmp 38) r37.1 r38.1 r38.2) r38.2).bind fun r39 =>
 (pickV r36.1 (.bool true) r39.1 r39.2).bind fun r40 =>
 cnd r40.1 (
 (vl (.bool false) r40.2).bind fun r41 =>
 some (r41.1, r41.2)) (
 (ld P 24 r22.1 (dw r40.2)).bind fun r43 =>
 ifP (r43.2 = (dw r40.2)) <|
 (ld P 41 r1.1 (dw r40.2)).bind fun r44 =>
 ifP (r44.2 = (dw r40.2)) <|
 (EV P 24 #[r44.1] (dw r40.2)).bind fun r45 =>
 ifP (True ∧ ld P 24 r22.1 r45.2 = some (r43.1, r45.2) ∧ True) <|
 (EV P 13 #[r43.1, r45.1] r45.2).bind fun r46 =>
 ifP (True ∧ True ∧ True) <|
 (uo P .not r46.1 r46.2).bind fun r47 =>
 ifP (r47.2 = r46.2) <|
 cnd r47.1 (
 (vl (.bool false) r46.2).bind fun r48 =>
 some (r48.1, r48.2)) (
 (vl (.int .i64 1) r46.2).bind fun r49 =>
 (ld P 24 r22.1 r49.2).bind fun r50 =>
 (vl r49.1 r50.2).bind fun r51 =>
 (EV P 14 #[r50.1, r51.1] r51.2).bind fun r52 =>
 (vl r52.1 r52.2).bind fun r53 =>
 (vl r53.1 r53.2).bind fun r54 =>
 (bo P .lss 3 (.tmp 49) (.const (.int .i64 0)) r54.1 (.int .i64 0) r54.2).bind fun r55 =>
 (vl r55.1 r55.2).bind fun r56 =>
 (gif r56.1 false (ld P 24 r29.1 r56.2) r56.2).bind fun r57 =>
 (gif r56.1 false (ld P 24 r17.1 r57.2) r57.2).bind fun r58 =>
 (gif r56.1 false (EV P 13 #[r57.1, r58.1] r58.2) r58.2).bind fun r59 =>
 (gif r56.1 false (uo P .not r59.1 r59.2) r59.2).bind fun r60 =>
 (pickV r56.1 (.bool true) r60.1 r60.2).bind fun r61 =>
 (vl r61.1 r61.2).bind fun r62 =>
 (gif r62.1 false (vl r31.1 r62.2) r62.2).bind fun r63 =>
 (gif r62.1 false (vl r19.1 r63.2) r63.2).bind fun r64 =>
 (gif r62.1 false (bo P .neq 4 (.tmp 58) (.tmp 59) r63.1 r64.1 r64.2) r64.2).bind fun r65 =>
 (pickV r62.1 (.bool true) r65.1 r65.2).bind fun r66 =>
 cnd r66.1 (
 (vl (.bool false) r66.2).bind fun r67 =>
 some (r67.1, r67.2)) (
 (vl (.int .i64 1) r66.2).bind fun r68 =>
 (ld P 24 r29.1 r68.2).bind fun r69 =>
 (vl r68.1 r69.2).bind fun r70 =>
 (EV P 14 #[r69.1, r70.1] r70.2).bind fun r71 =>
 (vl r71.1 r71.2).bind fun r72 =>
 (vl (.int .i64 1) r72.2).bind fun r73 =>
 (ld P 24 r29.1 r73.2).bind fun r74 =>
 (vl r73.1 r74.2).bind fun r75 =>
 (EV P 15 #[r74.1, r75.1] r75.2).bind fun r76 =>
 (vl r76.1 r76.2).bind fun r77 =>
 (vl r77.1 r77.2).bind fun r78 =>
 (bo P .lss 3 (.tmp 68) (.const (.int .i64 0)) r78.1 (.int .i64 0) r78.2).bind fun r79 =>
 cnd r79.1 (
 (vl (.bool false) r79.2).bind fun r80 =>
 some (r80.1, r80.2)) (
 (vl r77.1 r79.2).bind fun r81 =>
 (vl r72.1 r81.2).bind fun r82 =>
 (bo P .neq 3 (.tmp 70) (.tmp 71) r81.1 r82.1 r82.2).bind fun r83 =>
 cnd r83.1 (
 (vl (.bool false) r83.2).bind fun r84 =>
 some (r84.1, r84.2)) (
 (ld P 41 r1.1 r83.2).bind fun r85 =>
 (EV P 24 #[r85.1] r85.2).bind fun r86 =>
 (EV P 44 #[r86.1] r86.2).bind fun r87 =>
 (vl r87.1 r87.2).bind fun r88 =>
 (xt P r88.1 0 r88.2).bind fun r89 =>
 (xt P r88.1 1 r89.2).bind fun r90 =>
 (al P 24 r90.2).bind fun r91 =>
 (st P 24 r91.1 r89.1 r91.2).bind fun r92 =>
 (vl r90.1 r92.2).bind fun r93 =>
 (ld P 24 r91.1 r93.2).bind fun r94 =>
 (ld P 24 r17.1 r94.2).bind fun r95 =>
 (EV P 13 #[r94.1, r95.1] r95.2).bind fun r96 =>
 (uo P .not r96.1 r96.2).bind fun r97 =>
 (vl r97.1 r97.2).bind fun r98 =>
 (gif r98.1 false (vl r93.1 r98.2) r98.2).bind fun r99 =>
 (gif r98.1 false (vl r19.1 r99.2) r99.2).bind fun r100 =>
 (gif r98.1 false (bo P .neq 4 (.tmp 84) (.tmp 85) r99.1 r100.1 r100.2) r100.2).bind fun r101 =>
 (pickV r98.1 (.bool true) r101.1 r101.2).bind fun r102 =>
 cnd r102.1 (
 (vl (.bool false) r102.2).bind fun r103 =>
 some (r103.1, r103.2)) (
 (vl (.int .i64 1) r102.2).bind fun r104 =>
 (ld P 24 r29.1 r104.2).bind fun r105 =>
 (vl r104.1 r105.2).bind fun r106 =>
 (EV P 15 #[r105.1, r106.1] r106.2).bind fun r107 =>
 (vl r107.1 r107.2).bind fun r108 =>
 (vl r108.1 r108.2).bind fun r109 =>
 (bo P .lss 3 (.tmp 91) (.const (.int .i64 0)) r109.1 (.int .i64 0) r109.2).bind fun r110 =>
 cnd r110.1 (
 (vl (.bool false) r110.2).bind fun r111 =>
 some (r111.1, r111.2)) (
 (vl r108.1 r110.2).bind fun r112 =>
 (vl r72.1 r112.2).bind fun r113 =>
 (bo P .neq 3 (.tmp 93) (.tmp 94) r112.1 r113.1 r113.2).bind fun r114 =>
 cnd r114.1 (
 (vl (.bool false) r114.2).bind fun r115 =>
 some (r115.1, r115.2)) (
 (vl (.bool true) r114.2).bind fun r116 =>
 some (r116.1, r116.2)))))))))) := by kernel_rfl

/-! spec_ChainNew -/
noncomputable def spec_ChainNew_l1 (e : Env) (w : World) : Option (Value × World) := exC P (EV P) 11 23 (.loop (cA (cA (cB (cA (cB (cB (cB (bodyOf P 11))))))))) e w (kBlock 0 (kSeq P (EV P) 11 23 (cB (cB (cB (cB (bodyOf P 11))))) (kFn P (fnOf P 11))))
theorem spec_ChainNew_l1_eq (e : Env) (w : World) : spec_ChainNew_l1 e w =
 (vl (e 4) w).bind fun r1 =>
 (vl (e 0) r1.2).bind fun r2 =>
 (bo P .lss 3 (.tmp 10) (.tmp 11) r1.1 r2.1 r2.2).bind fun r3 =>
 cnd r3.1 (
 (fa P 24 (e 3) 0 (dw r3.2)).bind fun r5 =>
 ifP (r5.2 = (dw r3.2)) <|
 (ld P 22 r5.1 (dw r3.2)).bind fun r6 =>
 ifP (r6.2 = (dw r3.2)) <|
 (EV P 46 #[] (dw r3.2)).bind fun r7 =>
 ifP (ld P 22 r5.1 r7.2 = some (r6.1, r7.2) ∧ fa P 24 (e 3) 0 r7.2 = some (r5.1, r7.2) ∧ True) <|
 (bd P 59 #[(0, r7.1)] r7.2).bind fun r8 =>
 ifP (r8.2 = r7.2) <|
 (bs P 22 1 #[(0, r8.1)] r7.2).bind fun r9 =>
 ifP (True ∧ ld P 22 r5.1 r9.2 = some (r6.1, r9.2) ∧ fa P 24 (e 3) 0 r9.2 = some (r5.1, r9.2) ∧ True) <|
 (b_append P #[22, 22] 22 #[r6.1, r9.1] r9.2).bind fun r10 =>
 ifP (True ∧ True ∧ True ∧ True) <|
 (fa P 24 (e 3) 0 r10.2).bind fun r11 =>
 ifP (r11.2 = r10.2) <|
 (st P 22 r11.1 r10.1 r10.2).bind fun r12 =>
 ifP (True ∧ True ∧ True ∧ True ∧ True) <|
 (vl (e 4) r12.2).bind fun r13 =>
 (bo P .add 3 (.tmp 13) (.const (.int .i64 1)) r13.1 (.int .i64 1) r13.2).bind fun r14 =>
 (vl r14.1 r14.2).bind fun r15 =>
 spec_ChainNew_l1 (ups e [(10, r1.1), (11, r2.1), (12, r3.1), (15, r5.1), (16, r6.1), (17, r7.1), (18, r8.1), (19, r9.1), (20, r10.1), (21, r11.1), (13, r13.1), (14, r14.1), (4, r15.1)]) r15.2) (
 (ld P 24 (e 3) r3.2).bind fun r16 =>
 (st P 24 (e 2) r16.1 r16.2).bind fun r17 =>
 ((ld P 24 (e 2) r17.2).bind fun r18 => ifP (r18.2 = r17.2) (some r18.1)).bind fun v19 =>
 some (v19, r17.2)) := (exC_loop P (EV P) 11 23 (cA (cA (cB (cA (cB (cB (cB (bodyOf P 11)))))))) e w (kBlock 0 (kSeq P (EV P) 11 23 (cB (cB (cB (cB (bodyOf P 11))))) (kFn P (fnOf P 11))))).trans (by kernel_rfl)
theorem spec_ChainNew_fn (x0 : Value) (w : World) : fnC P (EV P) 11 #[x0] w =
 (al P 24 w).bind fun r1 =>
 (bd P 24 #[] r1.2).bind fun r2 =>
 (al P 24 r2.2).bind fun r3 =>
 (st P 24 r3.1 r2.1 r3.2).bind fun r4 =>
 (vl x0 r4.2).bind fun r5 =>
 (EV P 45 #[r5.1, (.int .i64 1), (.int .i64 4)] r5.2).bind fun r6 =>
 (uo P .not r6.1 r6.2).bind fun r7 =>
 cnd r7.1 (
 (ld P 24 r3.1 r7.2).bind fun r8 =>
 (st P 24 r1.1 r8.1 r8.2).bind fun r9 =>
 ((ld P 24 r1.1 r9.2).bind fun r10 => ifP (r10.2 = r9.2) (some r10.1)).bind fun v11 =>
 some (v11, r9.2)) (
 (vl (.int .i64 0) r7.2).bind fun r12 =>
 spec_ChainNew_l1 (ups (env0 #[x0]) [(2, r1.1), (5, r2.1), (3, r3.1), (6, r5.1), (7, r6.1), (8, r7.1), (4, r12.1)]) r12.2) := by kernel_rfl

/-! impl_ChainNew -/
noncomputable def impl_ChainNew_l1 (e : Env) (w : World) : Option (Value × World) := exC P (EV P) 12 23 (.loop (cA (cA (cB (cA (cB (cB (cB (bodyOf P 12))))))))) e w (kBlock 0 (kSeq P (EV P) 12 23 (cB (cB (cB (cB (bodyOf P 12))))) (kFn P (fnOf P 12))))
theorem impl_ChainNew_l1_eq (e : Env) (w : World) : impl_ChainNew_l1 e w =
 (bo P .lss 3 (.tmp 12) (.tmp 11) (e 12) (e 11) w).bind fun r1 =>
 cnd r1.1 (
 (fa P 24 (e 3) 0 (dw r1.2)).bind fun r3 =>
 ifP (r3.2 = (dw r1.2)) <|
 (ld P 22 r3.1 (dw r1.2)).bind fun r4 =>
 ifP (r4.2 = (dw r1.2)) <|
 (EV P 48 #[] (dw r1.2)).bind fun r5 =>
 ifP (ld P 22 r3.1 r5.2 = some (r4.1, r5.2) ∧ fa P 24 (e 3) 0 r5.2 = some (r3.1, r5.2) ∧ True) <|
 (bd P 59 #[(0, r5.1)] r5.2).bind fun r6 =>
 ifP (r6.2 = r5.2) <|
 (bs P 22 1 #[(0, r6.1)] r5.2).bind fun r7 =>
 ifP (True ∧ ld P 22 r3.1 r7.2 = some (r4.1, r7.2) ∧ fa P 24 (e 3) 0 r7.2 = some (r3.1, r7.2) ∧ True) <|
 (b_append P #[22, 22] 22 #[r4.1, r7.1] r7.2).bind fun r8 =>
 ifP (True ∧ True ∧ True ∧ True) <|
 (fa P 24 (e 3) 0 r8.2).bind fun r9 =>
 ifP (r9.2 = r8.2) <|
 (st P 22 r9.1 r8.1 r8.2).bind fun r10 =>
 ifP (True ∧ True ∧ True ∧ True ∧ True) <|
 (bo P .add 3 (.tmp 12) (.const (.int .i64 1)) (e 12) (.int .i64 1) r10.2).bind fun r11 =>
 (vl r11.1 r11.2).bind fun r12 =>
 impl_ChainNew_l1 (ups e [(13, r1.1), (14, r3.1), (15, r4.1), (16, r5.1), (17, r6.1), (18, r7.1), (19, r8.1), (20, r9.1), (21, r11.1), (12, r12.1)]) r12.2) (
 (ld P 24 (e 3) r1.2).bind fun r13 =>
 (st P 24 (e 2) r13.1 r13.2).bind fun r14 =>
 ((ld P 24 (e 2) r14.2).bind fun r15 => ifP (r15.2 = r14.2) (some r15.1)).bind fun v16 =>
 some (v16, r14.2)) := (exC_loop P (EV P) 12 23 (cA (cA (cB (cA (cB (cB (cB (bodyOf P 12)))))))) e w (kBlock 0 (kSeq P (EV P) 12 23 (cB (cB (cB (cB (bodyOf P 12))))) (kFn P (fnOf P 12))))).trans (by kernel_rfl)
theorem impl_ChainNew_fn (x0 : Value) (w : World) : fnC P (EV P) 12 #[x0] w =
 (al P 24 w).bind fun r1 =>
 (vl x0 r1.2).bind fun r2 =>
 (EV P 47 #[r2.1] r2.2).bind fun r3 =>
 (uo P .not r3.1 r3.2).bind fun r4 =>
 cnd r4.1 (
 (bd P 24 #[] r4.2).bind fun r5 =>
 (st P 24 r1.1 r5.1 r5.2).bind fun r6 =>
 ((ld P 24 r1.1 r6.2).bind fun r7 => ifP (r7.2 = r6.2) (some r7.1)).bind fun v8 =>
 some (v8, r6.2)) (
 (vl x0 r4.2).bind fun r9 =>
 (ms P 22 (.int .i64 0) r9.1 r9.2).bind fun r10 =>
 (bd P 24 #[(0, r10.1)] r10.2).bind fun r11 =>
 (al P 24 r11.2).bind fun r12 =>
 (st P 24 r12.1 r11.1 r12.2).bind fun r13 =>
 (vl x0 r13.2).bind fun r14 =>
 (vl (.int .i64 0) r14.2).bind fun r15 =>
 impl_ChainNew_l1 (ups (env0 #[x0]) [(2, r1.1), (4, r2.1), (5, r3.1), (6, r4.1), (8, r9.1), (9, r10.1), (10, r11.1), (3, r12.1), (11, r14.1), (12, r15.1)]) r15.2) := by kernel_rfl

/-! laws_eqChain -/
theorem laws_eqChain_fn (x0 x1 : Value) (w : World) : fnC P (EV P) 13 #[x0, x1] w =
 (bx P 24 x0 w).bind fun r1 =>
 (bx P 24 x1 r1.2).bind fun r2 =>
 (vl (.bool false) r2.2).bind fun r3 =>
 (fa P 24 r1.1 0 r3.2).bind fun r4 =>
 (ld P 22 r4.1 r4.2).bind fun r5 =>
 (fa P 24 r2.1 0 r5.2).bind fun r6 =>
 (ld P 22 r6.1 r6.2).bind fun r7 =>
 (EV P 49 #[r5.1, r7.1] r7.2).bind fun r8 =>
 (uo P .not r8.1 r8.2).bind fun r9 =>
 cnd r9.1 (
 (vl (.bool false) r9.2).bind fun r10 =>
 some (r10.1, r10.2)) (
 (vl (.bool true) r9.2).bind fun r11 =>
 some (r11.1, r11.2)) := by kernel_rfl

/-! laws_markChain -/
theorem laws_markChain_fn (x0 x1 : Value) (w : World) : fnC P (EV P) 14 #[x0, x1] w =
 (bx P 24 x0 w).bind fun r1 =>
 (vl (.int .i64 0) r1.2).bind fun r2 =>
 (fa P 24 r1.1 0 r2.2).bind fun r3 =>
 (ld P 22 r3.1 r3.2).bind fun r4 =>
 (vl x1 r4.2).bind fun r5 =>
 (EV P 50 #[r4.1, r5.1] r5.2).bind fun r6 =>
 (vl r6.1 r6.2).bind fun r7 =>
 (vl r7.1 r7.2).bind fun r8 =>
 (vl r8.1 r8.2).bind fun r9 =>
 some (r9.1, r9.2) := by kernel_rfl

/-! laws_heldChain -/
theorem laws_heldChain_fn (x0 x1 : Value) (w : World) : fnC P (EV P) 15 #[x0, x1] w =
 (bx P 24 x0 w).bind fun r1 =>
 (vl (.int .i64 0) r1.2).bind fun r2 =>
 (fa P 24 r1.1 0 r2.2).bind fun r3 =>
 (ld P 22 r3.1 r3.2).bind fun r4 =>
 (vl x1 r4.2).bind fun r5 =>
 (EV P 51 #[r4.1, r5.1] r5.2).bind fun r6 =>
 (vl r6.1 r6.2).bind fun r7 =>
 (vl r7.1 r7.2).bind fun r8 =>
 (bo P .lss 3 (.tmp 9) (.const (.int .i64 0)) r8.1 (.int .i64 0) r8.2).bind fun r9 =>
 cnd r9.1 (
 (vl (.int .i64 (-1)) r9.2).bind fun r10 =>
 some (r10.1, r10.2)) (
 (vl r7.1 r9.2).bind fun r11 =>
 (vl r11.1 r11.2).bind fun r12 =>
 some (r12.1, r12.2)) := by kernel_rfl

/-! spec_DrawChainNew -/
theorem spec_DrawChainNew_fn (x0 : Value) (w : World) : fnC P (EV P) 16 #[x0] w =
 (vl (.int .i64 0) w).bind fun r1 =>
 (vl x0 r1.2).bind fun r2 =>
 (EV P 52 #[r2.1] r2.2).bind fun r3 =>
 (bs P 78 6 #[(0, (.int .i64 1)), (1, (.int .i64 2)), (2, (.int .i64 3)), (3, (.int .i64 4)), (4, (.int .i64 0)), (5, (.int .i64 5))] r3.2).bind fun r4 =>
 (EV P 53 #[r3.1, r4.1] r4.2).bind fun r5 =>
 (vl r5.1 r5.2).bind fun r6 =>
 some (r6.1, r6.2) := by kernel_rfl

/-! laws_cfChain -/
noncomputable def laws_cfChain_l1 (e : Env) (w : World) : Option (Value × World) := exC P (EV P) 17 50 (.loop (cA (cA (cB (cA (cB (cB (bodyOf P 17)))))))) e w (kBlock 0 (kSeq P (EV P) 17 50 (cB (cB (cB (bodyOf P 17)))) (kFn P (fnOf P 17))))
theorem laws_cfChain_l1_eq (e : Env) (w : World) : laws_cfChain_l1 e w =
 (vl (e 5) w).bind fun r1 =>
 (fa P 24 (e 2) 0 r1.2).bind fun r2 =>
 (ld P 22 r2.1 r2.2).bind fun r3 =>
 (b_len P #[22] 3 #[r3.1] r3.2).bind fun r4 =>
 (bo P .lss 3 (.tmp 13) (.tmp 16) r1.1 r4.1 r4.2).bind fun r5 =>
 cnd r5.1 (
 (fa P 24 (e 2) 0 (dw r5.2)).bind fun r7 =>
 ifP (r7.2 = (dw r5.2)) <|
 (ld P 22 r7.1 (dw r5.2)).bind fun r8 =>
 ifP (r8.2 = (dw r5.2)) <|
 (vl (e 5) (dw r5.2)).bind fun r9 =>
 ifP (r9.2 = (dw r5.2)) <|
 (ia P 22 r8.1 r9.1 (dw r5.2)).bind fun r10 =>
 ifP (r10.2 = (dw r5.2)) <|
 (fa P 59 r10.1 0 (dw r5.2)).bind fun r11 =>
 ifP (r11.2 = (dw r5.2)) <|
 (ld P 57 r11.1 (dw r5.2)).bind fun r12 =>
 ifP (r12.2 = (dw r5.2)) <|
 (fa P 24 (e 3) 0 (dw r5.2)).bind fun r13 =>
 ifP (r13.2 = (dw r5.2)) <|
 (ld P 22 r13.1 (dw r5.2)).bind fun r14 =>
 ifP (r14.2 = (dw r5.2)) <|
 (vl (e 5) (dw r5.2)).bind fun r15 =>
 ifP (r15.2 = (dw r5.2)) <|
 (ia P 22 r14.1 r15.1 (dw r5.2)).bind fun r16 =>
 ifP (r16.2 = (dw r5.2)) <|
 (fa P 59 r16.1 0 (dw r5.2)).bind fun r17 =>
 ifP (r17.2 = (dw r5.2)) <|
 (ld P 57 r17.1 (dw r5.2)).bind fun r18 =>
 ifP (r18.2 = (dw r5.2)) <|
 (EV P 29 #[r12.1, r18.1] (dw r5.2)).bind fun r19 =>
 ifP (True ∧ True ∧ True ∧ True ∧ True ∧ True ∧ True ∧ True ∧ True ∧ True ∧ True) <|
 (uo P .not r19.1 r19.2).bind fun r20 =>
 ifP (r20.2 = r19.2) <|
 (vl r20.1 r19.2).bind fun r21 =>
 ifP (r21.2 = r19.2) <|
 (gif r21.1 false (fa P 24 (e 2) 0 r19.2) r19.2).bind fun r22 =>
 ifP (r22.2 = r19.2) <|
 (gif r21.1 false (ld P 22 r22.1 r19.2) r19.2).bind fun r23 =>
 ifP (r23.2 = r19.2) <|
 (gif r21.1 false (vl (e 5) r19.2) r19.2).bind fun r24 =>
 ifP (r24.2 = r19.2) <|
 (gif r21.1 false (ia P 22 r23.1 r24.1 r19.2) r19.2).bind fun r25 =>
 ifP (r25.2 = r19.2) <|
 (gif r21.1 false (fa P 59 r25.1 1 r19.2) r19.2).bind fun r26 =>
 ifP (r26.2 = r19.2) <|
 (gif r21.1 false (ld P 55 r26.1 r19.2) r19.2).bind fun r27 =>
 ifP (r27.2 = r19.2) <|
 (gif r21.1 false (fa P 24 (e 3) 0 r19.2) r19.2).bind fun r28 =>
 ifP (r28.2 = r19.2) <|
 (gif r21.1 false (ld P 22 r28.1 r19.2) r19.2).bind fun r29 =>
 ifP (r29.2 = r19.2) <|
 (gif r21.1 false (vl (e 5) r19.2) r19.2).bind fun r30 =>
 ifP (r30.2 = r19.2) <|
 (gif r21.1 false (ia P 22 r29.1 r30.1 r19.2) r19.2).bind fun r31 =>
 ifP (r31.2 = r19.2) <|
 (gif r21.1 false (fa P 59 r31.1 1 r19.2) r19.2).bind fun r32 =>
 ifP (r32.2 = r19.2) <|
 (gif r21.1 false (ld P 55 r32.1 r19.2) r19.2).bind fun r33 =>
 ifP (r33.2 = r19.2) <|
 (gif r21.1 false (EV P 54 #[r27.1, r33.1] r19.2) r19.2).bind fun r34 =>
 ifP (True ∧ True ∧ True ∧ True ∧ True ∧ True ∧ True ∧ True ∧ True ∧ True ∧ True ∧ True ∧ True ∧ True ∧ True ∧ True ∧ True ∧ True ∧ True ∧ True ∧ True ∧ True) <|
 (gif r21.1 false (uo P .not r34.1 r34.2) r34.2).bind fun r35 =>
 ifP (r35.2 = r34.2) <|
 (pickV r21.1 (.bool true) r35.1 r34.2).bind fun r36 =>
 ifP (r36.2 = r34.2) <|
 cnd r36.1 (
 (vl (.bool false) r34.2).bind fun r37 =>
 some (r37.1, r37.2)) (
 (vl (e 5) r34.2).bind fun r38 =>
 (bo P .add 3 (.tmp 18) (.const (.int .i64 1)) r38.1 (.int .i64 1) r38.2).bind fun r39 =>
 (vl r39.1 r39.2).bind fun r40 =>
 laws_cfChain_l1 (ups e [(13, r1.1), (14, r2.1), (15, r3.1), (16, r4.1), (17, r5.1), (20, r7.1), (21, r8.1), (22, r9.1), (23, r10.1), (24, r11.1), (25, r12.1), (26, r13.1), (27, r14.1), (28, r15.1), (29, r16.1), (30, r17.1), (31, r18.1), (32, r19.1), (33, r20.1), (34, r21.1), (35, r22.1), (36, r23.1), (37, r24.1), (38, r25.1), (39, r26.1), (40, r27.1), (41, r28.1), (42, r29.1), (43, r30.1), (44, r31.1), (45, r32.1), (46, r33.1), (47, r34.1), (48, r35.1), (49, r36.1), (18, r38.1), (19, r39.1), (5, r40.1)]) r40.2)) (
 (vl (.bool true) r5.2).bind fun r41 =>
 some (r41.1, r41.2)) := (exC_loop P (EV P) 17 50 (cA (cA (cB (cA (cB (cB (bodyOf P 17))))))) e w (kBlock 0 (kSeq P (EV P) 17 50 (cB (cB (cB (bodyOf P 17)))) (kFn P (fnOf P 17))))).trans (by kernel_rfl)
theorem laws_cfChain_fn (x0 x1 : Value) (w : World) : fnC P (EV P) 17 #[x0, x1] w =
 (bx P 24 x0 w).bind fun r1 =>
 (bx P 24 x1 r1.2).bind fun r2 =>
 (vl (.bool false) r2.2).bind fun r3 =>
 (fa P 24 r1.1 0 r3.2).bind fun r4 =>
 (ld P 22 r4.1 r4.2).bind fun r5 =>
 (b_len P #[22] 3 #[r5.1] r5.2).bind fun r6 =>
 (fa P 24 r2.1 0 r6.2).bind fun r7 =>
 (ld P 22 r7.1 r7.2).bind fun r8 =>
 (b_len P #[22] 3 #[r8.1] r8.2).bind fun r9 =>
 (bo P .neq 3 (.tmp 8) (.tmp 11) r6.1 r9.1 r9.2).bind fun r10 =>
 cnd r10.1 (
 (vl (.bool false) r10.2).bind fun r11 =>
 some (r11.1, r11.2)) (
 (vl (.int .i64 0) r10.2).bind fun r12 =>
 laws_cfChain_l1 (ups (env0 #[x0, x1]) [(2, r1.1), (3, r2.1), (4, r3.1), (6, r4.1), (7, r5.1), (8, r6.1), (9, r7.1), (10, r8.1), (11, r9.1), (12, r10.1), (5, r12.1)]) r12.2) := by kernel_rfl

/-! impl_ChainOk -/
noncomputable def impl_ChainOk_l1 (e : Env) (w : World) : Option (Value × World) := exC P (EV P) 18 71 (.loop (cA (cA (cB (cA (cB (cB (bodyOf P 18)))))))) e w (kBlock 0 (kSeq P (EV P) 18 71 (cB (cB (cB (bodyOf P 18)))) (kFn P (fnOf P 18))))
noncomputable def impl_ChainOk_l2 (e : Env) (w : World) : Option (Value × World) := exC P (EV P) 18 71 (.loop (cA (cA (cB (cA (cB (cB (cB (bodyOf P 18))))))))) e w (kBlock 2 (kSeq P (EV P) 18 71 (cB (cB (cB (cB (bodyOf P 18))))) (kFn P (fnOf P 18))))
theorem impl_ChainOk_l1_eq (e : Env) (w : World) : impl_ChainOk_l1 e w =
 (bo P .lss 3 (.tmp 15) (.tmp 14) (e 15) (e 14) w).bind fun r1 =>
 cnd r1.1 (
 (ia P 22 (e 13) (e 15) r1.2).bind fun r2 =>
 (ld P 59 r2.1 r2.2).bind fun r3 =>
 (al P 59 r3.2).bind fun r4 =>
 (st P 59 r4.1 r3.1 r4.2).bind fun r5 =>
 (fa P 59 r4.1 0 r5.2).bind fun r6 =>
 (ld P 57 r6.1 r6.2).bind fun r7 =>
 (EV P 55 #[r7.1] r7.2).bind fun r8 =>
 (uo P .not r8.1 r8.2).bind fun r9 =>
 (vl r9.1 r9.2).bind fun r10 =>
 (gif r10.1 false (fa P 59 r4.1 1 r10.2) r10.2).bind fun r11 =>
 (gif r10.1 false (ld P 55 r11.1 r11.2) r11.2).bind fun r12 =>
 (gif r10.1 false (b_len P #[55] 3 #[r12.1] r12.2) r12.2).bind fun r13 =>
 (gif r10.1 false (bo P .gtr 3 (.tmp 26) (.const (.int .i64 6)) r13.1 (.int .i64 6) r13.2) r13.2).bind fun r14 =>
 (pickV r10.1 (.bool true) r14.1 r14.2).bind fun r15 =>
 (vl r15.1 r15.2).bind fun r16 =>
 (gif r16.1 false (fa P 59 r4.1 1 r16.2) r16.2).bind fun r17 =>
 (gif r16.1 false (ld P 55 r17.1 r17.2) r17.2).bind fun r18 =>
 (gif r16.1 false (EV P 56 #[r18.1, (.func (.func 57) #[] #[])] r18.2) r18.2).bind fun r19 =>
 (pickV r16.1 (.bool true) r19.1 r19.2).bind fun r20 =>
 cnd r20.1 (
 (vl (.bool false) r20.2).bind fun r21 =>
 some (r21.1, r21.2)) (
 (bo P .add 3 (.tmp 15) (.const (.int .i64 1)) (e 15) (.int .i64 1) r20.2).bind fun r22 =>
 (vl r22.1 r22.2).bind fun r23 =>
 impl_ChainOk_l1 (ups e [(16, r1.1), (17, r2.1), (18, r3.1), (4, r4.1), (19, r6.1), (20, r7.1), (21, r8.1), (22, r9.1), (23, r10.1), (24, r11.1), (25, r12.1), (26, r13.1), (27, r14.1), (28, r15.1), (29, r16.1), (30, r17.1), (31, r18.1), (32, r19.1), (33, r20.1), (34, r22.1), (15, r23.1)]) r23.2)) (
 (fa P 24 (e 1) 0 r1.2).bind fun r24 =>
 (ld P 22 r24.1 r24.2).bind fun r25 =>
 (b_len P #[22] 3 #[r25.1] r25.2).bind fun r26 =>
 (vl (.int .i64 0) r26.2).bind fun r27 =>
 impl_ChainOk_l2 (ups e [(16, r1.1), (35, r24.1), (36, r25.1), (37, r26.1), (38, r27.1)]) r27.2) := (exC_loop P (EV P) 18 71 (cA (cA (cB (cA (cB (cB (bodyOf P 18))))))) e w (kBlock 0 (kSeq P (EV P) 18 71 (cB (cB (cB (bodyOf P 18)))) (kFn P (fnOf P 18))))).trans (by kernel_rfl)
theorem impl_ChainOk_l2_eq (e : Env) (w : World) : impl_ChainOk_l2 e w =
 (bo P .lss 3 (.tmp 38) (.tmp 37) (e 38) (e 37) w).bind fun r1 =>
 cnd r1.1 (
 (vl (e 38) r1.2).bind fun r2 =>
 (ia P 22 (e 36) (e 38) r2.2).bind fun r3 =>
 (ld P 59 r3.1 r3.2).bind fun r4 =>
 (al P 59 r4.2).bind fun r5 =>
 (vl r2.1 r5.2).bind fun r6 =>
 (st P 59 r5.1 r4.1 r6.2).bind fun r7 =>
 (ld P 24 (e 1) (dw r7.2)).bind fun r9 =>
 ifP (r9.2 = (dw r7.2)) <|
 (vl r6.1 (dw r7.2)).bind fun r10 =>
 ifP (r10.2 = (dw r7.2)) <|
 (EV P 58 #[r9.1, r10.1] (dw r7.2)).bind fun r11 =>
 ifP (True ∧ True) <|
 (vl r11.1 r11.2).bind fun r12 =>
 ifP (r12.2 = r11.2) <|
 (gif r12.1 true (fa P 59 r5.1 1 r11.2) r11.2).bind fun r13 =>
 ifP (r13.2 = r11.2) <|
 (gif r12.1 true (ld P 55 r13.1 r11.2) r11.2).bind fun r14 =>
 ifP (r14.2 = r11.2) <|
 (gif r12.1 true (b_len P #[55] 3 #[r14.1] r11.2) r11.2).bind fun r15 =>
 ifP (r15.2 = r11.2) <|
 (gif r12.1 true (bo P .gtr 3 (.tmp 49) (.const (.int .i64 0)) r15.1 (.int .i64 0) r11.2) r11.2).bind fun r16 =>
 ifP (r16.2 = r11.2) <|
 (pickV r12.1 r16.1 (.bool false) r11.2).bind fun r17 =>
 ifP (r17.2 = r11.2) <|
 (vl r17.1 r11.2).bind fun r18 =>
 ifP (r18.2 = r11.2) <|
 (gif r18.1 false (ld P 24 (e 1) r11.2) r11.2).bind fun r19 =>
 ifP (r19.2 = r11.2) <|
 (gif r18.1 false (vl r6.1 r11.2) r11.2).bind fun r20 =>
 ifP (r20.2 = r11.2) <|
 (gif r18.1 false (EV P 58 #[r19.1, r20.1] r11.2) r11.2).bind fun r21 =>
 ifP (True ∧ True ∧ True ∧ True ∧ True ∧ True ∧ True) <|
 (gif r18.1 false (uo P .not r21.1 r21.2) r21.2).bind fun r22 =>
 ifP (r22.2 = r21.2) <|
 (gif r18.1 false (vl r22.1 r21.2) r21.2).bind fun r23 =>
 ifP (r23.2 = r21.2) <|
 (gif r23.1 true (ld P 59 r5.1 r21.2) r21.2).bind fun r24 =>
 ifP (r24.2 = r21.2) <|
 (gif r23.1 true (fa P 24 (e 1) 0 r21.2) r21.2).bind fun r25 =>
 ifP (r25.2 = r21.2) <|
 (gif r23.1 true (ld P 22 r25.1 r21.2) r21.2).bind fun r26 =>
 ifP (r26.2 = r21.2) <|
 (gif r23.1 true (vl r6.1 r21.2) r21.2).bind fun r27 =>
 ifP (r27.2 = r21.2) <|
 (gif r23.1 true (bo P .add 3 (.tmp 61) (.const (.int .i64 1)) r27.1 (.int .i64 1) r21.2) r21.2).bind fun r28 =>
 ifP (r28.2 = r21.2) <|
 (gif r23.1 true (ia P 22 r26.1 r28.1 r21.2) r21.2).bind fun r29 =>
 ifP (r29.2 = r21.2) <|
 (gif r23.1 true (fa P 59 r29.1 0 r21.2) r21.2).bind fun r30 =>
 ifP (r30.2 = r21.2) <|
 (gif r23.1 true (ld P 57 r30.1 r21.2) r21.2).bind fun r31 =>
 ifP (r31.2 = r21.2) <|
 (gif r23.1 true (EV P 59 #[r24.1, r31.1] r21.2) r21.2).bind fun r32 =>
 ifP (True ∧ True ∧ True ∧ True ∧ True ∧ True ∧ True ∧ True ∧ True ∧ True ∧ True ∧ True ∧ True ∧ True ∧ True) <|
 (gif r23.1 true (uo P .not r32.1 r32.2) r32.2).bind fun r33 =>
 ifP (r33.2 = r32.2) <|
 (gif r18.1 false (pickV r23.1 r33.1 (.bool false) r32.2) r32.2).bind fun r34 =>
 ifP (r34.2 = r32.2) <|
 (pickV r18.1 (.bool true) r34.1 r32.2).bind fun r35 =>
 ifP (r35.2 = r32.2) <|
 cnd r35.1 (
 (vl (.bool false) r32.2).bind fun r36 =>
 some (r36.1, r36.2)) (
 (bo P .add 3 (.tmp 38) (.const (.int .i64 1)) (e 38) (.int .i64 1) r32.2).bind fun r37 =>
 (vl r37.1 r37.2).bind fun r38 =>
 impl_ChainOk_l2 (ups e [(39, r1.1), (40, r2.1), (41, r3.1), (42, r4.1), (6, r5.1), (5, r6.1), (43, r9.1), (44, r10.1), (45, r11.1), (46, r12.1), (47, r13.1), (48, r14.1), (49, r15.1), (50, r16.1), (51, r17.1), (52, r18.1), (53, r19.1), (54, r20.1), (55, r21.1), (56, r22.1), (57, r23.1), (58, r24.1), (59, r25.1), (60, r26.1), (61, r27.1), (62, r28.1), (63, r29.1), (64, r30.1), (65, r31.1), (66, r32.1), (67, r33.1), (68, r34.1), (69, r35.1), (70, r37.1), (38, r38.1)]) r38.2)) (
 (vl (.bool true) r1.2).bind fun r39 =>
 some (r39.1, r39.2)) := (exC_loop P (EV P) 18 71 (cA (cA (cB (cA (cB (cB (cB (bodyOf P 18)))))))) e w (kBlock 2 (kSeq P (EV P) 18 71 (cB (cB (cB (cB (bodyOf P 18))))) (kFn P (fnOf P 18))))).trans (by kernel_rfl)
theorem impl_ChainOk_fn (x0 : Value) (w : World) : fnC P (EV P) 18 #[x0] w =
 (bx P 24 x0 w).bind fun r1 =>
 (vl (.bool false) r1.2).bind fun r2 =>
 (fa P 24 r1.1 0 r2.2).bind fun r3 =>
 (ld P 22 r3.1 r3.2).bind fun r4 =>
 (b_len P #[22] 3 #[r4.1] r4.2).bind fun r5 =>
 (EV P 47 #[r5.1] r5.2).bind fun r6 =>
 (uo P .not r6.1 r6.2).bind fun r7 =>
 cnd r7.1 (
 (vl (.bool false) r7.2).bind fun r8 =>
 some (r8.1, r8.2)) (
 (fa P 24 r1.1 0 r7.2).bind fun r9 =>
 (ld P 22 r9.1 r9.2).bind fun r10 =>
 (b_len P #[22] 3 #[r10.1] r10.2).bind fun r11 =>
 (vl (.int .i64 0) r11.2).bind fun r12 =>
 impl_ChainOk_l1 (ups (env0 #[x0]) [(1, r1.1), (2, r2.1), (7, r3.1), (8, r4.1), (9, r5.1), (10, r6.1), (11, r7.1), (12, r9.1), (13, r10.1), (14, r11.1), (15, r12.1)]) r12.2) := by kernel_rfl

/-! laws_cfPast -/
noncomputable def laws_cfPast_l1 (e : Env) (w : World) : Option (Value × World) := exC P (EV P) 19 31 (.loop (cA (cA (cB (cA (cB (cB (bodyOf P 19)))))))) e w (kBlock 0 (kSeq P (EV P) 19 31 (cB (cB (cB (bodyOf P 19)))) (kFn P (fnOf P 19))))
theorem laws_cfPast_l1_eq (e : Env) (w : World) : laws_cfPast_l1 e w =
 (vl (e 5) w).bind fun r1 =>
 (fa P 35 (e 2) 0 r1.2).bind fun r2 =>
 (ld P 33 r2.1 r2.2).bind fun r3 =>
 (b_len P #[33] 3 #[r3.1] r3.2).bind fun r4 =>
 (bo P .lss 3 (.tmp 13) (.tmp 16) r1.1 r4.1 r4.2).bind fun r5 =>
 cnd r5.1 (
 (fa P 35 (e 2) 0 (dw r5.2)).bind fun r7 =>
 ifP (r7.2 = (dw r5.2)) <|
 (ld P 33 r7.1 (dw r5.2)).bind fun r8 =>
 ifP (r8.2 = (dw r5.2)) <|
 (vl (e 5) (dw r5.2)).bind fun r9 =>
 ifP (r9.2 = (dw r5.2)) <|
 (ia P 33 r8.1 r9.1 (dw r5.2)).bind fun r10 =>
 ifP (r10.2 = (dw r5.2)) <|
 (ld P 46 r10.1 (dw r5.2)).bind fun r11 =>
 ifP (r11.2 = (dw r5.2)) <|
 (fa P 35 (e 3) 0 (dw r5.2)).bind fun r12 =>
 ifP (r12.2 = (dw r5.2)) <|
 (ld P 33 r12.1 (dw r5.2)).bind fun r13 =>
 ifP (r13.2 = (dw r5.2)) <|
 (vl (e 5) (dw r5.2)).bind fun r14 =>
 ifP (r14.2 = (dw r5.2)) <|
 (ia P 33 r13.1 r14.1 (dw r5.2)).bind fun r15 =>
 ifP (r15.2 = (dw r5.2)) <|
 (ld P 46 r15.1 (dw r5.2)).bind fun r16 =>
 ifP (r16.2 = (dw r5.2)) <|
 (bo P .neq 46 (.tmp 24) (.tmp 29) r11.1 r16.1 (dw r5.2)).bind fun r17 =>
 ifP (r17.2 = (dw r5.2)) <|
 cnd r17.1 (
 (vl (.bool false) (dw r5.2)).bind fun r18 =>
 some (r18.1, r18.2)) (
 (vl (e 5) (dw r5.2)).bind fun r19 =>
 (bo P .add 3 (.tmp 18) (.const (.int .i64 1)) r19.1 (.int .i64 1) r19.2).bind fun r20 =>
 (vl r20.1 r20.2).bind fun r21 =>
 laws_cfPast_l1 (ups e [(13, r1.1), (14, r2.1), (15, r3.1), (16, r4.1), (17, r5.1), (20, r7.1), (21, r8.1), (22, r9.1), (23, r10.1), (24, r11.1), (25, r12.1), (26, r13.1), (27, r14.1), (28, r15.1), (29, r16.1), (30, r17.1), (18, r19.1), (19, r20.1), (5, r21.1)]) r21.2)) (
 (vl (.bool true) r5.2).bind fun r22 =>
 some (r22.1, r22.2)) := (exC_loop P (EV P) 19 31 (cA (cA (cB (cA (cB (cB (bodyOf P 19))))))) e w (kBlock 0 (kSeq P (EV P) 19 31 (cB (cB (cB (bodyOf P 19)))) (kFn P (fnOf P 19))))).trans (by kernel_rfl)
theorem laws_cfPast_fn (x0 x1 : Value) (w : World) : fnC P (EV P) 19 #[x0, x1] w =
 (bx P 35 x0 w).bind fun r1 =>
 (bx P 35 x1 r1.2).bind fun r2 =>
 (vl (.bool false) r2.2).bind fun r3 =>
 (fa P 35 r1.1 0 r3.2).bind fun r4 =>
 (ld P 33 r4.1 r4.2).bind fun r5 =>
 (b_len P #[33] 3 #[r5.1] r5.2).bind fun r6 =>
 (fa P 35 r2.1 0 r6.2).bind fun r7 =>
 (ld P 33 r7.1 r7.2).bind fun r8 =>
 (b_len P #[33] 3 #[r8.1] r8.2).bind fun r9 =>
 (bo P .neq 3 (.tmp 8) (.tmp 11) r6.1 r9.1 r9.2).bind fun r10 =>
 cnd r10.1 (
 (vl (.bool false) r10.2).bind fun r11 =>
 some (r11.1, r11.2)) (
 (vl (.int .i64 0) r10.2).bind fun r12 =>
 laws_cfPast_l1 (ups (env0 #[x0, x1]) [(2, r1.1), (3, r2.1), (4, r3.1), (6, r4.1), (7, r5.1), (8, r6.1), (9, r7.1), (10, r8.1), (11, r9.1), (12, r10.1), (5, r12.1)]) r12.2) := by kernel_rfl

/-! impl_ChainStable -/
theorem impl_ChainStable_fn (x0 : Value) (w : World) : fnC P (EV P) 20 #[x0] w =
 (bx P 24 x0 w).bind fun r1 =>
 (al P 35 r1.2).bind fun r2 =>
 (ld P 24 r1.1 r2.2).bind fun r3 =>
 (EV P 18 #[r3.1] r3.2).bind fun r4 =>
 (uo P .not r4.1 r4.2).bind fun r5 =>
 cnd r5.1 (
 (bd P 35 #[] r5.2).bind fun r6 =>
 (st P 35 r2.1 r6.1 r6.2).bind fun r7 =>
 ((ld P 35 r2.1 r7.2).bind fun r8 => ifP (r8.2 = r7.2) (some r8.1)).bind fun v9 =>
 some (v9, r7.2)) (
 (EV P 60 #[r1.1] r5.2).bind fun r10 =>
 (EV P 61 #[r10.1] r10.2).bind fun r11 =>
 (st P 35 r2.1 r11.1 r11.2).bind fun r12 =>
 ((ld P 35 r2.1 r12.2).bind fun r13 => ifP (r13.2 = r12.2) (some r13.1)).bind fun v14 =>
 some (v14, r12.2)) := by kernel_rfl

/-! impl_PastNone -/
theorem impl_PastNone_fn (w : World) : fnC P (EV P) 21 #[] w =
 (al P 35 w).bind fun r1 =>
 (ms P 33 (.int .i64 4) (.int .i64 4) r1.2).bind fun r2 =>
 (bd P 35 #[(0, r2.1)] r2.2).bind fun r3 =>
 (st P 35 r1.1 r3.1 r3.2).bind fun r4 =>
 ((ld P 35 r1.1 r4.2).bind fun r5 => ifP (r5.2 = r4.2) (some r5.1)).bind fun v6 =>
 some (v6, r4.2) := by kernel_rfl

/-! laws_szChain -/
theorem laws_szChain_fn (x0 x1 : Value) (w : World) : fnC P (EV P) 22 #[x0, x1] w =
 (bx P 41 x0 w).bind fun r1 =>
 (vl (.int .i64 0) r1.2).bind fun r2 =>
 (fa P 41 r1.1 0 r2.2).bind fun r3 =>
 (ld P 39 r3.1 r3.2).bind fun r4 =>
 (vl x1 r4.2).bind fun r5 =>
 (EV P 62 #[r4.1, r5.1] r5.2).bind fun r6 =>
 (vl r6.1 r6.2).bind fun r7 =>
 (vl r7.1 r7.2).bind fun r8 =>
 (bo P .lss 3 (.tmp 9) (.const (.int .i64 0)) r8.1 (.int .i64 0) r8.2).bind fun r9 =>
 cnd r9.1 (
 (vl (.int .i64 (-1)) r9.2).bind fun r10 =>
 some (r10.1, r10.2)) (
 (vl r7.1 r9.2).bind fun r11 =>
 (vl r11.1 r11.2).bind fun r12 =>
 some (r12.1, r12.2)) := by kernel_rfl

/-! spec_ChainOk -/
theorem spec_ChainOk_fn (x0 : Value) (w : World) : fnC P (EV P) 23 #[x0] w =
 (bx P 24 x0 w).bind fun r1 =>
 (vl (.bool false) r1.2).bind fun r2 =>
 (ld P 24 r1.1 r2.2).bind fun r3 =>
 (EV P 63 #[r3.1] r3.2).bind fun r4 =>
 (vl r4.1 r4.2).bind fun r5 =>
 some (r5.1, r5.2) := by kernel_rfl

/-! laws_toChain -/
theorem laws_toChain_fn (x0 : Value) (w : World) : fnC P (EV P) 24 #[x0] w =
 (bx P 41 x0 w).bind fun r1 =>
 (al P 24 r1.2).bind fun r2 =>
 (al P 24 r2.2).bind fun r3 =>
 (fa P 41 r1.1 0 r3.2).bind fun r4 =>
 (ld P 39 r4.1 r4.2).bind fun r5 =>
 (EV P 64 #[r5.1] r5.2).bind fun r6 =>
 (fa P 24 r3.1 0 r6.2).bind fun r7 =>
 (st P 22 r7.1 r6.1 r7.2).bind fun r8 =>
 (ld P 24 r3.1 r8.2).bind fun r9 =>
 (st P 24 r2.1 r9.1 r9.2).bind fun r10 =>
 ((ld P 24 r2.1 r10.2).bind fun r11 => ifP (r11.2 = r10.2) (some r11.1)).bind fun v12 =>
 some (v12, r10.2) := by kernel_rfl

/-! spec_DrawChainPut -/
theorem spec_DrawChainPut_fn (x0 : Value) (w : World) : fnC P (EV P) 25 #[x0] w =
 (al P 24 w).bind fun r1 =>
 (al P 48 r1.2).bind fun r2 =>
 (vl x0 r2.2).bind fun r3 =>
 (EV P 52 #[r3.1] r3.2).bind fun r4 =>
 (vl r4.1 r4.2).bind fun r5 =>
 (vl r5.1 r5.2).bind fun r6 =>
 (EV P 65 #[r6.1] r6.2).bind fun r7 =>
 (al P 24 r7.2).bind fun r8 =>
 (st P 24 r8.1 r7.1 r8.2).bind fun r9 =>
 (ld P 24 r8.1 (dw r9.2)).bind fun r11 =>
 ifP (r11.2 = (dw r9.2)) <|
 (vl r5.1 (dw r9.2)).bind fun r12 =>
 ifP (r12.2 = (dw r9.2)) <|
 (EV P 66 #[r12.1] (dw r9.2)).bind fun r13 =>
 ifP (ld P 24 r8.1 r13.2 = some (r11.1, r13.2) ∧ True) <|
 (st P 24 r1.1 r11.1 r13.2).bind fun r14 =>
 ifP (True ∧ True) <|
 (st P 48 r2.1 r13.1 r14.2).bind fun r15 =>
 ifP (True ∧ True) <|
 ((ld P 24 r1.1 r15.2).bind fun r16 => ifP (r16.2 = r15.2) (some r16.1)).bind fun v17 =>
 ((ld P 48 r2.1 r15.2).bind fun r18 => ifP (r18.2 = r15.2) (some r18.1)).bind fun v19 =>
 some (.tuple #[v17, v19], r15.2) := by kernel_rfl

/-! impl_ChainPut -/
theorem impl_ChainPut_fn (x0 x1 : Value) (w : World) : fnC P (EV P) 26 #[x0, x1] w =
 (bx P 24 x0 w).bind fun r1 =>
 (bx P 48 x1 r1.2).bind fun r2 =>
 (al P 24 r2.2).bind fun r3 =>
 (vl (.bool false) r3.2).bind fun r4 =>
 (ld P 24 r1.1 r4.2).bind fun r5 =>
 (EV P 18 #[r5.1] r5.2).bind fun r6 =>
 (uo P .not r6.1 r6.2).bind fun r7 =>
 (vl r7.1 r7.2).bind fun r8 =>
 (gif r8.1 false (ld P 48 r2.1 r8.2) r8.2).bind fun r9 =>
 (gif r8.1 false (EV P 28 #[r9.1] r9.2) r9.2).bind fun r10 =>
 (gif r8.1 false (uo P .not r10.1 r10.2) r10.2).bind fun r11 =>
 (pickV r8.1 (.bool true) r11.1 r11.2).bind fun r12 =>
 cnd r12.1 (
 (bd P 24 #[] r12.2).bind fun r13 =>
 (st P 24 r3.1 r13.1 r13.2).bind fun r14 =>
 (vl (.bool false) r14.2).bind fun r15 =>
 ((ld P 24 r3.1 r15.2).bind fun r16 => ifP (r16.2 = r15.2) (some r16.1)).bind fun v17 =>
 some (.tuple #[v17, r15.1], r15.2)) (
 (ld P 24 r1.1 r12.2).bind fun r18 =>
 (vl (.func (Go.Fn.func 68) #[] #[r2.1]) r18.2).bind fun r19 =>
 (EV P 67 #[r18.1, r19.1] r19.2).bind fun r20 =>
 (xt P r20.1 0 r20.2).bind fun r21 =>
 (xt P r20.1 1 r21.2).bind fun r22 =>
 (st P 24 r3.1 r21.1 r22.2).bind fun r23 =>
 (vl r22.1 r23.2).bind fun r24 =>
 ((ld P 24 r3.1 r24.2).bind fun r25 => ifP (r25.2 = r24.2) (some r25.1)).bind fun v26 =>
 some (.tuple #[v26, r24.1], r24.2)) := by kernel_rfl

/-! spec_ChainPut -/
theorem spec_ChainPut_fn (x0 x1 : Value) (w : World) : fnC P (EV P) 27 #[x0, x1] w =
 (bx P 24 x0 w).bind fun r1 =>
 (bx P 48 x1 r1.2).bind fun r2 =>
 (al P 24 r2.2).bind fun r3 =>
 (vl (.bool false) r3.2).bind fun r4 =>
 (ld P 24 r1.1 r4.2).bind fun r5 =>
 (EV P 63 #[r5.1] r5.2).bind fun r6 =>
 (uo P .not r6.1 r6.2).bind fun r7 =>
 (vl r7.1 r7.2).bind fun r8 =>
 (gif r8.1 false (ld P 48 r2.1 r8.2) r8.2).bind fun r9 =>
 (gif r8.1 false (EV P 70 #[r9.1] r9.2) r9.2).bind fun r10 =>
 (gif r8.1 false (uo P .not r10.1 r10.2) r10.2).bind fun r11 =>
 (pickV r8.1 (.bool true) r11.1 r11.2).bind fun r12 =>
 cnd r12.1 (
 (bd P 24 #[] r12.2).bind fun r13 =>
 (st P 24 r3.1 r13.1 r13.2).bind fun r14 =>
 (vl (.bool false) r14.2).bind fun r15 =>
 ((ld P 24 r3.1 r15.2).bind fun r16 => ifP (r16.2 = r15.2) (some r16.1)).bind fun v17 =>
 some (.tuple #[v17, r15.1], r15.2)) (
 (ld P 24 r1.1 r12.2).bind fun r18 =>
 (EV P 71 #[r18.1] r18.2).bind fun r19 =>
 (uo P .not r19.1 r19.2).bind fun r20 =>
 cnd r20.1 (
 (ld P 24 r1.1 r20.2).bind fun r21 =>
 (EV P 72 #[r21.1] r21.2).bind fun r22 =>
 (st P 24 r3.1 r22.1 r22.2).bind fun r23 =>
 (vl (.bool false) r23.2).bind fun r24 =>
 ((ld P 24 r3.1 r24.2).bind fun r25 => ifP (r25.2 = r24.2) (some r25.1)).bind fun v26 =>
 some (.tuple #[v26, r24.1], r24.2)) (
 (ld P 24 r1.1 (dw r20.2)).bind fun r28 =>
 ifP (r28.2 = (dw r20.2)) <|
 (ld P 48 r2.1 (dw r20.2)).bind fun r29 =>
 ifP (r29.2 = (dw r20.2)) <|
 (EV P 72 #[r28.1] (dw r20.2)).bind fun r30 =>
 ifP (ld P 48 r2.1 r30.2 = some (r29.1, r30.2) ∧ True ∧ True) <|
 (EV P 73 #[r30.1, (.int .i64 0), r29.1] r30.2).bind fun r31 =>
 ifP (True ∧ True ∧ True) <|
 (st P 24 r3.1 r31.1 r31.2).bind fun r32 =>
 ifP (True ∧ True ∧ True) <|
 (vl (.bool true) r32.2).bind fun r33 =>
 ifP (r33.2 = r32.2) <|
 ((ld P 24 r3.1 r32.2).bind fun r34 => ifP (r34.2 = r32.2) (some r34.1)).bind fun v35 =>
 some (.tuple #[v35, r33.1], r32.2))) := by kernel_rfl

/-! impl_VerOk -/
theorem impl_VerOk_fn (x0 : Value) (w : World) : fnC P (EV P) 28 #[x0] w =
 (bx P 48 x0 w).bind fun r1 =>
 (vl (.bool false) r1.2).bind fun r2 =>
 (ld P 48 r1.1 (dw r2.2)).bind fun r4 =>
 ifP (r4.2 = (dw r2.2)) <|
 (EV P 74 #[r4.1] (dw r2.2)).bind fun r5 =>
 ifP (True ∧ True) <|
 (vl r5.1 r5.2).bind fun r6 =>
 ifP (r6.2 = r5.2) <|
 (gif r6.1 true (fa P 48 r1.1 1 r5.2) r5.2).bind fun r7 =>
 ifP (r7.2 = r5.2) <|
 (gif r6.1 true (ld P 46 r7.1 r5.2) r5.2).bind fun r8 =>
 ifP (r8.2 = r5.2) <|
 (gif r6.1 true (EV P 75 #[r8.1] r5.2) r5.2).bind fun r9 =>
 ifP (True ∧ True ∧ True ∧ True) <|
 (pickV r6.1 r9.1 (.bool false) r9.2).bind fun r10 =>
 ifP (r10.2 = r9.2) <|
 (vl r10.1 r9.2).bind fun r11 =>
 ifP (r11.2 = r9.2) <|
 (gif r11.1 true (fa P 48 r1.1 1 r9.2) r9.2).bind fun r12 =>
 ifP (r12.2 = r9.2) <|
 (gif r11.1 true (fa P 46 r12.1 0 r9.2) r9.2).bind fun r13 =>
 ifP (r13.2 = r9.2) <|
 (gif r11.1 true (ld P 3 r13.1 r9.2) r9.2).bind fun r14 =>
 ifP (r14.2 = r9.2) <|
 (gif r11.1 true (fa P 48 r1.1 2 r9.2) r9.2).bind fun r15 =>
 ifP (r15.2 = r9.2) <|
 (gif r11.1 true (ld P 35 r15.1 r9.2) r9.2).bind fun r16 =>
 ifP (r16.2 = r9.2) <|
 (gif r11.1 true (EV P 76 #[r16.1] r9.2) r9.2).bind fun r17 =>
 ifP (True ∧ True ∧ gif r11.1 true (ld P 3 r13.1 r17.2) r17.2 = some (r14.1, r17.2) ∧ gif r11.1 true (fa P 46 r12.1 0 r17.2) r17.2 = some (r13.1, r17.2) ∧ gif r11.1 true (fa P 48 r1.1 1 r17.2) r17.2 = some (r12.1, r17.2) ∧ True ∧ True ∧ True ∧ True) <|
 (gif r11.1 true (bo P .gtr 3 (.tmp 13) (.tmp 16) r14.1 r17.1 r17.2) r17.2).bind fun r18 =>
 ifP (r18.2 = r17.2) <|
 (pickV r11.1 r18.1 (.bool false) r17.2).bind fun r19 =>
 ifP (r19.2 = r17.2) <|
 (vl r19.1 r17.2).bind fun r20 =>
 ifP (r20.2 = r17.2) <|
 some (r20.1, r17.2) := by kernel_rfl

/-! laws_cfStore -/
noncomputable def laws_cfStore_l1 (e : Env) (w : World) : Option (Value × World) := exC P (EV P) 29 32 (.loop (cA (cA (cB (cA (cB (cB (bodyOf P 29)))))))) e w (kBlock 0 (kSeq P (EV P) 29 32 (cB (cB (cB (bodyOf P 29)))) (kFn P (fnOf P 29))))
theorem laws_cfStore_l1_eq (e : Env) (w : World) : laws_cfStore_l1 e w =
 (vl (e 5) w).bind fun r1 =>
 (fa P 57 (e 2) 0 r1.2).bind fun r2 =>
 (ld P 55 r2.1 r2.2).bind fun r3 =>
 (b_len P #[55] 3 #[r3.1] r3.2).bind fun r4 =>
 (bo P .lss 3 (.tmp 13) (.tmp 16) r1.1 r4.1 r4.2).bind fun r5 =>
 cnd r5.1 (
 (fa P 57 (e 2) 0 (dw r5.2)).bind fun r7 =>
 ifP (r7.2 = (dw r5.2)) <|
 (ld P 55 r7.1 (dw r5.2)).bind fun r8 =>
 ifP (r8.2 = (dw r5.2)) <|
 (vl (e 5) (dw r5.2)).bind fun r9 =>
 ifP (r9.2 = (dw r5.2)) <|
 (ia P 55 r8.1 r9.1 (dw r5.2)).bind fun r10 =>
 ifP (r10.2 = (dw r5.2)) <|
 (ld P 48 r10.1 (dw r5.2)).bind fun r11 =>
 ifP (r11.2 = (dw r5.2)) <|
 (fa P 57 (e 3) 0 (dw r5.2)).bind fun r12 =>
 ifP (r12.2 = (dw r5.2)) <|
 (ld P 55 r12.1 (dw r5.2)).bind fun r13 =>
 ifP (r13.2 = (dw r5.2)) <|
 (vl (e 5) (dw r5.2)).bind fun r14 =>
 ifP (r14.2 = (dw r5.2)) <|
 (ia P 55 r13.1 r14.1 (dw r5.2)).bind fun r15 =>
 ifP (r15.2 = (dw r5.2)) <|
 (ld P 48 r15.1 (dw r5.2)).bind fun r16 =>
 ifP (r16.2 = (dw r5.2)) <|
 (EV P 77 #[r11.1, r16.1] (dw r5.2)).bind fun r17 =>
 ifP (True ∧ True ∧ True ∧ True ∧ True ∧ True ∧ True ∧ True ∧ True) <|
 (uo P .not r17.1 r17.2).bind fun r18 =>
 ifP (r18.2 = r17.2) <|
 cnd r18.1 (
 (vl (.bool false) r17.2).bind fun r19 =>
 some (r19.1, r19.2)) (
 (vl (e 5) r17.2).bind fun r20 =>
 (bo P .add 3 (.tmp 18) (.const (.int .i64 1)) r20.1 (.int .i64 1) r20.2).bind fun r21 =>
 (vl r21.1 r21.2).bind fun r22 =>
 laws_cfStore_l1 (ups e [(13, r1.1), (14, r2.1), (15, r3.1), (16, r4.1), (17, r5.1), (20, r7.1), (21, r8.1), (22, r9.1), (23, r10.1), (24, r11.1), (25, r12.1), (26, r13.1), (27, r14.1), (28, r15.1), (29, r16.1), (30, r17.1), (31, r18.1), (18, r20.1), (19, r21.1), (5, r22.1)]) r22.2)) (
 (vl (.bool true) r5.2).bind fun r23 =>
 some (r23.1, r23.2)) := (exC_loop P (EV P) 29 32 (cA (cA (cB (cA (cB (cB (bodyOf P 29))))))) e w (kBlock 0 (kSeq P (EV P) 29 32 (cB (cB (cB (bodyOf P 29)))) (kFn P (fnOf P 29))))).trans (by kernel_rfl)
theorem laws_cfStore_fn (x0 x1 : Value) (w : World) : fnC P (EV P) 29 #[x0, x1] w =
 (bx P 57 x0 w).bind fun r1 =>
 (bx P 57 x1 r1.2).bind fun r2 =>
 (vl (.bool false) r2.2).bind fun r3 =>
 (fa P 57 r1.1 0 r3.2).bind fun r4 =>
 (ld P 55 r4.1 r4.2).bind fun r5 =>
 (b_len P #[55] 3 #[r5.1] r5.2).bind fun r6 =>
 (fa P 57 r2.1 0 r6.2).bind fun r7 =>
 (ld P 55 r7.1 r7.2).bind fun r8 =>
 (b_len P #[55] 3 #[r8.1] r8.2).bind fun r9 =>
 (bo P .neq 3 (.tmp 8) (.tmp 11) r6.1 r9.1 r9.2).bind fun r10 =>
 cnd r10.1 (
 (vl (.bool false) r10.2).bind fun r11 =>
 some (r11.1, r11.2)) (
 (vl (.int .i64 0) r10.2).bind fun r12 =>
 laws_cfStore_l1 (ups (env0 #[x0, x1]) [(2, r1.1), (3, r2.1), (4, r3.1), (6, r4.1), (7, r5.1), (8, r6.1), (9, r7.1), (10, r8.1), (11, r9.1), (12, r10.1), (5, r12.1)]) r12.2) := by kernel_rfl

/-! impl_StoreAdd -/
noncomputable def impl_StoreAdd_j1 (e : Env) (w : World) : Option (Value × World) := exC P (EV P) 30 28 (cB (cB (cB (cB (bodyOf P 30))))) e w (kFn P (fnOf P 30))
theorem impl_StoreAdd_j1_eq (e : Env) (w : World) : impl_StoreAdd_j1 e w =
 (ld P 57 (e 5) w).bind fun r1 =>
 (st P 57 (e 4) r1.1 r1.2).bind fun r2 =>
 ((ld P 57 (e 4) r2.2).bind fun r3 => ifP (r3.2 = r2.2) (some r3.1)).bind fun v4 =>
 some (v4, r2.2) := by kernel_rfl
theorem impl_StoreAdd_fn (x0 x1 : Value) (w : World) : fnC P (EV P) 30 #[x0, x1] w =
 (bx P 57 x0 w).bind fun r1 =>
 (bx P 48 x1 r1.2).bind fun r2 =>
 (al P 57 r2.2).bind fun r3 =>
 (ld P 57 r1.1 r3.2).bind fun r4 =>
 (EV P 55 #[r4.1] r4.2).bind fun r5 =>
 (uo P .not r5.1 r5.2).bind fun r6 =>
 (vl r6.1 r6.2).bind fun r7 =>
 (gif r7.1 false (ld P 48 r2.1 r7.2) r7.2).bind fun r8 =>
 (gif r7.1 false (EV P 28 #[r8.1] r8.2) r8.2).bind fun r9 =>
 (gif r7.1 false (uo P .not r9.1 r9.2) r9.2).bind fun r10 =>
 (pickV r7.1 (.bool true) r10.1 r10.2).bind fun r11 =>
 cnd r11.1 (
 (bd P 57 #[] r11.2).bind fun r12 =>
 (st P 57 r3.1 r12.1 r12.2).bind fun r13 =>
 ((ld P 57 r3.1 r13.2).bind fun r14 => ifP (r14.2 = r13.2) (some r14.1)).bind fun v15 =>
 some (v15, r13.2)) (
 (ld P 57 r1.1 r11.2).bind fun r16 =>
 (EV P 78 #[r16.1] r16.2).bind fun r17 =>
 (al P 57 r17.2).bind fun r18 =>
 (st P 57 r18.1 r17.1 r18.2).bind fun r19 =>
 (ld P 57 r18.1 r19.2).bind fun r20 =>
 (ld P 48 r2.1 r20.2).bind fun r21 =>
 (EV P 79 #[r20.1, r21.1] r21.2).bind fun r22 =>
 cnd r22.1 (
 (fa P 57 r18.1 0 (dw r22.2)).bind fun r24 =>
 ifP (r24.2 = (dw r22.2)) <|
 (ld P 55 r24.1 (dw r22.2)).bind fun r25 =>
 ifP (r25.2 = (dw r22.2)) <|
 (fa P 48 r2.1 0 (dw r22.2)).bind fun r26 =>
 ifP (r26.2 = (dw r22.2)) <|
 (ld P 3 r26.1 (dw r22.2)).bind fun r27 =>
 ifP (r27.2 = (dw r22.2)) <|
 (ld P 48 r2.1 (dw r22.2)).bind fun r28 =>
 ifP (r28.2 = (dw r22.2)) <|
 (EV P 80 #[r28.1] (dw r22.2)).bind fun r29 =>
 ifP (True ∧ ld P 3 r26.1 r29.2 = some (r27.1, r29.2) ∧ fa P 48 r2.1 0 r29.2 = some (r26.1, r29.2) ∧ ld P 55 r24.1 r29.2 = some (r25.1, r29.2) ∧ fa P 57 r18.1 0 r29.2 = some (r24.1, r29.2) ∧ True) <|
 (ia P 55 r25.1 r27.1 r29.2).bind fun r30 =>
 ifP (r30.2 = r29.2) <|
 (st P 48 r30.1 r29.1 r29.2).bind fun r31 =>
 ifP (True ∧ True ∧ True ∧ True ∧ True ∧ True ∧ True) <|
 impl_StoreAdd_j1 (ups (env0 #[x0, x1]) [(2, r1.1), (3, r2.1), (4, r3.1), (6, r4.1), (7, r5.1), (8, r6.1), (9, r7.1), (10, r8.1), (11, r9.1), (12, r10.1), (13, r11.1), (15, r16.1), (16, r17.1), (5, r18.1), (17, r20.1), (18, r21.1), (19, r22.1), (20, r24.1), (21, r25.1), (22, r26.1), (23, r27.1), (24, r28.1), (25, r29.1), (26, r30.1)]) r31.2) (
 impl_StoreAdd_j1 (ups (env0 #[x0, x1]) [(2, r1.1), (3, r2.1), (4, r3.1), (6, r4.1), (7, r5.1), (8, r6.1), (9, r7.1), (10, r8.1), (11, r9.1), (12, r10.1), (13, r11.1), (15, r16.1), (16, r17.1), (5, r18.1), (17, r20.1), (18, r21.1), (19, r22.1)]) r22.2)) := by kernel_rfl

/-! spec_DrawChainPass -/
theorem spec_DrawChainPass_fn (x0 : Value) (w : World) : fnC P (EV P) 31 #[x0] w =
 (al P 24 w).bind fun r1 =>
 (vl (.int .i64 0) r1.2).bind fun r2 =>
 (vl x0 r2.2).bind fun r3 =>
 (EV P 52 #[r3.1] r3.2).bind fun r4 =>
 (vl r4.1 r4.2).bind fun r5 =>
 (vl r5.1 r5.2).bind fun r6 =>
 (EV P 65 #[r6.1] r6.2).bind fun r7 =>
 (al P 24 r7.2).bind fun r8 =>
 (st P 24 r8.1 r7.1 r8.2).bind fun r9 =>
 (ld P 24 r8.1 (dw r9.2)).bind fun r11 =>
 ifP (r11.2 = (dw r9.2)) <|
 (vl r5.1 (dw r9.2)).bind fun r12 =>
 ifP (r12.2 = (dw r9.2)) <|
 (bs P 78 8 #[(0, (.int .i64 0)), (1, (.int .i64 0)), (2, (.int .i64 0)), (3, (.int .i64 1)), (4, (.int .i64 1)), (5, (.int .i64 2)), (6, (.int .i64 3)), (7, (.int .i64 (-1)))] (dw r9.2)).bind fun r13 =>
 ifP (ld P 24 r8.1 r13.2 = some (r11.1, r13.2) ∧ True) <|
 (EV P 53 #[r12.1, r13.1] r13.2).bind fun r14 =>
 ifP (ld P 24 r8.1 r14.2 = some (r11.1, r14.2) ∧ True) <|
 (st P 24 r1.1 r11.1 r14.2).bind fun r15 =>
 ifP (True ∧ True) <|
 (vl r14.1 r15.2).bind fun r16 =>
 ifP (r16.2 = r15.2) <|
 ((ld P 24 r1.1 r15.2).bind fun r17 => ifP (r17.2 = r15.2) (some r17.1)).bind fun v18 =>
 some (.tuple #[v18, r16.1], r15.2) := by kernel_rfl

/-! impl_ChainPass -/
theorem impl_ChainPass_fn (x0 x1 : Value) (w : World) : fnC P (EV P) 32 #[x0, x1] w =
 (bx P 24 x0 w).bind fun r1 =>
 (bx P 3 x1 r1.2).bind fun r2 =>
 (al P 24 r2.2).bind fun r3 =>
 (vl (.bool false) r3.2).bind fun r4 =>
 (ld P 24 r1.1 r4.2).bind fun r5 =>
 (EV P 18 #[r5.1] r5.2).bind fun r6 =>
 (uo P .not r6.1 r6.2).bind fun r7 =>
 cnd r7.1 (
 (bd P 24 #[] r7.2).bind fun r8 =>
 (st P 24 r3.1 r8.1 r8.2).bind fun r9 =>
 (vl (.bool false) r9.2).bind fun r10 =>
 ((ld P 24 r3.1 r10.2).bind fun r11 => ifP (r11.2 = r10.2) (some r11.1)).bind fun v12 =>
 some (.tuple #[v12, r10.1], r10.2)) (
 (ld P 24 r1.1 r7.2).bind fun r13 =>
 (vl (.func (Go.Fn.func 81) #[] #[r2.1]) r13.2).bind fun r14 =>
 (EV P 67 #[r13.1, r14.1] r14.2).bind fun r15 =>
 (xt P r15.1 0 r15.2).bind fun r16 =>
 (xt P r15.1 1 r16.2).bind fun r17 =>
 (st P 24 r3.1 r16.1 r17.2).bind fun r18 =>
 (vl r17.1 r18.2).bind fun r19 =>
 ((ld P 24 r3.1 r19.2).bind fun r20 => ifP (r20.2 = r19.2) (some r20.1)).bind fun v21 =>
 some (.tuple #[v21, r19.1], r19.2)) := by kernel_rfl

/-! spec_ChainPass -/
theorem spec_ChainPass_fn (x0 x1 : Value) (w : World) : fnC P (EV P) 33 #[x0, x1] w =
 (bx P 24 x0 w).bind fun r1 =>
 (al P 24 r1.2).bind fun r2 =>
 (vl (.bool false) r2.2).bind fun r3 =>
 (ld P 24 r1.1 r3.2).bind fun r4 =>
 (EV P 63 #[r4.1] r4.2).bind fun r5 =>
 (uo P .not r5.1 r5.2).bind fun r6 =>
 cnd r6.1 (
 (bd P 24 #[] r6.2).bind fun r7 =>
 (st P 24 r2.1 r7.1 r7.2).bind fun r8 =>
 (vl (.bool false) r8.2).bind fun r9 =>
 ((ld P 24 r2.1 r9.2).bind fun r10 => ifP (r10.2 = r9.2) (some r10.1)).bind fun v11 =>
 some (.tuple #[v11, r9.1], r9.2)) (
 (ld P 24 r1.1 r6.2).bind fun r12 =>
 (vl x1 r12.2).bind fun r13 =>
 (EV P 83 #[r12.1, r13.1] r13.2).bind fun r14 =>
 (uo P .not r14.1 r14.2).bind fun r15 =>
 cnd r15.1 (
 (ld P 24 r1.1 r15.2).bind fun r16 =>
 (EV P 72 #[r16.1] r16.2).bind fun r17 =>
 (st P 24 r2.1 r17.1 r17.2).bind fun r18 =>
 (vl (.bool false) r18.2).bind fun r19 =>
 ((ld P 24 r2.1 r19.2).bind fun r20 => ifP (r20.2 = r19.2) (some r20.1)).bind fun v21 =>
 some (.tuple #[v21, r19.1], r19.2)) (
 (ld P 24 r1.1 r15.2).bind fun r22 =>
 (EV P 72 #[r22.1] r22.2).bind fun r23 =>
 (vl x1 r23.2).bind fun r24 =>
 (EV P 84 #[r23.1, r24.1] r24.2).bind fun r25 =>
 (st P 24 r2.1 r25.1 r25.2).bind fun r26 =>
 (vl (.bool true) r26.2).bind fun r27 =>
 ((ld P 24 r2.1 r27.2).bind fun r28 => ifP (r28.2 = r27.2) (some r28.1)).bind fun v29 =>
 some (.tuple #[v29, r27.1], r27.2))) := by kernel_rfl

/-! spec_ChainStable -/
theorem spec_ChainStable_fn (x0 : Value) (w : World) : fnC P (EV P) 34 #[x0] w =
 (bx P 24 x0 w).bind fun r1 =>
 (al P 35 r1.2).bind fun r2 =>
 (ld P 24 r1.1 r2.2).bind fun r3 =>
 (EV P 63 #[r3.1] r3.2).bind fun r4 =>
 (uo P .not r4.1 r4.2).bind fun r5 =>
 cnd r5.1 (
 (bd P 35 #[] r5.2).bind fun r6 =>
 (st P 35 r2.1 r6.1 r6.2).bind fun r7 =>
 ((ld P 35 r2.1 r7.2).bind fun r8 => ifP (r8.2 = r7.2) (some r8.1)).bind fun v9 =>
 some (v9, r7.2)) (
 (ld P 24 r1.1 r5.2).bind fun r10 =>
 (EV P 85 #[r10.1] r10.2).bind fun r11 =>
 (st P 35 r2.1 r11.1 r11.2).bind fun r12 =>
 ((ld P 35 r2.1 r12.2).bind fun r13 => ifP (r13.2 = r12.2) (some r13.1)).bind fun v14 =>
 some (v14, r12.2)) := by kernel_rfl

/-! laws_eqPast -/
theorem laws_eqPast_fn (x0 x1 : Value) (w : World) : fnC P (EV P) 35 #[x0, x1] w =
 (bx P 35 x0 w).bind fun r1 =>
 (bx P 35 x1 r1.2).bind fun r2 =>
 (vl (.bool false) r2.2).bind fun r3 =>
 (fa P 35 r1.1 0 r3.2).bind fun r4 =>
 (ld P 33 r4.1 r4.2).bind fun r5 =>
 (fa P 35 r2.1 0 r5.2).bind fun r6 =>
 (ld P 33 r6.1 r6.2).bind fun r7 =>
 (EV P 86 #[r5.1, r7.1] r7.2).bind fun r8 =>
 (uo P .not r8.1 r8.2).bind fun r9 =>
 cnd r9.1 (
 (vl (.bool false) r9.2).bind fun r10 =>
 some (r10.1, r10.2)) (
 (vl (.bool true) r9.2).bind fun r11 =>
 some (r11.1, r11.2)) := by kernel_rfl

/-! laws_markPast -/
theorem laws_markPast_fn (x0 x1 : Value) (w : World) : fnC P (EV P) 36 #[x0, x1] w =
 (bx P 35 x0 w).bind fun r1 =>
 (vl (.int .i64 0) r1.2).bind fun r2 =>
 (fa P 35 r1.1 0 r2.2).bind fun r3 =>
 (ld P 33 r3.1 r3.2).bind fun r4 =>
 (vl x1 r4.2).bind fun r5 =>
 (EV P 87 #[r4.1, r5.1] r5.2).bind fun r6 =>
 (vl r6.1 r6.2).bind fun r7 =>
 (vl r7.1 r7.2).bind fun r8 =>
 (vl r8.1 r8.2).bind fun r9 =>
 some (r9.1, r9.2) := by kernel_rfl

/-! laws_heldPast -/
theorem laws_heldPast_fn (x0 x1 : Value) (w : World) : fnC P (EV P) 37 #[x0, x1] w =
 (bx P 35 x0 w).bind fun r1 =>
 (vl (.int .i64 0) r1.2).bind fun r2 =>
 (fa P 35 r1.1 0 r2.2).bind fun r3 =>
 (ld P 33 r3.1 r3.2).bind fun r4 =>
 (vl x1 r4.2).bind fun r5 =>
 (EV P 88 #[r4.1, r5.1] r5.2).bind fun r6 =>
 (vl r6.1 r6.2).bind fun r7 =>
 (vl r7.1 r7.2).bind fun r8 =>
 (bo P .lss 3 (.tmp 9) (.const (.int .i64 0)) r8.1 (.int .i64 0) r8.2).bind fun r9 =>
 cnd r9.1 (
 (vl (.int .i64 (-1)) r9.2).bind fun r10 =>
 some (r10.1, r10.2)) (
 (vl r7.1 r9.2).bind fun r11 =>
 (vl r11.1 r11.2).bind fun r12 =>
 some (r12.1, r12.2)) := by kernel_rfl


end Go.Proofs.Ythicfemhpnnaaaa.X
