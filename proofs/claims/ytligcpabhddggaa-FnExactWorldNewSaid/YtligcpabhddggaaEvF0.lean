/- A part of the proof: an evaluator of the model, its laws, and contracts of functions; no condition. -/
import Derived.Test.YtligcpabhddggaaEvT
set_option linter.unusedVariables false
set_option maxRecDepth 100000
namespace Go.Proofs.Ytligcpabhddggaa.X
open Go Go.Ev
theorem laws_FnExactWorldNew_fn (x0 x1 : Value) (w : World) : fnC P (EV P) 3 #[x0, x1] w =
 (vl (.bool false) w).bind fun r1 =>
 (vl x0 r1.2).bind fun r2 =>
 (vl x1 r2.2).bind fun r3 =>
 (EV P 4 #[r2.1, r3.1] r3.2).bind fun r4 =>
 (al P 27 r4.2).bind fun r5 =>
 (st P 27 r5.1 r4.1 r5.2).bind fun r6 =>
 (vl x0 r6.2).bind fun r7 =>
 (vl x1 r7.2).bind fun r8 =>
 (EV P 5 #[r7.1, r8.1] r8.2).bind fun r9 =>
 (al P 27 r9.2).bind fun r10 =>
 (st P 27 r10.1 r9.1 r10.2).bind fun r11 =>
 (ld P 27 r10.1 r11.2).bind fun r12 =>
 (ld P 27 r5.1 r12.2).bind fun r13 =>
 (EV P 6 #[r12.1, r13.1] r13.2).bind fun r14 =>
 (uo P .not r14.1 r14.2).bind fun r15 =>
 cnd r15.1 (
 (vl (.bool false) r15.2).bind fun r16 =>
 some (r16.1, r16.2)) (
 (vl (.int .i64 1) r15.2).bind fun r17 =>
 (ld P 27 r10.1 r17.2).bind fun r18 =>
 (vl r17.1 r18.2).bind fun r19 =>
 (EV P 7 #[r18.1, r19.1] r19.2).bind fun r20 =>
 (vl r20.1 r20.2).bind fun r21 =>
 (vl (.int .i64 1) r21.2).bind fun r22 =>
 (ld P 27 r10.1 r22.2).bind fun r23 =>
 (vl r22.1 r23.2).bind fun r24 =>
 (EV P 8 #[r23.1, r24.1] r24.2).bind fun r25 =>
 (vl r25.1 r25.2).bind fun r26 =>
 (vl r26.1 r26.2).bind fun r27 =>
 (bo P .lss 3 (.tmp 26) (.const (.int .i64 0)) r27.1 (.int .i64 0) r27.2).bind fun r28 =>
 cnd r28.1 (
 (vl (.bool false) r28.2).bind fun r29 =>
 some (r29.1, r29.2)) (
 (vl r26.1 r28.2).bind fun r30 =>
 (vl r21.1 r30.2).bind fun r31 =>
 (bo P .neq 3 (.tmp 28) (.tmp 29) r30.1 r31.1 r31.2).bind fun r32 =>
 cnd r32.1 (
 (vl (.bool false) r32.2).bind fun r33 =>
 some (r33.1, r33.2)) (
 (vl x0 r32.2).bind fun r34 =>
 (vl x1 r34.2).bind fun r35 =>
 (EV P 5 #[r34.1, r35.1] r35.2).bind fun r36 =>
 (al P 27 r36.2).bind fun r37 =>
 (st P 27 r37.1 r36.1 r37.2).bind fun r38 =>
 (ld P 27 r37.1 r38.2).bind fun r39 =>
 (ld P 27 r5.1 r39.2).bind fun r40 =>
 (EV P 6 #[r39.1, r40.1] r40.2).bind fun r41 =>
 (uo P .not r41.1 r41.2).bind fun r42 =>
 cnd r42.1 (
 (vl (.bool false) r42.2).bind fun r43 =>
 some (r43.1, r43.2)) (
 (vl (.int .i64 1) r42.2).bind fun r44 =>
 (ld P 27 r10.1 r44.2).bind fun r45 =>
 (vl r44.1 r45.2).bind fun r46 =>
 (EV P 8 #[r45.1, r46.1] r46.2).bind fun r47 =>
 (vl r47.1 r47.2).bind fun r48 =>
 (vl r48.1 r48.2).bind fun r49 =>
 (bo P .lss 3 (.tmp 41) (.const (.int .i64 0)) r49.1 (.int .i64 0) r49.2).bind fun r50 =>
 cnd r50.1 (
 (vl (.bool false) r50.2).bind fun r51 =>
 some (r51.1, r51.2)) (
 (vl r48.1 r50.2).bind fun r52 =>
 (vl r21.1 r52.2).bind fun r53 =>
 (bo P .neq 3 (.tmp 43) (.tmp 44) r52.1 r53.1 r53.2).bind fun r54 =>
 cnd r54.1 (
 (vl (.bool false) r54.2).bind fun r55 =>
 some (r55.1, r55.2)) (
 (vl (.bool true) r54.2).bind fun r56 =>
 some (r56.1, r56.2))))))) := by kernel_rfl
theorem spec_WorldNew_fn (x0 x1 : Value) (w : World) : fnC P (EV P) 4 #[x0, x1] w =
 (al P 27 w).bind fun r1 =>
 (vl x0 r1.2).bind fun r2 =>
 (EV P 9 #[r2.1, (.int .i64 1), (.int .i64 4)] r2.2).bind fun r3 =>
 (uo P .not r3.1 r3.2).bind fun r4 =>
 (vl r4.1 r4.2).bind fun r5 =>
 (gif r5.1 false (vl x1 r5.2) r5.2).bind fun r6 =>
 (gif r5.1 false (EV P 9 #[r6.1, (.int .i64 0), (.int .i64 4)] r6.2) r6.2).bind fun r7 =>
 (gif r5.1 false (uo P .not r7.1 r7.2) r7.2).bind fun r8 =>
 (pickV r5.1 (.bool true) r8.1 r8.2).bind fun r9 =>
 cnd r9.1 (
 (bd P 27 #[] r9.2).bind fun r10 =>
 (st P 27 r1.1 r10.1 r10.2).bind fun r11 =>
 ((ld P 27 r1.1 r11.2).bind fun r12 => ifP (r12.2 = r11.2) (some r12.1)).bind fun v13 =>
 some (v13, r11.2)) (
 (vl x0 r9.2).bind fun r14 =>
 (vl x1 r14.2).bind fun r15 =>
 (EV P 10 #[r14.1, r15.1] r15.2).bind fun r16 =>
 (st P 27 r1.1 r16.1 r16.2).bind fun r17 =>
 ((ld P 27 r1.1 r17.2).bind fun r18 => ifP (r18.2 = r17.2) (some r18.1)).bind fun v19 =>
 some (v19, r17.2)) := by kernel_rfl
theorem impl_WorldNew_fn (x0 x1 : Value) (w : World) : fnC P (EV P) 5 #[x0, x1] w =
 (al P 27 w).bind fun r1 =>
 (vl x0 r1.2).bind fun r2 =>
 (vl x1 r2.2).bind fun r3 =>
 (EV P 11 #[r2.1, r3.1] r3.2).bind fun r4 =>
 (uo P .not r4.1 r4.2).bind fun r5 =>
 cnd r5.1 (
 (bd P 27 #[] r5.2).bind fun r6 =>
 (st P 27 r1.1 r6.1 r6.2).bind fun r7 =>
 ((ld P 27 r1.1 r7.2).bind fun r8 => ifP (r8.2 = r7.2) (some r8.1)).bind fun v9 =>
 some (v9, r7.2)) (
 (vl x0 r5.2).bind fun r10 =>
 (vl x1 r10.2).bind fun r11 =>
 (EV P 12 #[r10.1, r11.1] r11.2).bind fun r12 =>
 (st P 27 r1.1 r12.1 r12.2).bind fun r13 =>
 ((ld P 27 r1.1 r13.2).bind fun r14 => ifP (r14.2 = r13.2) (some r14.1)).bind fun v15 =>
 some (v15, r13.2)) := by kernel_rfl
theorem laws_eqWorld_fn (x0 x1 : Value) (w : World) : fnC P (EV P) 6 #[x0, x1] w =
 (bx P 27 x0 w).bind fun r1 =>
 (bx P 27 x1 r1.2).bind fun r2 =>
 (vl (.bool false) r2.2).bind fun r3 =>
 (fa P 27 r1.1 0 r3.2).bind fun r4 =>
 (ld P 22 r4.1 r4.2).bind fun r5 =>
 (fa P 27 r2.1 0 r5.2).bind fun r6 =>
 (ld P 22 r6.1 r6.2).bind fun r7 =>
 (EV P 13 #[r5.1, r7.1] r7.2).bind fun r8 =>
 (uo P .not r8.1 r8.2).bind fun r9 =>
 cnd r9.1 (
 (vl (.bool false) r9.2).bind fun r10 =>
 some (r10.1, r10.2)) (
 (fa P 27 r1.1 1 r9.2).bind fun r11 =>
 (ld P 23 r11.1 r11.2).bind fun r12 =>
 (fa P 27 r2.1 1 r12.2).bind fun r13 =>
 (ld P 23 r13.1 r13.2).bind fun r14 =>
 (EV P 14 #[r12.1, r14.1] r14.2).bind fun r15 =>
 (uo P .not r15.1 r15.2).bind fun r16 =>
 cnd r16.1 (
 (vl (.bool false) r16.2).bind fun r17 =>
 some (r17.1, r17.2)) (
 (fa P 27 r1.1 2 r16.2).bind fun r18 =>
 (ld P 24 r18.1 r18.2).bind fun r19 =>
 (fa P 27 r2.1 2 r19.2).bind fun r20 =>
 (ld P 24 r20.1 r20.2).bind fun r21 =>
 (EV P 15 #[r19.1, r21.1] r21.2).bind fun r22 =>
 (uo P .not r22.1 r22.2).bind fun r23 =>
 cnd r23.1 (
 (vl (.bool false) r23.2).bind fun r24 =>
 some (r24.1, r24.2)) (
 (fa P 27 r1.1 3 r23.2).bind fun r25 =>
 (ld P 25 r25.1 r25.2).bind fun r26 =>
 (fa P 27 r2.1 3 r26.2).bind fun r27 =>
 (ld P 25 r27.1 r27.2).bind fun r28 =>
 (EV P 16 #[r26.1, r28.1] r28.2).bind fun r29 =>
 (uo P .not r29.1 r29.2).bind fun r30 =>
 cnd r30.1 (
 (vl (.bool false) r30.2).bind fun r31 =>
 some (r31.1, r31.2)) (
 (vl (.bool true) r30.2).bind fun r32 =>
 some (r32.1, r32.2))))) := by kernel_rfl
theorem laws_markWorld_fn (x0 x1 : Value) (w : World) : fnC P (EV P) 7 #[x0, x1] w =
 (bx P 27 x0 w).bind fun r1 =>
 (vl (.int .i64 0) r1.2).bind fun r2 =>
 (fa P 27 r1.1 0 r2.2).bind fun r3 =>
 (ld P 22 r3.1 r3.2).bind fun r4 =>
 (vl x1 r4.2).bind fun r5 =>
 (EV P 17 #[r4.1, r5.1] r5.2).bind fun r6 =>
 (vl r6.1 r6.2).bind fun r7 =>
 (fa P 27 r1.1 1 r7.2).bind fun r8 =>
 (ld P 23 r8.1 r8.2).bind fun r9 =>
 (vl r7.1 r9.2).bind fun r10 =>
 (EV P 18 #[r9.1, r10.1] r10.2).bind fun r11 =>
 (vl r11.1 r11.2).bind fun r12 =>
 (fa P 27 r1.1 2 r12.2).bind fun r13 =>
 (ld P 24 r13.1 r13.2).bind fun r14 =>
 (vl r12.1 r14.2).bind fun r15 =>
 (EV P 19 #[r14.1, r15.1] r15.2).bind fun r16 =>
 (vl r16.1 r16.2).bind fun r17 =>
 (fa P 27 r1.1 3 r17.2).bind fun r18 =>
 (ld P 25 r18.1 r18.2).bind fun r19 =>
 (vl r17.1 r19.2).bind fun r20 =>
 (EV P 20 #[r19.1, r20.1] r20.2).bind fun r21 =>
 (vl r21.1 r21.2).bind fun r22 =>
 (vl r22.1 r22.2).bind fun r23 =>
 (vl r23.1 r23.2).bind fun r24 =>
 some (r24.1, r24.2) := by kernel_rfl
theorem laws_heldWorld_fn (x0 x1 : Value) (w : World) : fnC P (EV P) 8 #[x0, x1] w =
 (bx P 27 x0 w).bind fun r1 =>
 (vl (.int .i64 0) r1.2).bind fun r2 =>
 (fa P 27 r1.1 0 r2.2).bind fun r3 =>
 (ld P 22 r3.1 r3.2).bind fun r4 =>
 (vl x1 r4.2).bind fun r5 =>
 (EV P 21 #[r4.1, r5.1] r5.2).bind fun r6 =>
 (vl r6.1 r6.2).bind fun r7 =>
 (vl r7.1 r7.2).bind fun r8 =>
 (bo P .lss 3 (.tmp 9) (.const (.int .i64 0)) r8.1 (.int .i64 0) r8.2).bind fun r9 =>
 cnd r9.1 (
 (vl (.int .i64 (-1)) r9.2).bind fun r10 =>
 some (r10.1, r10.2)) (
 (fa P 27 r1.1 1 r9.2).bind fun r11 =>
 (ld P 23 r11.1 r11.2).bind fun r12 =>
 (vl r7.1 r12.2).bind fun r13 =>
 (EV P 22 #[r12.1, r13.1] r13.2).bind fun r14 =>
 (vl r14.1 r14.2).bind fun r15 =>
 (vl r15.1 r15.2).bind fun r16 =>
 (bo P .lss 3 (.tmp 15) (.const (.int .i64 0)) r16.1 (.int .i64 0) r16.2).bind fun r17 =>
 cnd r17.1 (
 (vl (.int .i64 (-1)) r17.2).bind fun r18 =>
 some (r18.1, r18.2)) (
 (fa P 27 r1.1 2 r17.2).bind fun r19 =>
 (ld P 24 r19.1 r19.2).bind fun r20 =>
 (vl r15.1 r20.2).bind fun r21 =>
 (EV P 23 #[r20.1, r21.1] r21.2).bind fun r22 =>
 (vl r22.1 r22.2).bind fun r23 =>
 (vl r23.1 r23.2).bind fun r24 =>
 (bo P .lss 3 (.tmp 21) (.const (.int .i64 0)) r24.1 (.int .i64 0) r24.2).bind fun r25 =>
 cnd r25.1 (
 (vl (.int .i64 (-1)) r25.2).bind fun r26 =>
 some (r26.1, r26.2)) (
 (fa P 27 r1.1 3 r25.2).bind fun r27 =>
 (ld P 25 r27.1 r27.2).bind fun r28 =>
 (vl r23.1 r28.2).bind fun r29 =>
 (EV P 24 #[r28.1, r29.1] r29.2).bind fun r30 =>
 (vl r30.1 r30.2).bind fun r31 =>
 (vl r31.1 r31.2).bind fun r32 =>
 (bo P .lss 3 (.tmp 27) (.const (.int .i64 0)) r32.1 (.int .i64 0) r32.2).bind fun r33 =>
 cnd r33.1 (
 (vl (.int .i64 (-1)) r33.2).bind fun r34 =>
 some (r34.1, r34.2)) (
 (vl r31.1 r33.2).bind fun r35 =>
 (vl r35.1 r35.2).bind fun r36 =>
 some (r36.1, r36.2))))) := by kernel_rfl
theorem spec_l1In_fn (x0 x1 x2 : Value) (w : World) : fnC P (EV P) 9 #[x0, x1, x2] w =
 (vl (.bool false) w).bind fun r1 =>
 (vl x0 r1.2).bind fun r2 =>
 (vl x1 r2.2).bind fun r3 =>
 (bo P .geq 3 (.tmp 7) (.tmp 8) r2.1 r3.1 r3.2).bind fun r4 =>
 (vl r4.1 r4.2).bind fun r5 =>
 (gif r5.1 true (vl x0 r5.2) r5.2).bind fun r6 =>
 (gif r5.1 true (vl x2 r6.2) r6.2).bind fun r7 =>
 (gif r5.1 true (bo P .leq 3 (.tmp 11) (.tmp 12) r6.1 r7.1 r7.2) r7.2).bind fun r8 =>
 (pickV r5.1 r8.1 (.bool false) r8.2).bind fun r9 =>
 (vl r9.1 r9.2).bind fun r10 =>
 some (r10.1, r10.2) := by kernel_rfl
noncomputable def spec_l5New_l1 (e : Env) (w : World) : Option (Value × World) := exC P (EV P) 10 36 (.loop (cA (cA (cB (cA (cB (cB (bodyOf P 10)))))))) e w (kBlock 0 (kSeq P (EV P) 10 36 (cB (cB (cB (bodyOf P 10)))) (kFn P (fnOf P 10))))
noncomputable def spec_l5New_l2 (e : Env) (w : World) : Option (Value × World) := exC P (EV P) 10 36 (.loop (cA (cA (cB (cA (cB (cB (cB (bodyOf P 10))))))))) e w (kBlock 2 (kSeq P (EV P) 10 36 (cB (cB (cB (cB (bodyOf P 10))))) (kFn P (fnOf P 10))))
theorem spec_l5New_l1_eq (e : Env) (w : World) : spec_l5New_l1 e w =
 (vl (e 6) w).bind fun r1 =>
 (bo P .lss 3 (.tmp 9) (.const (.int .i64 3)) r1.1 (.int .i64 3) r1.2).bind fun r2 =>
 cnd r2.1 (
 (fa P 27 (e 5) 0 (dw r2.2)).bind fun r4 =>
 ifP (r4.2 = (dw r2.2)) <|
 (ld P 22 r4.1 (dw r2.2)).bind fun r5 =>
 ifP (r5.2 = (dw r2.2)) <|
 (vl (e 6) (dw r2.2)).bind fun r6 =>
 ifP (r6.2 = (dw r2.2)) <|
 (vl (e 0) (dw r2.2)).bind fun r7 =>
 ifP (r7.2 = (dw r2.2)) <|
 (EV P 25 #[r6.1, r7.1] (dw r2.2)).bind fun r8 =>
 ifP (ld P 22 r4.1 r8.2 = some (r5.1, r8.2) ∧ fa P 27 (e 5) 0 r8.2 = some (r4.1, r8.2) ∧ True) <|
 (bs P 22 1 #[(0, r8.1)] r8.2).bind fun r9 =>
 ifP (ld P 22 r4.1 r9.2 = some (r5.1, r9.2) ∧ fa P 27 (e 5) 0 r9.2 = some (r4.1, r9.2) ∧ True) <|
 (b_append P #[22, 22] 22 #[r5.1, r9.1] r9.2).bind fun r10 =>
 ifP (True ∧ True ∧ True) <|
 (fa P 27 (e 5) 0 r10.2).bind fun r11 =>
 ifP (r11.2 = r10.2) <|
 (st P 22 r11.1 r10.1 r10.2).bind fun r12 =>
 ifP (True ∧ True ∧ True ∧ True) <|
 (vl (e 6) r12.2).bind fun r13 =>
 (bo P .add 3 (.tmp 11) (.const (.int .i64 1)) r13.1 (.int .i64 1) r13.2).bind fun r14 =>
 (vl r14.1 r14.2).bind fun r15 =>
 spec_l5New_l1 (ups e [(9, r1.1), (10, r2.1), (13, r4.1), (14, r5.1), (15, r6.1), (16, r7.1), (17, r8.1), (18, r9.1), (19, r10.1), (20, r11.1), (11, r13.1), (12, r14.1), (6, r15.1)]) r15.2) (
 (vl (.int .i64 0) r2.2).bind fun r16 =>
 spec_l5New_l2 (ups e [(9, r1.1), (10, r2.1), (7, r16.1)]) r16.2) := (exC_loop P (EV P) 10 36 (cA (cA (cB (cA (cB (cB (bodyOf P 10))))))) e w (kBlock 0 (kSeq P (EV P) 10 36 (cB (cB (cB (bodyOf P 10)))) (kFn P (fnOf P 10))))).trans (by kernel_rfl)
theorem spec_l5New_l2_eq (e : Env) (w : World) : spec_l5New_l2 e w =
 (vl (e 7) w).bind fun r1 =>
 (vl (e 1) r1.2).bind fun r2 =>
 (bo P .lss 3 (.tmp 21) (.tmp 22) r1.1 r2.1 r2.2).bind fun r3 =>
 cnd r3.1 (
 (fa P 27 (e 5) 1 (dw r3.2)).bind fun r5 =>
 ifP (r5.2 = (dw r3.2)) <|
 (ld P 23 r5.1 (dw r3.2)).bind fun r6 =>
 ifP (r6.2 = (dw r3.2)) <|
 (vl (e 7) (dw r3.2)).bind fun r7 =>
 ifP (r7.2 = (dw r3.2)) <|
 (bo P .rem 3 (.tmp 28) (.const (.int .i64 3)) r7.1 (.int .i64 3) (dw r3.2)).bind fun r8 =>
 ifP (r8.2 = (dw r3.2)) <|
 (EV P 26 #[] (dw r3.2)).bind fun r9 =>
 ifP (bo P .rem 3 (.tmp 28) (.const (.int .i64 3)) r7.1 (.int .i64 3) r9.2 = some (r8.1, r9.2) ∧ ld P 23 r5.1 r9.2 = some (r6.1, r9.2) ∧ fa P 27 (e 5) 1 r9.2 = some (r5.1, r9.2) ∧ True) <|
 (bd P 56 #[(0, r8.1), (1, r9.1)] r9.2).bind fun r10 =>
 ifP (r10.2 = r9.2) <|
 (bs P 23 1 #[(0, r10.1)] r9.2).bind fun r11 =>
 ifP (True ∧ True ∧ ld P 23 r5.1 r11.2 = some (r6.1, r11.2) ∧ fa P 27 (e 5) 1 r11.2 = some (r5.1, r11.2) ∧ True) <|
 (b_append P #[23, 23] 23 #[r6.1, r11.1] r11.2).bind fun r12 =>
 ifP (True ∧ True ∧ True ∧ True ∧ True) <|
 (fa P 27 (e 5) 1 r12.2).bind fun r13 =>
 ifP (r13.2 = r12.2) <|
 (st P 23 r13.1 r12.1 r12.2).bind fun r14 =>
 ifP (True ∧ True ∧ True ∧ True ∧ True ∧ True) <|
 (vl (e 7) r14.2).bind fun r15 =>
 (bo P .add 3 (.tmp 24) (.const (.int .i64 1)) r15.1 (.int .i64 1) r15.2).bind fun r16 =>
 (vl r16.1 r16.2).bind fun r17 =>
 spec_l5New_l2 (ups e [(21, r1.1), (22, r2.1), (23, r3.1), (26, r5.1), (27, r6.1), (28, r7.1), (29, r8.1), (30, r9.1), (31, r10.1), (32, r11.1), (33, r12.1), (34, r13.1), (24, r15.1), (25, r16.1), (7, r17.1)]) r17.2) (
 (ld P 27 (e 5) r3.2).bind fun r18 =>
 (st P 27 (e 4) r18.1 r18.2).bind fun r19 =>
 ((ld P 27 (e 4) r19.2).bind fun r20 => ifP (r20.2 = r19.2) (some r20.1)).bind fun v21 =>
 some (v21, r19.2)) := (exC_loop P (EV P) 10 36 (cA (cA (cB (cA (cB (cB (cB (bodyOf P 10)))))))) e w (kBlock 2 (kSeq P (EV P) 10 36 (cB (cB (cB (cB (bodyOf P 10))))) (kFn P (fnOf P 10))))).trans (by kernel_rfl)
theorem spec_l5New_fn (x0 x1 : Value) (w : World) : fnC P (EV P) 10 #[x0, x1] w =
 (al P 27 w).bind fun r1 =>
 (bd P 27 #[] r1.2).bind fun r2 =>
 (al P 27 r2.2).bind fun r3 =>
 (st P 27 r3.1 r2.1 r3.2).bind fun r4 =>
 (vl (.int .i64 0) r4.2).bind fun r5 =>
 spec_l5New_l1 (ups (env0 #[x0, x1]) [(4, r1.1), (8, r2.1), (5, r3.1), (6, r5.1)]) r5.2 := by kernel_rfl
theorem impl_worldArgs_fn (x0 x1 : Value) (w : World) : fnC P (EV P) 11 #[x0, x1] w =
 (vl (.bool false) w).bind fun r1 =>
 (vl x0 r1.2).bind fun r2 =>
 (EV P 27 #[r2.1] r2.2).bind fun r3 =>
 (vl r3.1 r3.2).bind fun r4 =>
 (gif r4.1 true (vl x1 r4.2) r4.2).bind fun r5 =>
 (gif r4.1 true (EV P 28 #[r5.1, (.int .i64 0), (.int .i64 4)] r5.2) r5.2).bind fun r6 =>
 (pickV r4.1 r6.1 (.bool false) r6.2).bind fun r7 =>
 (vl r7.1 r7.2).bind fun r8 =>
 some (r8.1, r8.2) := by kernel_rfl
noncomputable def impl_worldNew_a1 (e : Env) (w : World) : Option (Value × World) := exC P (EV P) 12 39 (cA (cB (bodyOf P 12))) e w (kSeq P (EV P) 12 39 (cB (cB (bodyOf P 12))) (kFn P (fnOf P 12)))
noncomputable def impl_worldNew_j1 (e : Env) (w : World) : Option (Value × World) := exC P (EV P) 12 39 (cB (cB (bodyOf P 12))) e w (kFn P (fnOf P 12))
noncomputable def impl_worldNew_l1 (e : Env) (w : World) : Option (Value × World) := exC P (EV P) 12 39 (.loop (cA (cA (cB (cA (cB (cB (bodyOf P 12)))))))) e w (kBlock 0 (kSeq P (EV P) 12 39 (cB (cB (cB (bodyOf P 12)))) (kFn P (fnOf P 12))))
noncomputable def impl_worldNew_l2 (e : Env) (w : World) : Option (Value × World) := exC P (EV P) 12 39 (.loop (cA (cA (cB (cA (cB (cB (cB (bodyOf P 12))))))))) e w (kBlock 2 (kSeq P (EV P) 12 39 (cB (cB (cB (cB (bodyOf P 12))))) (kFn P (fnOf P 12))))
theorem impl_worldNew_a1_any (e : Env) (w : World) {Q : Value × World → Prop} (h :
 (Ret (vl (e 1) (dw w)) fun r1 => r1.2 = (dw w) ∧
 ((Ret (ms P 22 (.int .i64 0) (.int .i64 3) (dw w)) fun r2 => (True) ∧
 ((Ret (ms P 23 (.int .i64 0) r1.1 r2.2) fun r3 => (True) ∧
 (Ret (bd P 27 #[(0, r2.1), (1, r3.1)] r3.2) fun r4 => r4.2 = r3.2 ∧
 ((Ret (al P 27 r3.2) fun r5 => (bd P 27 #[(0, r2.1), (1, r3.1)] r5.2 = some (r4.1, r5.2) ∧ True) ∧
 ((Ret (st P 27 r5.1 r4.1 r5.2) fun r6 => (True ∧ True) ∧
 Ret (impl_worldNew_j1 (ups e [(9, r1.1), (8, r2.1), (10, r3.1), (11, r4.1), (5, r5.1)]) r6.2) Q)))))) ∧
 (Ret (al P 27 r2.2) fun r7 => (True) ∧
 ((Ret (ms P 23 (.int .i64 0) r1.1 r7.2) fun r8 => (True) ∧
 (Ret (bd P 27 #[(0, r2.1), (1, r8.1)] r8.2) fun r9 => r9.2 = r8.2 ∧
 ((Ret (st P 27 r7.1 r9.1 r8.2) fun r10 => (True ∧ True) ∧
 Ret (impl_worldNew_j1 (ups e [(9, r1.1), (8, r2.1), (5, r7.1), (10, r8.1), (11, r9.1)]) r10.2) Q)))))))) ∧
 (Ret (ms P 23 (.int .i64 0) r1.1 (dw w)) fun r11 => (True) ∧
 ((Ret (ms P 22 (.int .i64 0) (.int .i64 3) r11.2) fun r12 => (True) ∧
 (Ret (bd P 27 #[(0, r12.1), (1, r11.1)] r12.2) fun r13 => r13.2 = r12.2 ∧
 ((Ret (al P 27 r12.2) fun r14 => (bd P 27 #[(0, r12.1), (1, r11.1)] r14.2 = some (r13.1, r14.2) ∧ True) ∧
 ((Ret (st P 27 r14.1 r13.1 r14.2) fun r15 => (True ∧ True) ∧
 Ret (impl_worldNew_j1 (ups e [(9, r1.1), (10, r11.1), (8, r12.1), (11, r13.1), (5, r14.1)]) r15.2) Q)))))) ∧
 (Ret (al P 27 r11.2) fun r16 => (True) ∧
 ((Ret (ms P 22 (.int .i64 0) (.int .i64 3) r16.2) fun r17 => (True) ∧
 (Ret (bd P 27 #[(0, r17.1), (1, r11.1)] r17.2) fun r18 => r18.2 = r17.2 ∧
 ((Ret (st P 27 r16.1 r18.1 r17.2) fun r19 => (True ∧ True) ∧
 Ret (impl_worldNew_j1 (ups e [(9, r1.1), (10, r11.1), (5, r16.1), (8, r17.1), (11, r18.1)]) r19.2) Q)))))))) ∧
 (Ret (al P 27 (dw w)) fun r20 => (True) ∧
 ((Ret (ms P 22 (.int .i64 0) (.int .i64 3) r20.2) fun r21 => (True) ∧
 ((Ret (ms P 23 (.int .i64 0) r1.1 r21.2) fun r22 => (True) ∧
 (Ret (bd P 27 #[(0, r21.1), (1, r22.1)] r22.2) fun r23 => r23.2 = r22.2 ∧
 ((Ret (st P 27 r20.1 r23.1 r22.2) fun r24 => (True ∧ True) ∧
 Ret (impl_worldNew_j1 (ups e [(9, r1.1), (5, r20.1), (8, r21.1), (10, r22.1), (11, r23.1)]) r24.2) Q)))))) ∧
 (Ret (ms P 23 (.int .i64 0) r1.1 r20.2) fun r25 => (True) ∧
 ((Ret (ms P 22 (.int .i64 0) (.int .i64 3) r25.2) fun r26 => (True) ∧
 (Ret (bd P 27 #[(0, r26.1), (1, r25.1)] r26.2) fun r27 => r27.2 = r26.2 ∧
 ((Ret (st P 27 r20.1 r27.1 r26.2) fun r28 => (True ∧ True) ∧
 Ret (impl_worldNew_j1 (ups e [(9, r1.1), (5, r20.1), (10, r25.1), (8, r26.1), (11, r27.1)]) r28.2) Q))))))))))) : Ret (impl_worldNew_a1 e w) Q := exC_any (id := 1) (ops := opsOf (cA (cB (bodyOf P 12)))) (by kernel_rfl) (by kernel_rfl) (Eq.mpr (by kernel_rfl) h)
theorem impl_worldNew_j1_eq (e : Env) (w : World) : impl_worldNew_j1 e w =
 (vl (.int .i64 0) w).bind fun r1 =>
 impl_worldNew_l1 (ups e [(12, r1.1)]) r1.2 := by kernel_rfl
theorem impl_worldNew_l1_eq (e : Env) (w : World) : impl_worldNew_l1 e w =
 (bo P .lss 3 (.tmp 12) (.const (.int .i64 3)) (e 12) (.int .i64 3) w).bind fun r1 =>
 cnd r1.1 (
 (vl (e 12) r1.2).bind fun r2 =>
 (vl r2.1 r2.2).bind fun r3 =>
 (fa P 27 (e 5) 0 (dw r3.2)).bind fun r5 =>
 ifP (r5.2 = (dw r3.2)) <|
 (ld P 22 r5.1 (dw r3.2)).bind fun r6 =>
 ifP (r6.2 = (dw r3.2)) <|
 (vl r3.1 (dw r3.2)).bind fun r7 =>
 ifP (r7.2 = (dw r3.2)) <|
 (vl (e 0) (dw r3.2)).bind fun r8 =>
 ifP (r8.2 = (dw r3.2)) <|
 (EV P 29 #[r7.1, r8.1] (dw r3.2)).bind fun r9 =>
 ifP (ld P 22 r5.1 r9.2 = some (r6.1, r9.2) ∧ fa P 27 (e 5) 0 r9.2 = some (r5.1, r9.2) ∧ True) <|
 (bs P 22 1 #[(0, r9.1)] r9.2).bind fun r10 =>
 ifP (ld P 22 r5.1 r10.2 = some (r6.1, r10.2) ∧ fa P 27 (e 5) 0 r10.2 = some (r5.1, r10.2) ∧ True) <|
 (b_append P #[22, 22] 22 #[r6.1, r10.1] r10.2).bind fun r11 =>
 ifP (True ∧ True ∧ True) <|
 (fa P 27 (e 5) 0 r11.2).bind fun r12 =>
 ifP (r12.2 = r11.2) <|
 (st P 22 r12.1 r11.1 r11.2).bind fun r13 =>
 ifP (True ∧ True ∧ True ∧ True) <|
 (bo P .add 3 (.tmp 12) (.const (.int .i64 1)) (e 12) (.int .i64 1) r13.2).bind fun r14 =>
 (vl r14.1 r14.2).bind fun r15 =>
 impl_worldNew_l1 (ups e [(13, r1.1), (14, r2.1), (6, r3.1), (15, r5.1), (16, r6.1), (17, r7.1), (18, r8.1), (19, r9.1), (20, r10.1), (21, r11.1), (22, r12.1), (23, r14.1), (12, r15.1)]) r15.2) (
 (vl (e 1) r1.2).bind fun r16 =>
 (vl (.int .i64 0) r16.2).bind fun r17 =>
 impl_worldNew_l2 (ups e [(13, r1.1), (24, r16.1), (25, r17.1)]) r17.2) := (exC_loop P (EV P) 12 39 (cA (cA (cB (cA (cB (cB (bodyOf P 12))))))) e w (kBlock 0 (kSeq P (EV P) 12 39 (cB (cB (cB (bodyOf P 12)))) (kFn P (fnOf P 12))))).trans (by kernel_rfl)
theorem impl_worldNew_l2_eq (e : Env) (w : World) : impl_worldNew_l2 e w =
 (bo P .lss 3 (.tmp 25) (.tmp 24) (e 25) (e 24) w).bind fun r1 =>
 cnd r1.1 (
 (vl (e 25) r1.2).bind fun r2 =>
 (vl r2.1 r2.2).bind fun r3 =>
 (fa P 27 (e 5) 1 (dw r3.2)).bind fun r5 =>
 ifP (r5.2 = (dw r3.2)) <|
 (ld P 23 r5.1 (dw r3.2)).bind fun r6 =>
 ifP (r6.2 = (dw r3.2)) <|
 (vl r3.1 (dw r3.2)).bind fun r7 =>
 ifP (r7.2 = (dw r3.2)) <|
 (bo P .rem 3 (.tmp 30) (.const (.int .i64 3)) r7.1 (.int .i64 3) (dw r3.2)).bind fun r8 =>
 ifP (r8.2 = (dw r3.2)) <|
 (EV P 30 #[] (dw r3.2)).bind fun r9 =>
 ifP (bo P .rem 3 (.tmp 30) (.const (.int .i64 3)) r7.1 (.int .i64 3) r9.2 = some (r8.1, r9.2) ∧ ld P 23 r5.1 r9.2 = some (r6.1, r9.2) ∧ fa P 27 (e 5) 1 r9.2 = some (r5.1, r9.2) ∧ True) <|
 (bd P 56 #[(0, r8.1), (1, r9.1)] r9.2).bind fun r10 =>
 ifP (r10.2 = r9.2) <|
 (bs P 23 1 #[(0, r10.1)] r9.2).bind fun r11 =>
 ifP (True ∧ True ∧ ld P 23 r5.1 r11.2 = some (r6.1, r11.2) ∧ fa P 27 (e 5) 1 r11.2 = some (r5.1, r11.2) ∧ True) <|
 (b_append P #[23, 23] 23 #[r6.1, r11.1] r11.2).bind fun r12 =>
 ifP (True ∧ True ∧ True ∧ True ∧ True) <|
 (fa P 27 (e 5) 1 r12.2).bind fun r13 =>
 ifP (r13.2 = r12.2) <|
 (st P 23 r13.1 r12.1 r12.2).bind fun r14 =>
 ifP (True ∧ True ∧ True ∧ True ∧ True ∧ True) <|
 (bo P .add 3 (.tmp 25) (.const (.int .i64 1)) (e 25) (.int .i64 1) r14.2).bind fun r15 =>
 (vl r15.1 r15.2).bind fun r16 =>
 impl_worldNew_l2 (ups e [(26, r1.1), (27, r2.1), (7, r3.1), (28, r5.1), (29, r6.1), (30, r7.1), (31, r8.1), (32, r9.1), (33, r10.1), (34, r11.1), (35, r12.1), (36, r13.1), (37, r15.1), (25, r16.1)]) r16.2) (
 (ld P 27 (e 5) r1.2).bind fun r17 =>
 (st P 27 (e 4) r17.1 r17.2).bind fun r18 =>
 ((ld P 27 (e 4) r18.2).bind fun r19 => ifP (r19.2 = r18.2) (some r19.1)).bind fun v20 =>
 some (v20, r18.2)) := (exC_loop P (EV P) 12 39 (cA (cA (cB (cA (cB (cB (cB (bodyOf P 12)))))))) e w (kBlock 2 (kSeq P (EV P) 12 39 (cB (cB (cB (cB (bodyOf P 12))))) (kFn P (fnOf P 12))))).trans (by kernel_rfl)
theorem impl_worldNew_fn (x0 x1 : Value) (w : World) : fnC P (EV P) 12 #[x0, x1] w =
 (al P 27 w).bind fun r1 =>
 impl_worldNew_a1 (ups (env0 #[x0, x1]) [(4, r1.1)]) r1.2 := by kernel_rfl
noncomputable def laws_eqPlaceS_l1 (e : Env) (w : World) : Option (Value × World) := exC P (EV P) 13 27 (.loop (cA (cA (cB (cA (cB (cB (bodyOf P 13)))))))) e w (kBlock 0 (kSeq P (EV P) 13 27 (cB (cB (cB (bodyOf P 13)))) (kFn P (fnOf P 13))))
theorem laws_eqPlaceS_l1_eq (e : Env) (w : World) : laws_eqPlaceS_l1 e w =
 (vl (e 5) w).bind fun r1 =>
 (vl (e 0) r1.2).bind fun r2 =>
 (b_len P #[22] 3 #[r2.1] r2.2).bind fun r3 =>
 (bo P .lss 3 (.tmp 11) (.tmp 13) r1.1 r3.1 r3.2).bind fun r4 =>
 cnd r4.1 (
 (vl (e 0) (dw r4.2)).bind fun r6 =>
 ifP (r6.2 = (dw r4.2)) <|
 (vl (e 5) (dw r4.2)).bind fun r7 =>
 ifP (r7.2 = (dw r4.2)) <|
 (ia P 22 r6.1 r7.1 (dw r4.2)).bind fun r8 =>
 ifP (r8.2 = (dw r4.2)) <|
 (ld P 47 r8.1 (dw r4.2)).bind fun r9 =>
 ifP (r9.2 = (dw r4.2)) <|
 (vl (e 1) (dw r4.2)).bind fun r10 =>
 ifP (r10.2 = (dw r4.2)) <|
 (vl (e 5) (dw r4.2)).bind fun r11 =>
 ifP (r11.2 = (dw r4.2)) <|
 (ia P 22 r10.1 r11.1 (dw r4.2)).bind fun r12 =>
 ifP (r12.2 = (dw r4.2)) <|
 (ld P 47 r12.1 (dw r4.2)).bind fun r13 =>
 ifP (r13.2 = (dw r4.2)) <|
 (EV P 31 #[r9.1, r13.1] (dw r4.2)).bind fun r14 =>
 ifP (True ∧ True ∧ True ∧ True ∧ True) <|
 (uo P .not r14.1 r14.2).bind fun r15 =>
 ifP (r15.2 = r14.2) <|
 cnd r15.1 (
 (vl (.bool false) r14.2).bind fun r16 =>
 some (r16.1, r16.2)) (
 (vl (e 5) r14.2).bind fun r17 =>
 (bo P .add 3 (.tmp 15) (.const (.int .i64 1)) r17.1 (.int .i64 1) r17.2).bind fun r18 =>
 (vl r18.1 r18.2).bind fun r19 =>
 laws_eqPlaceS_l1 (ups e [(11, r1.1), (12, r2.1), (13, r3.1), (14, r4.1), (17, r6.1), (18, r7.1), (19, r8.1), (20, r9.1), (21, r10.1), (22, r11.1), (23, r12.1), (24, r13.1), (25, r14.1), (26, r15.1), (15, r17.1), (16, r18.1), (5, r19.1)]) r19.2)) (
 (vl (.bool true) r4.2).bind fun r20 =>
 some (r20.1, r20.2)) := (exC_loop P (EV P) 13 27 (cA (cA (cB (cA (cB (cB (bodyOf P 13))))))) e w (kBlock 0 (kSeq P (EV P) 13 27 (cB (cB (cB (bodyOf P 13)))) (kFn P (fnOf P 13))))).trans (by kernel_rfl)
theorem laws_eqPlaceS_fn (x0 x1 : Value) (w : World) : fnC P (EV P) 13 #[x0, x1] w =
 (vl (.bool false) w).bind fun r1 =>
 (vl x0 r1.2).bind fun r2 =>
 (b_len P #[22] 3 #[r2.1] r2.2).bind fun r3 =>
 (vl x1 r3.2).bind fun r4 =>
 (b_len P #[22] 3 #[r4.1] r4.2).bind fun r5 =>
 (bo P .neq 3 (.tmp 7) (.tmp 9) r3.1 r5.1 r5.2).bind fun r6 =>
 cnd r6.1 (
 (vl (.bool false) r6.2).bind fun r7 =>
 some (r7.1, r7.2)) (
 (vl (.int .i64 0) r6.2).bind fun r8 =>
 laws_eqPlaceS_l1 (ups (env0 #[x0, x1]) [(4, r1.1), (6, r2.1), (7, r3.1), (8, r4.1), (9, r5.1), (10, r6.1), (5, r8.1)]) r8.2) := by kernel_rfl
noncomputable def laws_eqSessS_l1 (e : Env) (w : World) : Option (Value × World) := exC P (EV P) 14 27 (.loop (cA (cA (cB (cA (cB (cB (bodyOf P 14)))))))) e w (kBlock 0 (kSeq P (EV P) 14 27 (cB (cB (cB (bodyOf P 14)))) (kFn P (fnOf P 14))))
theorem laws_eqSessS_l1_eq (e : Env) (w : World) : laws_eqSessS_l1 e w =
 (vl (e 5) w).bind fun r1 =>
 (vl (e 0) r1.2).bind fun r2 =>
 (b_len P #[23] 3 #[r2.1] r2.2).bind fun r3 =>
 (bo P .lss 3 (.tmp 11) (.tmp 13) r1.1 r3.1 r3.2).bind fun r4 =>
 cnd r4.1 (
 (vl (e 0) (dw r4.2)).bind fun r6 =>
 ifP (r6.2 = (dw r4.2)) <|
 (vl (e 5) (dw r4.2)).bind fun r7 =>
 ifP (r7.2 = (dw r4.2)) <|
 (ia P 23 r6.1 r7.1 (dw r4.2)).bind fun r8 =>
 ifP (r8.2 = (dw r4.2)) <|
 (ld P 56 r8.1 (dw r4.2)).bind fun r9 =>
 ifP (r9.2 = (dw r4.2)) <|
 (vl (e 1) (dw r4.2)).bind fun r10 =>
 ifP (r10.2 = (dw r4.2)) <|
 (vl (e 5) (dw r4.2)).bind fun r11 =>
 ifP (r11.2 = (dw r4.2)) <|
 (ia P 23 r10.1 r11.1 (dw r4.2)).bind fun r12 =>
 ifP (r12.2 = (dw r4.2)) <|
 (ld P 56 r12.1 (dw r4.2)).bind fun r13 =>
 ifP (r13.2 = (dw r4.2)) <|
 (EV P 32 #[r9.1, r13.1] (dw r4.2)).bind fun r14 =>
 ifP (True ∧ True ∧ True ∧ True ∧ True) <|
 (uo P .not r14.1 r14.2).bind fun r15 =>
 ifP (r15.2 = r14.2) <|
 cnd r15.1 (
 (vl (.bool false) r14.2).bind fun r16 =>
 some (r16.1, r16.2)) (
 (vl (e 5) r14.2).bind fun r17 =>
 (bo P .add 3 (.tmp 15) (.const (.int .i64 1)) r17.1 (.int .i64 1) r17.2).bind fun r18 =>
 (vl r18.1 r18.2).bind fun r19 =>
 laws_eqSessS_l1 (ups e [(11, r1.1), (12, r2.1), (13, r3.1), (14, r4.1), (17, r6.1), (18, r7.1), (19, r8.1), (20, r9.1), (21, r10.1), (22, r11.1), (23, r12.1), (24, r13.1), (25, r14.1), (26, r15.1), (15, r17.1), (16, r18.1), (5, r19.1)]) r19.2)) (
 (vl (.bool true) r4.2).bind fun r20 =>
 some (r20.1, r20.2)) := (exC_loop P (EV P) 14 27 (cA (cA (cB (cA (cB (cB (bodyOf P 14))))))) e w (kBlock 0 (kSeq P (EV P) 14 27 (cB (cB (cB (bodyOf P 14)))) (kFn P (fnOf P 14))))).trans (by kernel_rfl)
theorem laws_eqSessS_fn (x0 x1 : Value) (w : World) : fnC P (EV P) 14 #[x0, x1] w =
 (vl (.bool false) w).bind fun r1 =>
 (vl x0 r1.2).bind fun r2 =>
 (b_len P #[23] 3 #[r2.1] r2.2).bind fun r3 =>
 (vl x1 r3.2).bind fun r4 =>
 (b_len P #[23] 3 #[r4.1] r4.2).bind fun r5 =>
 (bo P .neq 3 (.tmp 7) (.tmp 9) r3.1 r5.1 r5.2).bind fun r6 =>
 cnd r6.1 (
 (vl (.bool false) r6.2).bind fun r7 =>
 some (r7.1, r7.2)) (
 (vl (.int .i64 0) r6.2).bind fun r8 =>
 laws_eqSessS_l1 (ups (env0 #[x0, x1]) [(4, r1.1), (6, r2.1), (7, r3.1), (8, r4.1), (9, r5.1), (10, r6.1), (5, r8.1)]) r8.2) := by kernel_rfl
noncomputable def laws_eqFrameS_l1 (e : Env) (w : World) : Option (Value × World) := exC P (EV P) 15 27 (.loop (cA (cA (cB (cA (cB (cB (bodyOf P 15)))))))) e w (kBlock 0 (kSeq P (EV P) 15 27 (cB (cB (cB (bodyOf P 15)))) (kFn P (fnOf P 15))))
theorem laws_eqFrameS_l1_eq (e : Env) (w : World) : laws_eqFrameS_l1 e w =
 (vl (e 5) w).bind fun r1 =>
 (vl (e 0) r1.2).bind fun r2 =>
 (b_len P #[24] 3 #[r2.1] r2.2).bind fun r3 =>
 (bo P .lss 3 (.tmp 11) (.tmp 13) r1.1 r3.1 r3.2).bind fun r4 =>
 cnd r4.1 (
 (vl (e 0) (dw r4.2)).bind fun r6 =>
 ifP (r6.2 = (dw r4.2)) <|
 (vl (e 5) (dw r4.2)).bind fun r7 =>
 ifP (r7.2 = (dw r4.2)) <|
 (ia P 24 r6.1 r7.1 (dw r4.2)).bind fun r8 =>
 ifP (r8.2 = (dw r4.2)) <|
 (ld P 64 r8.1 (dw r4.2)).bind fun r9 =>
 ifP (r9.2 = (dw r4.2)) <|
 (vl (e 1) (dw r4.2)).bind fun r10 =>
 ifP (r10.2 = (dw r4.2)) <|
 (vl (e 5) (dw r4.2)).bind fun r11 =>
 ifP (r11.2 = (dw r4.2)) <|
 (ia P 24 r10.1 r11.1 (dw r4.2)).bind fun r12 =>
 ifP (r12.2 = (dw r4.2)) <|
 (ld P 64 r12.1 (dw r4.2)).bind fun r13 =>
 ifP (r13.2 = (dw r4.2)) <|
 (EV P 33 #[r9.1, r13.1] (dw r4.2)).bind fun r14 =>
 ifP (True ∧ True ∧ True ∧ True ∧ True) <|
 (uo P .not r14.1 r14.2).bind fun r15 =>
 ifP (r15.2 = r14.2) <|
 cnd r15.1 (
 (vl (.bool false) r14.2).bind fun r16 =>
 some (r16.1, r16.2)) (
 (vl (e 5) r14.2).bind fun r17 =>
 (bo P .add 3 (.tmp 15) (.const (.int .i64 1)) r17.1 (.int .i64 1) r17.2).bind fun r18 =>
 (vl r18.1 r18.2).bind fun r19 =>
 laws_eqFrameS_l1 (ups e [(11, r1.1), (12, r2.1), (13, r3.1), (14, r4.1), (17, r6.1), (18, r7.1), (19, r8.1), (20, r9.1), (21, r10.1), (22, r11.1), (23, r12.1), (24, r13.1), (25, r14.1), (26, r15.1), (15, r17.1), (16, r18.1), (5, r19.1)]) r19.2)) (
 (vl (.bool true) r4.2).bind fun r20 =>
 some (r20.1, r20.2)) := (exC_loop P (EV P) 15 27 (cA (cA (cB (cA (cB (cB (bodyOf P 15))))))) e w (kBlock 0 (kSeq P (EV P) 15 27 (cB (cB (cB (bodyOf P 15)))) (kFn P (fnOf P 15))))).trans (by kernel_rfl)
theorem laws_eqFrameS_fn (x0 x1 : Value) (w : World) : fnC P (EV P) 15 #[x0, x1] w =
 (vl (.bool false) w).bind fun r1 =>
 (vl x0 r1.2).bind fun r2 =>
 (b_len P #[24] 3 #[r2.1] r2.2).bind fun r3 =>
 (vl x1 r3.2).bind fun r4 =>
 (b_len P #[24] 3 #[r4.1] r4.2).bind fun r5 =>
 (bo P .neq 3 (.tmp 7) (.tmp 9) r3.1 r5.1 r5.2).bind fun r6 =>
 cnd r6.1 (
 (vl (.bool false) r6.2).bind fun r7 =>
 some (r7.1, r7.2)) (
 (vl (.int .i64 0) r6.2).bind fun r8 =>
 laws_eqFrameS_l1 (ups (env0 #[x0, x1]) [(4, r1.1), (6, r2.1), (7, r3.1), (8, r4.1), (9, r5.1), (10, r6.1), (5, r8.1)]) r8.2) := by kernel_rfl
noncomputable def laws_eqDoneS_l1 (e : Env) (w : World) : Option (Value × World) := exC P (EV P) 16 27 (.loop (cA (cA (cB (cA (cB (cB (bodyOf P 16)))))))) e w (kBlock 0 (kSeq P (EV P) 16 27 (cB (cB (cB (bodyOf P 16)))) (kFn P (fnOf P 16))))
theorem laws_eqDoneS_l1_eq (e : Env) (w : World) : laws_eqDoneS_l1 e w =
 (vl (e 5) w).bind fun r1 =>
 (vl (e 0) r1.2).bind fun r2 =>
 (b_len P #[25] 3 #[r2.1] r2.2).bind fun r3 =>
 (bo P .lss 3 (.tmp 11) (.tmp 13) r1.1 r3.1 r3.2).bind fun r4 =>
 cnd r4.1 (
 (vl (e 0) (dw r4.2)).bind fun r6 =>
 ifP (r6.2 = (dw r4.2)) <|
 (vl (e 5) (dw r4.2)).bind fun r7 =>
 ifP (r7.2 = (dw r4.2)) <|
 (ia P 25 r6.1 r7.1 (dw r4.2)).bind fun r8 =>
 ifP (r8.2 = (dw r4.2)) <|
 (ld P 67 r8.1 (dw r4.2)).bind fun r9 =>
 ifP (r9.2 = (dw r4.2)) <|
 (vl (e 1) (dw r4.2)).bind fun r10 =>
 ifP (r10.2 = (dw r4.2)) <|
 (vl (e 5) (dw r4.2)).bind fun r11 =>
 ifP (r11.2 = (dw r4.2)) <|
 (ia P 25 r10.1 r11.1 (dw r4.2)).bind fun r12 =>
 ifP (r12.2 = (dw r4.2)) <|
 (ld P 67 r12.1 (dw r4.2)).bind fun r13 =>
 ifP (r13.2 = (dw r4.2)) <|
 (EV P 34 #[r9.1, r13.1] (dw r4.2)).bind fun r14 =>
 ifP (True ∧ True ∧ True ∧ True ∧ True) <|
 (uo P .not r14.1 r14.2).bind fun r15 =>
 ifP (r15.2 = r14.2) <|
 cnd r15.1 (
 (vl (.bool false) r14.2).bind fun r16 =>
 some (r16.1, r16.2)) (
 (vl (e 5) r14.2).bind fun r17 =>
 (bo P .add 3 (.tmp 15) (.const (.int .i64 1)) r17.1 (.int .i64 1) r17.2).bind fun r18 =>
 (vl r18.1 r18.2).bind fun r19 =>
 laws_eqDoneS_l1 (ups e [(11, r1.1), (12, r2.1), (13, r3.1), (14, r4.1), (17, r6.1), (18, r7.1), (19, r8.1), (20, r9.1), (21, r10.1), (22, r11.1), (23, r12.1), (24, r13.1), (25, r14.1), (26, r15.1), (15, r17.1), (16, r18.1), (5, r19.1)]) r19.2)) (
 (vl (.bool true) r4.2).bind fun r20 =>
 some (r20.1, r20.2)) := (exC_loop P (EV P) 16 27 (cA (cA (cB (cA (cB (cB (bodyOf P 16))))))) e w (kBlock 0 (kSeq P (EV P) 16 27 (cB (cB (cB (bodyOf P 16)))) (kFn P (fnOf P 16))))).trans (by kernel_rfl)
theorem laws_eqDoneS_fn (x0 x1 : Value) (w : World) : fnC P (EV P) 16 #[x0, x1] w =
 (vl (.bool false) w).bind fun r1 =>
 (vl x0 r1.2).bind fun r2 =>
 (b_len P #[25] 3 #[r2.1] r2.2).bind fun r3 =>
 (vl x1 r3.2).bind fun r4 =>
 (b_len P #[25] 3 #[r4.1] r4.2).bind fun r5 =>
 (bo P .neq 3 (.tmp 7) (.tmp 9) r3.1 r5.1 r5.2).bind fun r6 =>
 cnd r6.1 (
 (vl (.bool false) r6.2).bind fun r7 =>
 some (r7.1, r7.2)) (
 (vl (.int .i64 0) r6.2).bind fun r8 =>
 laws_eqDoneS_l1 (ups (env0 #[x0, x1]) [(4, r1.1), (6, r2.1), (7, r3.1), (8, r4.1), (9, r5.1), (10, r6.1), (5, r8.1)]) r8.2) := by kernel_rfl
noncomputable def laws_markPlaceS_l1 (e : Env) (w : World) : Option (Value × World) := exC P (EV P) 17 58 (.loop (cA (cA (cB (cA (cB (bodyOf P 17))))))) e w (kBlock 0 (kSeq P (EV P) 17 58 (cB (cB (bodyOf P 17))) (kFn P (fnOf P 17))))
theorem laws_markPlaceS_l1_eq (e : Env) (w : World) : laws_markPlaceS_l1 e w =
 (vl (e 5) w).bind fun r1 =>
 (vl (e 0) r1.2).bind fun r2 =>
 (b_len P #[22] 3 #[r2.1] r2.2).bind fun r3 =>
 (bo P .lss 3 (.tmp 6) (.tmp 8) r1.1 r3.1 r3.2).bind fun r4 =>
 cnd r4.1 (
 (vl (e 0) r4.2).bind fun r5 =>
 (vl (e 5) r5.2).bind fun r6 =>
 (vl (e 1) r6.2).bind fun r7 =>
 (ia P 22 r5.1 r6.1 r7.2).bind fun r8 =>
 (fa P 47 r8.1 0 r8.2).bind fun r9 =>
 (st P 3 r9.1 r7.1 r9.2).bind fun r10 =>
 (vl (e 1) r10.2).bind fun r11 =>
 (bo P .add 3 (.tmp 17) (.const (.int .i64 1)) r11.1 (.int .i64 1) r11.2).bind fun r12 =>
 (vl r12.1 r12.2).bind fun r13 =>
 (vl (e 0) r13.2).bind fun r14 =>
 (vl (e 5) r14.2).bind fun r15 =>
 (vl r13.1 r15.2).bind fun r16 =>
 (ia P 22 r14.1 r15.1 r16.2).bind fun r17 =>
 (fa P 47 r17.1 1 r17.2).bind fun r18 =>
 (st P 3 r18.1 r16.1 r18.2).bind fun r19 =>
 (vl r13.1 r19.2).bind fun r20 =>
 (bo P .add 3 (.tmp 24) (.const (.int .i64 1)) r20.1 (.int .i64 1) r20.2).bind fun r21 =>
 (vl r21.1 r21.2).bind fun r22 =>
 (vl (e 0) r22.2).bind fun r23 =>
 (vl (e 5) r23.2).bind fun r24 =>
 (ia P 22 r23.1 r24.1 r24.2).bind fun r25 =>
 (fa P 47 r25.1 2 r25.2).bind fun r26 =>
 (fa P 43 r26.1 0 r26.2).bind fun r27 =>
 (ld P 41 r27.1 r27.2).bind fun r28 =>
 (vl r22.1 r28.2).bind fun r29 =>
 (EV P 35 #[r28.1, r29.1] r29.2).bind fun r30 =>
 (vl r30.1 r30.2).bind fun r31 =>
 (vl (e 0) r31.2).bind fun r32 =>
 (vl (e 5) r32.2).bind fun r33 =>
 (ia P 22 r32.1 r33.1 r33.2).bind fun r34 =>
 (fa P 47 r34.1 3 r34.2).bind fun r35 =>
 (ld P 44 r35.1 r35.2).bind fun r36 =>
 (vl r31.1 r36.2).bind fun r37 =>
 (EV P 36 #[r36.1, r37.1] r37.2).bind fun r38 =>
 (vl r38.1 r38.2).bind fun r39 =>
 (vl (e 0) r39.2).bind fun r40 =>
 (vl (e 5) r40.2).bind fun r41 =>
 (ia P 22 r40.1 r41.1 r41.2).bind fun r42 =>
 (fa P 47 r42.1 4 r42.2).bind fun r43 =>
 (ld P 45 r43.1 r43.2).bind fun r44 =>
 (vl r39.1 r44.2).bind fun r45 =>
 (EV P 37 #[r44.1, r45.1] r45.2).bind fun r46 =>
 (vl r46.1 r46.2).bind fun r47 =>
 (vl (e 0) r47.2).bind fun r48 =>
 (vl (e 5) r48.2).bind fun r49 =>
 (vl r47.1 r49.2).bind fun r50 =>
 (bo P .rem 3 (.tmp 50) (.const (.int .i64 3)) r50.1 (.int .i64 3) r50.2).bind fun r51 =>
 (bo P .eql 3 (.tmp 51) (.const (.int .i64 0)) r51.1 (.int .i64 0) r51.2).bind fun r52 =>
 (ia P 22 r48.1 r49.1 r52.2).bind fun r53 =>
 (fa P 47 r53.1 5 r53.2).bind fun r54 =>
 (st P 4 r54.1 r52.1 r54.2).bind fun r55 =>
 (vl r47.1 r55.2).bind fun r56 =>
 (bo P .add 3 (.tmp 55) (.const (.int .i64 1)) r56.1 (.int .i64 1) r56.2).bind fun r57 =>
 (vl r57.1 r57.2).bind fun r58 =>
 (vl (e 5) r58.2).bind fun r59 =>
 (bo P .add 3 (.tmp 10) (.const (.int .i64 1)) r59.1 (.int .i64 1) r59.2).bind fun r60 =>
 (vl r60.1 r60.2).bind fun r61 =>
 laws_markPlaceS_l1 (ups e [(6, r1.1), (7, r2.1), (8, r3.1), (9, r4.1), (12, r5.1), (13, r6.1), (14, r7.1), (15, r8.1), (16, r9.1), (17, r11.1), (18, r12.1), (1, r13.1), (19, r14.1), (20, r15.1), (21, r16.1), (22, r17.1), (23, r18.1), (24, r20.1), (25, r21.1), (1, r22.1), (26, r23.1), (27, r24.1), (28, r25.1), (29, r26.1), (30, r27.1), (31, r28.1), (32, r29.1), (33, r30.1), (1, r31.1), (34, r32.1), (35, r33.1), (36, r34.1), (37, r35.1), (38, r36.1), (39, r37.1), (40, r38.1), (1, r39.1), (41, r40.1), (42, r41.1), (43, r42.1), (44, r43.1), (45, r44.1), (46, r45.1), (47, r46.1), (1, r47.1), (48, r48.1), (49, r49.1), (50, r50.1), (51, r51.1), (52, r52.1), (53, r53.1), (54, r54.1), (55, r56.1), (56, r57.1), (1, r58.1), (10, r59.1), (11, r60.1), (5, r61.1)]) r61.2) (
 (vl (e 1) r4.2).bind fun r62 =>
 (vl r62.1 r62.2).bind fun r63 =>
 some (r63.1, r63.2)) := (exC_loop P (EV P) 17 58 (cA (cA (cB (cA (cB (bodyOf P 17)))))) e w (kBlock 0 (kSeq P (EV P) 17 58 (cB (cB (bodyOf P 17))) (kFn P (fnOf P 17))))).trans (by kernel_rfl)
theorem laws_markPlaceS_fn (x0 x1 : Value) (w : World) : fnC P (EV P) 17 #[x0, x1] w =
 (vl (.int .i64 0) w).bind fun r1 =>
 (vl (.int .i64 0) r1.2).bind fun r2 =>
 laws_markPlaceS_l1 (ups (env0 #[x0, x1]) [(4, r1.1), (5, r2.1)]) r2.2 := by kernel_rfl
noncomputable def laws_markSessS_l1 (e : Env) (w : World) : Option (Value × World) := exC P (EV P) 18 51 (.loop (cA (cA (cB (cA (cB (bodyOf P 18))))))) e w (kBlock 0 (kSeq P (EV P) 18 51 (cB (cB (bodyOf P 18))) (kFn P (fnOf P 18))))
theorem laws_markSessS_l1_eq (e : Env) (w : World) : laws_markSessS_l1 e w =
 (vl (e 5) w).bind fun r1 =>
 (vl (e 0) r1.2).bind fun r2 =>
 (b_len P #[23] 3 #[r2.1] r2.2).bind fun r3 =>
 (bo P .lss 3 (.tmp 6) (.tmp 8) r1.1 r3.1 r3.2).bind fun r4 =>
 cnd r4.1 (
 (vl (e 0) r4.2).bind fun r5 =>
 (vl (e 5) r5.2).bind fun r6 =>
 (vl (e 1) r6.2).bind fun r7 =>
 (ia P 23 r5.1 r6.1 r7.2).bind fun r8 =>
 (fa P 56 r8.1 0 r8.2).bind fun r9 =>
 (st P 3 r9.1 r7.1 r9.2).bind fun r10 =>
 (vl (e 1) r10.2).bind fun r11 =>
 (bo P .add 3 (.tmp 17) (.const (.int .i64 1)) r11.1 (.int .i64 1) r11.2).bind fun r12 =>
 (vl r12.1 r12.2).bind fun r13 =>
 (vl (e 0) r13.2).bind fun r14 =>
 (vl (e 5) r14.2).bind fun r15 =>
 (ia P 23 r14.1 r15.1 r15.2).bind fun r16 =>
 (fa P 56 r16.1 1 r16.2).bind fun r17 =>
 (fa P 51 r17.1 0 r17.2).bind fun r18 =>
 (ld P 49 r18.1 r18.2).bind fun r19 =>
 (vl r13.1 r19.2).bind fun r20 =>
 (EV P 38 #[r19.1, r20.1] r20.2).bind fun r21 =>
 (vl r21.1 r21.2).bind fun r22 =>
 (vl (e 0) r22.2).bind fun r23 =>
 (vl (e 5) r23.2).bind fun r24 =>
 (vl r22.1 r24.2).bind fun r25 =>
 (ia P 23 r23.1 r24.1 r25.2).bind fun r26 =>
 (fa P 56 r26.1 2 r26.2).bind fun r27 =>
 (fa P 54 r27.1 0 r27.2).bind fun r28 =>
 (st P 3 r28.1 r25.1 r28.2).bind fun r29 =>
 (vl r22.1 r29.2).bind fun r30 =>
 (bo P .add 3 (.tmp 33) (.const (.int .i64 1)) r30.1 (.int .i64 1) r30.2).bind fun r31 =>
 (vl r31.1 r31.2).bind fun r32 =>
 (vl (e 0) r32.2).bind fun r33 =>
 (vl (e 5) r33.2).bind fun r34 =>
 (vl r32.1 r34.2).bind fun r35 =>
 (ia P 23 r33.1 r34.1 r35.2).bind fun r36 =>
 (fa P 56 r36.1 2 r36.2).bind fun r37 =>
 (fa P 54 r37.1 1 r37.2).bind fun r38 =>
 (st P 3 r38.1 r35.1 r38.2).bind fun r39 =>
 (vl r32.1 r39.2).bind fun r40 =>
 (bo P .add 3 (.tmp 41) (.const (.int .i64 1)) r40.1 (.int .i64 1) r40.2).bind fun r41 =>
 (vl r41.1 r41.2).bind fun r42 =>
 (vl (e 0) r42.2).bind fun r43 =>
 (vl (e 5) r43.2).bind fun r44 =>
 (vl r42.1 r44.2).bind fun r45 =>
 (ia P 23 r43.1 r44.1 r45.2).bind fun r46 =>
 (fa P 56 r46.1 3 r46.2).bind fun r47 =>
 (st P 3 r47.1 r45.1 r47.2).bind fun r48 =>
 (vl r42.1 r48.2).bind fun r49 =>
 (bo P .add 3 (.tmp 48) (.const (.int .i64 1)) r49.1 (.int .i64 1) r49.2).bind fun r50 =>
 (vl r50.1 r50.2).bind fun r51 =>
 (vl (e 5) r51.2).bind fun r52 =>
 (bo P .add 3 (.tmp 10) (.const (.int .i64 1)) r52.1 (.int .i64 1) r52.2).bind fun r53 =>
 (vl r53.1 r53.2).bind fun r54 =>
 laws_markSessS_l1 (ups e [(6, r1.1), (7, r2.1), (8, r3.1), (9, r4.1), (12, r5.1), (13, r6.1), (14, r7.1), (15, r8.1), (16, r9.1), (17, r11.1), (18, r12.1), (1, r13.1), (19, r14.1), (20, r15.1), (21, r16.1), (22, r17.1), (23, r18.1), (24, r19.1), (25, r20.1), (26, r21.1), (1, r22.1), (27, r23.1), (28, r24.1), (29, r25.1), (30, r26.1), (31, r27.1), (32, r28.1), (33, r30.1), (34, r31.1), (1, r32.1), (35, r33.1), (36, r34.1), (37, r35.1), (38, r36.1), (39, r37.1), (40, r38.1), (41, r40.1), (42, r41.1), (1, r42.1), (43, r43.1), (44, r44.1), (45, r45.1), (46, r46.1), (47, r47.1), (48, r49.1), (49, r50.1), (1, r51.1), (10, r52.1), (11, r53.1), (5, r54.1)]) r54.2) (
 (vl (e 1) r4.2).bind fun r55 =>
 (vl r55.1 r55.2).bind fun r56 =>
 some (r56.1, r56.2)) := (exC_loop P (EV P) 18 51 (cA (cA (cB (cA (cB (bodyOf P 18)))))) e w (kBlock 0 (kSeq P (EV P) 18 51 (cB (cB (bodyOf P 18))) (kFn P (fnOf P 18))))).trans (by kernel_rfl)
theorem laws_markSessS_fn (x0 x1 : Value) (w : World) : fnC P (EV P) 18 #[x0, x1] w =
 (vl (.int .i64 0) w).bind fun r1 =>
 (vl (.int .i64 0) r1.2).bind fun r2 =>
 laws_markSessS_l1 (ups (env0 #[x0, x1]) [(4, r1.1), (5, r2.1)]) r2.2 := by kernel_rfl
noncomputable def laws_markFrameS_l1 (e : Env) (w : World) : Option (Value × World) := exC P (EV P) 19 88 (.loop (cA (cA (cB (cA (cB (bodyOf P 19))))))) e w (kBlock 0 (kSeq P (EV P) 19 88 (cB (cB (bodyOf P 19))) (kFn P (fnOf P 19))))
theorem laws_markFrameS_l1_eq (e : Env) (w : World) : laws_markFrameS_l1 e w =
 (vl (e 5) w).bind fun r1 =>
 (vl (e 0) r1.2).bind fun r2 =>
 (b_len P #[24] 3 #[r2.1] r2.2).bind fun r3 =>
 (bo P .lss 3 (.tmp 6) (.tmp 8) r1.1 r3.1 r3.2).bind fun r4 =>
 cnd r4.1 (
 (vl (e 0) r4.2).bind fun r5 =>
 (vl (e 5) r5.2).bind fun r6 =>
 (vl (e 1) r6.2).bind fun r7 =>
 (ia P 24 r5.1 r6.1 r7.2).bind fun r8 =>
 (fa P 64 r8.1 0 r8.2).bind fun r9 =>
 (st P 3 r9.1 r7.1 r9.2).bind fun r10 =>
 (vl (e 1) r10.2).bind fun r11 =>
 (bo P .add 3 (.tmp 17) (.const (.int .i64 1)) r11.1 (.int .i64 1) r11.2).bind fun r12 =>
 (vl r12.1 r12.2).bind fun r13 =>
 (vl (e 0) r13.2).bind fun r14 =>
 (vl (e 5) r14.2).bind fun r15 =>
 (vl r13.1 r15.2).bind fun r16 =>
 (ia P 24 r14.1 r15.1 r16.2).bind fun r17 =>
 (fa P 64 r17.1 1 r17.2).bind fun r18 =>
 (st P 3 r18.1 r16.1 r18.2).bind fun r19 =>
 (vl r13.1 r19.2).bind fun r20 =>
 (bo P .add 3 (.tmp 24) (.const (.int .i64 1)) r20.1 (.int .i64 1) r20.2).bind fun r21 =>
 (vl r21.1 r21.2).bind fun r22 =>
 (vl (e 0) r22.2).bind fun r23 =>
 (vl (e 5) r23.2).bind fun r24 =>
 (vl r22.1 r24.2).bind fun r25 =>
 (ia P 24 r23.1 r24.1 r25.2).bind fun r26 =>
 (fa P 64 r26.1 2 r26.2).bind fun r27 =>
 (st P 3 r27.1 r25.1 r27.2).bind fun r28 =>
 (vl r22.1 r28.2).bind fun r29 =>
 (bo P .add 3 (.tmp 31) (.const (.int .i64 1)) r29.1 (.int .i64 1) r29.2).bind fun r30 =>
 (vl r30.1 r30.2).bind fun r31 =>
 (vl (e 0) r31.2).bind fun r32 =>
 (vl (e 5) r32.2).bind fun r33 =>
 (vl r31.1 r33.2).bind fun r34 =>
 (ia P 24 r32.1 r33.1 r34.2).bind fun r35 =>
 (fa P 64 r35.1 3 r35.2).bind fun r36 =>
 (fa P 62 r36.1 0 r36.2).bind fun r37 =>
 (st P 3 r37.1 r34.1 r37.2).bind fun r38 =>
 (vl r31.1 r38.2).bind fun r39 =>
 (bo P .add 3 (.tmp 39) (.const (.int .i64 1)) r39.1 (.int .i64 1) r39.2).bind fun r40 =>
 (vl r40.1 r40.2).bind fun r41 =>
 (vl (e 0) r41.2).bind fun r42 =>
 (vl (e 5) r42.2).bind fun r43 =>
 (vl r41.1 r43.2).bind fun r44 =>
 (ia P 24 r42.1 r43.1 r44.2).bind fun r45 =>
 (fa P 64 r45.1 3 r45.2).bind fun r46 =>
 (fa P 62 r46.1 1 r46.2).bind fun r47 =>
 (fa P 54 r47.1 0 r47.2).bind fun r48 =>
 (st P 3 r48.1 r44.1 r48.2).bind fun r49 =>
 (vl r41.1 r49.2).bind fun r50 =>
 (bo P .add 3 (.tmp 48) (.const (.int .i64 1)) r50.1 (.int .i64 1) r50.2).bind fun r51 =>
 (vl r51.1 r51.2).bind fun r52 =>
 (vl (e 0) r52.2).bind fun r53 =>
 (vl (e 5) r53.2).bind fun r54 =>
 (vl r52.1 r54.2).bind fun r55 =>
 (ia P 24 r53.1 r54.1 r55.2).bind fun r56 =>
 (fa P 64 r56.1 3 r56.2).bind fun r57 =>
 (fa P 62 r57.1 1 r57.2).bind fun r58 =>
 (fa P 54 r58.1 1 r58.2).bind fun r59 =>
 (st P 3 r59.1 r55.1 r59.2).bind fun r60 =>
 (vl r52.1 r60.2).bind fun r61 =>
 (bo P .add 3 (.tmp 57) (.const (.int .i64 1)) r61.1 (.int .i64 1) r61.2).bind fun r62 =>
 (vl r62.1 r62.2).bind fun r63 =>
 (vl (e 0) r63.2).bind fun r64 =>
 (vl (e 5) r64.2).bind fun r65 =>
 (ia P 24 r64.1 r65.1 r65.2).bind fun r66 =>
 (fa P 64 r66.1 3 r66.2).bind fun r67 =>
 (fa P 62 r67.1 2 r67.2).bind fun r68 =>
 (fa P 51 r68.1 0 r68.2).bind fun r69 =>
 (ld P 49 r69.1 r69.2).bind fun r70 =>
 (vl r63.1 r70.2).bind fun r71 =>
 (EV P 38 #[r70.1, r71.1] r71.2).bind fun r72 =>
 (vl r72.1 r72.2).bind fun r73 =>
 (vl (e 0) r73.2).bind fun r74 =>
 (vl (e 5) r74.2).bind fun r75 =>
 (vl r73.1 r75.2).bind fun r76 =>
 (EV P 39 #[r76.1] r76.2).bind fun r77 =>
 (ia P 24 r74.1 r75.1 r77.2).bind fun r78 =>
 (fa P 64 r78.1 3 r78.2).bind fun r79 =>
 (fa P 62 r79.1 3 r79.2).bind fun r80 =>
 (st P 9 r80.1 r77.1 r80.2).bind fun r81 =>
 (vl r73.1 r81.2).bind fun r82 =>
 (bo P .add 3 (.tmp 75) (.const (.int .i64 1)) r82.1 (.int .i64 1) r82.2).bind fun r83 =>
 (vl r83.1 r83.2).bind fun r84 =>
 (vl (e 0) r84.2).bind fun r85 =>
 (vl (e 5) r85.2).bind fun r86 =>
 (vl r84.1 r86.2).bind fun r87 =>
 (bo P .rem 3 (.tmp 79) (.const (.int .i64 3)) r87.1 (.int .i64 3) r87.2).bind fun r88 =>
 (bo P .eql 3 (.tmp 80) (.const (.int .i64 0)) r88.1 (.int .i64 0) r88.2).bind fun r89 =>
 (ia P 24 r85.1 r86.1 r89.2).bind fun r90 =>
 (fa P 64 r90.1 3 r90.2).bind fun r91 =>
 (fa P 62 r91.1 4 r91.2).bind fun r92 =>
 (st P 4 r92.1 r89.1 r92.2).bind fun r93 =>
 (vl r84.1 r93.2).bind fun r94 =>
 (bo P .add 3 (.tmp 85) (.const (.int .i64 1)) r94.1 (.int .i64 1) r94.2).bind fun r95 =>
 (vl r95.1 r95.2).bind fun r96 =>
 (vl (e 5) r96.2).bind fun r97 =>
 (bo P .add 3 (.tmp 10) (.const (.int .i64 1)) r97.1 (.int .i64 1) r97.2).bind fun r98 =>
 (vl r98.1 r98.2).bind fun r99 =>
 laws_markFrameS_l1 (ups e [(6, r1.1), (7, r2.1), (8, r3.1), (9, r4.1), (12, r5.1), (13, r6.1), (14, r7.1), (15, r8.1), (16, r9.1), (17, r11.1), (18, r12.1), (1, r13.1), (19, r14.1), (20, r15.1), (21, r16.1), (22, r17.1), (23, r18.1), (24, r20.1), (25, r21.1), (1, r22.1), (26, r23.1), (27, r24.1), (28, r25.1), (29, r26.1), (30, r27.1), (31, r29.1), (32, r30.1), (1, r31.1), (33, r32.1), (34, r33.1), (35, r34.1), (36, r35.1), (37, r36.1), (38, r37.1), (39, r39.1), (40, r40.1), (1, r41.1), (41, r42.1), (42, r43.1), (43, r44.1), (44, r45.1), (45, r46.1), (46, r47.1), (47, r48.1), (48, r50.1), (49, r51.1), (1, r52.1), (50, r53.1), (51, r54.1), (52, r55.1), (53, r56.1), (54, r57.1), (55, r58.1), (56, r59.1), (57, r61.1), (58, r62.1), (1, r63.1), (59, r64.1), (60, r65.1), (61, r66.1), (62, r67.1), (63, r68.1), (64, r69.1), (65, r70.1), (66, r71.1), (67, r72.1), (1, r73.1), (68, r74.1), (69, r75.1), (70, r76.1), (71, r77.1), (72, r78.1), (73, r79.1), (74, r80.1), (75, r82.1), (76, r83.1), (1, r84.1), (77, r85.1), (78, r86.1), (79, r87.1), (80, r88.1), (81, r89.1), (82, r90.1), (83, r91.1), (84, r92.1), (85, r94.1), (86, r95.1), (1, r96.1), (10, r97.1), (11, r98.1), (5, r99.1)]) r99.2) (
 (vl (e 1) r4.2).bind fun r100 =>
 (vl r100.1 r100.2).bind fun r101 =>
 some (r101.1, r101.2)) := (exC_loop P (EV P) 19 88 (cA (cA (cB (cA (cB (bodyOf P 19)))))) e w (kBlock 0 (kSeq P (EV P) 19 88 (cB (cB (bodyOf P 19))) (kFn P (fnOf P 19))))).trans (by kernel_rfl)
theorem laws_markFrameS_fn (x0 x1 : Value) (w : World) : fnC P (EV P) 19 #[x0, x1] w =
 (vl (.int .i64 0) w).bind fun r1 =>
 (vl (.int .i64 0) r1.2).bind fun r2 =>
 laws_markFrameS_l1 (ups (env0 #[x0, x1]) [(4, r1.1), (5, r2.1)]) r2.2 := by kernel_rfl
noncomputable def laws_markDoneS_l1 (e : Env) (w : World) : Option (Value × World) := exC P (EV P) 20 50 (.loop (cA (cA (cB (cA (cB (bodyOf P 20))))))) e w (kBlock 0 (kSeq P (EV P) 20 50 (cB (cB (bodyOf P 20))) (kFn P (fnOf P 20))))
theorem laws_markDoneS_l1_eq (e : Env) (w : World) : laws_markDoneS_l1 e w =
 (vl (e 5) w).bind fun r1 =>
 (vl (e 0) r1.2).bind fun r2 =>
 (b_len P #[25] 3 #[r2.1] r2.2).bind fun r3 =>
 (bo P .lss 3 (.tmp 6) (.tmp 8) r1.1 r3.1 r3.2).bind fun r4 =>
 cnd r4.1 (
 (vl (e 0) r4.2).bind fun r5 =>
 (vl (e 5) r5.2).bind fun r6 =>
 (vl (e 1) r6.2).bind fun r7 =>
 (ia P 25 r5.1 r6.1 r7.2).bind fun r8 =>
 (fa P 67 r8.1 0 r8.2).bind fun r9 =>
 (st P 3 r9.1 r7.1 r9.2).bind fun r10 =>
 (vl (e 1) r10.2).bind fun r11 =>
 (bo P .add 3 (.tmp 17) (.const (.int .i64 1)) r11.1 (.int .i64 1) r11.2).bind fun r12 =>
 (vl r12.1 r12.2).bind fun r13 =>
 (vl (e 0) r13.2).bind fun r14 =>
 (vl (e 5) r14.2).bind fun r15 =>
 (vl r13.1 r15.2).bind fun r16 =>
 (ia P 25 r14.1 r15.1 r16.2).bind fun r17 =>
 (fa P 67 r17.1 1 r17.2).bind fun r18 =>
 (st P 3 r18.1 r16.1 r18.2).bind fun r19 =>
 (vl r13.1 r19.2).bind fun r20 =>
 (bo P .add 3 (.tmp 24) (.const (.int .i64 1)) r20.1 (.int .i64 1) r20.2).bind fun r21 =>
 (vl r21.1 r21.2).bind fun r22 =>
 (vl (e 0) r22.2).bind fun r23 =>
 (vl (e 5) r23.2).bind fun r24 =>
 (vl r22.1 r24.2).bind fun r25 =>
 (ia P 25 r23.1 r24.1 r25.2).bind fun r26 =>
 (fa P 67 r26.1 2 r26.2).bind fun r27 =>
 (st P 3 r27.1 r25.1 r27.2).bind fun r28 =>
 (vl r22.1 r28.2).bind fun r29 =>
 (bo P .add 3 (.tmp 31) (.const (.int .i64 1)) r29.1 (.int .i64 1) r29.2).bind fun r30 =>
 (vl r30.1 r30.2).bind fun r31 =>
 (vl (e 0) r31.2).bind fun r32 =>
 (vl (e 5) r32.2).bind fun r33 =>
 (vl r31.1 r33.2).bind fun r34 =>
 (ia P 25 r32.1 r33.1 r34.2).bind fun r35 =>
 (fa P 67 r35.1 3 r35.2).bind fun r36 =>
 (fa P 54 r36.1 0 r36.2).bind fun r37 =>
 (st P 3 r37.1 r34.1 r37.2).bind fun r38 =>
 (vl r31.1 r38.2).bind fun r39 =>
 (bo P .add 3 (.tmp 39) (.const (.int .i64 1)) r39.1 (.int .i64 1) r39.2).bind fun r40 =>
 (vl r40.1 r40.2).bind fun r41 =>
 (vl (e 0) r41.2).bind fun r42 =>
 (vl (e 5) r42.2).bind fun r43 =>
 (vl r41.1 r43.2).bind fun r44 =>
 (ia P 25 r42.1 r43.1 r44.2).bind fun r45 =>
 (fa P 67 r45.1 3 r45.2).bind fun r46 =>
 (fa P 54 r46.1 1 r46.2).bind fun r47 =>
 (st P 3 r47.1 r44.1 r47.2).bind fun r48 =>
 (vl r41.1 r48.2).bind fun r49 =>
 (bo P .add 3 (.tmp 47) (.const (.int .i64 1)) r49.1 (.int .i64 1) r49.2).bind fun r50 =>
 (vl r50.1 r50.2).bind fun r51 =>
 (vl (e 5) r51.2).bind fun r52 =>
 (bo P .add 3 (.tmp 10) (.const (.int .i64 1)) r52.1 (.int .i64 1) r52.2).bind fun r53 =>
 (vl r53.1 r53.2).bind fun r54 =>
 laws_markDoneS_l1 (ups e [(6, r1.1), (7, r2.1), (8, r3.1), (9, r4.1), (12, r5.1), (13, r6.1), (14, r7.1), (15, r8.1), (16, r9.1), (17, r11.1), (18, r12.1), (1, r13.1), (19, r14.1), (20, r15.1), (21, r16.1), (22, r17.1), (23, r18.1), (24, r20.1), (25, r21.1), (1, r22.1), (26, r23.1), (27, r24.1), (28, r25.1), (29, r26.1), (30, r27.1), (31, r29.1), (32, r30.1), (1, r31.1), (33, r32.1), (34, r33.1), (35, r34.1), (36, r35.1), (37, r36.1), (38, r37.1), (39, r39.1), (40, r40.1), (1, r41.1), (41, r42.1), (42, r43.1), (43, r44.1), (44, r45.1), (45, r46.1), (46, r47.1), (47, r49.1), (48, r50.1), (1, r51.1), (10, r52.1), (11, r53.1), (5, r54.1)]) r54.2) (
 (vl (e 1) r4.2).bind fun r55 =>
 (vl r55.1 r55.2).bind fun r56 =>
 some (r56.1, r56.2)) := (exC_loop P (EV P) 20 50 (cA (cA (cB (cA (cB (bodyOf P 20)))))) e w (kBlock 0 (kSeq P (EV P) 20 50 (cB (cB (bodyOf P 20))) (kFn P (fnOf P 20))))).trans (by kernel_rfl)
theorem laws_markDoneS_fn (x0 x1 : Value) (w : World) : fnC P (EV P) 20 #[x0, x1] w =
 (vl (.int .i64 0) w).bind fun r1 =>
 (vl (.int .i64 0) r1.2).bind fun r2 =>
 laws_markDoneS_l1 (ups (env0 #[x0, x1]) [(4, r1.1), (5, r2.1)]) r2.2 := by kernel_rfl
noncomputable def laws_heldPlaceS_l1 (e : Env) (w : World) : Option (Value × World) := exC P (EV P) 21 70 (.loop (cA (cA (cB (cA (cB (bodyOf P 21))))))) e w (kBlock 0 (kSeq P (EV P) 21 70 (cB (cB (bodyOf P 21))) (kFn P (fnOf P 21))))
theorem laws_heldPlaceS_l1_eq (e : Env) (w : World) : laws_heldPlaceS_l1 e w =
 (vl (e 5) w).bind fun r1 =>
 (vl (e 0) r1.2).bind fun r2 =>
 (b_len P #[22] 3 #[r2.1] r2.2).bind fun r3 =>
 (bo P .lss 3 (.tmp 6) (.tmp 8) r1.1 r3.1 r3.2).bind fun r4 =>
 cnd r4.1 (
 (vl (e 0) r4.2).bind fun r5 =>
 (vl (e 5) r5.2).bind fun r6 =>
 (ia P 22 r5.1 r6.1 r6.2).bind fun r7 =>
 (fa P 47 r7.1 0 r7.2).bind fun r8 =>
 (ld P 3 r8.1 r8.2).bind fun r9 =>
 (vl (e 1) r9.2).bind fun r10 =>
 (bo P .neq 3 (.tmp 16) (.tmp 17) r9.1 r10.1 r10.2).bind fun r11 =>
 cnd r11.1 (
 (vl (.int .i64 (-1)) r11.2).bind fun r12 =>
 some (r12.1, r12.2)) (
 (vl (e 1) r11.2).bind fun r13 =>
 (bo P .add 3 (.tmp 19) (.const (.int .i64 1)) r13.1 (.int .i64 1) r13.2).bind fun r14 =>
 (vl r14.1 r14.2).bind fun r15 =>
 (vl (e 0) r15.2).bind fun r16 =>
 (vl (e 5) r16.2).bind fun r17 =>
 (ia P 22 r16.1 r17.1 r17.2).bind fun r18 =>
 (fa P 47 r18.1 1 r18.2).bind fun r19 =>
 (ld P 3 r19.1 r19.2).bind fun r20 =>
 (vl r15.1 r20.2).bind fun r21 =>
 (bo P .neq 3 (.tmp 25) (.tmp 26) r20.1 r21.1 r21.2).bind fun r22 =>
 cnd r22.1 (
 (vl (.int .i64 (-1)) r22.2).bind fun r23 =>
 some (r23.1, r23.2)) (
 (vl r15.1 r22.2).bind fun r24 =>
 (bo P .add 3 (.tmp 28) (.const (.int .i64 1)) r24.1 (.int .i64 1) r24.2).bind fun r25 =>
 (vl r25.1 r25.2).bind fun r26 =>
 (vl (e 0) r26.2).bind fun r27 =>
 (vl (e 5) r27.2).bind fun r28 =>
 (ia P 22 r27.1 r28.1 r28.2).bind fun r29 =>
 (fa P 47 r29.1 2 r29.2).bind fun r30 =>
 (fa P 43 r30.1 0 r30.2).bind fun r31 =>
 (ld P 41 r31.1 r31.2).bind fun r32 =>
 (vl r26.1 r32.2).bind fun r33 =>
 (EV P 40 #[r32.1, r33.1] r33.2).bind fun r34 =>
 (vl r34.1 r34.2).bind fun r35 =>
 (vl r35.1 r35.2).bind fun r36 =>
 (bo P .lss 3 (.tmp 38) (.const (.int .i64 0)) r36.1 (.int .i64 0) r36.2).bind fun r37 =>
 cnd r37.1 (
 (vl (.int .i64 (-1)) r37.2).bind fun r38 =>
 some (r38.1, r38.2)) (
 (vl (e 0) r37.2).bind fun r39 =>
 (vl (e 5) r39.2).bind fun r40 =>
 (ia P 22 r39.1 r40.1 r40.2).bind fun r41 =>
 (fa P 47 r41.1 3 r41.2).bind fun r42 =>
 (ld P 44 r42.1 r42.2).bind fun r43 =>
 (vl r35.1 r43.2).bind fun r44 =>
 (EV P 41 #[r43.1, r44.1] r44.2).bind fun r45 =>
 (vl r45.1 r45.2).bind fun r46 =>
 (vl r46.1 r46.2).bind fun r47 =>
 (bo P .lss 3 (.tmp 47) (.const (.int .i64 0)) r47.1 (.int .i64 0) r47.2).bind fun r48 =>
 cnd r48.1 (
 (vl (.int .i64 (-1)) r48.2).bind fun r49 =>
 some (r49.1, r49.2)) (
 (vl (e 0) r48.2).bind fun r50 =>
 (vl (e 5) r50.2).bind fun r51 =>
 (ia P 22 r50.1 r51.1 r51.2).bind fun r52 =>
 (fa P 47 r52.1 4 r52.2).bind fun r53 =>
 (ld P 45 r53.1 r53.2).bind fun r54 =>
 (vl r46.1 r54.2).bind fun r55 =>
 (EV P 42 #[r54.1, r55.1] r55.2).bind fun r56 =>
 (vl r56.1 r56.2).bind fun r57 =>
 (vl r57.1 r57.2).bind fun r58 =>
 (bo P .lss 3 (.tmp 56) (.const (.int .i64 0)) r58.1 (.int .i64 0) r58.2).bind fun r59 =>
 cnd r59.1 (
 (vl (.int .i64 (-1)) r59.2).bind fun r60 =>
 some (r60.1, r60.2)) (
 (vl (e 0) r59.2).bind fun r61 =>
 (vl (e 5) r61.2).bind fun r62 =>
 (ia P 22 r61.1 r62.1 r62.2).bind fun r63 =>
 (fa P 47 r63.1 5 r63.2).bind fun r64 =>
 (ld P 4 r64.1 r64.2).bind fun r65 =>
 (vl r57.1 r65.2).bind fun r66 =>
 (bo P .rem 3 (.tmp 63) (.const (.int .i64 3)) r66.1 (.int .i64 3) r66.2).bind fun r67 =>
 (bo P .eql 3 (.tmp 64) (.const (.int .i64 0)) r67.1 (.int .i64 0) r67.2).bind fun r68 =>
 (bo P .neq 4 (.tmp 62) (.tmp 65) r65.1 r68.1 r68.2).bind fun r69 =>
 cnd r69.1 (
 (vl (.int .i64 (-1)) r69.2).bind fun r70 =>
 some (r70.1, r70.2)) (
 (vl r57.1 r69.2).bind fun r71 =>
 (bo P .add 3 (.tmp 67) (.const (.int .i64 1)) r71.1 (.int .i64 1) r71.2).bind fun r72 =>
 (vl r72.1 r72.2).bind fun r73 =>
 (vl (e 5) r73.2).bind fun r74 =>
 (bo P .add 3 (.tmp 10) (.const (.int .i64 1)) r74.1 (.int .i64 1) r74.2).bind fun r75 =>
 (vl r75.1 r75.2).bind fun r76 =>
 laws_heldPlaceS_l1 (ups e [(6, r1.1), (7, r2.1), (8, r3.1), (9, r4.1), (12, r5.1), (13, r6.1), (14, r7.1), (15, r8.1), (16, r9.1), (17, r10.1), (18, r11.1), (19, r13.1), (20, r14.1), (1, r15.1), (21, r16.1), (22, r17.1), (23, r18.1), (24, r19.1), (25, r20.1), (26, r21.1), (27, r22.1), (28, r24.1), (29, r25.1), (1, r26.1), (30, r27.1), (31, r28.1), (32, r29.1), (33, r30.1), (34, r31.1), (35, r32.1), (36, r33.1), (37, r34.1), (1, r35.1), (38, r36.1), (39, r37.1), (40, r39.1), (41, r40.1), (42, r41.1), (43, r42.1), (44, r43.1), (45, r44.1), (46, r45.1), (1, r46.1), (47, r47.1), (48, r48.1), (49, r50.1), (50, r51.1), (51, r52.1), (52, r53.1), (53, r54.1), (54, r55.1), (55, r56.1), (1, r57.1), (56, r58.1), (57, r59.1), (58, r61.1), (59, r62.1), (60, r63.1), (61, r64.1), (62, r65.1), (63, r66.1), (64, r67.1), (65, r68.1), (66, r69.1), (67, r71.1), (68, r72.1), (1, r73.1), (10, r74.1), (11, r75.1), (5, r76.1)]) r76.2))))))) (
 (vl (e 1) r4.2).bind fun r77 =>
 (vl r77.1 r77.2).bind fun r78 =>
 some (r78.1, r78.2)) := (exC_loop P (EV P) 21 70 (cA (cA (cB (cA (cB (bodyOf P 21)))))) e w (kBlock 0 (kSeq P (EV P) 21 70 (cB (cB (bodyOf P 21))) (kFn P (fnOf P 21))))).trans (by kernel_rfl)
theorem laws_heldPlaceS_fn (x0 x1 : Value) (w : World) : fnC P (EV P) 21 #[x0, x1] w =
 (vl (.int .i64 0) w).bind fun r1 =>
 (vl (.int .i64 0) r1.2).bind fun r2 =>
 laws_heldPlaceS_l1 (ups (env0 #[x0, x1]) [(4, r1.1), (5, r2.1)]) r2.2 := by kernel_rfl
noncomputable def laws_heldSessS_l1 (e : Env) (w : World) : Option (Value × World) := exC P (EV P) 22 61 (.loop (cA (cA (cB (cA (cB (bodyOf P 22))))))) e w (kBlock 0 (kSeq P (EV P) 22 61 (cB (cB (bodyOf P 22))) (kFn P (fnOf P 22))))
theorem laws_heldSessS_l1_eq (e : Env) (w : World) : laws_heldSessS_l1 e w =
 (vl (e 5) w).bind fun r1 =>
 (vl (e 0) r1.2).bind fun r2 =>
 (b_len P #[23] 3 #[r2.1] r2.2).bind fun r3 =>
 (bo P .lss 3 (.tmp 6) (.tmp 8) r1.1 r3.1 r3.2).bind fun r4 =>
 cnd r4.1 (
 (vl (e 0) r4.2).bind fun r5 =>
 (vl (e 5) r5.2).bind fun r6 =>
 (ia P 23 r5.1 r6.1 r6.2).bind fun r7 =>
 (fa P 56 r7.1 0 r7.2).bind fun r8 =>
 (ld P 3 r8.1 r8.2).bind fun r9 =>
 (vl (e 1) r9.2).bind fun r10 =>
 (bo P .neq 3 (.tmp 16) (.tmp 17) r9.1 r10.1 r10.2).bind fun r11 =>
 cnd r11.1 (
 (vl (.int .i64 (-1)) r11.2).bind fun r12 =>
 some (r12.1, r12.2)) (
 (vl (e 1) r11.2).bind fun r13 =>
 (bo P .add 3 (.tmp 19) (.const (.int .i64 1)) r13.1 (.int .i64 1) r13.2).bind fun r14 =>
 (vl r14.1 r14.2).bind fun r15 =>
 (vl (e 0) r15.2).bind fun r16 =>
 (vl (e 5) r16.2).bind fun r17 =>
 (ia P 23 r16.1 r17.1 r17.2).bind fun r18 =>
 (fa P 56 r18.1 1 r18.2).bind fun r19 =>
 (fa P 51 r19.1 0 r19.2).bind fun r20 =>
 (ld P 49 r20.1 r20.2).bind fun r21 =>
 (vl r15.1 r21.2).bind fun r22 =>
 (EV P 43 #[r21.1, r22.1] r22.2).bind fun r23 =>
 (vl r23.1 r23.2).bind fun r24 =>
 (vl r24.1 r24.2).bind fun r25 =>
 (bo P .lss 3 (.tmp 29) (.const (.int .i64 0)) r25.1 (.int .i64 0) r25.2).bind fun r26 =>
 cnd r26.1 (
 (vl (.int .i64 (-1)) r26.2).bind fun r27 =>
 some (r27.1, r27.2)) (
 (vl (e 0) r26.2).bind fun r28 =>
 (vl (e 5) r28.2).bind fun r29 =>
 (ia P 23 r28.1 r29.1 r29.2).bind fun r30 =>
 (fa P 56 r30.1 2 r30.2).bind fun r31 =>
 (fa P 54 r31.1 0 r31.2).bind fun r32 =>
 (ld P 3 r32.1 r32.2).bind fun r33 =>
 (vl r24.1 r33.2).bind fun r34 =>
 (bo P .neq 3 (.tmp 36) (.tmp 37) r33.1 r34.1 r34.2).bind fun r35 =>
 cnd r35.1 (
 (vl (.int .i64 (-1)) r35.2).bind fun r36 =>
 some (r36.1, r36.2)) (
 (vl r24.1 r35.2).bind fun r37 =>
 (bo P .add 3 (.tmp 39) (.const (.int .i64 1)) r37.1 (.int .i64 1) r37.2).bind fun r38 =>
 (vl r38.1 r38.2).bind fun r39 =>
 (vl (e 0) r39.2).bind fun r40 =>
 (vl (e 5) r40.2).bind fun r41 =>
 (ia P 23 r40.1 r41.1 r41.2).bind fun r42 =>
 (fa P 56 r42.1 2 r42.2).bind fun r43 =>
 (fa P 54 r43.1 1 r43.2).bind fun r44 =>
 (ld P 3 r44.1 r44.2).bind fun r45 =>
 (vl r39.1 r45.2).bind fun r46 =>
 (bo P .neq 3 (.tmp 46) (.tmp 47) r45.1 r46.1 r46.2).bind fun r47 =>
 cnd r47.1 (
 (vl (.int .i64 (-1)) r47.2).bind fun r48 =>
 some (r48.1, r48.2)) (
 (vl r39.1 r47.2).bind fun r49 =>
 (bo P .add 3 (.tmp 49) (.const (.int .i64 1)) r49.1 (.int .i64 1) r49.2).bind fun r50 =>
 (vl r50.1 r50.2).bind fun r51 =>
 (vl (e 0) r51.2).bind fun r52 =>
 (vl (e 5) r52.2).bind fun r53 =>
 (ia P 23 r52.1 r53.1 r53.2).bind fun r54 =>
 (fa P 56 r54.1 3 r54.2).bind fun r55 =>
 (ld P 3 r55.1 r55.2).bind fun r56 =>
 (vl r51.1 r56.2).bind fun r57 =>
 (bo P .neq 3 (.tmp 55) (.tmp 56) r56.1 r57.1 r57.2).bind fun r58 =>
 cnd r58.1 (
 (vl (.int .i64 (-1)) r58.2).bind fun r59 =>
 some (r59.1, r59.2)) (
 (vl r51.1 r58.2).bind fun r60 =>
 (bo P .add 3 (.tmp 58) (.const (.int .i64 1)) r60.1 (.int .i64 1) r60.2).bind fun r61 =>
 (vl r61.1 r61.2).bind fun r62 =>
 (vl (e 5) r62.2).bind fun r63 =>
 (bo P .add 3 (.tmp 10) (.const (.int .i64 1)) r63.1 (.int .i64 1) r63.2).bind fun r64 =>
 (vl r64.1 r64.2).bind fun r65 =>
 laws_heldSessS_l1 (ups e [(6, r1.1), (7, r2.1), (8, r3.1), (9, r4.1), (12, r5.1), (13, r6.1), (14, r7.1), (15, r8.1), (16, r9.1), (17, r10.1), (18, r11.1), (19, r13.1), (20, r14.1), (1, r15.1), (21, r16.1), (22, r17.1), (23, r18.1), (24, r19.1), (25, r20.1), (26, r21.1), (27, r22.1), (28, r23.1), (1, r24.1), (29, r25.1), (30, r26.1), (31, r28.1), (32, r29.1), (33, r30.1), (34, r31.1), (35, r32.1), (36, r33.1), (37, r34.1), (38, r35.1), (39, r37.1), (40, r38.1), (1, r39.1), (41, r40.1), (42, r41.1), (43, r42.1), (44, r43.1), (45, r44.1), (46, r45.1), (47, r46.1), (48, r47.1), (49, r49.1), (50, r50.1), (1, r51.1), (51, r52.1), (52, r53.1), (53, r54.1), (54, r55.1), (55, r56.1), (56, r57.1), (57, r58.1), (58, r60.1), (59, r61.1), (1, r62.1), (10, r63.1), (11, r64.1), (5, r65.1)]) r65.2)))))) (
 (vl (e 1) r4.2).bind fun r66 =>
 (vl r66.1 r66.2).bind fun r67 =>
 some (r67.1, r67.2)) := (exC_loop P (EV P) 22 61 (cA (cA (cB (cA (cB (bodyOf P 22)))))) e w (kBlock 0 (kSeq P (EV P) 22 61 (cB (cB (bodyOf P 22))) (kFn P (fnOf P 22))))).trans (by kernel_rfl)
theorem laws_heldSessS_fn (x0 x1 : Value) (w : World) : fnC P (EV P) 22 #[x0, x1] w =
 (vl (.int .i64 0) w).bind fun r1 =>
 (vl (.int .i64 0) r1.2).bind fun r2 =>
 laws_heldSessS_l1 (ups (env0 #[x0, x1]) [(4, r1.1), (5, r2.1)]) r2.2 := by kernel_rfl
noncomputable def laws_heldFrameS_l1 (e : Env) (w : World) : Option (Value × World) := exC P (EV P) 23 106 (.loop (cA (cA (cB (cA (cB (bodyOf P 23))))))) e w (kBlock 0 (kSeq P (EV P) 23 106 (cB (cB (bodyOf P 23))) (kFn P (fnOf P 23))))
theorem laws_heldFrameS_l1_eq (e : Env) (w : World) : laws_heldFrameS_l1 e w =
 (vl (e 5) w).bind fun r1 =>
 (vl (e 0) r1.2).bind fun r2 =>
 (b_len P #[24] 3 #[r2.1] r2.2).bind fun r3 =>
 (bo P .lss 3 (.tmp 6) (.tmp 8) r1.1 r3.1 r3.2).bind fun r4 =>
 cnd r4.1 (
 (vl (e 0) r4.2).bind fun r5 =>
 (vl (e 5) r5.2).bind fun r6 =>
 (ia P 24 r5.1 r6.1 r6.2).bind fun r7 =>
 (fa P 64 r7.1 0 r7.2).bind fun r8 =>
 (ld P 3 r8.1 r8.2).bind fun r9 =>
 (vl (e 1) r9.2).bind fun r10 =>
 (bo P .neq 3 (.tmp 16) (.tmp 17) r9.1 r10.1 r10.2).bind fun r11 =>
 cnd r11.1 (
 (vl (.int .i64 (-1)) r11.2).bind fun r12 =>
 some (r12.1, r12.2)) (
 (vl (e 1) r11.2).bind fun r13 =>
 (bo P .add 3 (.tmp 19) (.const (.int .i64 1)) r13.1 (.int .i64 1) r13.2).bind fun r14 =>
 (vl r14.1 r14.2).bind fun r15 =>
 (vl (e 0) r15.2).bind fun r16 =>
 (vl (e 5) r16.2).bind fun r17 =>
 (ia P 24 r16.1 r17.1 r17.2).bind fun r18 =>
 (fa P 64 r18.1 1 r18.2).bind fun r19 =>
 (ld P 3 r19.1 r19.2).bind fun r20 =>
 (vl r15.1 r20.2).bind fun r21 =>
 (bo P .neq 3 (.tmp 25) (.tmp 26) r20.1 r21.1 r21.2).bind fun r22 =>
 cnd r22.1 (
 (vl (.int .i64 (-1)) r22.2).bind fun r23 =>
 some (r23.1, r23.2)) (
 (vl r15.1 r22.2).bind fun r24 =>
 (bo P .add 3 (.tmp 28) (.const (.int .i64 1)) r24.1 (.int .i64 1) r24.2).bind fun r25 =>
 (vl r25.1 r25.2).bind fun r26 =>
 (vl (e 0) r26.2).bind fun r27 =>
 (vl (e 5) r27.2).bind fun r28 =>
 (ia P 24 r27.1 r28.1 r28.2).bind fun r29 =>
 (fa P 64 r29.1 2 r29.2).bind fun r30 =>
 (ld P 3 r30.1 r30.2).bind fun r31 =>
 (vl r26.1 r31.2).bind fun r32 =>
 (bo P .neq 3 (.tmp 34) (.tmp 35) r31.1 r32.1 r32.2).bind fun r33 =>
 cnd r33.1 (
 (vl (.int .i64 (-1)) r33.2).bind fun r34 =>
 some (r34.1, r34.2)) (
 (vl r26.1 r33.2).bind fun r35 =>
 (bo P .add 3 (.tmp 37) (.const (.int .i64 1)) r35.1 (.int .i64 1) r35.2).bind fun r36 =>
 (vl r36.1 r36.2).bind fun r37 =>
 (vl (e 0) r37.2).bind fun r38 =>
 (vl (e 5) r38.2).bind fun r39 =>
 (ia P 24 r38.1 r39.1 r39.2).bind fun r40 =>
 (fa P 64 r40.1 3 r40.2).bind fun r41 =>
 (fa P 62 r41.1 0 r41.2).bind fun r42 =>
 (ld P 3 r42.1 r42.2).bind fun r43 =>
 (vl r37.1 r43.2).bind fun r44 =>
 (bo P .neq 3 (.tmp 44) (.tmp 45) r43.1 r44.1 r44.2).bind fun r45 =>
 cnd r45.1 (
 (vl (.int .i64 (-1)) r45.2).bind fun r46 =>
 some (r46.1, r46.2)) (
 (vl r37.1 r45.2).bind fun r47 =>
 (bo P .add 3 (.tmp 47) (.const (.int .i64 1)) r47.1 (.int .i64 1) r47.2).bind fun r48 =>
 (vl r48.1 r48.2).bind fun r49 =>
 (vl (e 0) r49.2).bind fun r50 =>
 (vl (e 5) r50.2).bind fun r51 =>
 (ia P 24 r50.1 r51.1 r51.2).bind fun r52 =>
 (fa P 64 r52.1 3 r52.2).bind fun r53 =>
 (fa P 62 r53.1 1 r53.2).bind fun r54 =>
 (fa P 54 r54.1 0 r54.2).bind fun r55 =>
 (ld P 3 r55.1 r55.2).bind fun r56 =>
 (vl r49.1 r56.2).bind fun r57 =>
 (bo P .neq 3 (.tmp 55) (.tmp 56) r56.1 r57.1 r57.2).bind fun r58 =>
 cnd r58.1 (
 (vl (.int .i64 (-1)) r58.2).bind fun r59 =>
 some (r59.1, r59.2)) (
 (vl r49.1 r58.2).bind fun r60 =>
 (bo P .add 3 (.tmp 58) (.const (.int .i64 1)) r60.1 (.int .i64 1) r60.2).bind fun r61 =>
 (vl r61.1 r61.2).bind fun r62 =>
 (vl (e 0) r62.2).bind fun r63 =>
 (vl (e 5) r63.2).bind fun r64 =>
 (ia P 24 r63.1 r64.1 r64.2).bind fun r65 =>
 (fa P 64 r65.1 3 r65.2).bind fun r66 =>
 (fa P 62 r66.1 1 r66.2).bind fun r67 =>
 (fa P 54 r67.1 1 r67.2).bind fun r68 =>
 (ld P 3 r68.1 r68.2).bind fun r69 =>
 (vl r62.1 r69.2).bind fun r70 =>
 (bo P .neq 3 (.tmp 66) (.tmp 67) r69.1 r70.1 r70.2).bind fun r71 =>
 cnd r71.1 (
 (vl (.int .i64 (-1)) r71.2).bind fun r72 =>
 some (r72.1, r72.2)) (
 (vl r62.1 r71.2).bind fun r73 =>
 (bo P .add 3 (.tmp 69) (.const (.int .i64 1)) r73.1 (.int .i64 1) r73.2).bind fun r74 =>
 (vl r74.1 r74.2).bind fun r75 =>
 (vl (e 0) r75.2).bind fun r76 =>
 (vl (e 5) r76.2).bind fun r77 =>
 (ia P 24 r76.1 r77.1 r77.2).bind fun r78 =>
 (fa P 64 r78.1 3 r78.2).bind fun r79 =>
 (fa P 62 r79.1 2 r79.2).bind fun r80 =>
 (fa P 51 r80.1 0 r80.2).bind fun r81 =>
 (ld P 49 r81.1 r81.2).bind fun r82 =>
 (vl r75.1 r82.2).bind fun r83 =>
 (EV P 43 #[r82.1, r83.1] r83.2).bind fun r84 =>
 (vl r84.1 r84.2).bind fun r85 =>
 (vl r85.1 r85.2).bind fun r86 =>
 (bo P .lss 3 (.tmp 80) (.const (.int .i64 0)) r86.1 (.int .i64 0) r86.2).bind fun r87 =>
 cnd r87.1 (
 (vl (.int .i64 (-1)) r87.2).bind fun r88 =>
 some (r88.1, r88.2)) (
 (vl (e 0) (dw r87.2)).bind fun r90 =>
 ifP (r90.2 = (dw r87.2)) <|
 (vl (e 5) (dw r87.2)).bind fun r91 =>
 ifP (r91.2 = (dw r87.2)) <|
 (ia P 24 r90.1 r91.1 (dw r87.2)).bind fun r92 =>
 ifP (r92.2 = (dw r87.2)) <|
 (fa P 64 r92.1 3 (dw r87.2)).bind fun r93 =>
 ifP (r93.2 = (dw r87.2)) <|
 (fa P 62 r93.1 3 (dw r87.2)).bind fun r94 =>
 ifP (r94.2 = (dw r87.2)) <|
 (ld P 9 r94.1 (dw r87.2)).bind fun r95 =>
 ifP (r95.2 = (dw r87.2)) <|
 (vl r85.1 (dw r87.2)).bind fun r96 =>
 ifP (r96.2 = (dw r87.2)) <|
 (EV P 39 #[r96.1] (dw r87.2)).bind fun r97 =>
 ifP (ld P 9 r94.1 r97.2 = some (r95.1, r97.2) ∧ fa P 62 r93.1 3 r97.2 = some (r94.1, r97.2) ∧ fa P 64 r92.1 3 r97.2 = some (r93.1, r97.2) ∧ ia P 24 r90.1 r91.1 r97.2 = some (r92.1, r97.2) ∧ True) <|
 (bo P .neq 9 (.tmp 87) (.tmp 89) r95.1 r97.1 r97.2).bind fun r98 =>
 ifP (r98.2 = r97.2) <|
 cnd r98.1 (
 (vl (.int .i64 (-1)) r97.2).bind fun r99 =>
 some (r99.1, r99.2)) (
 (vl r85.1 r97.2).bind fun r100 =>
 (bo P .add 3 (.tmp 91) (.const (.int .i64 1)) r100.1 (.int .i64 1) r100.2).bind fun r101 =>
 (vl r101.1 r101.2).bind fun r102 =>
 (vl (e 0) r102.2).bind fun r103 =>
 (vl (e 5) r103.2).bind fun r104 =>
 (ia P 24 r103.1 r104.1 r104.2).bind fun r105 =>
 (fa P 64 r105.1 3 r105.2).bind fun r106 =>
 (fa P 62 r106.1 4 r106.2).bind fun r107 =>
 (ld P 4 r107.1 r107.2).bind fun r108 =>
 (vl r102.1 r108.2).bind fun r109 =>
 (bo P .rem 3 (.tmp 99) (.const (.int .i64 3)) r109.1 (.int .i64 3) r109.2).bind fun r110 =>
 (bo P .eql 3 (.tmp 100) (.const (.int .i64 0)) r110.1 (.int .i64 0) r110.2).bind fun r111 =>
 (bo P .neq 4 (.tmp 98) (.tmp 101) r108.1 r111.1 r111.2).bind fun r112 =>
 cnd r112.1 (
 (vl (.int .i64 (-1)) r112.2).bind fun r113 =>
 some (r113.1, r113.2)) (
 (vl r102.1 r112.2).bind fun r114 =>
 (bo P .add 3 (.tmp 103) (.const (.int .i64 1)) r114.1 (.int .i64 1) r114.2).bind fun r115 =>
 (vl r115.1 r115.2).bind fun r116 =>
 (vl (e 5) r116.2).bind fun r117 =>
 (bo P .add 3 (.tmp 10) (.const (.int .i64 1)) r117.1 (.int .i64 1) r117.2).bind fun r118 =>
 (vl r118.1 r118.2).bind fun r119 =>
 laws_heldFrameS_l1 (ups e [(6, r1.1), (7, r2.1), (8, r3.1), (9, r4.1), (12, r5.1), (13, r6.1), (14, r7.1), (15, r8.1), (16, r9.1), (17, r10.1), (18, r11.1), (19, r13.1), (20, r14.1), (1, r15.1), (21, r16.1), (22, r17.1), (23, r18.1), (24, r19.1), (25, r20.1), (26, r21.1), (27, r22.1), (28, r24.1), (29, r25.1), (1, r26.1), (30, r27.1), (31, r28.1), (32, r29.1), (33, r30.1), (34, r31.1), (35, r32.1), (36, r33.1), (37, r35.1), (38, r36.1), (1, r37.1), (39, r38.1), (40, r39.1), (41, r40.1), (42, r41.1), (43, r42.1), (44, r43.1), (45, r44.1), (46, r45.1), (47, r47.1), (48, r48.1), (1, r49.1), (49, r50.1), (50, r51.1), (51, r52.1), (52, r53.1), (53, r54.1), (54, r55.1), (55, r56.1), (56, r57.1), (57, r58.1), (58, r60.1), (59, r61.1), (1, r62.1), (60, r63.1), (61, r64.1), (62, r65.1), (63, r66.1), (64, r67.1), (65, r68.1), (66, r69.1), (67, r70.1), (68, r71.1), (69, r73.1), (70, r74.1), (1, r75.1), (71, r76.1), (72, r77.1), (73, r78.1), (74, r79.1), (75, r80.1), (76, r81.1), (77, r82.1), (78, r83.1), (79, r84.1), (1, r85.1), (80, r86.1), (81, r87.1), (82, r90.1), (83, r91.1), (84, r92.1), (85, r93.1), (86, r94.1), (87, r95.1), (88, r96.1), (89, r97.1), (90, r98.1), (91, r100.1), (92, r101.1), (1, r102.1), (93, r103.1), (94, r104.1), (95, r105.1), (96, r106.1), (97, r107.1), (98, r108.1), (99, r109.1), (100, r110.1), (101, r111.1), (102, r112.1), (103, r114.1), (104, r115.1), (1, r116.1), (10, r117.1), (11, r118.1), (5, r119.1)]) r119.2)))))))))) (
 (vl (e 1) r4.2).bind fun r120 =>
 (vl r120.1 r120.2).bind fun r121 =>
 some (r121.1, r121.2)) := (exC_loop P (EV P) 23 106 (cA (cA (cB (cA (cB (bodyOf P 23)))))) e w (kBlock 0 (kSeq P (EV P) 23 106 (cB (cB (bodyOf P 23))) (kFn P (fnOf P 23))))).trans (by kernel_rfl)
theorem laws_heldFrameS_fn (x0 x1 : Value) (w : World) : fnC P (EV P) 23 #[x0, x1] w =
 (vl (.int .i64 0) w).bind fun r1 =>
 (vl (.int .i64 0) r1.2).bind fun r2 =>
 laws_heldFrameS_l1 (ups (env0 #[x0, x1]) [(4, r1.1), (5, r2.1)]) r2.2 := by kernel_rfl
noncomputable def laws_heldDoneS_l1 (e : Env) (w : World) : Option (Value × World) := exC P (EV P) 24 60 (.loop (cA (cA (cB (cA (cB (bodyOf P 24))))))) e w (kBlock 0 (kSeq P (EV P) 24 60 (cB (cB (bodyOf P 24))) (kFn P (fnOf P 24))))
theorem laws_heldDoneS_l1_eq (e : Env) (w : World) : laws_heldDoneS_l1 e w =
 (vl (e 5) w).bind fun r1 =>
 (vl (e 0) r1.2).bind fun r2 =>
 (b_len P #[25] 3 #[r2.1] r2.2).bind fun r3 =>
 (bo P .lss 3 (.tmp 6) (.tmp 8) r1.1 r3.1 r3.2).bind fun r4 =>
 cnd r4.1 (
 (vl (e 0) r4.2).bind fun r5 =>
 (vl (e 5) r5.2).bind fun r6 =>
 (ia P 25 r5.1 r6.1 r6.2).bind fun r7 =>
 (fa P 67 r7.1 0 r7.2).bind fun r8 =>
 (ld P 3 r8.1 r8.2).bind fun r9 =>
 (vl (e 1) r9.2).bind fun r10 =>
 (bo P .neq 3 (.tmp 16) (.tmp 17) r9.1 r10.1 r10.2).bind fun r11 =>
 cnd r11.1 (
 (vl (.int .i64 (-1)) r11.2).bind fun r12 =>
 some (r12.1, r12.2)) (
 (vl (e 1) r11.2).bind fun r13 =>
 (bo P .add 3 (.tmp 19) (.const (.int .i64 1)) r13.1 (.int .i64 1) r13.2).bind fun r14 =>
 (vl r14.1 r14.2).bind fun r15 =>
 (vl (e 0) r15.2).bind fun r16 =>
 (vl (e 5) r16.2).bind fun r17 =>
 (ia P 25 r16.1 r17.1 r17.2).bind fun r18 =>
 (fa P 67 r18.1 1 r18.2).bind fun r19 =>
 (ld P 3 r19.1 r19.2).bind fun r20 =>
 (vl r15.1 r20.2).bind fun r21 =>
 (bo P .neq 3 (.tmp 25) (.tmp 26) r20.1 r21.1 r21.2).bind fun r22 =>
 cnd r22.1 (
 (vl (.int .i64 (-1)) r22.2).bind fun r23 =>
 some (r23.1, r23.2)) (
 (vl r15.1 r22.2).bind fun r24 =>
 (bo P .add 3 (.tmp 28) (.const (.int .i64 1)) r24.1 (.int .i64 1) r24.2).bind fun r25 =>
 (vl r25.1 r25.2).bind fun r26 =>
 (vl (e 0) r26.2).bind fun r27 =>
 (vl (e 5) r27.2).bind fun r28 =>
 (ia P 25 r27.1 r28.1 r28.2).bind fun r29 =>
 (fa P 67 r29.1 2 r29.2).bind fun r30 =>
 (ld P 3 r30.1 r30.2).bind fun r31 =>
 (vl r26.1 r31.2).bind fun r32 =>
 (bo P .neq 3 (.tmp 34) (.tmp 35) r31.1 r32.1 r32.2).bind fun r33 =>
 cnd r33.1 (
 (vl (.int .i64 (-1)) r33.2).bind fun r34 =>
 some (r34.1, r34.2)) (
 (vl r26.1 r33.2).bind fun r35 =>
 (bo P .add 3 (.tmp 37) (.const (.int .i64 1)) r35.1 (.int .i64 1) r35.2).bind fun r36 =>
 (vl r36.1 r36.2).bind fun r37 =>
 (vl (e 0) r37.2).bind fun r38 =>
 (vl (e 5) r38.2).bind fun r39 =>
 (ia P 25 r38.1 r39.1 r39.2).bind fun r40 =>
 (fa P 67 r40.1 3 r40.2).bind fun r41 =>
 (fa P 54 r41.1 0 r41.2).bind fun r42 =>
 (ld P 3 r42.1 r42.2).bind fun r43 =>
 (vl r37.1 r43.2).bind fun r44 =>
 (bo P .neq 3 (.tmp 44) (.tmp 45) r43.1 r44.1 r44.2).bind fun r45 =>
 cnd r45.1 (
 (vl (.int .i64 (-1)) r45.2).bind fun r46 =>
 some (r46.1, r46.2)) (
 (vl r37.1 r45.2).bind fun r47 =>
 (bo P .add 3 (.tmp 47) (.const (.int .i64 1)) r47.1 (.int .i64 1) r47.2).bind fun r48 =>
 (vl r48.1 r48.2).bind fun r49 =>
 (vl (e 0) r49.2).bind fun r50 =>
 (vl (e 5) r50.2).bind fun r51 =>
 (ia P 25 r50.1 r51.1 r51.2).bind fun r52 =>
 (fa P 67 r52.1 3 r52.2).bind fun r53 =>
 (fa P 54 r53.1 1 r53.2).bind fun r54 =>
 (ld P 3 r54.1 r54.2).bind fun r55 =>
 (vl r49.1 r55.2).bind fun r56 =>
 (bo P .neq 3 (.tmp 54) (.tmp 55) r55.1 r56.1 r56.2).bind fun r57 =>
 cnd r57.1 (
 (vl (.int .i64 (-1)) r57.2).bind fun r58 =>
 some (r58.1, r58.2)) (
 (vl r49.1 r57.2).bind fun r59 =>
 (bo P .add 3 (.tmp 57) (.const (.int .i64 1)) r59.1 (.int .i64 1) r59.2).bind fun r60 =>
 (vl r60.1 r60.2).bind fun r61 =>
 (vl (e 5) r61.2).bind fun r62 =>
 (bo P .add 3 (.tmp 10) (.const (.int .i64 1)) r62.1 (.int .i64 1) r62.2).bind fun r63 =>
 (vl r63.1 r63.2).bind fun r64 =>
 laws_heldDoneS_l1 (ups e [(6, r1.1), (7, r2.1), (8, r3.1), (9, r4.1), (12, r5.1), (13, r6.1), (14, r7.1), (15, r8.1), (16, r9.1), (17, r10.1), (18, r11.1), (19, r13.1), (20, r14.1), (1, r15.1), (21, r16.1), (22, r17.1), (23, r18.1), (24, r19.1), (25, r20.1), (26, r21.1), (27, r22.1), (28, r24.1), (29, r25.1), (1, r26.1), (30, r27.1), (31, r28.1), (32, r29.1), (33, r30.1), (34, r31.1), (35, r32.1), (36, r33.1), (37, r35.1), (38, r36.1), (1, r37.1), (39, r38.1), (40, r39.1), (41, r40.1), (42, r41.1), (43, r42.1), (44, r43.1), (45, r44.1), (46, r45.1), (47, r47.1), (48, r48.1), (1, r49.1), (49, r50.1), (50, r51.1), (51, r52.1), (52, r53.1), (53, r54.1), (54, r55.1), (55, r56.1), (56, r57.1), (57, r59.1), (58, r60.1), (1, r61.1), (10, r62.1), (11, r63.1), (5, r64.1)]) r64.2)))))) (
 (vl (e 1) r4.2).bind fun r65 =>
 (vl r65.1 r65.2).bind fun r66 =>
 some (r66.1, r66.2)) := (exC_loop P (EV P) 24 60 (cA (cA (cB (cA (cB (bodyOf P 24)))))) e w (kBlock 0 (kSeq P (EV P) 24 60 (cB (cB (bodyOf P 24))) (kFn P (fnOf P 24))))).trans (by kernel_rfl)
theorem laws_heldDoneS_fn (x0 x1 : Value) (w : World) : fnC P (EV P) 24 #[x0, x1] w =
 (vl (.int .i64 0) w).bind fun r1 =>
 (vl (.int .i64 0) r1.2).bind fun r2 =>
 laws_heldDoneS_l1 (ups (env0 #[x0, x1]) [(4, r1.1), (5, r2.1)]) r2.2 := by kernel_rfl
noncomputable def spec_l4New_a1 (e : Env) (w : World) : Option (Value × World) := exC P (EV P) 25 10 (cA (cB (bodyOf P 25))) e w (kSeq P (EV P) 25 10 (cB (cB (bodyOf P 25))) (kFn P (fnOf P 25)))
noncomputable def spec_l4New_j1 (e : Env) (w : World) : Option (Value × World) := exC P (EV P) 25 10 (cB (cB (bodyOf P 25))) e w (kFn P (fnOf P 25))
theorem spec_l4New_a1_any (e : Env) (w : World) {Q : Value × World → Prop} (h :
 (Ret (vl (e 0) (dw w)) fun r1 => r1.2 = (dw w) ∧
 (Ret (vl (e 1) (dw w)) fun r2 => r2.2 = (dw w) ∧
 ((Ret (EV P 44 #[r2.1] (dw w)) fun r3 => (True) ∧
 ((Ret (ms P 45 (.int .i64 3) (.int .i64 3) r3.2) fun r4 => (True) ∧
 (Ret (bd P 47 #[(0, r1.1), (2, r3.1), (4, r4.1)] r4.2) fun r5 => r5.2 = r4.2 ∧
 ((Ret (st P 47 (e 4) r5.1 r4.2) fun r6 => (True ∧ True) ∧
 Ret (spec_l4New_j1 (ups e [(5, r1.1), (6, r2.1), (7, r3.1), (8, r4.1), (9, r5.1)]) r6.2) Q)))))) ∧
 (Ret (ms P 45 (.int .i64 3) (.int .i64 3) (dw w)) fun r7 => (True) ∧
 ((Ret (EV P 44 #[r2.1] r7.2) fun r8 => (True) ∧
 (Ret (bd P 47 #[(0, r1.1), (2, r8.1), (4, r7.1)] r8.2) fun r9 => r9.2 = r8.2 ∧
 ((Ret (st P 47 (e 4) r9.1 r8.2) fun r10 => (True ∧ True) ∧
 Ret (spec_l4New_j1 (ups e [(5, r1.1), (6, r2.1), (8, r7.1), (7, r8.1), (9, r9.1)]) r10.2) Q)))))))))) : Ret (spec_l4New_a1 e w) Q := exC_any (id := 1) (ops := opsOf (cA (cB (bodyOf P 25)))) (by kernel_rfl) (by kernel_rfl) (Eq.mpr (by kernel_rfl) h)
theorem spec_l4New_j1_eq (e : Env) (w : World) : spec_l4New_j1 e w =
 ((ld P 47 (e 4) w).bind fun r1 => ifP (r1.2 = w) (some r1.1)).bind fun v2 =>
 some (v2, w) := by kernel_rfl
theorem spec_l4New_fn (x0 x1 : Value) (w : World) : fnC P (EV P) 25 #[x0, x1] w =
 (al P 47 w).bind fun r1 =>
 spec_l4New_a1 (ups (env0 #[x0, x1]) [(4, r1.1)]) r1.2 := by kernel_rfl
theorem spec_l1None_fn (w : World) : fnC P (EV P) 26 #[] w =
 (al P 51 w).bind fun r1 =>
 (ms P 49 (.int .i64 4) (.int .i64 4) r1.2).bind fun r2 =>
 (bd P 51 #[(0, r2.1)] r2.2).bind fun r3 =>
 (st P 51 r1.1 r3.1 r3.2).bind fun r4 =>
 ((ld P 51 r1.1 r4.2).bind fun r5 => ifP (r5.2 = r4.2) (some r5.1)).bind fun v6 =>
 some (v6, r4.2) := by kernel_rfl
theorem impl_nodesOk_fn (x0 : Value) (w : World) : fnC P (EV P) 27 #[x0] w =
 (vl (.bool false) w).bind fun r1 =>
 (vl x0 r1.2).bind fun r2 =>
 (EV P 28 #[r2.1, (.int .i64 1), (.int .i64 4)] r2.2).bind fun r3 =>
 (vl r3.1 r3.2).bind fun r4 =>
 some (r4.1, r4.2) := by kernel_rfl
theorem impl_within_fn (x0 x1 x2 : Value) (w : World) : fnC P (EV P) 28 #[x0, x1, x2] w =
 (vl (.bool false) w).bind fun r1 =>
 (vl x0 r1.2).bind fun r2 =>
 (vl x1 r2.2).bind fun r3 =>
 (bo P .geq 3 (.tmp 7) (.tmp 8) r2.1 r3.1 r3.2).bind fun r4 =>
 (vl r4.1 r4.2).bind fun r5 =>
 (gif r5.1 true (vl x0 r5.2) r5.2).bind fun r6 =>
 (gif r5.1 true (vl x2 r6.2) r6.2).bind fun r7 =>
 (gif r5.1 true (bo P .leq 3 (.tmp 11) (.tmp 12) r6.1 r7.1 r7.2) r7.2).bind fun r8 =>
 (pickV r5.1 r8.1 (.bool false) r8.2).bind fun r9 =>
 (vl r9.1 r9.2).bind fun r10 =>
 some (r10.1, r10.2) := by kernel_rfl
noncomputable def impl_PlaceNew_a1 (e : Env) (w : World) : Option (Value × World) := exC P (EV P) 29 19 (cA (cB (cB (bodyOf P 29)))) e w (kSeq P (EV P) 29 19 (cB (cB (cB (bodyOf P 29)))) (kFn P (fnOf P 29)))
noncomputable def impl_PlaceNew_j1 (e : Env) (w : World) : Option (Value × World) := exC P (EV P) 29 19 (cB (cB (cB (bodyOf P 29)))) e w (kFn P (fnOf P 29))
theorem impl_PlaceNew_a1_any (e : Env) (w : World) {Q : Value × World → Prop} (h :
 (Ret (vl (e 0) (dw w)) fun r1 => r1.2 = (dw w) ∧
 (Ret (vl (e 1) (dw w)) fun r2 => r2.2 = (dw w) ∧
 ((Ret (EV P 46 #[r2.1] (dw w)) fun r3 => (True) ∧
 ((Ret (ms P 45 (.int .i64 3) (.int .i64 3) r3.2) fun r4 => (True) ∧
 (Ret (bd P 47 #[(0, r1.1), (2, r3.1), (4, r4.1)] r4.2) fun r5 => r5.2 = r4.2 ∧
 ((Ret (st P 47 (e 4) r5.1 r4.2) fun r6 => (True ∧ True) ∧
 Ret (impl_PlaceNew_j1 (ups e [(14, r1.1), (15, r2.1), (16, r3.1), (17, r4.1), (18, r5.1)]) r6.2) Q)))))) ∧
 (Ret (ms P 45 (.int .i64 3) (.int .i64 3) (dw w)) fun r7 => (True) ∧
 ((Ret (EV P 46 #[r2.1] r7.2) fun r8 => (True) ∧
 (Ret (bd P 47 #[(0, r1.1), (2, r8.1), (4, r7.1)] r8.2) fun r9 => r9.2 = r8.2 ∧
 ((Ret (st P 47 (e 4) r9.1 r8.2) fun r10 => (True ∧ True) ∧
 Ret (impl_PlaceNew_j1 (ups e [(14, r1.1), (15, r2.1), (17, r7.1), (16, r8.1), (18, r9.1)]) r10.2) Q)))))))))) : Ret (impl_PlaceNew_a1 e w) Q := exC_any (id := 3) (ops := opsOf (cA (cB (cB (bodyOf P 29))))) (by kernel_rfl) (by kernel_rfl) (Eq.mpr (by kernel_rfl) h)
theorem impl_PlaceNew_j1_eq (e : Env) (w : World) : impl_PlaceNew_j1 e w =
 ((ld P 47 (e 4) w).bind fun r1 => ifP (r1.2 = w) (some r1.1)).bind fun v2 =>
 some (v2, w) := by kernel_rfl
theorem impl_PlaceNew_fn (x0 x1 : Value) (w : World) : fnC P (EV P) 29 #[x0, x1] w =
 (al P 47 w).bind fun r1 =>
 (vl x0 r1.2).bind fun r2 =>
 (EV P 45 #[r2.1] r2.2).bind fun r3 =>
 (uo P .not r3.1 r3.2).bind fun r4 =>
 (vl r4.1 r4.2).bind fun r5 =>
 (gif r5.1 false (vl x1 r5.2) r5.2).bind fun r6 =>
 (gif r5.1 false (EV P 27 #[r6.1] r6.2) r6.2).bind fun r7 =>
 (gif r5.1 false (uo P .not r7.1 r7.2) r7.2).bind fun r8 =>
 (pickV r5.1 (.bool true) r8.1 r8.2).bind fun r9 =>
 cnd r9.1 (
 (bd P 47 #[] r9.2).bind fun r10 =>
 (st P 47 r1.1 r10.1 r10.2).bind fun r11 =>
 ((ld P 47 r1.1 r11.2).bind fun r12 => ifP (r12.2 = r11.2) (some r12.1)).bind fun v13 =>
 some (v13, r11.2)) (
 impl_PlaceNew_a1 (ups (env0 #[x0, x1]) [(4, r1.1), (5, r2.1), (6, r3.1), (7, r4.1), (8, r5.1), (9, r6.1), (10, r7.1), (11, r8.1), (12, r9.1)]) r9.2) := by kernel_rfl
theorem impl_PastNone_fn (w : World) : fnC P (EV P) 30 #[] w =
 (al P 51 w).bind fun r1 =>
 (ms P 49 (.int .i64 4) (.int .i64 4) r1.2).bind fun r2 =>
 (bd P 51 #[(0, r2.1)] r2.2).bind fun r3 =>
 (st P 51 r1.1 r3.1 r3.2).bind fun r4 =>
 ((ld P 51 r1.1 r4.2).bind fun r5 => ifP (r5.2 = r4.2) (some r5.1)).bind fun v6 =>
 some (v6, r4.2) := by kernel_rfl
theorem laws_eqPlace_fn (x0 x1 : Value) (w : World) : fnC P (EV P) 31 #[x0, x1] w =
 (bx P 47 x0 w).bind fun r1 =>
 (bx P 47 x1 r1.2).bind fun r2 =>
 (vl (.bool false) r2.2).bind fun r3 =>
 (fa P 47 r1.1 0 r3.2).bind fun r4 =>
 (ld P 3 r4.1 r4.2).bind fun r5 =>
 (fa P 47 r2.1 0 r5.2).bind fun r6 =>
 (ld P 3 r6.1 r6.2).bind fun r7 =>
 (bo P .neq 3 (.tmp 6) (.tmp 8) r5.1 r7.1 r7.2).bind fun r8 =>
 cnd r8.1 (
 (vl (.bool false) r8.2).bind fun r9 =>
 some (r9.1, r9.2)) (
 (fa P 47 r1.1 1 r8.2).bind fun r10 =>
 (ld P 3 r10.1 r10.2).bind fun r11 =>
 (fa P 47 r2.1 1 r11.2).bind fun r12 =>
 (ld P 3 r12.1 r12.2).bind fun r13 =>
 (bo P .neq 3 (.tmp 11) (.tmp 13) r11.1 r13.1 r13.2).bind fun r14 =>
 cnd r14.1 (
 (vl (.bool false) r14.2).bind fun r15 =>
 some (r15.1, r15.2)) (
 (fa P 47 r1.1 2 r14.2).bind fun r16 =>
 (ld P 43 r16.1 r16.2).bind fun r17 =>
 (fa P 47 r2.1 2 r17.2).bind fun r18 =>
 (ld P 43 r18.1 r18.2).bind fun r19 =>
 (EV P 47 #[r17.1, r19.1] r19.2).bind fun r20 =>
 (uo P .not r20.1 r20.2).bind fun r21 =>
 cnd r21.1 (
 (vl (.bool false) r21.2).bind fun r22 =>
 some (r22.1, r22.2)) (
 (fa P 47 r1.1 3 r21.2).bind fun r23 =>
 (ld P 44 r23.1 r23.2).bind fun r24 =>
 (fa P 47 r2.1 3 r24.2).bind fun r25 =>
 (ld P 44 r25.1 r25.2).bind fun r26 =>
 (EV P 48 #[r24.1, r26.1] r26.2).bind fun r27 =>
 (uo P .not r27.1 r27.2).bind fun r28 =>
 cnd r28.1 (
 (vl (.bool false) r28.2).bind fun r29 =>
 some (r29.1, r29.2)) (
 (fa P 47 r1.1 4 r28.2).bind fun r30 =>
 (ld P 45 r30.1 r30.2).bind fun r31 =>
 (fa P 47 r2.1 4 r31.2).bind fun r32 =>
 (ld P 45 r32.1 r32.2).bind fun r33 =>
 (EV P 49 #[r31.1, r33.1] r33.2).bind fun r34 =>
 (uo P .not r34.1 r34.2).bind fun r35 =>
 cnd r35.1 (
 (vl (.bool false) r35.2).bind fun r36 =>
 some (r36.1, r36.2)) (
 (fa P 47 r1.1 5 r35.2).bind fun r37 =>
 (ld P 4 r37.1 r37.2).bind fun r38 =>
 (fa P 47 r2.1 5 r38.2).bind fun r39 =>
 (ld P 4 r39.1 r39.2).bind fun r40 =>
 (bo P .neq 4 (.tmp 34) (.tmp 36) r38.1 r40.1 r40.2).bind fun r41 =>
 cnd r41.1 (
 (vl (.bool false) r41.2).bind fun r42 =>
 some (r42.1, r42.2)) (
 (vl (.bool true) r41.2).bind fun r43 =>
 some (r43.1, r43.2))))))) := by kernel_rfl
theorem laws_eqSess_fn (x0 x1 : Value) (w : World) : fnC P (EV P) 32 #[x0, x1] w =
 (bx P 56 x0 w).bind fun r1 =>
 (bx P 56 x1 r1.2).bind fun r2 =>
 (vl (.bool false) r2.2).bind fun r3 =>
 (fa P 56 r1.1 0 r3.2).bind fun r4 =>
 (ld P 3 r4.1 r4.2).bind fun r5 =>
 (fa P 56 r2.1 0 r5.2).bind fun r6 =>
 (ld P 3 r6.1 r6.2).bind fun r7 =>
 (bo P .neq 3 (.tmp 6) (.tmp 8) r5.1 r7.1 r7.2).bind fun r8 =>
 cnd r8.1 (
 (vl (.bool false) r8.2).bind fun r9 =>
 some (r9.1, r9.2)) (
 (fa P 56 r1.1 1 r8.2).bind fun r10 =>
 (ld P 51 r10.1 r10.2).bind fun r11 =>
 (fa P 56 r2.1 1 r11.2).bind fun r12 =>
 (ld P 51 r12.1 r12.2).bind fun r13 =>
 (EV P 50 #[r11.1, r13.1] r13.2).bind fun r14 =>
 (uo P .not r14.1 r14.2).bind fun r15 =>
 cnd r15.1 (
 (vl (.bool false) r15.2).bind fun r16 =>
 some (r16.1, r16.2)) (
 (fa P 56 r1.1 2 r15.2).bind fun r17 =>
 (ld P 54 r17.1 r17.2).bind fun r18 =>
 (fa P 56 r2.1 2 r18.2).bind fun r19 =>
 (ld P 54 r19.1 r19.2).bind fun r20 =>
 (EV P 51 #[r18.1, r20.1] r20.2).bind fun r21 =>
 (uo P .not r21.1 r21.2).bind fun r22 =>
 cnd r22.1 (
 (vl (.bool false) r22.2).bind fun r23 =>
 some (r23.1, r23.2)) (
 (fa P 56 r1.1 3 r22.2).bind fun r24 =>
 (ld P 3 r24.1 r24.2).bind fun r25 =>
 (fa P 56 r2.1 3 r25.2).bind fun r26 =>
 (ld P 3 r26.1 r26.2).bind fun r27 =>
 (bo P .neq 3 (.tmp 23) (.tmp 25) r25.1 r27.1 r27.2).bind fun r28 =>
 cnd r28.1 (
 (vl (.bool false) r28.2).bind fun r29 =>
 some (r29.1, r29.2)) (
 (vl (.bool true) r28.2).bind fun r30 =>
 some (r30.1, r30.2))))) := by kernel_rfl
noncomputable def laws_markNodeS_l1 (e : Env) (w : World) : Option (Value × World) := exC P (EV P) 35 28 (.loop (cA (cA (cB (cA (cB (bodyOf P 35))))))) e w (kBlock 0 (kSeq P (EV P) 35 28 (cB (cB (bodyOf P 35))) (kFn P (fnOf P 35))))
theorem laws_markNodeS_l1_eq (e : Env) (w : World) : laws_markNodeS_l1 e w =
 (vl (e 5) w).bind fun r1 =>
 (vl (e 0) r1.2).bind fun r2 =>
 (b_len P #[41] 3 #[r2.1] r2.2).bind fun r3 =>
 (bo P .lss 3 (.tmp 6) (.tmp 8) r1.1 r3.1 r3.2).bind fun r4 =>
 cnd r4.1 (
 (vl (e 0) r4.2).bind fun r5 =>
 (vl (e 5) r5.2).bind fun r6 =>
 (ia P 41 r5.1 r6.1 r6.2).bind fun r7 =>
 (fa P 83 r7.1 0 r7.2).bind fun r8 =>
 (fa P 81 r8.1 0 r8.2).bind fun r9 =>
 (ld P 44 r9.1 r9.2).bind fun r10 =>
 (vl (e 1) r10.2).bind fun r11 =>
 (EV P 36 #[r10.1, r11.1] r11.2).bind fun r12 =>
 (vl r12.1 r12.2).bind fun r13 =>
 (vl (e 0) r13.2).bind fun r14 =>
 (vl (e 5) r14.2).bind fun r15 =>
 (ia P 41 r14.1 r15.1 r15.2).bind fun r16 =>
 (fa P 83 r16.1 1 r16.2).bind fun r17 =>
 (ld P 44 r17.1 r17.2).bind fun r18 =>
 (vl r13.1 r18.2).bind fun r19 =>
 (EV P 36 #[r18.1, r19.1] r19.2).bind fun r20 =>
 (vl r20.1 r20.2).bind fun r21 =>
 (vl (e 5) r21.2).bind fun r22 =>
 (bo P .add 3 (.tmp 10) (.const (.int .i64 1)) r22.1 (.int .i64 1) r22.2).bind fun r23 =>
 (vl r23.1 r23.2).bind fun r24 =>
 laws_markNodeS_l1 (ups e [(6, r1.1), (7, r2.1), (8, r3.1), (9, r4.1), (12, r5.1), (13, r6.1), (14, r7.1), (15, r8.1), (16, r9.1), (17, r10.1), (18, r11.1), (19, r12.1), (1, r13.1), (20, r14.1), (21, r15.1), (22, r16.1), (23, r17.1), (24, r18.1), (25, r19.1), (26, r20.1), (1, r21.1), (10, r22.1), (11, r23.1), (5, r24.1)]) r24.2) (
 (vl (e 1) r4.2).bind fun r25 =>
 (vl r25.1 r25.2).bind fun r26 =>
 some (r26.1, r26.2)) := (exC_loop P (EV P) 35 28 (cA (cA (cB (cA (cB (bodyOf P 35)))))) e w (kBlock 0 (kSeq P (EV P) 35 28 (cB (cB (bodyOf P 35))) (kFn P (fnOf P 35))))).trans (by kernel_rfl)
theorem laws_markNodeS_fn (x0 x1 : Value) (w : World) : fnC P (EV P) 35 #[x0, x1] w =
 (vl (.int .i64 0) w).bind fun r1 =>
 (vl (.int .i64 0) r1.2).bind fun r2 =>
 laws_markNodeS_l1 (ups (env0 #[x0, x1]) [(4, r1.1), (5, r2.1)]) r2.2 := by kernel_rfl
end Go.Proofs.Ytligcpabhddggaa.X
