/- A part of the proof: an evaluator of the model, its laws, and contracts of functions; no condition. -/
import Derived.Test.YtgdacclgooaodaaDoorEvT
set_option linter.unusedVariables false
set_option maxRecDepth 100000
namespace Go.Proofs.YtgdacclgooaodaaDoor.X
open Go Go.Ev
theorem laws_FnExactVerPut_fn (x0 : Value) (w : World) : fnC P (EV P) 3 #[x0] w =
 (bx P 28 x0 w).bind fun r1 =>
 (vl (.bool false) r1.2).bind fun r2 =>
 (vl (.int .i64 1048576) r2.2).bind fun r3 =>
 (ld P 28 r1.1 r3.2).bind fun r4 =>
 (vl r3.1 r4.2).bind fun r5 =>
 (EV P 4 #[r4.1, r5.1] r5.2).bind fun r6 =>
 (vl r6.1 r6.2).bind fun r7 =>
 (vl r7.1 r7.2).bind fun r8 =>
 (bo P .lss 3 (.tmp 10) (.const (.int .i64 0)) r8.1 (.int .i64 0) r8.2).bind fun r9 =>
 cnd r9.1 (
 (vl (.bool true) r9.2).bind fun r10 =>
 some (r10.1, r10.2)) (
 (ld P 28 r1.1 r9.2).bind fun r11 =>
 (EV P 6 #[r11.1] r11.2).bind fun r12 =>
 (EV P 5 #[r12.1] r12.2).bind fun r13 =>
 (vl r13.1 r13.2).bind fun r14 =>
 (ld P 28 r1.1 r14.2).bind fun r15 =>
 (EV P 6 #[r15.1] r15.2).bind fun r16 =>
 (al P 36 r16.2).bind fun r17 =>
 (st P 36 r17.1 r16.1 r17.2).bind fun r18 =>
 (ld P 36 r17.1 r18.2).bind fun r19 =>
 (EV P 7 #[r19.1] r19.2).bind fun r20 =>
 (vl r20.1 r20.2).bind fun r21 =>
 (vl r21.1 r21.2).bind fun r22 =>
 (vl r14.1 r22.2).bind fun r23 =>
 (bo P .neq 9 (.tmp 19) (.tmp 20) r22.1 r23.1 r23.2).bind fun r24 =>
 cnd r24.1 (
 (vl (.bool false) r24.2).bind fun r25 =>
 some (r25.1, r25.2)) (
 (ld P 36 r17.1 (dw r24.2)).bind fun r27 =>
 ifP (r27.2 = (dw r24.2)) <|
 (ld P 28 r1.1 (dw r24.2)).bind fun r28 =>
 ifP (r28.2 = (dw r24.2)) <|
 (EV P 6 #[r28.1] (dw r24.2)).bind fun r29 =>
 ifP (True ∧ ld P 36 r17.1 r29.2 = some (r27.1, r29.2) ∧ True) <|
 (EV P 8 #[r27.1, r29.1] r29.2).bind fun r30 =>
 ifP (True ∧ True ∧ True) <|
 (uo P .not r30.1 r30.2).bind fun r31 =>
 ifP (r31.2 = r30.2) <|
 cnd r31.1 (
 (vl (.bool false) r30.2).bind fun r32 =>
 some (r32.1, r32.2)) (
 (vl (.bool true) r30.2).bind fun r33 =>
 some (r33.1, r33.2)))) := by kernel_rfl
theorem laws_szVer_fn (x0 x1 : Value) (w : World) : fnC P (EV P) 4 #[x0, x1] w =
 (bx P 28 x0 w).bind fun r1 =>
 (vl (.int .i64 0) r1.2).bind fun r2 =>
 (fa P 28 r1.1 2 r2.2).bind fun r3 =>
 (ld P 26 r3.1 r3.2).bind fun r4 =>
 (vl x1 r4.2).bind fun r5 =>
 (EV P 9 #[r4.1, r5.1] r5.2).bind fun r6 =>
 (vl r6.1 r6.2).bind fun r7 =>
 (vl r7.1 r7.2).bind fun r8 =>
 (bo P .lss 3 (.tmp 9) (.const (.int .i64 0)) r8.1 (.int .i64 0) r8.2).bind fun r9 =>
 cnd r9.1 (
 (vl (.int .i64 (-1)) r9.2).bind fun r10 =>
 some (r10.1, r10.2)) (
 (vl r7.1 r9.2).bind fun r11 =>
 (fa P 28 r1.1 3 r11.2).bind fun r12 =>
 (ld P 9 r12.1 r12.2).bind fun r13 =>
 (b_len P #[9] 3 #[r13.1] r13.2).bind fun r14 =>
 (bo P .sub 3 (.tmp 11) (.tmp 14) r11.1 r14.1 r14.2).bind fun r15 =>
 (vl r15.1 r15.2).bind fun r16 =>
 (vl r16.1 r16.2).bind fun r17 =>
 (bo P .lss 3 (.tmp 16) (.const (.int .i64 0)) r17.1 (.int .i64 0) r17.2).bind fun r18 =>
 cnd r18.1 (
 (vl (.int .i64 (-1)) r18.2).bind fun r19 =>
 some (r19.1, r19.2)) (
 (vl r16.1 r18.2).bind fun r20 =>
 (vl r20.1 r20.2).bind fun r21 =>
 some (r21.1, r21.2))) := by kernel_rfl
theorem spec_VerPut_fn (x0 : Value) (w : World) : fnC P (EV P) 5 #[x0] w =
 (bx P 36 x0 w).bind fun r1 =>
 (vl (Go.Value.string { data := #[] }) r1.2).bind fun r2 =>
 (ld P 36 r1.1 r2.2).bind fun r3 =>
 (EV P 10 #[r3.1] r3.2).bind fun r4 =>
 (uo P .not r4.1 r4.2).bind fun r5 =>
 cnd r5.1 (
 (vl (Go.Value.string { data := #[] }) r5.2).bind fun r6 =>
 some (r6.1, r6.2)) (
 (ld P 36 r1.1 r5.2).bind fun r7 =>
 (EV P 11 #[r7.1] r7.2).bind fun r8 =>
 (vl r8.1 r8.2).bind fun r9 =>
 some (r9.1, r9.2)) := by kernel_rfl
theorem laws_toVer_fn (x0 : Value) (w : World) : fnC P (EV P) 6 #[x0] w =
 (bx P 28 x0 w).bind fun r1 =>
 (al P 36 r1.2).bind fun r2 =>
 (al P 36 r2.2).bind fun r3 =>
 (fa P 28 r1.1 0 r3.2).bind fun r4 =>
 (ld P 3 r4.1 r4.2).bind fun r5 =>
 (fa P 36 r3.1 0 r5.2).bind fun r6 =>
 (st P 3 r6.1 r5.1 r6.2).bind fun r7 =>
 (fa P 28 r1.1 1 r7.2).bind fun r8 =>
 (ld P 23 r8.1 r8.2).bind fun r9 =>
 (EV P 12 #[r9.1] r9.2).bind fun r10 =>
 (fa P 36 r3.1 1 r10.2).bind fun r11 =>
 (st P 31 r11.1 r10.1 r11.2).bind fun r12 =>
 (fa P 28 r1.1 2 r12.2).bind fun r13 =>
 (ld P 26 r13.1 r13.2).bind fun r14 =>
 (EV P 13 #[r14.1] r14.2).bind fun r15 =>
 (fa P 36 r3.1 2 r15.2).bind fun r16 =>
 (st P 34 r16.1 r15.1 r16.2).bind fun r17 =>
 (fa P 28 r1.1 3 r17.2).bind fun r18 =>
 (ld P 9 r18.1 r18.2).bind fun r19 =>
 (fa P 36 r3.1 3 r19.2).bind fun r20 =>
 (st P 9 r20.1 r19.1 r20.2).bind fun r21 =>
 (fa P 28 r1.1 4 r21.2).bind fun r22 =>
 (ld P 4 r22.1 r22.2).bind fun r23 =>
 (fa P 36 r3.1 4 r23.2).bind fun r24 =>
 (st P 4 r24.1 r23.1 r24.2).bind fun r25 =>
 (ld P 36 r3.1 r25.2).bind fun r26 =>
 (st P 36 r2.1 r26.1 r26.2).bind fun r27 =>
 ((ld P 36 r2.1 r27.2).bind fun r28 => ifP (r28.2 = r27.2) (some r28.1)).bind fun v29 =>
 some (v29, r27.2) := by kernel_rfl
theorem impl_VerPut_fn (x0 : Value) (w : World) : fnC P (EV P) 7 #[x0] w =
 (bx P 36 x0 w).bind fun r1 =>
 (vl (Go.Value.string { data := #[] }) r1.2).bind fun r2 =>
 (ld P 36 r1.1 r2.2).bind fun r3 =>
 (EV P 14 #[r3.1] r3.2).bind fun r4 =>
 (uo P .not r4.1 r4.2).bind fun r5 =>
 cnd r5.1 (
 (vl (Go.Value.string { data := #[] }) r5.2).bind fun r6 =>
 some (r6.1, r6.2)) (
 (fa P 36 r1.1 0 (dw r5.2)).bind fun r8 =>
 ifP (r8.2 = (dw r5.2)) <|
 (ld P 3 r8.1 (dw r5.2)).bind fun r9 =>
 ifP (r9.2 = (dw r5.2)) <|
 (fa P 36 r1.1 1 (dw r5.2)).bind fun r10 =>
 ifP (r10.2 = (dw r5.2)) <|
 (ld P 31 r10.1 (dw r5.2)).bind fun r11 =>
 ifP (r11.2 = (dw r5.2)) <|
 (fa P 36 r1.1 2 (dw r5.2)).bind fun r12 =>
 ifP (r12.2 = (dw r5.2)) <|
 (ld P 34 r12.1 (dw r5.2)).bind fun r13 =>
 ifP (r13.2 = (dw r5.2)) <|
 (ld P 36 r1.1 (dw r5.2)).bind fun r14 =>
 ifP (r14.2 = (dw r5.2)) <|
 (EV P 15 #[r9.1] (dw r5.2)).bind fun r15 =>
 ifP (ld P 36 r1.1 r15.2 = some (r14.1, r15.2) ∧ ld P 34 r12.1 r15.2 = some (r13.1, r15.2) ∧ fa P 36 r1.1 2 r15.2 = some (r12.1, r15.2) ∧ ld P 31 r10.1 r15.2 = some (r11.1, r15.2) ∧ fa P 36 r1.1 1 r15.2 = some (r10.1, r15.2) ∧ True ∧ True ∧ True) <|
 (bo P .add 9 (.tmp 8) (.const (Go.Value.string { data := #[32] })) r15.1 (Go.Value.string { data := #[32] }) r15.2).bind fun r16 =>
 ifP (r16.2 = r15.2) <|
 (EV P 16 #[r11.1] r15.2).bind fun r17 =>
 ifP (bo P .add 9 (.tmp 8) (.const (Go.Value.string { data := #[32] })) r15.1 (Go.Value.string { data := #[32] }) r17.2 = some (r16.1, r17.2) ∧ ld P 36 r1.1 r17.2 = some (r14.1, r17.2) ∧ ld P 34 r12.1 r17.2 = some (r13.1, r17.2) ∧ fa P 36 r1.1 2 r17.2 = some (r12.1, r17.2) ∧ True ∧ True ∧ True ∧ True ∧ True) <|
 (bo P .add 9 (.tmp 9) (.tmp 12) r16.1 r17.1 r17.2).bind fun r18 =>
 ifP (r18.2 = r17.2) <|
 (bo P .add 9 (.tmp 13) (.const (Go.Value.string { data := #[32] })) r18.1 (Go.Value.string { data := #[32] }) r17.2).bind fun r19 =>
 ifP (r19.2 = r17.2) <|
 (EV P 17 #[r13.1] r17.2).bind fun r20 =>
 ifP (bo P .add 9 (.tmp 13) (.const (Go.Value.string { data := #[32] })) r18.1 (Go.Value.string { data := #[32] }) r20.2 = some (r19.1, r20.2) ∧ bo P .add 9 (.tmp 9) (.tmp 12) r16.1 r17.1 r20.2 = some (r18.1, r20.2) ∧ bo P .add 9 (.tmp 8) (.const (Go.Value.string { data := #[32] })) r15.1 (Go.Value.string { data := #[32] }) r20.2 = some (r16.1, r20.2) ∧ ld P 36 r1.1 r20.2 = some (r14.1, r20.2) ∧ True ∧ True ∧ True ∧ True ∧ True ∧ True ∧ True) <|
 (bo P .add 9 (.tmp 14) (.tmp 17) r19.1 r20.1 r20.2).bind fun r21 =>
 ifP (r21.2 = r20.2) <|
 (bo P .add 9 (.tmp 18) (.const (Go.Value.string { data := #[32] })) r21.1 (Go.Value.string { data := #[32] }) r20.2).bind fun r22 =>
 ifP (r22.2 = r20.2) <|
 (EV P 18 #[r14.1] r20.2).bind fun r23 =>
 ifP (bo P .add 9 (.tmp 18) (.const (Go.Value.string { data := #[32] })) r21.1 (Go.Value.string { data := #[32] }) r23.2 = some (r22.1, r23.2) ∧ bo P .add 9 (.tmp 14) (.tmp 17) r19.1 r20.1 r23.2 = some (r21.1, r23.2) ∧ bo P .add 9 (.tmp 13) (.const (Go.Value.string { data := #[32] })) r18.1 (Go.Value.string { data := #[32] }) r23.2 = some (r19.1, r23.2) ∧ bo P .add 9 (.tmp 9) (.tmp 12) r16.1 r17.1 r23.2 = some (r18.1, r23.2) ∧ bo P .add 9 (.tmp 8) (.const (Go.Value.string { data := #[32] })) r15.1 (Go.Value.string { data := #[32] }) r23.2 = some (r16.1, r23.2) ∧ True ∧ True ∧ True ∧ True ∧ True ∧ True ∧ True ∧ True) <|
 (bo P .add 9 (.tmp 19) (.tmp 21) r22.1 r23.1 r23.2).bind fun r24 =>
 ifP (r24.2 = r23.2) <|
 (vl r24.1 r23.2).bind fun r25 =>
 ifP (r25.2 = r23.2) <|
 some (r25.1, r23.2)) := by kernel_rfl
theorem laws_eqVer_fn (x0 x1 : Value) (w : World) : fnC P (EV P) 8 #[x0, x1] w =
 (bx P 36 x0 w).bind fun r1 =>
 (bx P 36 x1 r1.2).bind fun r2 =>
 (vl (.bool false) r2.2).bind fun r3 =>
 (fa P 36 r1.1 0 r3.2).bind fun r4 =>
 (ld P 3 r4.1 r4.2).bind fun r5 =>
 (fa P 36 r2.1 0 r5.2).bind fun r6 =>
 (ld P 3 r6.1 r6.2).bind fun r7 =>
 (bo P .neq 3 (.tmp 6) (.tmp 8) r5.1 r7.1 r7.2).bind fun r8 =>
 cnd r8.1 (
 (vl (.bool false) r8.2).bind fun r9 =>
 some (r9.1, r9.2)) (
 (fa P 36 r1.1 1 r8.2).bind fun r10 =>
 (ld P 31 r10.1 r10.2).bind fun r11 =>
 (fa P 36 r2.1 1 r11.2).bind fun r12 =>
 (ld P 31 r12.1 r12.2).bind fun r13 =>
 (EV P 19 #[r11.1, r13.1] r13.2).bind fun r14 =>
 (uo P .not r14.1 r14.2).bind fun r15 =>
 cnd r15.1 (
 (vl (.bool false) r15.2).bind fun r16 =>
 some (r16.1, r16.2)) (
 (fa P 36 r1.1 2 r15.2).bind fun r17 =>
 (ld P 34 r17.1 r17.2).bind fun r18 =>
 (fa P 36 r2.1 2 r18.2).bind fun r19 =>
 (ld P 34 r19.1 r19.2).bind fun r20 =>
 (EV P 20 #[r18.1, r20.1] r20.2).bind fun r21 =>
 (uo P .not r21.1 r21.2).bind fun r22 =>
 cnd r22.1 (
 (vl (.bool false) r22.2).bind fun r23 =>
 some (r23.1, r23.2)) (
 (fa P 36 r1.1 3 r22.2).bind fun r24 =>
 (ld P 9 r24.1 r24.2).bind fun r25 =>
 (fa P 36 r2.1 3 r25.2).bind fun r26 =>
 (ld P 9 r26.1 r26.2).bind fun r27 =>
 (bo P .neq 9 (.tmp 23) (.tmp 25) r25.1 r27.1 r27.2).bind fun r28 =>
 cnd r28.1 (
 (vl (.bool false) r28.2).bind fun r29 =>
 some (r29.1, r29.2)) (
 (fa P 36 r1.1 4 r28.2).bind fun r30 =>
 (ld P 4 r30.1 r30.2).bind fun r31 =>
 (fa P 36 r2.1 4 r31.2).bind fun r32 =>
 (ld P 4 r32.1 r32.2).bind fun r33 =>
 (bo P .neq 4 (.tmp 28) (.tmp 30) r31.1 r33.1 r33.2).bind fun r34 =>
 cnd r34.1 (
 (vl (.bool false) r34.2).bind fun r35 =>
 some (r35.1, r35.2)) (
 (vl (.bool true) r34.2).bind fun r36 =>
 some (r36.1, r36.2)))))) := by kernel_rfl
theorem laws_szPast_fn (x0 x1 : Value) (w : World) : fnC P (EV P) 9 #[x0, x1] w =
 (bx P 26 x0 w).bind fun r1 =>
 (vl (.int .i64 0) r1.2).bind fun r2 =>
 (fa P 26 r1.1 0 r2.2).bind fun r3 =>
 (ld P 24 r3.1 r3.2).bind fun r4 =>
 (vl x1 r4.2).bind fun r5 =>
 (EV P 21 #[r4.1, r5.1] r5.2).bind fun r6 =>
 (vl r6.1 r6.2).bind fun r7 =>
 (vl r7.1 r7.2).bind fun r8 =>
 (bo P .lss 3 (.tmp 9) (.const (.int .i64 0)) r8.1 (.int .i64 0) r8.2).bind fun r9 =>
 cnd r9.1 (
 (vl (.int .i64 (-1)) r9.2).bind fun r10 =>
 some (r10.1, r10.2)) (
 (vl r7.1 r9.2).bind fun r11 =>
 (vl r11.1 r11.2).bind fun r12 =>
 some (r12.1, r12.2)) := by kernel_rfl
noncomputable def spec_l2Ok_l1 (e : Env) (w : World) : Option (Value × World) := exC P (EV P) 10 56 (.loop (cA (cA (cB (cA (cB (cB (bodyOf P 10)))))))) e w (kBlock 0 (kSeq P (EV P) 10 56 (cB (cB (cB (bodyOf P 10)))) (kFn P (fnOf P 10))))
theorem spec_l2Ok_l1_eq (e : Env) (w : World) : spec_l2Ok_l1 e w =
 (vl (e 3) w).bind fun r1 =>
 (bo P .lss 3 (.tmp 41) (.const (.int .i64 4)) r1.1 (.int .i64 4) r1.2).bind fun r2 =>
 cnd r2.1 (
 (fa P 36 (e 1) 2 (dw r2.2)).bind fun r4 =>
 ifP (r4.2 = (dw r2.2)) <|
 (fa P 34 r4.1 0 (dw r2.2)).bind fun r5 =>
 ifP (r5.2 = (dw r2.2)) <|
 (ld P 32 r5.1 (dw r2.2)).bind fun r6 =>
 ifP (r6.2 = (dw r2.2)) <|
 (vl (e 3) (dw r2.2)).bind fun r7 =>
 ifP (r7.2 = (dw r2.2)) <|
 (ia P 32 r6.1 r7.1 (dw r2.2)).bind fun r8 =>
 ifP (r8.2 = (dw r2.2)) <|
 (fa P 31 r8.1 0 (dw r2.2)).bind fun r9 =>
 ifP (r9.2 = (dw r2.2)) <|
 (ld P 3 r9.1 (dw r2.2)).bind fun r10 =>
 ifP (r10.2 = (dw r2.2)) <|
 (fa P 36 (e 1) 1 (dw r2.2)).bind fun r11 =>
 ifP (r11.2 = (dw r2.2)) <|
 (fa P 31 r11.1 0 (dw r2.2)).bind fun r12 =>
 ifP (r12.2 = (dw r2.2)) <|
 (ld P 3 r12.1 (dw r2.2)).bind fun r13 =>
 ifP (r13.2 = (dw r2.2)) <|
 (bo P .geq 3 (.tmp 51) (.tmp 54) r10.1 r13.1 (dw r2.2)).bind fun r14 =>
 ifP (r14.2 = (dw r2.2)) <|
 cnd r14.1 (
 (vl (.bool false) (dw r2.2)).bind fun r15 =>
 some (r15.1, r15.2)) (
 (vl (e 3) (dw r2.2)).bind fun r16 =>
 (bo P .add 3 (.tmp 43) (.const (.int .i64 1)) r16.1 (.int .i64 1) r16.2).bind fun r17 =>
 (vl r17.1 r17.2).bind fun r18 =>
 spec_l2Ok_l1 (ups e [(41, r1.1), (42, r2.1), (45, r4.1), (46, r5.1), (47, r6.1), (48, r7.1), (49, r8.1), (50, r9.1), (51, r10.1), (52, r11.1), (53, r12.1), (54, r13.1), (55, r14.1), (43, r16.1), (44, r17.1), (3, r18.1)]) r18.2)) (
 (vl (.bool true) r2.2).bind fun r19 =>
 some (r19.1, r19.2)) := (exC_loop P (EV P) 10 56 (cA (cA (cB (cA (cB (cB (bodyOf P 10))))))) e w (kBlock 0 (kSeq P (EV P) 10 56 (cB (cB (cB (bodyOf P 10)))) (kFn P (fnOf P 10))))).trans (by kernel_rfl)
theorem spec_l2Ok_fn (x0 : Value) (w : World) : fnC P (EV P) 10 #[x0] w =
 (bx P 36 x0 w).bind fun r1 =>
 (vl (.bool false) r1.2).bind fun r2 =>
 (fa P 36 r1.1 0 r2.2).bind fun r3 =>
 (ld P 3 r3.1 r3.2).bind fun r4 =>
 (EV P 22 #[r4.1, (.int .i64 0), (.int .i64 3)] r4.2).bind fun r5 =>
 (uo P .not r5.1 r5.2).bind fun r6 =>
 (vl r6.1 r6.2).bind fun r7 =>
 (gif r7.1 false (fa P 36 r1.1 3 r7.2) r7.2).bind fun r8 =>
 (gif r7.1 false (ld P 9 r8.1 r8.2) r8.2).bind fun r9 =>
 (gif r7.1 false (EV P 23 #[r9.1] r9.2) r9.2).bind fun r10 =>
 (gif r7.1 false (uo P .not r10.1 r10.2) r10.2).bind fun r11 =>
 (pickV r7.1 (.bool true) r11.1 r11.2).bind fun r12 =>
 (vl r12.1 r12.2).bind fun r13 =>
 (gif r13.1 false (fa P 36 r1.1 1 r13.2) r13.2).bind fun r14 =>
 (gif r13.1 false (ld P 31 r14.1 r14.2) r14.2).bind fun r15 =>
 (gif r13.1 false (EV P 24 #[r15.1] r15.2) r15.2).bind fun r16 =>
 (gif r13.1 false (uo P .not r16.1 r16.2) r16.2).bind fun r17 =>
 (pickV r13.1 (.bool true) r17.1 r17.2).bind fun r18 =>
 (vl r18.1 r18.2).bind fun r19 =>
 (gif r19.1 false (fa P 36 r1.1 1 r19.2) r19.2).bind fun r20 =>
 (gif r19.1 false (fa P 31 r20.1 0 r20.2) r20.2).bind fun r21 =>
 (gif r19.1 false (ld P 3 r21.1 r21.2) r21.2).bind fun r22 =>
 (gif r19.1 false (bo P .eql 3 (.tmp 23) (.const (.int .i64 0)) r22.1 (.int .i64 0) r22.2) r22.2).bind fun r23 =>
 (pickV r19.1 (.bool true) r23.1 r23.2).bind fun r24 =>
 (vl r24.1 r24.2).bind fun r25 =>
 (gif r25.1 false (fa P 36 r1.1 4 r25.2) r25.2).bind fun r26 =>
 (gif r25.1 false (ld P 4 r26.1 r26.2) r26.2).bind fun r27 =>
 (gif r25.1 false (vl r27.1 r27.2) r27.2).bind fun r28 =>
 (gif r28.1 true (fa P 36 r1.1 3 r28.2) r28.2).bind fun r29 =>
 (gif r28.1 true (ld P 9 r29.1 r29.2) r29.2).bind fun r30 =>
 (gif r28.1 true (bo P .neq 9 (.tmp 31) (.const (Go.Value.string { data := #[] })) r30.1 (Go.Value.string { data := #[] }) r30.2) r30.2).bind fun r31 =>
 (gif r25.1 false (pickV r28.1 r31.1 (.bool false) r31.2) r31.2).bind fun r32 =>
 (pickV r25.1 (.bool true) r32.1 r32.2).bind fun r33 =>
 (vl r33.1 r33.2).bind fun r34 =>
 (gif r34.1 false (fa P 36 r1.1 2 r34.2) r34.2).bind fun r35 =>
 (gif r34.1 false (ld P 34 r35.1 r35.2) r35.2).bind fun r36 =>
 (gif r34.1 false (EV P 25 #[r36.1] r36.2) r36.2).bind fun r37 =>
 (gif r34.1 false (uo P .not r37.1 r37.2) r37.2).bind fun r38 =>
 (pickV r34.1 (.bool true) r38.1 r38.2).bind fun r39 =>
 cnd r39.1 (
 (vl (.bool false) r39.2).bind fun r40 =>
 some (r40.1, r40.2)) (
 (vl (.int .i64 0) r39.2).bind fun r41 =>
 spec_l2Ok_l1 (ups (env0 #[x0]) [(1, r1.1), (2, r2.1), (4, r3.1), (5, r4.1), (6, r5.1), (7, r6.1), (8, r7.1), (9, r8.1), (10, r9.1), (11, r10.1), (12, r11.1), (13, r12.1), (14, r13.1), (15, r14.1), (16, r15.1), (17, r16.1), (18, r17.1), (19, r18.1), (20, r19.1), (21, r20.1), (22, r21.1), (23, r22.1), (24, r23.1), (25, r24.1), (26, r25.1), (27, r26.1), (28, r27.1), (29, r28.1), (30, r29.1), (31, r30.1), (32, r31.1), (33, r32.1), (34, r33.1), (35, r34.1), (36, r35.1), (37, r36.1), (38, r37.1), (39, r38.1), (40, r39.1), (3, r41.1)]) r41.2) := by kernel_rfl
noncomputable def spec_l2Put_j1 (e : Env) (w : World) : Option (Value × World) := exC P (EV P) 11 24 (cB (cB (cB (bodyOf P 11)))) e w (kFn P (fnOf P 11))
theorem spec_l2Put_j1_eq (e : Env) (w : World) : spec_l2Put_j1 e w =
 (fa P 36 (e 1) 0 (dw w)).bind fun r2 =>
 ifP (r2.2 = (dw w)) <|
 (ld P 3 r2.1 (dw w)).bind fun r3 =>
 ifP (r3.2 = (dw w)) <|
 (fa P 36 (e 1) 1 (dw w)).bind fun r4 =>
 ifP (r4.2 = (dw w)) <|
 (ld P 31 r4.1 (dw w)).bind fun r5 =>
 ifP (r5.2 = (dw w)) <|
 (fa P 36 (e 1) 2 (dw w)).bind fun r6 =>
 ifP (r6.2 = (dw w)) <|
 (ld P 34 r6.1 (dw w)).bind fun r7 =>
 ifP (r7.2 = (dw w)) <|
 (vl (e 3) (dw w)).bind fun r8 =>
 ifP (r8.2 = (dw w)) <|
 (EV P 26 #[r3.1] (dw w)).bind fun r9 =>
 ifP (ld P 34 r6.1 r9.2 = some (r7.1, r9.2) ∧ fa P 36 (e 1) 2 r9.2 = some (r6.1, r9.2) ∧ ld P 31 r4.1 r9.2 = some (r5.1, r9.2) ∧ fa P 36 (e 1) 1 r9.2 = some (r4.1, r9.2) ∧ True ∧ True ∧ True) <|
 (bo P .add 9 (.tmp 11) (.const (Go.Value.string { data := #[32] })) r9.1 (Go.Value.string { data := #[32] }) r9.2).bind fun r10 =>
 ifP (r10.2 = r9.2) <|
 (EV P 27 #[r5.1] r9.2).bind fun r11 =>
 ifP (bo P .add 9 (.tmp 11) (.const (Go.Value.string { data := #[32] })) r9.1 (Go.Value.string { data := #[32] }) r11.2 = some (r10.1, r11.2) ∧ ld P 34 r6.1 r11.2 = some (r7.1, r11.2) ∧ fa P 36 (e 1) 2 r11.2 = some (r6.1, r11.2) ∧ True ∧ True ∧ True ∧ True ∧ True) <|
 (bo P .add 9 (.tmp 12) (.tmp 15) r10.1 r11.1 r11.2).bind fun r12 =>
 ifP (r12.2 = r11.2) <|
 (EV P 28 #[r7.1] r11.2).bind fun r13 =>
 ifP (bo P .add 9 (.tmp 12) (.tmp 15) r10.1 r11.1 r13.2 = some (r12.1, r13.2) ∧ bo P .add 9 (.tmp 11) (.const (Go.Value.string { data := #[32] })) r9.1 (Go.Value.string { data := #[32] }) r13.2 = some (r10.1, r13.2) ∧ True ∧ True ∧ True ∧ True ∧ True ∧ True ∧ True) <|
 (bo P .add 9 (.tmp 16) (.tmp 19) r12.1 r13.1 r13.2).bind fun r14 =>
 ifP (r14.2 = r13.2) <|
 (bo P .add 9 (.tmp 20) (.const (Go.Value.string { data := #[32] })) r14.1 (Go.Value.string { data := #[32] }) r13.2).bind fun r15 =>
 ifP (r15.2 = r13.2) <|
 (bo P .add 9 (.tmp 21) (.tmp 22) r15.1 r8.1 r13.2).bind fun r16 =>
 ifP (r16.2 = r13.2) <|
 (vl r16.1 r13.2).bind fun r17 =>
 ifP (r17.2 = r13.2) <|
 some (r17.1, r13.2) := by kernel_rfl
theorem spec_l2Put_fn (x0 : Value) (w : World) : fnC P (EV P) 11 #[x0] w =
 (bx P 36 x0 w).bind fun r1 =>
 (vl (Go.Value.string { data := #[] }) r1.2).bind fun r2 =>
 (fa P 36 r1.1 3 r2.2).bind fun r3 =>
 (ld P 9 r3.1 r3.2).bind fun r4 =>
 (bo P .add 9 (.const (Go.Value.string { data := #[61] })) (.tmp 5) (Go.Value.string { data := #[61] }) r4.1 r4.2).bind fun r5 =>
 (vl r5.1 r5.2).bind fun r6 =>
 (fa P 36 r1.1 4 r6.2).bind fun r7 =>
 (ld P 4 r7.1 r7.2).bind fun r8 =>
 cnd r8.1 (
 (vl (Go.Value.string { data := #[45] }) r8.2).bind fun r9 =>
 spec_l2Put_j1 (ups (env0 #[x0]) [(1, r1.1), (2, r2.1), (4, r3.1), (5, r4.1), (6, r5.1), (3, r6.1), (7, r7.1), (8, r8.1), (3, r9.1)]) r9.2) (
 spec_l2Put_j1 (ups (env0 #[x0]) [(1, r1.1), (2, r2.1), (4, r3.1), (5, r4.1), (6, r5.1), (3, r6.1), (7, r7.1), (8, r8.1)]) r8.2) := by kernel_rfl
theorem laws_toTag_fn (x0 : Value) (w : World) : fnC P (EV P) 12 #[x0] w =
 (bx P 23 x0 w).bind fun r1 =>
 (al P 31 r1.2).bind fun r2 =>
 (al P 31 r2.2).bind fun r3 =>
 (fa P 23 r1.1 0 r3.2).bind fun r4 =>
 (ld P 3 r4.1 r4.2).bind fun r5 =>
 (fa P 31 r3.1 0 r5.2).bind fun r6 =>
 (st P 3 r6.1 r5.1 r6.2).bind fun r7 =>
 (fa P 23 r1.1 1 r7.2).bind fun r8 =>
 (ld P 3 r8.1 r8.2).bind fun r9 =>
 (fa P 31 r3.1 1 r9.2).bind fun r10 =>
 (st P 3 r10.1 r9.1 r10.2).bind fun r11 =>
 (ld P 31 r3.1 r11.2).bind fun r12 =>
 (st P 31 r2.1 r12.1 r12.2).bind fun r13 =>
 ((ld P 31 r2.1 r13.2).bind fun r14 => ifP (r14.2 = r13.2) (some r14.1)).bind fun v15 =>
 some (v15, r13.2) := by kernel_rfl
theorem laws_toPast_fn (x0 : Value) (w : World) : fnC P (EV P) 13 #[x0] w =
 (bx P 26 x0 w).bind fun r1 =>
 (al P 34 r1.2).bind fun r2 =>
 (al P 34 r2.2).bind fun r3 =>
 (fa P 26 r1.1 0 r3.2).bind fun r4 =>
 (ld P 24 r4.1 r4.2).bind fun r5 =>
 (EV P 29 #[r5.1] r5.2).bind fun r6 =>
 (fa P 34 r3.1 0 r6.2).bind fun r7 =>
 (st P 32 r7.1 r6.1 r7.2).bind fun r8 =>
 (ld P 34 r3.1 r8.2).bind fun r9 =>
 (st P 34 r2.1 r9.1 r9.2).bind fun r10 =>
 ((ld P 34 r2.1 r10.2).bind fun r11 => ifP (r11.2 = r10.2) (some r11.1)).bind fun v12 =>
 some (v12, r10.2) := by kernel_rfl
theorem impl_VerOk_fn (x0 : Value) (w : World) : fnC P (EV P) 14 #[x0] w =
 (bx P 36 x0 w).bind fun r1 =>
 (vl (.bool false) r1.2).bind fun r2 =>
 (ld P 36 r1.1 (dw r2.2)).bind fun r4 =>
 ifP (r4.2 = (dw r2.2)) <|
 (EV P 30 #[r4.1] (dw r2.2)).bind fun r5 =>
 ifP (True ∧ True) <|
 (vl r5.1 r5.2).bind fun r6 =>
 ifP (r6.2 = r5.2) <|
 (gif r6.1 true (fa P 36 r1.1 1 r5.2) r5.2).bind fun r7 =>
 ifP (r7.2 = r5.2) <|
 (gif r6.1 true (ld P 31 r7.1 r5.2) r5.2).bind fun r8 =>
 ifP (r8.2 = r5.2) <|
 (gif r6.1 true (EV P 31 #[r8.1] r5.2) r5.2).bind fun r9 =>
 ifP (True ∧ True ∧ True ∧ True) <|
 (pickV r6.1 r9.1 (.bool false) r9.2).bind fun r10 =>
 ifP (r10.2 = r9.2) <|
 (vl r10.1 r9.2).bind fun r11 =>
 ifP (r11.2 = r9.2) <|
 (gif r11.1 true (fa P 36 r1.1 1 r9.2) r9.2).bind fun r12 =>
 ifP (r12.2 = r9.2) <|
 (gif r11.1 true (fa P 31 r12.1 0 r9.2) r9.2).bind fun r13 =>
 ifP (r13.2 = r9.2) <|
 (gif r11.1 true (ld P 3 r13.1 r9.2) r9.2).bind fun r14 =>
 ifP (r14.2 = r9.2) <|
 (gif r11.1 true (fa P 36 r1.1 2 r9.2) r9.2).bind fun r15 =>
 ifP (r15.2 = r9.2) <|
 (gif r11.1 true (ld P 34 r15.1 r9.2) r9.2).bind fun r16 =>
 ifP (r16.2 = r9.2) <|
 (gif r11.1 true (EV P 32 #[r16.1] r9.2) r9.2).bind fun r17 =>
 ifP (True ∧ True ∧ gif r11.1 true (ld P 3 r13.1 r17.2) r17.2 = some (r14.1, r17.2) ∧ gif r11.1 true (fa P 31 r12.1 0 r17.2) r17.2 = some (r13.1, r17.2) ∧ gif r11.1 true (fa P 36 r1.1 1 r17.2) r17.2 = some (r12.1, r17.2) ∧ True ∧ True ∧ True ∧ True) <|
 (gif r11.1 true (bo P .gtr 3 (.tmp 13) (.tmp 16) r14.1 r17.1 r17.2) r17.2).bind fun r18 =>
 ifP (r18.2 = r17.2) <|
 (pickV r11.1 r18.1 (.bool false) r17.2).bind fun r19 =>
 ifP (r19.2 = r17.2) <|
 (vl r19.1 r17.2).bind fun r20 =>
 ifP (r20.2 = r17.2) <|
 some (r20.1, r17.2) := by kernel_rfl
theorem strconv_Itoa_fn (x0 : Value) (w : World) : fnC P (EV P) 15 #[x0] w =
 (vl (Go.Value.string { data := #[] }) w).bind fun r1 =>
 (vl x0 r1.2).bind fun r2 =>
 (EV P 33 #[r2.1] r2.2).bind fun r3 =>
 (vl r3.1 r3.2).bind fun r4 =>
 some (r4.1, r4.2) := by kernel_rfl
theorem impl_Tag_text_fn (x0 : Value) (w : World) : fnC P (EV P) 16 #[x0] w =
 (bx P 31 x0 w).bind fun r1 =>
 (vl (Go.Value.string { data := #[] }) r1.2).bind fun r2 =>
 (fa P 31 r1.1 0 (dw r2.2)).bind fun r4 =>
 ifP (r4.2 = (dw r2.2)) <|
 (ld P 3 r4.1 (dw r2.2)).bind fun r5 =>
 ifP (r5.2 = (dw r2.2)) <|
 (fa P 31 r1.1 1 (dw r2.2)).bind fun r6 =>
 ifP (r6.2 = (dw r2.2)) <|
 (ld P 3 r6.1 (dw r2.2)).bind fun r7 =>
 ifP (r7.2 = (dw r2.2)) <|
 (EV P 15 #[r5.1] (dw r2.2)).bind fun r8 =>
 ifP (ld P 3 r6.1 r8.2 = some (r7.1, r8.2) ∧ fa P 31 r1.1 1 r8.2 = some (r6.1, r8.2) ∧ True ∧ True ∧ True) <|
 (bo P .add 9 (.tmp 5) (.const (Go.Value.string { data := #[46] })) r8.1 (Go.Value.string { data := #[46] }) r8.2).bind fun r9 =>
 ifP (r9.2 = r8.2) <|
 (EV P 15 #[r7.1] r8.2).bind fun r10 =>
 ifP (bo P .add 9 (.tmp 5) (.const (Go.Value.string { data := #[46] })) r8.1 (Go.Value.string { data := #[46] }) r10.2 = some (r9.1, r10.2) ∧ True ∧ True ∧ True ∧ True ∧ True) <|
 (bo P .add 9 (.tmp 6) (.tmp 9) r9.1 r10.1 r10.2).bind fun r11 =>
 ifP (r11.2 = r10.2) <|
 (vl r11.1 r10.2).bind fun r12 =>
 ifP (r12.2 = r10.2) <|
 some (r12.1, r10.2) := by kernel_rfl
noncomputable def impl_Past_text_l1 (e : Env) (w : World) : Option (Value × World) := exC P (EV P) 17 25 (.loop (cA (cA (cB (cA (cB (cB (bodyOf P 17)))))))) e w (kBlock 0 (kSeq P (EV P) 17 25 (cB (cB (cB (bodyOf P 17)))) (kFn P (fnOf P 17))))
theorem impl_Past_text_l1_eq (e : Env) (w : World) : impl_Past_text_l1 e w =
 (bo P .lss 3 (.tmp 13) (.tmp 12) (e 13) (e 12) w).bind fun r1 =>
 cnd r1.1 (
 (ia P 32 (e 11) (e 13) r1.2).bind fun r2 =>
 (ld P 31 r2.1 r2.2).bind fun r3 =>
 (al P 31 r3.2).bind fun r4 =>
 (st P 31 r4.1 r3.1 r4.2).bind fun r5 =>
 (vl (e 3) r5.2).bind fun r6 =>
 (ld P 31 r4.1 r6.2).bind fun r7 =>
 (EV P 16 #[r7.1] r7.2).bind fun r8 =>
 (bs P 58 1 #[(0, r8.1)] r8.2).bind fun r9 =>
 (b_append P #[58, 58] 58 #[r6.1, r9.1] r9.2).bind fun r10 =>
 (vl r10.1 r10.2).bind fun r11 =>
 (bo P .add 3 (.tmp 13) (.const (.int .i64 1)) (e 13) (.int .i64 1) r11.2).bind fun r12 =>
 (vl r12.1 r12.2).bind fun r13 =>
 impl_Past_text_l1 (ups e [(14, r1.1), (15, r2.1), (16, r3.1), (5, r4.1), (17, r6.1), (18, r7.1), (19, r8.1), (20, r9.1), (21, r10.1), (3, r11.1), (22, r12.1), (13, r13.1)]) r13.2) (
 (vl (e 3) r1.2).bind fun r14 =>
 (EV P 34 #[r14.1, (Go.Value.string { data := #[32] })] r14.2).bind fun r15 =>
 (vl r15.1 r15.2).bind fun r16 =>
 some (r16.1, r16.2)) := (exC_loop P (EV P) 17 25 (cA (cA (cB (cA (cB (cB (bodyOf P 17))))))) e w (kBlock 0 (kSeq P (EV P) 17 25 (cB (cB (cB (bodyOf P 17)))) (kFn P (fnOf P 17))))).trans (by kernel_rfl)
theorem impl_Past_text_fn (x0 : Value) (w : World) : fnC P (EV P) 17 #[x0] w =
 (bx P 34 x0 w).bind fun r1 =>
 (vl (Go.Value.string { data := #[] }) r1.2).bind fun r2 =>
 (fa P 34 r1.1 0 r2.2).bind fun r3 =>
 (ld P 32 r3.1 r3.2).bind fun r4 =>
 (b_len P #[32] 3 #[r4.1] r4.2).bind fun r5 =>
 (ms P 58 (.int .i64 0) r5.1 r5.2).bind fun r6 =>
 (vl r6.1 r6.2).bind fun r7 =>
 (fa P 34 r1.1 0 r7.2).bind fun r8 =>
 (ld P 32 r8.1 r8.2).bind fun r9 =>
 (b_len P #[32] 3 #[r9.1] r9.2).bind fun r10 =>
 (vl (.int .i64 0) r10.2).bind fun r11 =>
 impl_Past_text_l1 (ups (env0 #[x0]) [(1, r1.1), (2, r2.1), (6, r3.1), (7, r4.1), (8, r5.1), (9, r6.1), (3, r7.1), (10, r8.1), (11, r9.1), (12, r10.1), (13, r11.1)]) r11.2 := by kernel_rfl
theorem impl_Ver_rest_fn (x0 : Value) (w : World) : fnC P (EV P) 18 #[x0] w =
 (bx P 36 x0 w).bind fun r1 =>
 (vl (Go.Value.string { data := #[] }) r1.2).bind fun r2 =>
 (fa P 36 r1.1 4 r2.2).bind fun r3 =>
 (ld P 4 r3.1 r3.2).bind fun r4 =>
 cnd r4.1 (
 (vl (Go.Value.string { data := #[45] }) r4.2).bind fun r5 =>
 some (r5.1, r5.2)) (
 (fa P 36 r1.1 3 r4.2).bind fun r6 =>
 (ld P 9 r6.1 r6.2).bind fun r7 =>
 (bo P .add 9 (.const (Go.Value.string { data := #[61] })) (.tmp 6) (Go.Value.string { data := #[61] }) r7.1 r7.2).bind fun r8 =>
 (vl r8.1 r8.2).bind fun r9 =>
 some (r9.1, r9.2)) := by kernel_rfl
theorem laws_eqTag_fn (x0 x1 : Value) (w : World) : fnC P (EV P) 19 #[x0, x1] w =
 (bx P 31 x0 w).bind fun r1 =>
 (bx P 31 x1 r1.2).bind fun r2 =>
 (vl (.bool false) r2.2).bind fun r3 =>
 (fa P 31 r1.1 0 r3.2).bind fun r4 =>
 (ld P 3 r4.1 r4.2).bind fun r5 =>
 (fa P 31 r2.1 0 r5.2).bind fun r6 =>
 (ld P 3 r6.1 r6.2).bind fun r7 =>
 (bo P .neq 3 (.tmp 6) (.tmp 8) r5.1 r7.1 r7.2).bind fun r8 =>
 cnd r8.1 (
 (vl (.bool false) r8.2).bind fun r9 =>
 some (r9.1, r9.2)) (
 (fa P 31 r1.1 1 r8.2).bind fun r10 =>
 (ld P 3 r10.1 r10.2).bind fun r11 =>
 (fa P 31 r2.1 1 r11.2).bind fun r12 =>
 (ld P 3 r12.1 r12.2).bind fun r13 =>
 (bo P .neq 3 (.tmp 11) (.tmp 13) r11.1 r13.1 r13.2).bind fun r14 =>
 cnd r14.1 (
 (vl (.bool false) r14.2).bind fun r15 =>
 some (r15.1, r15.2)) (
 (vl (.bool true) r14.2).bind fun r16 =>
 some (r16.1, r16.2))) := by kernel_rfl
theorem laws_eqPast_fn (x0 x1 : Value) (w : World) : fnC P (EV P) 20 #[x0, x1] w =
 (bx P 34 x0 w).bind fun r1 =>
 (bx P 34 x1 r1.2).bind fun r2 =>
 (vl (.bool false) r2.2).bind fun r3 =>
 (fa P 34 r1.1 0 r3.2).bind fun r4 =>
 (ld P 32 r4.1 r4.2).bind fun r5 =>
 (fa P 34 r2.1 0 r5.2).bind fun r6 =>
 (ld P 32 r6.1 r6.2).bind fun r7 =>
 (EV P 35 #[r5.1, r7.1] r7.2).bind fun r8 =>
 (uo P .not r8.1 r8.2).bind fun r9 =>
 cnd r9.1 (
 (vl (.bool false) r9.2).bind fun r10 =>
 some (r10.1, r10.2)) (
 (vl (.bool true) r9.2).bind fun r11 =>
 some (r11.1, r11.2)) := by kernel_rfl
theorem laws_szTagS_fn (x0 x1 : Value) (w : World) : fnC P (EV P) 21 #[x0, x1] w =
 (vl (.int .i64 0) w).bind fun r1 =>
 (vl x1 r1.2).bind fun r2 =>
 (vl x0 r2.2).bind fun r3 =>
 (b_len P #[24] 3 #[r3.1] r3.2).bind fun r4 =>
 (bo P .sub 3 (.tmp 5) (.tmp 7) r2.1 r4.1 r4.2).bind fun r5 =>
 (vl r5.1 r5.2).bind fun r6 =>
 (vl r6.1 r6.2).bind fun r7 =>
 (bo P .lss 3 (.tmp 9) (.const (.int .i64 0)) r7.1 (.int .i64 0) r7.2).bind fun r8 =>
 cnd r8.1 (
 (vl (.int .i64 (-1)) r8.2).bind fun r9 =>
 some (r9.1, r9.2)) (
 (vl r6.1 r8.2).bind fun r10 =>
 (vl r10.1 r10.2).bind fun r11 =>
 some (r11.1, r11.2)) := by kernel_rfl
theorem spec_l1In_fn (x0 x1 x2 : Value) (w : World) : fnC P (EV P) 22 #[x0, x1, x2] w =
 (vl (.bool false) w).bind fun r1 =>
 (vl x0 r1.2).bind fun r2 =>
 (vl x1 r2.2).bind fun r3 =>
 (bo P .geq 3 (.tmp 7) (.tmp 8) r2.1 r3.1 r3.2).bind fun r4 =>
 (vl r4.1 r4.2).bind fun r5 =>
 (gif r5.1 true (vl x0 r5.2) r5.2).bind fun r6 =>
 (gif r5.1 true (vl x2 r6.2) r6.2).bind fun r7 =>
 (gif r5.1 true (bo P .leq 3 (.tmp 11) (.tmp 12) r6.1 r7.1 r7.2) r7.2).bind fun r8 =>
 (pickV r5.1 r8.1 (.bool false) r8.2).bind fun r9 =>
 (vl r9.1 r9.2).bind fun r10 =>
 some (r10.1, r10.2) := by kernel_rfl
noncomputable def spec_l2TextOk_l1 (e : Env) (w : World) : Option (Value × World) := exC P (EV P) 23 23 (.loop (cA (cA (cB (cA (cB (bodyOf P 23))))))) e w (kBlock 0 (kSeq P (EV P) 23 23 (cB (cB (bodyOf P 23))) (kFn P (fnOf P 23))))
theorem spec_l2TextOk_l1_eq (e : Env) (w : World) : spec_l2TextOk_l1 e w =
 (vl (e 3) w).bind fun r1 =>
 (vl (e 0) r1.2).bind fun r2 =>
 (b_len P #[9] 3 #[r2.1] r2.2).bind fun r3 =>
 (bo P .lss 3 (.tmp 4) (.tmp 6) r1.1 r3.1 r3.2).bind fun r4 =>
 cnd r4.1 (
 (vl (e 0) r4.2).bind fun r5 =>
 (vl (e 3) r5.2).bind fun r6 =>
 (ix P 9 r5.1 r6.1 r6.2).bind fun r7 =>
 (bo P .lss 5 (.tmp 12) (.const (.int .u8 33)) r7.1 (.int .u8 33) r7.2).bind fun r8 =>
 (vl r8.1 r8.2).bind fun r9 =>
 (gif r9.1 false (vl (e 0) r9.2) r9.2).bind fun r10 =>
 (gif r9.1 false (vl (e 3) r10.2) r10.2).bind fun r11 =>
 (gif r9.1 false (ix P 9 r10.1 r11.1 r11.2) r11.2).bind fun r12 =>
 (gif r9.1 false (bo P .gtr 5 (.tmp 17) (.const (.int .u8 126)) r12.1 (.int .u8 126) r12.2) r12.2).bind fun r13 =>
 (pickV r9.1 (.bool true) r13.1 r13.2).bind fun r14 =>
 cnd r14.1 (
 (vl (.bool false) r14.2).bind fun r15 =>
 some (r15.1, r15.2)) (
 (vl (e 3) r14.2).bind fun r16 =>
 (bo P .add 3 (.tmp 8) (.const (.int .i64 1)) r16.1 (.int .i64 1) r16.2).bind fun r17 =>
 (vl r17.1 r17.2).bind fun r18 =>
 spec_l2TextOk_l1 (ups e [(4, r1.1), (5, r2.1), (6, r3.1), (7, r4.1), (10, r5.1), (11, r6.1), (12, r7.1), (13, r8.1), (14, r9.1), (15, r10.1), (16, r11.1), (17, r12.1), (18, r13.1), (19, r14.1), (8, r16.1), (9, r17.1), (3, r18.1)]) r18.2)) (
 (vl (e 0) r4.2).bind fun r19 =>
 (b_len P #[9] 3 #[r19.1] r19.2).bind fun r20 =>
 (bo P .leq 3 (.tmp 21) (.const (.int .i64 8)) r20.1 (.int .i64 8) r20.2).bind fun r21 =>
 (vl r21.1 r21.2).bind fun r22 =>
 some (r22.1, r22.2)) := (exC_loop P (EV P) 23 23 (cA (cA (cB (cA (cB (bodyOf P 23)))))) e w (kBlock 0 (kSeq P (EV P) 23 23 (cB (cB (bodyOf P 23))) (kFn P (fnOf P 23))))).trans (by kernel_rfl)
theorem spec_l2TextOk_fn (x0 : Value) (w : World) : fnC P (EV P) 23 #[x0] w =
 (vl (.bool false) w).bind fun r1 =>
 (vl (.int .i64 0) r1.2).bind fun r2 =>
 spec_l2TextOk_l1 (ups (env0 #[x0]) [(2, r1.1), (3, r2.1)]) r2.2 := by kernel_rfl
theorem spec_l1TagOk_fn (x0 : Value) (w : World) : fnC P (EV P) 24 #[x0] w =
 (bx P 31 x0 w).bind fun r1 =>
 (vl (.bool false) r1.2).bind fun r2 =>
 (ld P 31 r1.1 r2.2).bind fun r3 =>
 (bd P 31 #[] r3.2).bind fun r4 =>
 (bo P .eql 31 (.tmp 3) (.tmp 4) r3.1 r4.1 r4.2).bind fun r5 =>
 (vl r5.1 r5.2).bind fun r6 =>
 (gif r6.1 false (fa P 31 r1.1 0 r6.2) r6.2).bind fun r7 =>
 (gif r6.1 false (ld P 3 r7.1 r7.2) r7.2).bind fun r8 =>
 (gif r6.1 false (EV P 22 #[r8.1, (.int .i64 1), (.int .i64 999)] r8.2) r8.2).bind fun r9 =>
 (gif r6.1 false (vl r9.1 r9.2) r9.2).bind fun r10 =>
 (gif r10.1 true (fa P 31 r1.1 1 r10.2) r10.2).bind fun r11 =>
 (gif r10.1 true (ld P 3 r11.1 r11.2) r11.2).bind fun r12 =>
 (gif r10.1 true (EV P 22 #[r12.1, (.int .i64 0), (.int .i64 2)] r12.2) r12.2).bind fun r13 =>
 (gif r6.1 false (pickV r10.1 r13.1 (.bool false) r13.2) r13.2).bind fun r14 =>
 (pickV r6.1 (.bool true) r14.1 r14.2).bind fun r15 =>
 (vl r15.1 r15.2).bind fun r16 =>
 some (r16.1, r16.2) := by kernel_rfl
noncomputable def spec_l1PastOk_l1 (e : Env) (w : World) : Option (Value × World) := exC P (EV P) 25 22 (.loop (cA (cA (cB (cA (cB (bodyOf P 25))))))) e w (kBlock 0 (kSeq P (EV P) 25 22 (cB (cB (bodyOf P 25))) (kFn P (fnOf P 25))))
theorem spec_l1PastOk_l1_eq (e : Env) (w : World) : spec_l1PastOk_l1 e w =
 (vl (e 3) w).bind fun r1 =>
 (fa P 34 (e 1) 0 r1.2).bind fun r2 =>
 (ld P 32 r2.1 r2.2).bind fun r3 =>
 (b_len P #[32] 3 #[r3.1] r3.2).bind fun r4 =>
 (bo P .lss 3 (.tmp 4) (.tmp 7) r1.1 r4.1 r4.2).bind fun r5 =>
 cnd r5.1 (
 (fa P 34 (e 1) 0 r5.2).bind fun r6 =>
 (ld P 32 r6.1 r6.2).bind fun r7 =>
 (vl (e 3) r7.2).bind fun r8 =>
 (ia P 32 r7.1 r8.1 r8.2).bind fun r9 =>
 (ld P 31 r9.1 r9.2).bind fun r10 =>
 (EV P 24 #[r10.1] r10.2).bind fun r11 =>
 (uo P .not r11.1 r11.2).bind fun r12 =>
 cnd r12.1 (
 (vl (.bool false) r12.2).bind fun r13 =>
 some (r13.1, r13.2)) (
 (vl (e 3) r12.2).bind fun r14 =>
 (bo P .add 3 (.tmp 9) (.const (.int .i64 1)) r14.1 (.int .i64 1) r14.2).bind fun r15 =>
 (vl r15.1 r15.2).bind fun r16 =>
 spec_l1PastOk_l1 (ups e [(4, r1.1), (5, r2.1), (6, r3.1), (7, r4.1), (8, r5.1), (11, r6.1), (12, r7.1), (13, r8.1), (14, r9.1), (15, r10.1), (16, r11.1), (17, r12.1), (9, r14.1), (10, r15.1), (3, r16.1)]) r16.2)) (
 (fa P 34 (e 1) 0 r5.2).bind fun r17 =>
 (ld P 32 r17.1 r17.2).bind fun r18 =>
 (b_len P #[32] 3 #[r18.1] r18.2).bind fun r19 =>
 (bo P .eql 3 (.tmp 20) (.const (.int .i64 4)) r19.1 (.int .i64 4) r19.2).bind fun r20 =>
 (vl r20.1 r20.2).bind fun r21 =>
 some (r21.1, r21.2)) := (exC_loop P (EV P) 25 22 (cA (cA (cB (cA (cB (bodyOf P 25)))))) e w (kBlock 0 (kSeq P (EV P) 25 22 (cB (cB (bodyOf P 25))) (kFn P (fnOf P 25))))).trans (by kernel_rfl)
theorem spec_l1PastOk_fn (x0 : Value) (w : World) : fnC P (EV P) 25 #[x0] w =
 (bx P 34 x0 w).bind fun r1 =>
 (vl (.bool false) r1.2).bind fun r2 =>
 (vl (.int .i64 0) r2.2).bind fun r3 =>
 spec_l1PastOk_l1 (ups (env0 #[x0]) [(1, r1.1), (2, r2.1), (3, r3.1)]) r3.2 := by kernel_rfl
noncomputable def spec_l1Dec_a1 (e : Env) (w : World) : Option (Value × World) := exC P (EV P) 26 28 (cA (cB (cB (cB (cB (bodyOf P 26)))))) e w (kSeq P (EV P) 26 28 (cB (cB (cB (cB (cB (bodyOf P 26)))))) (kFn P (fnOf P 26)))
noncomputable def spec_l1Dec_j1 (e : Env) (w : World) : Option (Value × World) := exC P (EV P) 26 28 (cB (cB (cB (cB (cB (bodyOf P 26)))))) e w (kFn P (fnOf P 26))
theorem spec_l1Dec_a1_any (e : Env) (w : World) {Q : Value × World → Prop} (h :
 (Ret (vl (e 0) (dw w)) fun r1 => r1.2 = (dw w) ∧
 (Ret (bo P .quo 3 (.tmp 18) (.const (.int .i64 10)) r1.1 (.int .i64 10) (dw w)) fun r2 => r2.2 = (dw w) ∧
 (Ret (vl (e 0) (dw w)) fun r3 => r3.2 = (dw w) ∧
 (Ret (bo P .rem 3 (.tmp 21) (.const (.int .i64 10)) r3.1 (.int .i64 10) (dw w)) fun r4 => r4.2 = (dw w) ∧
 (Ret (bo P .add 3 (.const (.int .i64 48)) (.tmp 22) (.int .i64 48) r4.1 (dw w)) fun r5 => r5.2 = (dw w) ∧
 (Ret (cv P 3 5 r5.1 (dw w)) fun r6 => r6.2 = (dw w) ∧
 ((Ret (EV P 26 #[r2.1] (dw w)) fun r7 => (cv P 3 5 r5.1 r7.2 = some (r6.1, r7.2) ∧ bo P .add 3 (.const (.int .i64 48)) (.tmp 22) (.int .i64 48) r4.1 r7.2 = some (r5.1, r7.2) ∧ bo P .rem 3 (.tmp 21) (.const (.int .i64 10)) r3.1 (.int .i64 10) r7.2 = some (r4.1, r7.2) ∧ True ∧ True) ∧
 ((Ret (bs P 61 1 #[(0, r6.1)] r7.2) fun r8 => (True ∧ True ∧ True ∧ bo P .quo 3 (.tmp 18) (.const (.int .i64 10)) r1.1 (.int .i64 10) r8.2 = some (r2.1, r8.2) ∧ True) ∧
 (Ret (cv P 61 9 r8.1 r8.2) fun r9 => r9.2 = r8.2 ∧
 (Ret (bo P .add 9 (.tmp 20) (.tmp 26) r7.1 r9.1 r8.2) fun r10 => r10.2 = r8.2 ∧
 (Ret (vl r10.1 r8.2) fun r11 => r11.2 = r8.2 ∧
 Ret (spec_l1Dec_j1 (ups e [(18, r1.1), (19, r2.1), (21, r3.1), (22, r4.1), (23, r5.1), (24, r6.1), (20, r7.1), (25, r8.1), (26, r9.1), (27, r10.1), (2, r11.1)]) r8.2) Q)))))) ∧
 (Ret (bs P 61 1 #[(0, r6.1)] (dw w)) fun r12 => (True ∧ True ∧ True ∧ bo P .quo 3 (.tmp 18) (.const (.int .i64 10)) r1.1 (.int .i64 10) r12.2 = some (r2.1, r12.2) ∧ True) ∧
 (Ret (cv P 61 9 r12.1 r12.2) fun r13 => r13.2 = r12.2 ∧
 ((Ret (EV P 26 #[r2.1] r12.2) fun r14 => (cv P 61 9 r12.1 r14.2 = some (r13.1, r14.2) ∧ cv P 3 5 r5.1 r14.2 = some (r6.1, r14.2) ∧ bo P .add 3 (.const (.int .i64 48)) (.tmp 22) (.int .i64 48) r4.1 r14.2 = some (r5.1, r14.2) ∧ bo P .rem 3 (.tmp 21) (.const (.int .i64 10)) r3.1 (.int .i64 10) r14.2 = some (r4.1, r14.2) ∧ True ∧ True) ∧
 (Ret (bo P .add 9 (.tmp 20) (.tmp 26) r14.1 r13.1 r14.2) fun r15 => r15.2 = r14.2 ∧
 (Ret (vl r15.1 r14.2) fun r16 => r16.2 = r14.2 ∧
 Ret (spec_l1Dec_j1 (ups e [(18, r1.1), (19, r2.1), (21, r3.1), (22, r4.1), (23, r5.1), (24, r6.1), (25, r12.1), (26, r13.1), (20, r14.1), (27, r15.1), (2, r16.1)]) r14.2) Q)))))))))))))) : Ret (spec_l1Dec_a1 e w) Q := exC_any (id := 7) (ops := opsOf (cA (cB (cB (cB (cB (bodyOf P 26))))))) (by kernel_rfl) (by kernel_rfl) (Eq.mpr (by kernel_rfl) h)
theorem spec_l1Dec_j1_eq (e : Env) (w : World) : spec_l1Dec_j1 e w =
 some ((e 2), w) := by kernel_rfl
theorem spec_l1Dec_fn (x0 : Value) (w : World) : fnC P (EV P) 26 #[x0] w =
 (vl (Go.Value.string { data := #[] }) w).bind fun r1 =>
 (vl x0 r1.2).bind fun r2 =>
 (bo P .lss 3 (.tmp 3) (.const (.int .i64 (-9223372036854775807))) r2.1 (.int .i64 (-9223372036854775807)) r2.2).bind fun r3 =>
 cnd r3.1 (
 (vl (Go.Value.string { data := #[45, 57, 50, 50, 51, 51, 55, 50, 48, 51, 54, 56, 53, 52, 55, 55, 53, 56, 48, 56] }) r3.2).bind fun r4 =>
 some (r4.1, r4.2)) (
 (vl x0 r3.2).bind fun r5 =>
 (bo P .lss 3 (.tmp 5) (.const (.int .i64 0)) r5.1 (.int .i64 0) r5.2).bind fun r6 =>
 cnd r6.1 (
 (vl x0 r6.2).bind fun r7 =>
 (uo P .neg r7.1 r7.2).bind fun r8 =>
 (EV P 26 #[r8.1] r8.2).bind fun r9 =>
 (bo P .add 9 (.const (Go.Value.string { data := #[45] })) (.tmp 9) (Go.Value.string { data := #[45] }) r9.1 r9.2).bind fun r10 =>
 (vl r10.1 r10.2).bind fun r11 =>
 some (r11.1, r11.2)) (
 (vl x0 r6.2).bind fun r12 =>
 (bo P .lss 3 (.tmp 11) (.const (.int .i64 10)) r12.1 (.int .i64 10) r12.2).bind fun r13 =>
 cnd r13.1 (
 (vl x0 r13.2).bind fun r14 =>
 (bo P .add 3 (.const (.int .i64 48)) (.tmp 13) (.int .i64 48) r14.1 r14.2).bind fun r15 =>
 (cv P 3 5 r15.1 r15.2).bind fun r16 =>
 (bs P 61 1 #[(0, r16.1)] r16.2).bind fun r17 =>
 (cv P 61 9 r17.1 r17.2).bind fun r18 =>
 (vl r18.1 r18.2).bind fun r19 =>
 some (r19.1, r19.2)) (
 spec_l1Dec_a1 (ups (env0 #[x0]) [(2, r1.1), (3, r2.1), (4, r3.1), (5, r5.1), (6, r6.1), (11, r12.1), (12, r13.1)]) r13.2))) := by kernel_rfl
theorem spec_l1Put_fn (x0 : Value) (w : World) : fnC P (EV P) 27 #[x0] w =
 (bx P 31 x0 w).bind fun r1 =>
 (vl (Go.Value.string { data := #[] }) r1.2).bind fun r2 =>
 (fa P 31 r1.1 0 (dw r2.2)).bind fun r4 =>
 ifP (r4.2 = (dw r2.2)) <|
 (ld P 3 r4.1 (dw r2.2)).bind fun r5 =>
 ifP (r5.2 = (dw r2.2)) <|
 (fa P 31 r1.1 1 (dw r2.2)).bind fun r6 =>
 ifP (r6.2 = (dw r2.2)) <|
 (ld P 3 r6.1 (dw r2.2)).bind fun r7 =>
 ifP (r7.2 = (dw r2.2)) <|
 (EV P 26 #[r5.1] (dw r2.2)).bind fun r8 =>
 ifP (ld P 3 r6.1 r8.2 = some (r7.1, r8.2) ∧ fa P 31 r1.1 1 r8.2 = some (r6.1, r8.2) ∧ True ∧ True ∧ True) <|
 (bo P .add 9 (.tmp 5) (.const (Go.Value.string { data := #[46] })) r8.1 (Go.Value.string { data := #[46] }) r8.2).bind fun r9 =>
 ifP (r9.2 = r8.2) <|
 (EV P 26 #[r7.1] r8.2).bind fun r10 =>
 ifP (bo P .add 9 (.tmp 5) (.const (Go.Value.string { data := #[46] })) r8.1 (Go.Value.string { data := #[46] }) r10.2 = some (r9.1, r10.2) ∧ True ∧ True ∧ True ∧ True ∧ True) <|
 (bo P .add 9 (.tmp 6) (.tmp 9) r9.1 r10.1 r10.2).bind fun r11 =>
 ifP (r11.2 = r10.2) <|
 (vl r11.1 r10.2).bind fun r12 =>
 ifP (r12.2 = r10.2) <|
 some (r12.1, r10.2) := by kernel_rfl
noncomputable def spec_l2Past_l1 (e : Env) (w : World) : Option (Value × World) := exC P (EV P) 28 22 (.loop (cA (cA (cB (cA (cB (cB (bodyOf P 28)))))))) e w (kBlock 0 (kSeq P (EV P) 28 22 (cB (cB (cB (bodyOf P 28)))) (kFn P (fnOf P 28))))
theorem spec_l2Past_l1_eq (e : Env) (w : World) : spec_l2Past_l1 e w =
 (vl (e 4) w).bind fun r1 =>
 (fa P 34 (e 1) 0 r1.2).bind fun r2 =>
 (ld P 32 r2.1 r2.2).bind fun r3 =>
 (b_len P #[32] 3 #[r3.1] r3.2).bind fun r4 =>
 (bo P .lss 3 (.tmp 5) (.tmp 8) r1.1 r4.1 r4.2).bind fun r5 =>
 cnd r5.1 (
 (vl (e 3) r5.2).bind fun r6 =>
 (bo P .add 9 (.tmp 12) (.const (Go.Value.string { data := #[32] })) r6.1 (Go.Value.string { data := #[32] }) r6.2).bind fun r7 =>
 (fa P 34 (e 1) 0 r7.2).bind fun r8 =>
 (ld P 32 r8.1 r8.2).bind fun r9 =>
 (vl (e 4) r9.2).bind fun r10 =>
 (ia P 32 r9.1 r10.1 r10.2).bind fun r11 =>
 (ld P 31 r11.1 r11.2).bind fun r12 =>
 (EV P 27 #[r12.1] r12.2).bind fun r13 =>
 (bo P .add 9 (.tmp 13) (.tmp 19) r7.1 r13.1 r13.2).bind fun r14 =>
 (vl r14.1 r14.2).bind fun r15 =>
 (vl (e 4) r15.2).bind fun r16 =>
 (bo P .add 3 (.tmp 10) (.const (.int .i64 1)) r16.1 (.int .i64 1) r16.2).bind fun r17 =>
 (vl r17.1 r17.2).bind fun r18 =>
 spec_l2Past_l1 (ups e [(5, r1.1), (6, r2.1), (7, r3.1), (8, r4.1), (9, r5.1), (12, r6.1), (13, r7.1), (14, r8.1), (15, r9.1), (16, r10.1), (17, r11.1), (18, r12.1), (19, r13.1), (20, r14.1), (3, r15.1), (10, r16.1), (11, r17.1), (4, r18.1)]) r18.2) (
 (vl (e 3) r5.2).bind fun r19 =>
 (vl r19.1 r19.2).bind fun r20 =>
 some (r20.1, r20.2)) := (exC_loop P (EV P) 28 22 (cA (cA (cB (cA (cB (cB (bodyOf P 28))))))) e w (kBlock 0 (kSeq P (EV P) 28 22 (cB (cB (cB (bodyOf P 28)))) (kFn P (fnOf P 28))))).trans (by kernel_rfl)
theorem spec_l2Past_fn (x0 : Value) (w : World) : fnC P (EV P) 28 #[x0] w =
 (bx P 34 x0 w).bind fun r1 =>
 (vl (Go.Value.string { data := #[] }) r1.2).bind fun r2 =>
 (vl (Go.Value.string { data := #[] }) r2.2).bind fun r3 =>
 (vl (.int .i64 0) r3.2).bind fun r4 =>
 spec_l2Past_l1 (ups (env0 #[x0]) [(1, r1.1), (2, r2.1), (3, r3.1), (4, r4.1)]) r4.2 := by kernel_rfl
noncomputable def laws_toTagS_l1 (e : Env) (w : World) : Option (Value × World) := exC P (EV P) 29 23 (.loop (cA (cA (cB (cA (cB (cB (bodyOf P 29)))))))) e w (kBlock 0 (kSeq P (EV P) 29 23 (cB (cB (cB (bodyOf P 29)))) (kFn P (fnOf P 29))))
theorem laws_toTagS_l1_eq (e : Env) (w : World) : laws_toTagS_l1 e w =
 (vl (e 4) w).bind fun r1 =>
 (vl (e 0) r1.2).bind fun r2 =>
 (b_len P #[24] 3 #[r2.1] r2.2).bind fun r3 =>
 (bo P .lss 3 (.tmp 8) (.tmp 10) r1.1 r3.1 r3.2).bind fun r4 =>
 cnd r4.1 (
 (vl (e 3) r4.2).bind fun r5 =>
 (vl (e 4) r5.2).bind fun r6 =>
 (vl (e 0) r6.2).bind fun r7 =>
 (vl (e 4) r7.2).bind fun r8 =>
 (ia P 24 r7.1 r8.1 r8.2).bind fun r9 =>
 (ld P 23 r9.1 r9.2).bind fun r10 =>
 (EV P 12 #[r10.1] r10.2).bind fun r11 =>
 (ia P 32 r5.1 r6.1 r11.2).bind fun r12 =>
 (st P 31 r12.1 r11.1 r12.2).bind fun r13 =>
 (vl (e 4) r13.2).bind fun r14 =>
 (bo P .add 3 (.tmp 12) (.const (.int .i64 1)) r14.1 (.int .i64 1) r14.2).bind fun r15 =>
 (vl r15.1 r15.2).bind fun r16 =>
 laws_toTagS_l1 (ups e [(8, r1.1), (9, r2.1), (10, r3.1), (11, r4.1), (14, r5.1), (15, r6.1), (16, r7.1), (17, r8.1), (18, r9.1), (19, r10.1), (20, r11.1), (21, r12.1), (12, r14.1), (13, r15.1), (4, r16.1)]) r16.2) (
 (vl (e 3) r4.2).bind fun r17 =>
 (vl r17.1 r17.2).bind fun r18 =>
 some (r18.1, r18.2)) := (exC_loop P (EV P) 29 23 (cA (cA (cB (cA (cB (cB (bodyOf P 29))))))) e w (kBlock 0 (kSeq P (EV P) 29 23 (cB (cB (cB (bodyOf P 29)))) (kFn P (fnOf P 29))))).trans (by kernel_rfl)
theorem laws_toTagS_fn (x0 : Value) (w : World) : fnC P (EV P) 29 #[x0] w =
 (vl (Go.Value.slice none 0 0) w).bind fun r1 =>
 (vl x0 r1.2).bind fun r2 =>
 (b_len P #[24] 3 #[r2.1] r2.2).bind fun r3 =>
 (ms P 32 r3.1 r3.1 r3.2).bind fun r4 =>
 (vl r4.1 r4.2).bind fun r5 =>
 (vl (.int .i64 0) r5.2).bind fun r6 =>
 laws_toTagS_l1 (ups (env0 #[x0]) [(2, r1.1), (5, r2.1), (6, r3.1), (7, r4.1), (3, r5.1), (4, r6.1)]) r6.2 := by kernel_rfl
theorem impl_Ver_written_fn (x0 : Value) (w : World) : fnC P (EV P) 30 #[x0] w =
 (bx P 36 x0 w).bind fun r1 =>
 (vl (.bool false) r1.2).bind fun r2 =>
 (fa P 36 r1.1 0 r2.2).bind fun r3 =>
 (ld P 3 r3.1 r3.2).bind fun r4 =>
 (EV P 36 #[r4.1] r4.2).bind fun r5 =>
 (vl r5.1 r5.2).bind fun r6 =>
 (gif r6.1 true (fa P 36 r1.1 3 r6.2) r6.2).bind fun r7 =>
 (gif r6.1 true (ld P 9 r7.1 r7.2) r7.2).bind fun r8 =>
 (gif r6.1 true (EV P 37 #[r8.1] r8.2) r8.2).bind fun r9 =>
 (pickV r6.1 r9.1 (.bool false) r9.2).bind fun r10 =>
 (vl r10.1 r10.2).bind fun r11 =>
 (gif r11.1 true (fa P 36 r1.1 4 r11.2) r11.2).bind fun r12 =>
 (gif r11.1 true (ld P 4 r12.1 r12.2) r12.2).bind fun r13 =>
 (gif r11.1 true (uo P .not r13.1 r13.2) r13.2).bind fun r14 =>
 (gif r11.1 true (vl r14.1 r14.2) r14.2).bind fun r15 =>
 (gif r15.1 false (fa P 36 r1.1 3 r15.2) r15.2).bind fun r16 =>
 (gif r15.1 false (ld P 9 r16.1 r16.2) r16.2).bind fun r17 =>
 (gif r15.1 false (bo P .eql 9 (.tmp 17) (.const (Go.Value.string { data := #[] })) r17.1 (Go.Value.string { data := #[] }) r17.2) r17.2).bind fun r18 =>
 (gif r11.1 true (pickV r15.1 (.bool true) r18.1 r18.2) r18.2).bind fun r19 =>
 (pickV r11.1 r19.1 (.bool false) r19.2).bind fun r20 =>
 (vl r20.1 r20.2).bind fun r21 =>
 (gif r21.1 true (fa P 36 r1.1 2 r21.2) r21.2).bind fun r22 =>
 (gif r21.1 true (ld P 34 r22.1 r22.2) r22.2).bind fun r23 =>
 (gif r21.1 true (EV P 38 #[r23.1] r23.2) r23.2).bind fun r24 =>
 (pickV r21.1 r24.1 (.bool false) r24.2).bind fun r25 =>
 (vl r25.1 r25.2).bind fun r26 =>
 some (r26.1, r26.2) := by kernel_rfl
theorem impl_TagOk_fn (x0 : Value) (w : World) : fnC P (EV P) 31 #[x0] w =
 (bx P 31 x0 w).bind fun r1 =>
 (vl (.bool false) r1.2).bind fun r2 =>
 (ld P 31 r1.1 r2.2).bind fun r3 =>
 (bd P 31 #[] r3.2).bind fun r4 =>
 (bo P .eql 31 (.tmp 3) (.tmp 4) r3.1 r4.1 r4.2).bind fun r5 =>
 (vl r5.1 r5.2).bind fun r6 =>
 (gif r6.1 false (fa P 31 r1.1 0 r6.2) r6.2).bind fun r7 =>
 (gif r6.1 false (ld P 3 r7.1 r7.2) r7.2).bind fun r8 =>
 (gif r6.1 false (EV P 39 #[r8.1, (.int .i64 1), (.int .i64 999)] r8.2) r8.2).bind fun r9 =>
 (gif r6.1 false (vl r9.1 r9.2) r9.2).bind fun r10 =>
 (gif r10.1 true (fa P 31 r1.1 1 r10.2) r10.2).bind fun r11 =>
 (gif r10.1 true (ld P 3 r11.1 r11.2) r11.2).bind fun r12 =>
 (gif r10.1 true (EV P 40 #[r12.1] r12.2) r12.2).bind fun r13 =>
 (gif r6.1 false (pickV r10.1 r13.1 (.bool false) r13.2) r13.2).bind fun r14 =>
 (pickV r6.1 (.bool true) r14.1 r14.2).bind fun r15 =>
 (vl r15.1 r15.2).bind fun r16 =>
 some (r16.1, r16.2) := by kernel_rfl
noncomputable def impl_Past_latest_l1 (e : Env) (w : World) : Option (Value × World) := exC P (EV P) 32 19 (.loop (cA (cA (cB (cA (cB (cB (bodyOf P 32)))))))) e w (kBlock 0 (kSeq P (EV P) 32 19 (cB (cB (cB (bodyOf P 32)))) (kFn P (fnOf P 32))))
theorem impl_Past_latest_l1_eq (e : Env) (w : World) : impl_Past_latest_l1 e w =
 (bo P .lss 3 (.tmp 9) (.tmp 8) (e 9) (e 8) w).bind fun r1 =>
 cnd r1.1 (
 (ia P 32 (e 7) (e 9) r1.2).bind fun r2 =>
 (ld P 31 r2.1 r2.2).bind fun r3 =>
 (al P 31 r3.2).bind fun r4 =>
 (st P 31 r4.1 r3.1 r4.2).bind fun r5 =>
 (vl (e 3) r5.2).bind fun r6 =>
 (fa P 31 r4.1 0 r6.2).bind fun r7 =>
 (ld P 3 r7.1 r7.2).bind fun r8 =>
 (b_max P #[3, 3] 3 #[r6.1, r8.1] r8.2).bind fun r9 =>
 (vl r9.1 r9.2).bind fun r10 =>
 (bo P .add 3 (.tmp 9) (.const (.int .i64 1)) (e 9) (.int .i64 1) r10.2).bind fun r11 =>
 (vl r11.1 r11.2).bind fun r12 =>
 impl_Past_latest_l1 (ups e [(10, r1.1), (11, r2.1), (12, r3.1), (5, r4.1), (13, r6.1), (14, r7.1), (15, r8.1), (16, r9.1), (3, r10.1), (17, r11.1), (9, r12.1)]) r12.2) (
 (vl (e 3) r1.2).bind fun r13 =>
 (vl r13.1 r13.2).bind fun r14 =>
 some (r14.1, r14.2)) := (exC_loop P (EV P) 32 19 (cA (cA (cB (cA (cB (cB (bodyOf P 32))))))) e w (kBlock 0 (kSeq P (EV P) 32 19 (cB (cB (cB (bodyOf P 32)))) (kFn P (fnOf P 32))))).trans (by kernel_rfl)
theorem impl_Past_latest_fn (x0 : Value) (w : World) : fnC P (EV P) 32 #[x0] w =
 (bx P 34 x0 w).bind fun r1 =>
 (vl (.int .i64 0) r1.2).bind fun r2 =>
 (vl (.int .i64 0) r2.2).bind fun r3 =>
 (fa P 34 r1.1 0 r3.2).bind fun r4 =>
 (ld P 32 r4.1 r4.2).bind fun r5 =>
 (b_len P #[32] 3 #[r5.1] r5.2).bind fun r6 =>
 (vl (.int .i64 0) r6.2).bind fun r7 =>
 impl_Past_latest_l1 (ups (env0 #[x0]) [(1, r1.1), (2, r2.1), (3, r3.1), (6, r4.1), (7, r5.1), (8, r6.1), (9, r7.1)]) r7.2 := by kernel_rfl
theorem internal_strconv_Itoa_fn (x0 : Value) (w : World) : fnC P (EV P) 33 #[x0] w =
 (vl (Go.Value.string { data := #[] }) w).bind fun r1 =>
 (vl x0 r1.2).bind fun r2 =>
 (EV P 41 #[r2.1, (.int .i64 10)] r2.2).bind fun r3 =>
 (vl r3.1 r3.2).bind fun r4 =>
 some (r4.1, r4.2) := by kernel_rfl
noncomputable def strings_Join_j1 (e : Env) (w : World) : Option (Value × World) := exC P (EV P) 34 75 (cB (cA (cB (cA (cB (cB (cB (bodyOf P 34)))))))) e w (kSeq P (EV P) 34 75 (cB (cB (cB (cB (bodyOf P 34))))) (kFn P (fnOf P 34)))
noncomputable def strings_Join_j2 (e : Env) (w : World) : Option (Value × World) := exC P (EV P) 34 75 (cB (cB (cB (cB (bodyOf P 34))))) e w (kFn P (fnOf P 34))
noncomputable def strings_Join_l1 (e : Env) (w : World) : Option (Value × World) := exC P (EV P) 34 75 (.loop (cA (cA (cB (cA (cB (cB (cB (cB (bodyOf P 34)))))))))) e w (kBlock 1 (kSeq P (EV P) 34 75 (cB (cB (cB (cB (cB (bodyOf P 34)))))) (kFn P (fnOf P 34))))
noncomputable def strings_Join_j3 (e : Env) (w : World) : Option (Value × World) := exC P (EV P) 34 75 (cB (cB (cA (cA (cB (cB (cA (cA (cB (cA (cB (cB (cB (cB (bodyOf P 34))))))))))))))) e w (kBlock 2 (kSeq P (EV P) 34 75 (cB (cB (cB (cA (cA (cB (cA (cB (cB (cB (cB (bodyOf P 34)))))))))))) (kLoop P (EV P) 34 75 (cA (cA (cB (cA (cB (cB (cB (cB (bodyOf P 34))))))))) (kBlock 1 (kSeq P (EV P) 34 75 (cB (cB (cB (cB (cB (bodyOf P 34)))))) (kFn P (fnOf P 34)))))))
noncomputable def strings_Join_l2 (e : Env) (w : World) : Option (Value × World) := exC P (EV P) 34 75 (.loop (cA (cA (cB (cA (cB (cB (cB (cB (cB (cB (cB (cB (bodyOf P 34)))))))))))))) e w (kBlock 3 (kSeq P (EV P) 34 75 (cB (cB (cB (cB (cB (cB (cB (cB (cB (bodyOf P 34)))))))))) (kFn P (fnOf P 34))))
theorem strings_Join_j1_eq (e : Env) (w : World) : strings_Join_j1 e w =
 (vl (e 5) w).bind fun r1 =>
 (vl (e 1) r1.2).bind fun r2 =>
 (b_len P #[9] 3 #[r2.1] r2.2).bind fun r3 =>
 (vl (e 0) r3.2).bind fun r4 =>
 (b_len P #[58] 3 #[r4.1] r4.2).bind fun r5 =>
 (bo P .sub 3 (.tmp 35) (.const (.int .i64 1)) r5.1 (.int .i64 1) r5.2).bind fun r6 =>
 (bo P .mul 3 (.tmp 33) (.tmp 36) r3.1 r6.1 r6.2).bind fun r7 =>
 (bo P .add 3 (.tmp 31) (.tmp 37) r1.1 r7.1 r7.2).bind fun r8 =>
 (vl r8.1 r8.2).bind fun r9 =>
 strings_Join_j2 (ups e [(31, r1.1), (32, r2.1), (33, r3.1), (34, r4.1), (35, r5.1), (36, r6.1), (37, r7.1), (38, r8.1), (5, r9.1)]) r9.2 := by kernel_rfl
theorem strings_Join_j2_eq (e : Env) (w : World) : strings_Join_j2 e w =
 (vl (e 0) w).bind fun r1 =>
 (b_len P #[58] 3 #[r1.1] r1.2).bind fun r2 =>
 (vl (.int .i64 0) r2.2).bind fun r3 =>
 strings_Join_l1 (ups e [(39, r1.1), (40, r2.1), (41, r3.1)]) r3.2 := by kernel_rfl
theorem strings_Join_l1_eq (e : Env) (w : World) : strings_Join_l1 e w =
 (bo P .lss 3 (.tmp 41) (.tmp 40) (e 41) (e 40) w).bind fun r1 =>
 cnd r1.1 (
 (ia P 58 (e 39) (e 41) r1.2).bind fun r2 =>
 (ld P 9 r2.1 r2.2).bind fun r3 =>
 (vl r3.1 r3.2).bind fun r4 =>
 (vl r4.1 r4.2).bind fun r5 =>
 (b_len P #[9] 3 #[r5.1] r5.2).bind fun r6 =>
 (vl (e 5) r6.2).bind fun r7 =>
 (bo P .sub 3 (.const (.int .i64 9223372036854775807)) (.tmp 47) (.int .i64 9223372036854775807) r7.1 r7.2).bind fun r8 =>
 (bo P .gtr 3 (.tmp 46) (.tmp 48) r6.1 r8.1 r8.2).bind fun r9 =>
 cnd r9.1 (
 (mi P 9 (Go.Value.string { data := #[115, 116, 114, 105, 110, 103, 115, 58, 32, 74, 111, 105, 110, 32, 111, 117, 116, 112, 117, 116, 32, 108, 101, 110, 103, 116, 104, 32, 111, 118, 101, 114, 102, 108, 111, 119] }) r9.2).bind fun r10 =>
 ((none : Option (Value × World))).bind fun r11 =>
 strings_Join_j3 (ups e [(42, r1.1), (43, r2.1), (44, r3.1), (7, r4.1), (45, r5.1), (46, r6.1), (47, r7.1), (48, r8.1), (49, r9.1), (50, r10.1)]) r11.2) (
 strings_Join_j3 (ups e [(42, r1.1), (43, r2.1), (44, r3.1), (7, r4.1), (45, r5.1), (46, r6.1), (47, r7.1), (48, r8.1), (49, r9.1)]) r9.2)) (
 (al P 66 r1.2).bind fun r12 =>
 (vl (e 5) r12.2).bind fun r13 =>
 (EV P 42 #[r12.1, r13.1] r13.2).bind fun r14 =>
 (vl (e 0) r14.2).bind fun r15 =>
 (ia P 58 r15.1 (.int .i64 0) r15.2).bind fun r16 =>
 (ld P 9 r16.1 r16.2).bind fun r17 =>
 (EV P 43 #[r12.1, r17.1] r17.2).bind fun r18 =>
 (vl (e 0) r18.2).bind fun r19 =>
 (sl P 58 r19.1 (some (.int .i64 1)) none none r19.2).bind fun r20 =>
 (b_len P #[58] 3 #[r20.1] r20.2).bind fun r21 =>
 (vl (.int .i64 0) r21.2).bind fun r22 =>
 strings_Join_l2 (ups e [(42, r1.1), (8, r12.1), (56, r13.1), (57, r14.1), (58, r15.1), (59, r16.1), (60, r17.1), (61, r18.1), (62, r19.1), (63, r20.1), (64, r21.1), (65, r22.1)]) r22.2) := (exC_loop P (EV P) 34 75 (cA (cA (cB (cA (cB (cB (cB (cB (bodyOf P 34))))))))) e w (kBlock 1 (kSeq P (EV P) 34 75 (cB (cB (cB (cB (cB (bodyOf P 34)))))) (kFn P (fnOf P 34))))).trans (by kernel_rfl)
theorem strings_Join_j3_eq (e : Env) (w : World) : strings_Join_j3 e w =
 (vl (e 5) w).bind fun r1 =>
 (vl (e 7) r1.2).bind fun r2 =>
 (b_len P #[9] 3 #[r2.1] r2.2).bind fun r3 =>
 (bo P .add 3 (.tmp 51) (.tmp 53) r1.1 r3.1 r3.2).bind fun r4 =>
 (vl r4.1 r4.2).bind fun r5 =>
 (bo P .add 3 (.tmp 41) (.const (.int .i64 1)) (e 41) (.int .i64 1) r5.2).bind fun r6 =>
 (vl r6.1 r6.2).bind fun r7 =>
 strings_Join_l1 (ups e [(51, r1.1), (52, r2.1), (53, r3.1), (54, r4.1), (5, r5.1), (55, r6.1), (41, r7.1)]) r7.2 := by kernel_rfl
theorem strings_Join_l2_eq (e : Env) (w : World) : strings_Join_l2 e w =
 (bo P .lss 3 (.tmp 65) (.tmp 64) (e 65) (e 64) w).bind fun r1 =>
 cnd r1.1 (
 (ia P 58 (e 63) (e 65) r1.2).bind fun r2 =>
 (ld P 9 r2.1 r2.2).bind fun r3 =>
 (vl r3.1 r3.2).bind fun r4 =>
 (vl (e 1) r4.2).bind fun r5 =>
 (EV P 43 #[(e 8), r5.1] r5.2).bind fun r6 =>
 (vl r4.1 r6.2).bind fun r7 =>
 (EV P 43 #[(e 8), r7.1] r7.2).bind fun r8 =>
 (bo P .add 3 (.tmp 65) (.const (.int .i64 1)) (e 65) (.int .i64 1) r8.2).bind fun r9 =>
 (vl r9.1 r9.2).bind fun r10 =>
 strings_Join_l2 (ups e [(66, r1.1), (67, r2.1), (68, r3.1), (10, r4.1), (69, r5.1), (70, r6.1), (71, r7.1), (72, r8.1), (73, r9.1), (65, r10.1)]) r10.2) (
 (EV P 44 #[(e 8)] r1.2).bind fun r11 =>
 (vl r11.1 r11.2).bind fun r12 =>
 some (r12.1, r12.2)) := (exC_loop P (EV P) 34 75 (cA (cA (cB (cA (cB (cB (cB (cB (cB (cB (cB (cB (bodyOf P 34))))))))))))) e w (kBlock 3 (kSeq P (EV P) 34 75 (cB (cB (cB (cB (cB (cB (cB (cB (cB (bodyOf P 34)))))))))) (kFn P (fnOf P 34))))).trans (by kernel_rfl)
theorem strings_Join_fn (x0 x1 : Value) (w : World) : fnC P (EV P) 34 #[x0, x1] w =
 (vl (Go.Value.string { data := #[] }) w).bind fun r1 =>
 (vl x0 r1.2).bind fun r2 =>
 (b_len P #[58] 3 #[r2.1] r2.2).bind fun r3 =>
 (bo P .eql 3 (.tmp 12) (.const (.int .i64 0)) r3.1 (.int .i64 0) r3.2).bind fun r4 =>
 (vl r4.1 r4.2).bind fun r5 =>
 cnd r5.1 (
 (vl (Go.Value.string { data := #[] }) r5.2).bind fun r6 =>
 some (r6.1, r6.2)) (
 (bo P .eql 3 (.tmp 12) (.const (.int .i64 1)) r3.1 (.int .i64 1) r5.2).bind fun r7 =>
 (vl r7.1 r7.2).bind fun r8 =>
 cnd r8.1 (
 (vl x0 r8.2).bind fun r9 =>
 (ia P 58 r9.1 (.int .i64 0) r9.2).bind fun r10 =>
 (ld P 9 r10.1 r10.2).bind fun r11 =>
 (vl r11.1 r11.2).bind fun r12 =>
 some (r12.1, r12.2)) (
 (vl (.int .i64 0) r8.2).bind fun r13 =>
 (vl x1 r13.2).bind fun r14 =>
 (b_len P #[9] 3 #[r14.1] r14.2).bind fun r15 =>
 (bo P .gtr 3 (.tmp 21) (.const (.int .i64 0)) r15.1 (.int .i64 0) r15.2).bind fun r16 =>
 cnd r16.1 (
 (vl x1 r16.2).bind fun r17 =>
 (b_len P #[9] 3 #[r17.1] r17.2).bind fun r18 =>
 (vl x0 r18.2).bind fun r19 =>
 (b_len P #[58] 3 #[r19.1] r19.2).bind fun r20 =>
 (bo P .sub 3 (.tmp 26) (.const (.int .i64 1)) r20.1 (.int .i64 1) r20.2).bind fun r21 =>
 (bo P .quo 3 (.const (.int .i64 9223372036854775807)) (.tmp 27) (.int .i64 9223372036854775807) r21.1 r21.2).bind fun r22 =>
 (bo P .geq 3 (.tmp 24) (.tmp 28) r18.1 r22.1 r22.2).bind fun r23 =>
 cnd r23.1 (
 (mi P 9 (Go.Value.string { data := #[115, 116, 114, 105, 110, 103, 115, 58, 32, 74, 111, 105, 110, 32, 111, 117, 116, 112, 117, 116, 32, 108, 101, 110, 103, 116, 104, 32, 111, 118, 101, 114, 102, 108, 111, 119] }) r23.2).bind fun r24 =>
 ((none : Option (Value × World))).bind fun r25 =>
 strings_Join_j1 (ups (env0 #[x0, x1]) [(4, r1.1), (11, r2.1), (12, r3.1), (14, r4.1), (13, r5.1), (16, r7.1), (15, r8.1), (5, r13.1), (20, r14.1), (21, r15.1), (22, r16.1), (23, r17.1), (24, r18.1), (25, r19.1), (26, r20.1), (27, r21.1), (28, r22.1), (29, r23.1), (30, r24.1)]) r25.2) (
 strings_Join_j1 (ups (env0 #[x0, x1]) [(4, r1.1), (11, r2.1), (12, r3.1), (14, r4.1), (13, r5.1), (16, r7.1), (15, r8.1), (5, r13.1), (20, r14.1), (21, r15.1), (22, r16.1), (23, r17.1), (24, r18.1), (25, r19.1), (26, r20.1), (27, r21.1), (28, r22.1), (29, r23.1)]) r23.2)) (
 strings_Join_j2 (ups (env0 #[x0, x1]) [(4, r1.1), (11, r2.1), (12, r3.1), (14, r4.1), (13, r5.1), (16, r7.1), (15, r8.1), (5, r13.1), (20, r14.1), (21, r15.1), (22, r16.1)]) r16.2))) := by kernel_rfl
noncomputable def laws_eqTagS_l1 (e : Env) (w : World) : Option (Value × World) := exC P (EV P) 35 27 (.loop (cA (cA (cB (cA (cB (cB (bodyOf P 35)))))))) e w (kBlock 0 (kSeq P (EV P) 35 27 (cB (cB (cB (bodyOf P 35)))) (kFn P (fnOf P 35))))
theorem laws_eqTagS_l1_eq (e : Env) (w : World) : laws_eqTagS_l1 e w =
 (vl (e 5) w).bind fun r1 =>
 (vl (e 0) r1.2).bind fun r2 =>
 (b_len P #[32] 3 #[r2.1] r2.2).bind fun r3 =>
 (bo P .lss 3 (.tmp 11) (.tmp 13) r1.1 r3.1 r3.2).bind fun r4 =>
 cnd r4.1 (
 (vl (e 0) (dw r4.2)).bind fun r6 =>
 ifP (r6.2 = (dw r4.2)) <|
 (vl (e 5) (dw r4.2)).bind fun r7 =>
 ifP (r7.2 = (dw r4.2)) <|
 (ia P 32 r6.1 r7.1 (dw r4.2)).bind fun r8 =>
 ifP (r8.2 = (dw r4.2)) <|
 (ld P 31 r8.1 (dw r4.2)).bind fun r9 =>
 ifP (r9.2 = (dw r4.2)) <|
 (vl (e 1) (dw r4.2)).bind fun r10 =>
 ifP (r10.2 = (dw r4.2)) <|
 (vl (e 5) (dw r4.2)).bind fun r11 =>
 ifP (r11.2 = (dw r4.2)) <|
 (ia P 32 r10.1 r11.1 (dw r4.2)).bind fun r12 =>
 ifP (r12.2 = (dw r4.2)) <|
 (ld P 31 r12.1 (dw r4.2)).bind fun r13 =>
 ifP (r13.2 = (dw r4.2)) <|
 (EV P 19 #[r9.1, r13.1] (dw r4.2)).bind fun r14 =>
 ifP (True ∧ True ∧ True ∧ True ∧ True) <|
 (uo P .not r14.1 r14.2).bind fun r15 =>
 ifP (r15.2 = r14.2) <|
 cnd r15.1 (
 (vl (.bool false) r14.2).bind fun r16 =>
 some (r16.1, r16.2)) (
 (vl (e 5) r14.2).bind fun r17 =>
 (bo P .add 3 (.tmp 15) (.const (.int .i64 1)) r17.1 (.int .i64 1) r17.2).bind fun r18 =>
 (vl r18.1 r18.2).bind fun r19 =>
 laws_eqTagS_l1 (ups e [(11, r1.1), (12, r2.1), (13, r3.1), (14, r4.1), (17, r6.1), (18, r7.1), (19, r8.1), (20, r9.1), (21, r10.1), (22, r11.1), (23, r12.1), (24, r13.1), (25, r14.1), (26, r15.1), (15, r17.1), (16, r18.1), (5, r19.1)]) r19.2)) (
 (vl (.bool true) r4.2).bind fun r20 =>
 some (r20.1, r20.2)) := (exC_loop P (EV P) 35 27 (cA (cA (cB (cA (cB (cB (bodyOf P 35))))))) e w (kBlock 0 (kSeq P (EV P) 35 27 (cB (cB (cB (bodyOf P 35)))) (kFn P (fnOf P 35))))).trans (by kernel_rfl)
theorem laws_eqTagS_fn (x0 x1 : Value) (w : World) : fnC P (EV P) 35 #[x0, x1] w =
 (vl (.bool false) w).bind fun r1 =>
 (vl x0 r1.2).bind fun r2 =>
 (b_len P #[32] 3 #[r2.1] r2.2).bind fun r3 =>
 (vl x1 r3.2).bind fun r4 =>
 (b_len P #[32] 3 #[r4.1] r4.2).bind fun r5 =>
 (bo P .neq 3 (.tmp 7) (.tmp 9) r3.1 r5.1 r5.2).bind fun r6 =>
 cnd r6.1 (
 (vl (.bool false) r6.2).bind fun r7 =>
 some (r7.1, r7.2)) (
 (vl (.int .i64 0) r6.2).bind fun r8 =>
 laws_eqTagS_l1 (ups (env0 #[x0, x1]) [(4, r1.1), (6, r2.1), (7, r3.1), (8, r4.1), (9, r5.1), (10, r6.1), (5, r8.1)]) r8.2) := by kernel_rfl
theorem impl_keyOk_fn (x0 : Value) (w : World) : fnC P (EV P) 36 #[x0] w =
 (vl (.bool false) w).bind fun r1 =>
 (vl x0 r1.2).bind fun r2 =>
 (EV P 39 #[r2.1, (.int .i64 0), (.int .i64 3)] r2.2).bind fun r3 =>
 (vl r3.1 r3.2).bind fun r4 =>
 some (r4.1, r4.2) := by kernel_rfl
noncomputable def impl_textOk_l1 (e : Env) (w : World) : Option (Value × World) := exC P (EV P) 37 19 (.loop (cA (cA (cB (cA (cB (bodyOf P 37))))))) e w (kBlock 0 (kSeq P (EV P) 37 19 (cB (cB (bodyOf P 37))) (kFn P (fnOf P 37))))
theorem impl_textOk_l1_eq (e : Env) (w : World) : impl_textOk_l1 e w =
 (bo P .lss 3 (.tmp 6) (.tmp 5) (e 6) (e 5) w).bind fun r1 =>
 cnd r1.1 (
 (vl (e 6) r1.2).bind fun r2 =>
 (vl r2.1 r2.2).bind fun r3 =>
 (vl (e 0) r3.2).bind fun r4 =>
 (vl r3.1 r4.2).bind fun r5 =>
 (ix P 9 r4.1 r5.1 r5.2).bind fun r6 =>
 (cv P 5 3 r6.1 r6.2).bind fun r7 =>
 (EV P 39 #[r7.1, (.int .i64 33), (.int .i64 126)] r7.2).bind fun r8 =>
 (uo P .not r8.1 r8.2).bind fun r9 =>
 cnd r9.1 (
 (vl (.bool false) r9.2).bind fun r10 =>
 some (r10.1, r10.2)) (
 (bo P .add 3 (.tmp 6) (.const (.int .i64 1)) (e 6) (.int .i64 1) r9.2).bind fun r11 =>
 (vl r11.1 r11.2).bind fun r12 =>
 impl_textOk_l1 (ups e [(7, r1.1), (8, r2.1), (3, r3.1), (9, r4.1), (10, r5.1), (11, r6.1), (12, r7.1), (13, r8.1), (14, r9.1), (15, r11.1), (6, r12.1)]) r12.2)) (
 (vl (e 0) r1.2).bind fun r13 =>
 (b_len P #[9] 3 #[r13.1] r13.2).bind fun r14 =>
 (bo P .leq 3 (.tmp 17) (.const (.int .i64 8)) r14.1 (.int .i64 8) r14.2).bind fun r15 =>
 (vl r15.1 r15.2).bind fun r16 =>
 some (r16.1, r16.2)) := (exC_loop P (EV P) 37 19 (cA (cA (cB (cA (cB (bodyOf P 37)))))) e w (kBlock 0 (kSeq P (EV P) 37 19 (cB (cB (bodyOf P 37))) (kFn P (fnOf P 37))))).trans (by kernel_rfl)
theorem impl_textOk_fn (x0 : Value) (w : World) : fnC P (EV P) 37 #[x0] w =
 (vl (.bool false) w).bind fun r1 =>
 (vl x0 r1.2).bind fun r2 =>
 (b_len P #[9] 3 #[r2.1] r2.2).bind fun r3 =>
 (vl (.int .i64 0) r3.2).bind fun r4 =>
 impl_textOk_l1 (ups (env0 #[x0]) [(2, r1.1), (4, r2.1), (5, r3.1), (6, r4.1)]) r4.2 := by kernel_rfl
theorem impl_PastOk_fn (x0 : Value) (w : World) : fnC P (EV P) 38 #[x0] w =
 (bx P 34 x0 w).bind fun r1 =>
 (vl (.bool false) r1.2).bind fun r2 =>
 (fa P 34 r1.1 0 r2.2).bind fun r3 =>
 (ld P 32 r3.1 r3.2).bind fun r4 =>
 (b_len P #[32] 3 #[r4.1] r4.2).bind fun r5 =>
 (bo P .eql 3 (.tmp 5) (.const (.int .i64 4)) r5.1 (.int .i64 4) r5.2).bind fun r6 =>
 (vl r6.1 r6.2).bind fun r7 =>
 (gif r7.1 true (fa P 34 r1.1 0 r7.2) r7.2).bind fun r8 =>
 (gif r7.1 true (ld P 32 r8.1 r8.2) r8.2).bind fun r9 =>
 (gif r7.1 true (EV P 45 #[r9.1, (.func (.func 46) #[] #[])] r9.2) r9.2).bind fun r10 =>
 (gif r7.1 true (uo P .not r10.1 r10.2) r10.2).bind fun r11 =>
 (pickV r7.1 r11.1 (.bool false) r11.2).bind fun r12 =>
 (vl r12.1 r12.2).bind fun r13 =>
 some (r13.1, r13.2) := by kernel_rfl
theorem impl_within_fn (x0 x1 x2 : Value) (w : World) : fnC P (EV P) 39 #[x0, x1, x2] w =
 (vl (.bool false) w).bind fun r1 =>
 (vl x0 r1.2).bind fun r2 =>
 (vl x1 r2.2).bind fun r3 =>
 (bo P .geq 3 (.tmp 7) (.tmp 8) r2.1 r3.1 r3.2).bind fun r4 =>
 (vl r4.1 r4.2).bind fun r5 =>
 (gif r5.1 true (vl x0 r5.2) r5.2).bind fun r6 =>
 (gif r5.1 true (vl x2 r6.2) r6.2).bind fun r7 =>
 (gif r5.1 true (bo P .leq 3 (.tmp 11) (.tmp 12) r6.1 r7.1 r7.2) r7.2).bind fun r8 =>
 (pickV r5.1 r8.1 (.bool false) r8.2).bind fun r9 =>
 (vl r9.1 r9.2).bind fun r10 =>
 some (r10.1, r10.2) := by kernel_rfl
theorem impl_placeOk_fn (x0 : Value) (w : World) : fnC P (EV P) 40 #[x0] w =
 (vl (.bool false) w).bind fun r1 =>
 (vl x0 r1.2).bind fun r2 =>
 (EV P 39 #[r2.1, (.int .i64 0), (.int .i64 2)] r2.2).bind fun r3 =>
 (vl r3.1 r3.2).bind fun r4 =>
 some (r4.1, r4.2) := by kernel_rfl
noncomputable def internal_strconv_FormatInt_j1 (e : Env) (w : World) : Option (Value × World) := exC P (EV P) 41 54 (cB (cB (cB (cB (cA (cB (cA (cB (bodyOf P 41))))))))) e w (kSeq P (EV P) 41 54 (cB (cB (bodyOf P 41))) (kFn P (fnOf P 41)))
theorem internal_strconv_FormatInt_j1_eq (e : Env) (w : World) : internal_strconv_FormatInt_j1 e w =
 (vl (e 6) w).bind fun r1 =>
 (EV P 48 #[r1.1] r1.2).bind fun r2 =>
 (vl r2.1 r2.2).bind fun r3 =>
 (vl r3.1 r3.2).bind fun r4 =>
 (bo P .add 3 (.const (.int .i64 1)) (.tmp 28) (.int .i64 1) r4.1 r4.2).bind fun r5 =>
 (sl P 73 (e 5) (some (.int .i64 1)) (some r5.1) none r5.2).bind fun r6 =>
 (vl (e 6) r6.2).bind fun r7 =>
 (EV P 49 #[r6.1, r7.1] r7.2).bind fun r8 =>
 (vl (e 0) r8.2).bind fun r9 =>
 (bo P .lss 2 (.tmp 33) (.const (.int .i64 0)) r9.1 (.int .i64 0) r9.2).bind fun r10 =>
 cnd r10.1 (
 (ia P 73 (e 5) (.int .i64 0) r10.2).bind fun r11 =>
 (st P 5 r11.1 (.int .u8 45) r11.2).bind fun r12 =>
 (vl r3.1 r12.2).bind fun r13 =>
 (bo P .add 3 (.const (.int .i64 1)) (.tmp 36) (.int .i64 1) r13.1 r13.2).bind fun r14 =>
 (sl P 73 (e 5) none (some r14.1) none r14.2).bind fun r15 =>
 (cv P 61 9 r15.1 r15.2).bind fun r16 =>
 (vl r16.1 r16.2).bind fun r17 =>
 some (r17.1, r17.2)) (
 (vl r3.1 r10.2).bind fun r18 =>
 (bo P .add 3 (.const (.int .i64 1)) (.tmp 40) (.int .i64 1) r18.1 r18.2).bind fun r19 =>
 (sl P 73 (e 5) (some (.int .i64 1)) (some r19.1) none r19.2).bind fun r20 =>
 (cv P 61 9 r20.1 r20.2).bind fun r21 =>
 (vl r21.1 r21.2).bind fun r22 =>
 some (r22.1, r22.2)) := by kernel_rfl
theorem internal_strconv_FormatInt_fn (x0 x1 : Value) (w : World) : fnC P (EV P) 41 #[x0, x1] w =
 (vl (Go.Value.string { data := #[] }) w).bind fun r1 =>
 (vl x1 r1.2).bind fun r2 =>
 (bo P .eql 3 (.tmp 10) (.const (.int .i64 10)) r2.1 (.int .i64 10) r2.2).bind fun r3 =>
 cnd r3.1 (
 (vl x0 r3.2).bind fun r4 =>
 (bo P .leq 2 (.const (.int .i64 0)) (.tmp 12) (.int .i64 0) r4.1 r4.2).bind fun r5 =>
 (vl r5.1 r5.2).bind fun r6 =>
 (gif r6.1 true (vl x0 r6.2) r6.2).bind fun r7 =>
 (gif r6.1 true (bo P .lss 2 (.tmp 15) (.const (.int .i64 100)) r7.1 (.int .i64 100) r7.2) r7.2).bind fun r8 =>
 (pickV r6.1 r8.1 (.bool false) r8.2).bind fun r9 =>
 cnd r9.1 (
 (vl x0 r9.2).bind fun r10 =>
 (EV P 47 #[r10.1] r10.2).bind fun r11 =>
 (vl r11.1 r11.2).bind fun r12 =>
 some (r12.1, r12.2)) (
 (al P 73 r9.2).bind fun r13 =>
 (vl x0 r13.2).bind fun r14 =>
 (cv P 2 74 r14.1 r14.2).bind fun r15 =>
 (vl r15.1 r15.2).bind fun r16 =>
 (vl x0 r16.2).bind fun r17 =>
 (bo P .lss 2 (.tmp 22) (.const (.int .i64 0)) r17.1 (.int .i64 0) r17.2).bind fun r18 =>
 cnd r18.1 (
 (vl r16.1 r18.2).bind fun r19 =>
 (uo P .neg r19.1 r19.2).bind fun r20 =>
 (vl r20.1 r20.2).bind fun r21 =>
 internal_strconv_FormatInt_j1 (ups (env0 #[x0, x1]) [(4, r1.1), (10, r2.1), (11, r3.1), (12, r4.1), (13, r5.1), (14, r6.1), (15, r7.1), (16, r8.1), (17, r9.1), (5, r13.1), (20, r14.1), (21, r15.1), (6, r16.1), (22, r17.1), (23, r18.1), (24, r19.1), (25, r20.1), (6, r21.1)]) r21.2) (
 internal_strconv_FormatInt_j1 (ups (env0 #[x0, x1]) [(4, r1.1), (10, r2.1), (11, r3.1), (12, r4.1), (13, r5.1), (14, r6.1), (15, r7.1), (16, r8.1), (17, r9.1), (5, r13.1), (20, r14.1), (21, r15.1), (6, r16.1), (22, r17.1), (23, r18.1)]) r18.2))) (
 (vl x0 r3.2).bind fun r22 =>
 (cv P 2 74 r22.1 r22.2).bind fun r23 =>
 (vl x1 r23.2).bind fun r24 =>
 (vl x0 r24.2).bind fun r25 =>
 (bo P .lss 2 (.tmp 48) (.const (.int .i64 0)) r25.1 (.int .i64 0) r25.2).bind fun r26 =>
 (EV P 50 #[(Go.Value.slice none 0 0), r23.1, r24.1, r26.1, (.bool false)] r26.2).bind fun r27 =>
 (vl r27.1 r27.2).bind fun r28 =>
 (xt P r28.1 0 r28.2).bind fun r29 =>
 (xt P r28.1 1 r29.2).bind fun r30 =>
 (vl r29.1 r30.2).bind fun r31 =>
 (vl r30.1 r31.2).bind fun r32 =>
 (vl r32.1 r32.2).bind fun r33 =>
 (vl r33.1 r33.2).bind fun r34 =>
 some (r34.1, r34.2)) := by kernel_rfl
noncomputable def strings_Builder_Grow_j1 (e : Env) (w : World) : Option (Value × World) := exC P (EV P) 42 25 (cB (cB (bodyOf P 42))) e w (kFn P (fnOf P 42))
theorem strings_Builder_Grow_j1_eq (e : Env) (w : World) : strings_Builder_Grow_j1 e w =
 (vl (e 0) (dw w)).bind fun r2 =>
 ifP (r2.2 = (dw w)) <|
 (nk P r2.1 (dw w)).bind fun r3 =>
 ifP (r3.2 = (dw w)) <|
 (fa P 66 r3.1 1 (dw w)).bind fun r4 =>
 ifP (r4.2 = (dw w)) <|
 (ld P 61 r4.1 (dw w)).bind fun r5 =>
 ifP (r5.2 = (dw w)) <|
 (b_cap P #[61] 3 #[r5.1] (dw w)).bind fun r6 =>
 ifP (r6.2 = (dw w)) <|
 (vl (e 0) (dw w)).bind fun r7 =>
 ifP (r7.2 = (dw w)) <|
 (nk P r7.1 (dw w)).bind fun r8 =>
 ifP (r8.2 = (dw w)) <|
 (fa P 66 r8.1 1 (dw w)).bind fun r9 =>
 ifP (r9.2 = (dw w)) <|
 (ld P 61 r9.1 (dw w)).bind fun r10 =>
 ifP (r10.2 = (dw w)) <|
 (b_len P #[61] 3 #[r10.1] (dw w)).bind fun r11 =>
 ifP (r11.2 = (dw w)) <|
 (bo P .sub 3 (.tmp 13) (.tmp 18) r6.1 r11.1 (dw w)).bind fun r12 =>
 ifP (r12.2 = (dw w)) <|
 (vl (e 1) (dw w)).bind fun r13 =>
 ifP (r13.2 = (dw w)) <|
 (bo P .lss 3 (.tmp 19) (.tmp 20) r12.1 r13.1 (dw w)).bind fun r14 =>
 ifP (r14.2 = (dw w)) <|
 cnd r14.1 (
 (vl (e 0) (dw w)).bind fun r15 =>
 (vl (e 1) r15.2).bind fun r16 =>
 (EV P 52 #[r15.1, r16.1] r16.2).bind fun r17 =>
 some (.tuple #[], r17.2)) (
 some (.tuple #[], (dw w))) := by kernel_rfl
theorem strings_Builder_Grow_fn (x0 x1 : Value) (w : World) : fnC P (EV P) 42 #[x0, x1] w =
 (vl x0 w).bind fun r1 =>
 (EV P 51 #[r1.1] r1.2).bind fun r2 =>
 (vl x1 r2.2).bind fun r3 =>
 (bo P .lss 3 (.tmp 6) (.const (.int .i64 0)) r3.1 (.int .i64 0) r3.2).bind fun r4 =>
 cnd r4.1 (
 (mi P 9 (Go.Value.string { data := #[115, 116, 114, 105, 110, 103, 115, 46, 66, 117, 105, 108, 100, 101, 114, 46, 71, 114, 111, 119, 58, 32, 110, 101, 103, 97, 116, 105, 118, 101, 32, 99, 111, 117, 110, 116] }) r4.2).bind fun r5 =>
 ((none : Option (Value × World))).bind fun r6 =>
 strings_Builder_Grow_j1 (ups (env0 #[x0, x1]) [(4, r1.1), (5, r2.1), (6, r3.1), (7, r4.1), (8, r5.1)]) r6.2) (
 strings_Builder_Grow_j1 (ups (env0 #[x0, x1]) [(4, r1.1), (5, r2.1), (6, r3.1), (7, r4.1)]) r4.2) := by kernel_rfl
theorem strings_Builder_WriteString_fn (x0 x1 : Value) (w : World) : fnC P (EV P) 43 #[x0, x1] w =
 (vl (.int .i64 0) w).bind fun r1 =>
 (vl Go.Value.nilIface r1.2).bind fun r2 =>
 (vl x0 r2.2).bind fun r3 =>
 (EV P 51 #[r3.1] r3.2).bind fun r4 =>
 (vl x0 r4.2).bind fun r5 =>
 (vl x0 r5.2).bind fun r6 =>
 (nk P r6.1 r6.2).bind fun r7 =>
 (fa P 66 r7.1 1 r7.2).bind fun r8 =>
 (ld P 61 r8.1 r8.2).bind fun r9 =>
 (vl x1 r9.2).bind fun r10 =>
 (b_append P #[61, 9] 61 #[r9.1, r10.1] r10.2).bind fun r11 =>
 (nk P r5.1 r11.2).bind fun r12 =>
 (fa P 66 r12.1 1 r12.2).bind fun r13 =>
 (st P 61 r13.1 r11.1 r13.2).bind fun r14 =>
 (vl x1 r14.2).bind fun r15 =>
 (b_len P #[9] 3 #[r15.1] r15.2).bind fun r16 =>
 (vl r16.1 r16.2).bind fun r17 =>
 (vl Go.Value.nilIface r17.2).bind fun r18 =>
 some (.tuple #[r17.1, r18.1], r18.2) := by kernel_rfl
theorem strings_Builder_String_fn (x0 : Value) (w : World) : fnC P (EV P) 44 #[x0] w =
 (vl (Go.Value.string { data := #[] }) w).bind fun r1 =>
 (vl x0 (dw r1.2)).bind fun r3 =>
 ifP (r3.2 = (dw r1.2)) <|
 (nk P r3.1 (dw r1.2)).bind fun r4 =>
 ifP (r4.2 = (dw r1.2)) <|
 (fa P 66 r4.1 1 (dw r1.2)).bind fun r5 =>
 ifP (r5.2 = (dw r1.2)) <|
 (ld P 61 r5.1 (dw r1.2)).bind fun r6 =>
 ifP (r6.2 = (dw r1.2)) <|
 (vl x0 (dw r1.2)).bind fun r7 =>
 ifP (r7.2 = (dw r1.2)) <|
 (nk P r7.1 (dw r1.2)).bind fun r8 =>
 ifP (r8.2 = (dw r1.2)) <|
 (fa P 66 r8.1 1 (dw r1.2)).bind fun r9 =>
 ifP (r9.2 = (dw r1.2)) <|
 (ld P 61 r9.1 (dw r1.2)).bind fun r10 =>
 ifP (r10.2 = (dw r1.2)) <|
 (b_len P #[61] 3 #[r10.1] (dw r1.2)).bind fun r11 =>
 ifP (r11.2 = (dw r1.2)) <|
 (gn P { dst := (some 7), op := (Go.Op.call { callee := (Go.Callee.builtin Go.Builtin.unsafeSliceData), args := #[(Go.Operand.tmp 6)], argTypes := #[61] }), type := 79, pos := "builder.go:47", after := #[{ on := 3, ground := Go.Ground.data }], guard := none } (ups (env0 #[x0]) [(2, r1.1), (3, r3.1), (4, r4.1), (5, r5.1), (6, r6.1), (8, r7.1), (9, r8.1), (10, r9.1), (11, r10.1), (12, r11.1)]) (dw r1.2)).bind fun r12 =>
 ifP (b_len P #[61] 3 #[r10.1] r12.2 = some (r11.1, r12.2) ∧ ld P 61 r9.1 r12.2 = some (r10.1, r12.2) ∧ fa P 66 r8.1 1 r12.2 = some (r9.1, r12.2) ∧ nk P r7.1 r12.2 = some (r8.1, r12.2) ∧ True ∧ True ∧ True ∧ True) <|
 (gn P { dst := (some 13), op := (Go.Op.call { callee := (Go.Callee.builtin Go.Builtin.unsafeString), args := #[(Go.Operand.tmp 7), (Go.Operand.tmp 12)], argTypes := #[79, 3] }), type := 9, pos := "builder.go:47", after := #[{ on := 4, ground := Go.Ground.data }, { on := 9, ground := Go.Ground.data }], guard := none } (ups (env0 #[x0]) [(2, r1.1), (3, r3.1), (4, r4.1), (5, r5.1), (6, r6.1), (8, r7.1), (9, r8.1), (10, r9.1), (11, r10.1), (12, r11.1), (7, r12.1)]) r12.2).bind fun r13 =>
 ifP (True ∧ True ∧ True ∧ True ∧ True ∧ True ∧ True ∧ True) <|
 (vl r13.1 r13.2).bind fun r14 =>
 ifP (r14.2 = r13.2) <|
 some (r14.1, r13.2) := by kernel_rfl
theorem slices_ContainsFunc_Tag_fn (x0 x1 : Value) (w : World) : fnC P (EV P) 45 #[x0, x1] w =
 (vl (.bool false) w).bind fun r1 =>
 (vl x0 r1.2).bind fun r2 =>
 (vl x1 r2.2).bind fun r3 =>
 (EV P 53 #[r2.1, r3.1] r3.2).bind fun r4 =>
 (bo P .geq 3 (.tmp 7) (.const (.int .i64 0)) r4.1 (.int .i64 0) r4.2).bind fun r5 =>
 (vl r5.1 r5.2).bind fun r6 =>
 some (r6.1, r6.2) := by kernel_rfl
theorem impl_PastOk_1_fn (x0 : Value) (w : World) : fnC P (EV P) 46 #[x0] w =
 (bx P 31 x0 w).bind fun r1 =>
 (vl (.bool false) r1.2).bind fun r2 =>
 (ld P 31 r1.1 r2.2).bind fun r3 =>
 (EV P 31 #[r3.1] r3.2).bind fun r4 =>
 (uo P .not r4.1 r4.2).bind fun r5 =>
 (vl r5.1 r5.2).bind fun r6 =>
 some (r6.1, r6.2) := by kernel_rfl
theorem internal_strconv_small_fn (x0 : Value) (w : World) : fnC P (EV P) 47 #[x0] w =
 (vl (Go.Value.string { data := #[] }) w).bind fun r1 =>
 (vl x0 r1.2).bind fun r2 =>
 (bo P .lss 3 (.tmp 3) (.const (.int .i64 10)) r2.1 (.int .i64 10) r2.2).bind fun r3 =>
 cnd r3.1 (
 (vl x0 r3.2).bind fun r4 =>
 (vl x0 r4.2).bind fun r5 =>
 (bo P .add 3 (.tmp 6) (.const (.int .i64 1)) r5.1 (.int .i64 1) r5.2).bind fun r6 =>
 (sl P 9 (Go.Value.string { data := #[48, 49, 50, 51, 52, 53, 54, 55, 56, 57, 97, 98, 99, 100, 101, 102, 103, 104, 105, 106, 107, 108, 109, 110, 111, 112, 113, 114, 115, 116, 117, 118, 119, 120, 121, 122] }) (some r4.1) (some r6.1) none r6.2).bind fun r7 =>
 (vl r7.1 r7.2).bind fun r8 =>
 some (r8.1, r8.2)) (
 (vl x0 r3.2).bind fun r9 =>
 (bo P .mul 3 (.tmp 9) (.const (.int .i64 2)) r9.1 (.int .i64 2) r9.2).bind fun r10 =>
 (vl x0 r10.2).bind fun r11 =>
 (bo P .mul 3 (.tmp 11) (.const (.int .i64 2)) r11.1 (.int .i64 2) r11.2).bind fun r12 =>
 (bo P .add 3 (.tmp 12) (.const (.int .i64 2)) r12.1 (.int .i64 2) r12.2).bind fun r13 =>
 (sl P 9 (Go.Value.string { data := #[48, 48, 48, 49, 48, 50, 48, 51, 48, 52, 48, 53, 48, 54, 48, 55, 48, 56, 48, 57, 49, 48, 49, 49, 49, 50, 49, 51, 49, 52, 49, 53, 49, 54, 49, 55, 49, 56, 49, 57, 50, 48, 50, 49, 50, 50, 50, 51, 50, 52, 50, 53, 50, 54, 50, 55, 50, 56, 50, 57, 51, 48, 51, 49, 51, 50, 51, 51, 51, 52, 51, 53, 51, 54, 51, 55, 51, 56, 51, 57, 52, 48, 52, 49, 52, 50, 52, 51, 52, 52, 52, 53, 52, 54, 52, 55, 52, 56, 52, 57, 53, 48, 53, 49, 53, 50, 53, 51, 53, 52, 53, 53, 53, 54, 53, 55, 53, 56, 53, 57, 54, 48, 54, 49, 54, 50, 54, 51, 54, 52, 54, 53, 54, 54, 54, 55, 54, 56, 54, 57, 55, 48, 55, 49, 55, 50, 55, 51, 55, 52, 55, 53, 55, 54, 55, 55, 55, 56, 55, 57, 56, 48, 56, 49, 56, 50, 56, 51, 56, 52, 56, 53, 56, 54, 56, 55, 56, 56, 56, 57, 57, 48, 57, 49, 57, 50, 57, 51, 57, 52, 57, 53, 57, 54, 57, 55, 57, 56, 57, 57] }) (some r10.1) (some r13.1) none r13.2).bind fun r14 =>
 (vl r14.1 r14.2).bind fun r15 =>
 some (r15.1, r15.2)) := by kernel_rfl
theorem internal_strconv_numDigits_fn (x0 : Value) (w : World) : fnC P (EV P) 48 #[x0] w =
 (vl (.int .i64 0) w).bind fun r1 =>
 (vl x0 r1.2).bind fun r2 =>
 (EV P 55 #[r2.1] r2.2).bind fun r3 =>
 (EV P 54 #[r3.1] r3.2).bind fun r4 =>
 (vl r4.1 r4.2).bind fun r5 =>
 (vl r5.1 r5.2).bind fun r6 =>
 (vl x0 r6.2).bind fun r7 =>
 (vl r5.1 r7.2).bind fun r8 =>
 (ia P 83 (.pointer (some ⟨0, 0, none⟩)) r8.1 r8.2).bind fun r9 =>
 (ld P 74 r9.1 r9.2).bind fun r10 =>
 (bo P .geq 74 (.tmp 8) (.tmp 11) r7.1 r10.1 r10.2).bind fun r11 =>
 (EV P 56 #[r11.1] r11.2).bind fun r12 =>
 (bo P .add 3 (.tmp 7) (.tmp 13) r6.1 r12.1 r12.2).bind fun r13 =>
 (vl r13.1 r13.2).bind fun r14 =>
 some (r14.1, r14.2) := by kernel_rfl
end Go.Proofs.YtgdacclgooaodaaDoor.X
