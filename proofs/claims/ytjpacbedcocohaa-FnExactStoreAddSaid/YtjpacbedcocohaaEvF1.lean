/- A part of the proof: an evaluator of the model, its laws, and contracts of functions; no condition. -/
import Derived.Test.YtjpacbedcocohaaEvP
set_option linter.unusedVariables false
set_option maxRecDepth 100000
namespace Go.Proofs.Ytjpacbedcocohaa.X
open Go Go.Ev
/-! impl_PastOk -/
theorem impl_PastOk_fn (x0 : Value) (w : World) : fnC P (EV P) 17 #[x0] w =
 (bx P 25 x0 w).bind fun r1 =>
 (vl (.bool false) r1.2).bind fun r2 =>
 (fa P 25 r1.1 0 r2.2).bind fun r3 =>
 (ld P 23 r3.1 r3.2).bind fun r4 =>
 (b_len P #[23] 3 #[r4.1] r4.2).bind fun r5 =>
 (bo P .eql 3 (.tmp 5) (.const (.int .i64 4)) r5.1 (.int .i64 4) r5.2).bind fun r6 =>
 (vl r6.1 r6.2).bind fun r7 =>
 (gif r7.1 true (fa P 25 r1.1 0 r7.2) r7.2).bind fun r8 =>
 (gif r7.1 true (ld P 23 r8.1 r8.2) r8.2).bind fun r9 =>
 (gif r7.1 true (EV P 58 #[r9.1, (.func (.func 59) #[] #[])] r9.2) r9.2).bind fun r10 =>
 (gif r7.1 true (uo P .not r10.1 r10.2) r10.2).bind fun r11 =>
 (pickV r7.1 r11.1 (.bool false) r11.2).bind fun r12 =>
 (vl r12.1 r12.2).bind fun r13 =>
 some (r13.1, r13.2) := by kernel_rfl

/-! spec_PastOk -/
theorem spec_PastOk_fn (x0 : Value) (w : World) : fnC P (EV P) 18 #[x0] w =
 (bx P 25 x0 w).bind fun r1 =>
 (vl (.bool false) r1.2).bind fun r2 =>
 (ld P 25 r1.1 r2.2).bind fun r3 =>
 (EV P 56 #[r3.1] r3.2).bind fun r4 =>
 (vl r4.1 r4.2).bind fun r5 =>
 some (r5.1, r5.2) := by kernel_rfl

/-! impl_PastWithin -/
theorem impl_PastWithin_fn (x0 x1 : Value) (w : World) : fnC P (EV P) 19 #[x0, x1] w =
 (bx P 25 x0 w).bind fun r1 =>
 (bx P 25 x1 r1.2).bind fun r2 =>
 (vl (.bool false) r2.2).bind fun r3 =>
 (ld P 25 r1.1 r3.2).bind fun r4 =>
 (EV P 17 #[r4.1] r4.2).bind fun r5 =>
 (vl r5.1 r5.2).bind fun r6 =>
 (gif r6.1 true (ld P 25 r2.1 r6.2) r6.2).bind fun r7 =>
 (gif r6.1 true (EV P 17 #[r7.1] r7.2) r7.2).bind fun r8 =>
 (pickV r6.1 r8.1 (.bool false) r8.2).bind fun r9 =>
 (vl r9.1 r9.2).bind fun r10 =>
 (gif r10.1 true (ld P 25 r1.1 r10.2) r10.2).bind fun r11 =>
 (gif r10.1 true (ld P 25 r2.1 r11.2) r11.2).bind fun r12 =>
 (gif r10.1 true (EV P 61 #[r11.1, r12.1] r12.2) r12.2).bind fun r13 =>
 (pickV r10.1 r13.1 (.bool false) r13.2).bind fun r14 =>
 (vl r14.1 r14.2).bind fun r15 =>
 some (r15.1, r15.2) := by kernel_rfl

/-! impl_PastNone -/
theorem impl_PastNone_fn (w : World) : fnC P (EV P) 20 #[] w =
 (al P 25 w).bind fun r1 =>
 (ms P 23 (.int .i64 4) (.int .i64 4) r1.2).bind fun r2 =>
 (bd P 25 #[(0, r2.1)] r2.2).bind fun r3 =>
 (st P 25 r1.1 r3.1 r3.2).bind fun r4 =>
 ((ld P 25 r1.1 r4.2).bind fun r5 => ifP (r5.2 = r4.2) (some r5.1)).bind fun v6 =>
 some (v6, r4.2) := by kernel_rfl

/-! spec_DrawPastWithin -/
theorem spec_DrawPastWithin_fn (x0 : Value) (w : World) : fnC P (EV P) 21 #[x0] w =
 (al P 25 w).bind fun r1 =>
 (al P 25 r1.2).bind fun r2 =>
 (vl x0 r2.2).bind fun r3 =>
 (EV P 53 #[r3.1] r3.2).bind fun r4 =>
 (vl r4.1 r4.2).bind fun r5 =>
 (vl r5.1 r5.2).bind fun r6 =>
 (EV P 54 #[r6.1] r6.2).bind fun r7 =>
 (al P 25 r7.2).bind fun r8 =>
 (st P 25 r8.1 r7.1 r8.2).bind fun r9 =>
 (vl r5.1 r9.2).bind fun r10 =>
 (EV P 54 #[r10.1] r10.2).bind fun r11 =>
 (al P 25 r11.2).bind fun r12 =>
 (st P 25 r12.1 r11.1 r12.2).bind fun r13 =>
 (vl r5.1 r13.2).bind fun r14 =>
 (EV P 62 #[r14.1, (.int .i64 2)] r14.2).bind fun r15 =>
 (bo P .eql 3 (.tmp 14) (.const (.int .i64 0)) r15.1 (.int .i64 0) r15.2).bind fun r16 =>
 (vl r16.1 r16.2).bind fun r17 =>
 (gif r17.1 true (ld P 25 r8.1 r17.2) r17.2).bind fun r18 =>
 (gif r17.1 true (EV P 56 #[r18.1] r18.2) r18.2).bind fun r19 =>
 (pickV r17.1 r19.1 (.bool false) r19.2).bind fun r20 =>
 (vl r20.1 r20.2).bind fun r21 =>
 (gif r21.1 true (ld P 25 r12.1 r21.2) r21.2).bind fun r22 =>
 (gif r21.1 true (EV P 56 #[r22.1] r22.2) r22.2).bind fun r23 =>
 (pickV r21.1 r23.1 (.bool false) r23.2).bind fun r24 =>
 cnd r24.1 (
 (ld P 25 r8.1 (dw r24.2)).bind fun r26 =>
 ifP (r26.2 = (dw r24.2)) <|
 (ld P 25 r8.1 (dw r24.2)).bind fun r27 =>
 ifP (r27.2 = (dw r24.2)) <|
 (ld P 25 r12.1 (dw r24.2)).bind fun r28 =>
 ifP (r28.2 = (dw r24.2)) <|
 (EV P 57 #[r27.1, r28.1] (dw r24.2)).bind fun r29 =>
 ifP (True ∧ True ∧ ld P 25 r8.1 r29.2 = some (r26.1, r29.2) ∧ True) <|
 (st P 25 r1.1 r26.1 r29.2).bind fun r30 =>
 ifP (True ∧ True ∧ True ∧ True) <|
 (st P 25 r2.1 r29.1 r30.2).bind fun r31 =>
 ifP (True ∧ True ∧ True ∧ True) <|
 ((ld P 25 r1.1 r31.2).bind fun r32 => ifP (r32.2 = r31.2) (some r32.1)).bind fun v33 =>
 ((ld P 25 r2.1 r31.2).bind fun r34 => ifP (r34.2 = r31.2) (some r34.1)).bind fun v35 =>
 some (.tuple #[v33, v35], r31.2)) (
 (ld P 25 r8.1 (dw r24.2)).bind fun r37 =>
 ifP (r37.2 = (dw r24.2)) <|
 (ld P 25 r12.1 (dw r24.2)).bind fun r38 =>
 ifP (r38.2 = (dw r24.2)) <|
 (st P 25 r1.1 r37.1 (dw r24.2)).bind fun r39 =>
 ifP (ld P 25 r12.1 r39.2 = some (r38.1, r39.2) ∧ True ∧ True) <|
 (st P 25 r2.1 r38.1 r39.2).bind fun r40 =>
 ifP (True ∧ True ∧ True) <|
 ((ld P 25 r1.1 r40.2).bind fun r41 => ifP (r41.2 = r40.2) (some r41.1)).bind fun v42 =>
 ((ld P 25 r2.1 r40.2).bind fun r43 => ifP (r43.2 = r40.2) (some r43.1)).bind fun v44 =>
 some (.tuple #[v42, v44], r40.2)) := by kernel_rfl

/-! spec_PastWithin -/
theorem spec_PastWithin_fn (x0 x1 : Value) (w : World) : fnC P (EV P) 22 #[x0, x1] w =
 (bx P 25 x0 w).bind fun r1 =>
 (bx P 25 x1 r1.2).bind fun r2 =>
 (vl (.bool false) r2.2).bind fun r3 =>
 (ld P 25 r1.1 r3.2).bind fun r4 =>
 (EV P 56 #[r4.1] r4.2).bind fun r5 =>
 (vl r5.1 r5.2).bind fun r6 =>
 (gif r6.1 true (ld P 25 r2.1 r6.2) r6.2).bind fun r7 =>
 (gif r6.1 true (EV P 56 #[r7.1] r7.2) r7.2).bind fun r8 =>
 (pickV r6.1 r8.1 (.bool false) r8.2).bind fun r9 =>
 (vl r9.1 r9.2).bind fun r10 =>
 (gif r10.1 true (ld P 25 r1.1 r10.2) r10.2).bind fun r11 =>
 (gif r10.1 true (ld P 25 r2.1 r11.2) r11.2).bind fun r12 =>
 (gif r10.1 true (EV P 63 #[r11.1, r12.1] r12.2) r12.2).bind fun r13 =>
 (pickV r10.1 r13.1 (.bool false) r13.2).bind fun r14 =>
 (vl r14.1 r14.2).bind fun r15 =>
 some (r15.1, r15.2) := by kernel_rfl

/-! laws_szPast -/
theorem laws_szPast_fn (x0 x1 : Value) (w : World) : fnC P (EV P) 23 #[x0, x1] w =
 (bx P 37 x0 w).bind fun r1 =>
 (vl (.int .i64 0) r1.2).bind fun r2 =>
 (fa P 37 r1.1 0 r2.2).bind fun r3 =>
 (ld P 35 r3.1 r3.2).bind fun r4 =>
 (vl x1 r4.2).bind fun r5 =>
 (EV P 64 #[r4.1, r5.1] r5.2).bind fun r6 =>
 (vl r6.1 r6.2).bind fun r7 =>
 (vl r7.1 r7.2).bind fun r8 =>
 (bo P .lss 3 (.tmp 9) (.const (.int .i64 0)) r8.1 (.int .i64 0) r8.2).bind fun r9 =>
 cnd r9.1 (
 (vl (.int .i64 (-1)) r9.2).bind fun r10 =>
 some (r10.1, r10.2)) (
 (vl r7.1 r9.2).bind fun r11 =>
 (vl r11.1 r11.2).bind fun r12 =>
 some (r12.1, r12.2)) := by kernel_rfl

/-! laws_toPast -/
theorem laws_toPast_fn (x0 : Value) (w : World) : fnC P (EV P) 24 #[x0] w =
 (bx P 37 x0 w).bind fun r1 =>
 (al P 25 r1.2).bind fun r2 =>
 (al P 25 r2.2).bind fun r3 =>
 (fa P 37 r1.1 0 r3.2).bind fun r4 =>
 (ld P 35 r4.1 r4.2).bind fun r5 =>
 (EV P 65 #[r5.1] r5.2).bind fun r6 =>
 (fa P 25 r3.1 0 r6.2).bind fun r7 =>
 (st P 23 r7.1 r6.1 r7.2).bind fun r8 =>
 (ld P 25 r3.1 r8.2).bind fun r9 =>
 (st P 25 r2.1 r9.1 r9.2).bind fun r10 =>
 ((ld P 25 r2.1 r10.2).bind fun r11 => ifP (r11.2 = r10.2) (some r11.1)).bind fun v12 =>
 some (v12, r10.2) := by kernel_rfl

/-! laws_eqPast -/
theorem laws_eqPast_fn (x0 x1 : Value) (w : World) : fnC P (EV P) 25 #[x0, x1] w =
 (bx P 25 x0 w).bind fun r1 =>
 (bx P 25 x1 r1.2).bind fun r2 =>
 (vl (.bool false) r2.2).bind fun r3 =>
 (fa P 25 r1.1 0 r3.2).bind fun r4 =>
 (ld P 23 r4.1 r4.2).bind fun r5 =>
 (fa P 25 r2.1 0 r5.2).bind fun r6 =>
 (ld P 23 r6.1 r6.2).bind fun r7 =>
 (EV P 66 #[r5.1, r7.1] r7.2).bind fun r8 =>
 (uo P .not r8.1 r8.2).bind fun r9 =>
 cnd r9.1 (
 (vl (.bool false) r9.2).bind fun r10 =>
 some (r10.1, r10.2)) (
 (vl (.bool true) r9.2).bind fun r11 =>
 some (r11.1, r11.2)) := by kernel_rfl

/-! laws_markPast -/
theorem laws_markPast_fn (x0 x1 : Value) (w : World) : fnC P (EV P) 26 #[x0, x1] w =
 (bx P 25 x0 w).bind fun r1 =>
 (vl (.int .i64 0) r1.2).bind fun r2 =>
 (fa P 25 r1.1 0 r2.2).bind fun r3 =>
 (ld P 23 r3.1 r3.2).bind fun r4 =>
 (vl x1 r4.2).bind fun r5 =>
 (EV P 67 #[r4.1, r5.1] r5.2).bind fun r6 =>
 (vl r6.1 r6.2).bind fun r7 =>
 (vl r7.1 r7.2).bind fun r8 =>
 (vl r8.1 r8.2).bind fun r9 =>
 some (r9.1, r9.2) := by kernel_rfl

/-! laws_heldPast -/
theorem laws_heldPast_fn (x0 x1 : Value) (w : World) : fnC P (EV P) 27 #[x0, x1] w =
 (bx P 25 x0 w).bind fun r1 =>
 (vl (.int .i64 0) r1.2).bind fun r2 =>
 (fa P 25 r1.1 0 r2.2).bind fun r3 =>
 (ld P 23 r3.1 r3.2).bind fun r4 =>
 (vl x1 r4.2).bind fun r5 =>
 (EV P 68 #[r4.1, r5.1] r5.2).bind fun r6 =>
 (vl r6.1 r6.2).bind fun r7 =>
 (vl r7.1 r7.2).bind fun r8 =>
 (bo P .lss 3 (.tmp 9) (.const (.int .i64 0)) r8.1 (.int .i64 0) r8.2).bind fun r9 =>
 cnd r9.1 (
 (vl (.int .i64 (-1)) r9.2).bind fun r10 =>
 some (r10.1, r10.2)) (
 (vl r7.1 r9.2).bind fun r11 =>
 (vl r11.1 r11.2).bind fun r12 =>
 some (r12.1, r12.2)) := by kernel_rfl

/-! laws_szStore -/
theorem laws_szStore_fn (x0 x1 : Value) (w : World) : fnC P (EV P) 28 #[x0, x1] w =
 (bx P 44 x0 w).bind fun r1 =>
 (vl (.int .i64 0) r1.2).bind fun r2 =>
 (fa P 44 r1.1 0 r2.2).bind fun r3 =>
 (ld P 42 r3.1 r3.2).bind fun r4 =>
 (vl x1 r4.2).bind fun r5 =>
 (EV P 69 #[r4.1, r5.1] r5.2).bind fun r6 =>
 (vl r6.1 r6.2).bind fun r7 =>
 (vl r7.1 r7.2).bind fun r8 =>
 (bo P .lss 3 (.tmp 9) (.const (.int .i64 0)) r8.1 (.int .i64 0) r8.2).bind fun r9 =>
 cnd r9.1 (
 (vl (.int .i64 (-1)) r9.2).bind fun r10 =>
 some (r10.1, r10.2)) (
 (vl r7.1 r9.2).bind fun r11 =>
 (vl r11.1 r11.2).bind fun r12 =>
 some (r12.1, r12.2)) := by kernel_rfl

/-! spec_StoreOk -/
theorem spec_StoreOk_fn (x0 : Value) (w : World) : fnC P (EV P) 29 #[x0] w =
 (bx P 49 x0 w).bind fun r1 =>
 (vl (.bool false) r1.2).bind fun r2 =>
 (ld P 49 r1.1 r2.2).bind fun r3 =>
 (EV P 70 #[r3.1] r3.2).bind fun r4 =>
 (vl r4.1 r4.2).bind fun r5 =>
 some (r5.1, r5.2) := by kernel_rfl

/-! laws_toStore -/
theorem laws_toStore_fn (x0 : Value) (w : World) : fnC P (EV P) 30 #[x0] w =
 (bx P 44 x0 w).bind fun r1 =>
 (al P 49 r1.2).bind fun r2 =>
 (al P 49 r2.2).bind fun r3 =>
 (fa P 44 r1.1 0 r3.2).bind fun r4 =>
 (ld P 42 r4.1 r4.2).bind fun r5 =>
 (EV P 71 #[r5.1] r5.2).bind fun r6 =>
 (fa P 49 r3.1 0 r6.2).bind fun r7 =>
 (st P 47 r7.1 r6.1 r7.2).bind fun r8 =>
 (ld P 49 r3.1 r8.2).bind fun r9 =>
 (st P 49 r2.1 r9.1 r9.2).bind fun r10 =>
 ((ld P 49 r2.1 r10.2).bind fun r11 => ifP (r11.2 = r10.2) (some r11.1)).bind fun v12 =>
 some (v12, r10.2) := by kernel_rfl

/-! impl_StoreOk -/
noncomputable def impl_StoreOk_l1 (e : Env) (w : World) : Option (Value × World) := exC P (EV P) 31 33 (.loop (cA (cA (cB (cA (cB (bodyOf P 31))))))) e w (kBlock 0 (kSeq P (EV P) 31 33 (cB (cB (bodyOf P 31))) (kFn P (fnOf P 31))))
theorem impl_StoreOk_l1_eq (e : Env) (w : World) : impl_StoreOk_l1 e w =
 (bo P .lss 3 (.tmp 8) (.tmp 7) (e 8) (e 7) w).bind fun r1 =>
 cnd r1.1 (
 (vl (e 8) r1.2).bind fun r2 =>
 (ia P 47 (e 6) (e 8) r2.2).bind fun r3 =>
 (ld P 56 r3.1 r3.2).bind fun r4 =>
 (al P 56 r4.2).bind fun r5 =>
 (vl r2.1 r5.2).bind fun r6 =>
 (st P 56 r5.1 r4.1 r6.2).bind fun r7 =>
 (ld P 56 r5.1 r7.2).bind fun r8 =>
 (bd P 56 #[] r8.2).bind fun r9 =>
 (EV P 72 #[r8.1, r9.1] r9.2).bind fun r10 =>
 (uo P .not r10.1 r10.2).bind fun r11 =>
 (vl r11.1 r11.2).bind fun r12 =>
 (gif r12.1 true (ld P 56 r5.1 r12.2) r12.2).bind fun r13 =>
 (gif r12.1 true (EV P 42 #[r13.1] r13.2) r13.2).bind fun r14 =>
 (gif r12.1 true (uo P .not r14.1 r14.2) r14.2).bind fun r15 =>
 (gif r12.1 true (vl r15.1 r15.2) r15.2).bind fun r16 =>
 (gif r16.1 false (fa P 56 r5.1 0 r16.2) r16.2).bind fun r17 =>
 (gif r16.1 false (ld P 3 r17.1 r17.2) r17.2).bind fun r18 =>
 (gif r16.1 false (vl r6.1 r18.2) r18.2).bind fun r19 =>
 (gif r16.1 false (bo P .neq 3 (.tmp 23) (.tmp 24) r18.1 r19.1 r19.2) r19.2).bind fun r20 =>
 (gif r12.1 true (pickV r16.1 (.bool true) r20.1 r20.2) r20.2).bind fun r21 =>
 (pickV r12.1 r21.1 (.bool false) r21.2).bind fun r22 =>
 cnd r22.1 (
 (vl (.bool false) r22.2).bind fun r23 =>
 some (r23.1, r23.2)) (
 (bo P .add 3 (.tmp 8) (.const (.int .i64 1)) (e 8) (.int .i64 1) r22.2).bind fun r24 =>
 (vl r24.1 r24.2).bind fun r25 =>
 impl_StoreOk_l1 (ups e [(9, r1.1), (10, r2.1), (11, r3.1), (12, r4.1), (4, r5.1), (3, r6.1), (13, r8.1), (14, r9.1), (15, r10.1), (16, r11.1), (17, r12.1), (18, r13.1), (19, r14.1), (20, r15.1), (21, r16.1), (22, r17.1), (23, r18.1), (24, r19.1), (25, r20.1), (26, r21.1), (27, r22.1), (28, r24.1), (8, r25.1)]) r25.2)) (
 (fa P 49 (e 1) 0 r1.2).bind fun r26 =>
 (ld P 47 r26.1 r26.2).bind fun r27 =>
 (b_len P #[47] 3 #[r27.1] r27.2).bind fun r28 =>
 (bo P .eql 3 (.tmp 31) (.const (.int .i64 4)) r28.1 (.int .i64 4) r28.2).bind fun r29 =>
 (vl r29.1 r29.2).bind fun r30 =>
 some (r30.1, r30.2)) := (exC_loop P (EV P) 31 33 (cA (cA (cB (cA (cB (bodyOf P 31)))))) e w (kBlock 0 (kSeq P (EV P) 31 33 (cB (cB (bodyOf P 31))) (kFn P (fnOf P 31))))).trans (by kernel_rfl)
theorem impl_StoreOk_fn (x0 : Value) (w : World) : fnC P (EV P) 31 #[x0] w =
 (bx P 49 x0 w).bind fun r1 =>
 (vl (.bool false) r1.2).bind fun r2 =>
 (fa P 49 r1.1 0 r2.2).bind fun r3 =>
 (ld P 47 r3.1 r3.2).bind fun r4 =>
 (b_len P #[47] 3 #[r4.1] r4.2).bind fun r5 =>
 (vl (.int .i64 0) r5.2).bind fun r6 =>
 impl_StoreOk_l1 (ups (env0 #[x0]) [(1, r1.1), (2, r2.1), (5, r3.1), (6, r4.1), (7, r5.1), (8, r6.1)]) r6.2 := by kernel_rfl

/-! laws_eqStore -/
theorem laws_eqStore_fn (x0 x1 : Value) (w : World) : fnC P (EV P) 32 #[x0, x1] w =
 (bx P 49 x0 w).bind fun r1 =>
 (bx P 49 x1 r1.2).bind fun r2 =>
 (vl (.bool false) r2.2).bind fun r3 =>
 (fa P 49 r1.1 0 r3.2).bind fun r4 =>
 (ld P 47 r4.1 r4.2).bind fun r5 =>
 (fa P 49 r2.1 0 r5.2).bind fun r6 =>
 (ld P 47 r6.1 r6.2).bind fun r7 =>
 (EV P 73 #[r5.1, r7.1] r7.2).bind fun r8 =>
 (uo P .not r8.1 r8.2).bind fun r9 =>
 cnd r9.1 (
 (vl (.bool false) r9.2).bind fun r10 =>
 some (r10.1, r10.2)) (
 (vl (.bool true) r9.2).bind fun r11 =>
 some (r11.1, r11.2)) := by kernel_rfl

/-! spec_StoreClosed -/
theorem spec_StoreClosed_fn (x0 : Value) (w : World) : fnC P (EV P) 33 #[x0] w =
 (bx P 49 x0 w).bind fun r1 =>
 (vl (.bool false) r1.2).bind fun r2 =>
 (ld P 49 r1.1 r2.2).bind fun r3 =>
 (EV P 70 #[r3.1] r3.2).bind fun r4 =>
 (vl r4.1 r4.2).bind fun r5 =>
 (gif r5.1 true (ld P 49 r1.1 r5.2) r5.2).bind fun r6 =>
 (gif r5.1 true (EV P 74 #[r6.1] r6.2) r6.2).bind fun r7 =>
 (pickV r5.1 r7.1 (.bool false) r7.2).bind fun r8 =>
 (vl r8.1 r8.2).bind fun r9 =>
 some (r9.1, r9.2) := by kernel_rfl

/-! impl_StoreClosed -/
theorem impl_StoreClosed_fn (x0 : Value) (w : World) : fnC P (EV P) 34 #[x0] w =
 (bx P 49 x0 w).bind fun r1 =>
 (vl (.bool false) r1.2).bind fun r2 =>
 (ld P 49 r1.1 r2.2).bind fun r3 =>
 (EV P 31 #[r3.1] r3.2).bind fun r4 =>
 (vl r4.1 r4.2).bind fun r5 =>
 (gif r5.1 true (fa P 49 r1.1 0 r5.2) r5.2).bind fun r6 =>
 (gif r5.1 true (ld P 47 r6.1 r6.2) r6.2).bind fun r7 =>
 (gif r5.1 true (vl (.func (Go.Fn.func 76) #[] #[r1.1]) r7.2) r7.2).bind fun r8 =>
 (gif r5.1 true (EV P 75 #[r7.1, r8.1] r8.2) r8.2).bind fun r9 =>
 (gif r5.1 true (uo P .not r9.1 r9.2) r9.2).bind fun r10 =>
 (pickV r5.1 r10.1 (.bool false) r10.2).bind fun r11 =>
 (vl r11.1 r11.2).bind fun r12 =>
 some (r12.1, r12.2) := by kernel_rfl

/-! spec_StoreTags -/
theorem spec_StoreTags_fn (x0 : Value) (w : World) : fnC P (EV P) 35 #[x0] w =
 (bx P 49 x0 w).bind fun r1 =>
 (al P 25 r1.2).bind fun r2 =>
 (ld P 49 r1.1 r2.2).bind fun r3 =>
 (EV P 70 #[r3.1] r3.2).bind fun r4 =>
 (uo P .not r4.1 r4.2).bind fun r5 =>
 cnd r5.1 (
 (bd P 25 #[] r5.2).bind fun r6 =>
 (st P 25 r2.1 r6.1 r6.2).bind fun r7 =>
 ((ld P 25 r2.1 r7.2).bind fun r8 => ifP (r8.2 = r7.2) (some r8.1)).bind fun v9 =>
 some (v9, r7.2)) (
 (ld P 49 r1.1 r5.2).bind fun r10 =>
 (EV P 78 #[r10.1] r10.2).bind fun r11 =>
 (st P 25 r2.1 r11.1 r11.2).bind fun r12 =>
 ((ld P 25 r2.1 r12.2).bind fun r13 => ifP (r13.2 = r12.2) (some r13.1)).bind fun v14 =>
 some (v14, r12.2)) := by kernel_rfl

/-! impl_StoreTags -/
theorem impl_StoreTags_fn (x0 : Value) (w : World) : fnC P (EV P) 36 #[x0] w =
 (bx P 49 x0 w).bind fun r1 =>
 (al P 25 r1.2).bind fun r2 =>
 (ld P 49 r1.1 r2.2).bind fun r3 =>
 (EV P 31 #[r3.1] r3.2).bind fun r4 =>
 (uo P .not r4.1 r4.2).bind fun r5 =>
 cnd r5.1 (
 (bd P 25 #[] r5.2).bind fun r6 =>
 (st P 25 r2.1 r6.1 r6.2).bind fun r7 =>
 ((ld P 25 r2.1 r7.2).bind fun r8 => ifP (r8.2 = r7.2) (some r8.1)).bind fun v9 =>
 some (v9, r7.2)) (
 (ld P 49 r1.1 r5.2).bind fun r10 =>
 (EV P 77 #[r10.1] r10.2).bind fun r11 =>
 (st P 25 r2.1 r11.1 r11.2).bind fun r12 =>
 ((ld P 25 r2.1 r12.2).bind fun r13 => ifP (r13.2 = r12.2) (some r13.1)).bind fun v14 =>
 some (v14, r12.2)) := by kernel_rfl

/-! laws_markStore -/
theorem laws_markStore_fn (x0 x1 : Value) (w : World) : fnC P (EV P) 37 #[x0, x1] w =
 (bx P 49 x0 w).bind fun r1 =>
 (vl (.int .i64 0) r1.2).bind fun r2 =>
 (fa P 49 r1.1 0 r2.2).bind fun r3 =>
 (ld P 47 r3.1 r3.2).bind fun r4 =>
 (vl x1 r4.2).bind fun r5 =>
 (EV P 79 #[r4.1, r5.1] r5.2).bind fun r6 =>
 (vl r6.1 r6.2).bind fun r7 =>
 (vl r7.1 r7.2).bind fun r8 =>
 (vl r8.1 r8.2).bind fun r9 =>
 some (r9.1, r9.2) := by kernel_rfl

/-! spec_DrawStoreAdd -/
theorem spec_DrawStoreAdd_fn (x0 : Value) (w : World) : fnC P (EV P) 38 #[x0] w =
 (al P 49 w).bind fun r1 =>
 (al P 56 r1.2).bind fun r2 =>
 (vl x0 r2.2).bind fun r3 =>
 (EV P 53 #[r3.1] r3.2).bind fun r4 =>
 (vl r4.1 r4.2).bind fun r5 =>
 (vl r5.1 r5.2).bind fun r6 =>
 (EV P 80 #[r6.1] r6.2).bind fun r7 =>
 (al P 49 r7.2).bind fun r8 =>
 (st P 49 r8.1 r7.1 r8.2).bind fun r9 =>
 (ld P 49 r8.1 (dw r9.2)).bind fun r11 =>
 ifP (r11.2 = (dw r9.2)) <|
 (vl r5.1 (dw r9.2)).bind fun r12 =>
 ifP (r12.2 = (dw r9.2)) <|
 (EV P 81 #[r12.1] (dw r9.2)).bind fun r13 =>
 ifP (ld P 49 r8.1 r13.2 = some (r11.1, r13.2) ∧ True) <|
 (st P 49 r1.1 r11.1 r13.2).bind fun r14 =>
 ifP (True ∧ True) <|
 (st P 56 r2.1 r13.1 r14.2).bind fun r15 =>
 ifP (True ∧ True) <|
 ((ld P 49 r1.1 r15.2).bind fun r16 => ifP (r16.2 = r15.2) (some r16.1)).bind fun v17 =>
 ((ld P 56 r2.1 r15.2).bind fun r18 => ifP (r18.2 = r15.2) (some r18.1)).bind fun v19 =>
 some (.tuple #[v17, v19], r15.2) := by kernel_rfl

/-! impl_StoreAdd -/
noncomputable def impl_StoreAdd_j1 (e : Env) (w : World) : Option (Value × World) := exC P (EV P) 39 28 (cB (cB (cB (cB (bodyOf P 39))))) e w (kFn P (fnOf P 39))
theorem impl_StoreAdd_j1_eq (e : Env) (w : World) : impl_StoreAdd_j1 e w =
 (ld P 49 (e 5) w).bind fun r1 =>
 (st P 49 (e 4) r1.1 r1.2).bind fun r2 =>
 ((ld P 49 (e 4) r2.2).bind fun r3 => ifP (r3.2 = r2.2) (some r3.1)).bind fun v4 =>
 some (v4, r2.2) := by kernel_rfl
theorem impl_StoreAdd_fn (x0 x1 : Value) (w : World) : fnC P (EV P) 39 #[x0, x1] w =
 (bx P 49 x0 w).bind fun r1 =>
 (bx P 56 x1 r1.2).bind fun r2 =>
 (al P 49 r2.2).bind fun r3 =>
 (ld P 49 r1.1 r3.2).bind fun r4 =>
 (EV P 31 #[r4.1] r4.2).bind fun r5 =>
 (uo P .not r5.1 r5.2).bind fun r6 =>
 (vl r6.1 r6.2).bind fun r7 =>
 (gif r7.1 false (ld P 56 r2.1 r7.2) r7.2).bind fun r8 =>
 (gif r7.1 false (EV P 42 #[r8.1] r8.2) r8.2).bind fun r9 =>
 (gif r7.1 false (uo P .not r9.1 r9.2) r9.2).bind fun r10 =>
 (pickV r7.1 (.bool true) r10.1 r10.2).bind fun r11 =>
 cnd r11.1 (
 (bd P 49 #[] r11.2).bind fun r12 =>
 (st P 49 r3.1 r12.1 r12.2).bind fun r13 =>
 ((ld P 49 r3.1 r13.2).bind fun r14 => ifP (r14.2 = r13.2) (some r14.1)).bind fun v15 =>
 some (v15, r13.2)) (
 (ld P 49 r1.1 r11.2).bind fun r16 =>
 (EV P 82 #[r16.1] r16.2).bind fun r17 =>
 (al P 49 r17.2).bind fun r18 =>
 (st P 49 r18.1 r17.1 r18.2).bind fun r19 =>
 (ld P 49 r18.1 r19.2).bind fun r20 =>
 (ld P 56 r2.1 r20.2).bind fun r21 =>
 (EV P 83 #[r20.1, r21.1] r21.2).bind fun r22 =>
 cnd r22.1 (
 (fa P 49 r18.1 0 (dw r22.2)).bind fun r24 =>
 ifP (r24.2 = (dw r22.2)) <|
 (ld P 47 r24.1 (dw r22.2)).bind fun r25 =>
 ifP (r25.2 = (dw r22.2)) <|
 (fa P 56 r2.1 0 (dw r22.2)).bind fun r26 =>
 ifP (r26.2 = (dw r22.2)) <|
 (ld P 3 r26.1 (dw r22.2)).bind fun r27 =>
 ifP (r27.2 = (dw r22.2)) <|
 (ld P 56 r2.1 (dw r22.2)).bind fun r28 =>
 ifP (r28.2 = (dw r22.2)) <|
 (EV P 84 #[r28.1] (dw r22.2)).bind fun r29 =>
 ifP (True ∧ ld P 3 r26.1 r29.2 = some (r27.1, r29.2) ∧ fa P 56 r2.1 0 r29.2 = some (r26.1, r29.2) ∧ ld P 47 r24.1 r29.2 = some (r25.1, r29.2) ∧ fa P 49 r18.1 0 r29.2 = some (r24.1, r29.2) ∧ True) <|
 (ia P 47 r25.1 r27.1 r29.2).bind fun r30 =>
 ifP (r30.2 = r29.2) <|
 (st P 56 r30.1 r29.1 r29.2).bind fun r31 =>
 ifP (True ∧ True ∧ True ∧ True ∧ True ∧ True ∧ True) <|
 impl_StoreAdd_j1 (ups (env0 #[x0, x1]) [(2, r1.1), (3, r2.1), (4, r3.1), (6, r4.1), (7, r5.1), (8, r6.1), (9, r7.1), (10, r8.1), (11, r9.1), (12, r10.1), (13, r11.1), (15, r16.1), (16, r17.1), (5, r18.1), (17, r20.1), (18, r21.1), (19, r22.1), (20, r24.1), (21, r25.1), (22, r26.1), (23, r27.1), (24, r28.1), (25, r29.1), (26, r30.1)]) r31.2) (
 impl_StoreAdd_j1 (ups (env0 #[x0, x1]) [(2, r1.1), (3, r2.1), (4, r3.1), (6, r4.1), (7, r5.1), (8, r6.1), (9, r7.1), (10, r8.1), (11, r9.1), (12, r10.1), (13, r11.1), (15, r16.1), (16, r17.1), (5, r18.1), (17, r20.1), (18, r21.1), (19, r22.1)]) r22.2)) := by kernel_rfl

/-! laws_cfStore -/
noncomputable def laws_cfStore_l1 (e : Env) (w : World) : Option (Value × World) := exC P (EV P) 40 32 (.loop (cA (cA (cB (cA (cB (cB (bodyOf P 40)))))))) e w (kBlock 0 (kSeq P (EV P) 40 32 (cB (cB (cB (bodyOf P 40)))) (kFn P (fnOf P 40))))
theorem laws_cfStore_l1_eq (e : Env) (w : World) : laws_cfStore_l1 e w =
 (vl (e 5) w).bind fun r1 =>
 (fa P 49 (e 2) 0 r1.2).bind fun r2 =>
 (ld P 47 r2.1 r2.2).bind fun r3 =>
 (b_len P #[47] 3 #[r3.1] r3.2).bind fun r4 =>
 (bo P .lss 3 (.tmp 13) (.tmp 16) r1.1 r4.1 r4.2).bind fun r5 =>
 cnd r5.1 (
 (fa P 49 (e 2) 0 (dw r5.2)).bind fun r7 =>
 ifP (r7.2 = (dw r5.2)) <|
 (ld P 47 r7.1 (dw r5.2)).bind fun r8 =>
 ifP (r8.2 = (dw r5.2)) <|
 (vl (e 5) (dw r5.2)).bind fun r9 =>
 ifP (r9.2 = (dw r5.2)) <|
 (ia P 47 r8.1 r9.1 (dw r5.2)).bind fun r10 =>
 ifP (r10.2 = (dw r5.2)) <|
 (ld P 56 r10.1 (dw r5.2)).bind fun r11 =>
 ifP (r11.2 = (dw r5.2)) <|
 (fa P 49 (e 3) 0 (dw r5.2)).bind fun r12 =>
 ifP (r12.2 = (dw r5.2)) <|
 (ld P 47 r12.1 (dw r5.2)).bind fun r13 =>
 ifP (r13.2 = (dw r5.2)) <|
 (vl (e 5) (dw r5.2)).bind fun r14 =>
 ifP (r14.2 = (dw r5.2)) <|
 (ia P 47 r13.1 r14.1 (dw r5.2)).bind fun r15 =>
 ifP (r15.2 = (dw r5.2)) <|
 (ld P 56 r15.1 (dw r5.2)).bind fun r16 =>
 ifP (r16.2 = (dw r5.2)) <|
 (EV P 85 #[r11.1, r16.1] (dw r5.2)).bind fun r17 =>
 ifP (True ∧ True ∧ True ∧ True ∧ True ∧ True ∧ True ∧ True ∧ True) <|
 (uo P .not r17.1 r17.2).bind fun r18 =>
 ifP (r18.2 = r17.2) <|
 cnd r18.1 (
 (vl (.bool false) r17.2).bind fun r19 =>
 some (r19.1, r19.2)) (
 (vl (e 5) r17.2).bind fun r20 =>
 (bo P .add 3 (.tmp 18) (.const (.int .i64 1)) r20.1 (.int .i64 1) r20.2).bind fun r21 =>
 (vl r21.1 r21.2).bind fun r22 =>
 laws_cfStore_l1 (ups e [(13, r1.1), (14, r2.1), (15, r3.1), (16, r4.1), (17, r5.1), (20, r7.1), (21, r8.1), (22, r9.1), (23, r10.1), (24, r11.1), (25, r12.1), (26, r13.1), (27, r14.1), (28, r15.1), (29, r16.1), (30, r17.1), (31, r18.1), (18, r20.1), (19, r21.1), (5, r22.1)]) r22.2)) (
 (vl (.bool true) r5.2).bind fun r23 =>
 some (r23.1, r23.2)) := (exC_loop P (EV P) 40 32 (cA (cA (cB (cA (cB (cB (bodyOf P 40))))))) e w (kBlock 0 (kSeq P (EV P) 40 32 (cB (cB (cB (bodyOf P 40)))) (kFn P (fnOf P 40))))).trans (by kernel_rfl)
theorem laws_cfStore_fn (x0 x1 : Value) (w : World) : fnC P (EV P) 40 #[x0, x1] w =
 (bx P 49 x0 w).bind fun r1 =>
 (bx P 49 x1 r1.2).bind fun r2 =>
 (vl (.bool false) r2.2).bind fun r3 =>
 (fa P 49 r1.1 0 r3.2).bind fun r4 =>
 (ld P 47 r4.1 r4.2).bind fun r5 =>
 (b_len P #[47] 3 #[r5.1] r5.2).bind fun r6 =>
 (fa P 49 r2.1 0 r6.2).bind fun r7 =>
 (ld P 47 r7.1 r7.2).bind fun r8 =>
 (b_len P #[47] 3 #[r8.1] r8.2).bind fun r9 =>
 (bo P .neq 3 (.tmp 8) (.tmp 11) r6.1 r9.1 r9.2).bind fun r10 =>
 cnd r10.1 (
 (vl (.bool false) r10.2).bind fun r11 =>
 some (r11.1, r11.2)) (
 (vl (.int .i64 0) r10.2).bind fun r12 =>
 laws_cfStore_l1 (ups (env0 #[x0, x1]) [(2, r1.1), (3, r2.1), (4, r3.1), (6, r4.1), (7, r5.1), (8, r6.1), (9, r7.1), (10, r8.1), (11, r9.1), (12, r10.1), (5, r12.1)]) r12.2) := by kernel_rfl

/-! spec_StoreAdd -/
theorem spec_StoreAdd_fn (x0 x1 : Value) (w : World) : fnC P (EV P) 41 #[x0, x1] w =
 (bx P 49 x0 w).bind fun r1 =>
 (bx P 56 x1 r1.2).bind fun r2 =>
 (al P 49 r2.2).bind fun r3 =>
 (ld P 49 r1.1 r3.2).bind fun r4 =>
 (EV P 70 #[r4.1] r4.2).bind fun r5 =>
 (uo P .not r5.1 r5.2).bind fun r6 =>
 (vl r6.1 r6.2).bind fun r7 =>
 (gif r7.1 false (ld P 56 r2.1 r7.2) r7.2).bind fun r8 =>
 (gif r7.1 false (EV P 86 #[r8.1] r8.2) r8.2).bind fun r9 =>
 (gif r7.1 false (uo P .not r9.1 r9.2) r9.2).bind fun r10 =>
 (pickV r7.1 (.bool true) r10.1 r10.2).bind fun r11 =>
 cnd r11.1 (
 (bd P 49 #[] r11.2).bind fun r12 =>
 (st P 49 r3.1 r12.1 r12.2).bind fun r13 =>
 ((ld P 49 r3.1 r13.2).bind fun r14 => ifP (r14.2 = r13.2) (some r14.1)).bind fun v15 =>
 some (v15, r13.2)) (
 (ld P 49 r1.1 (dw r11.2)).bind fun r17 =>
 ifP (r17.2 = (dw r11.2)) <|
 (ld P 56 r2.1 (dw r11.2)).bind fun r18 =>
 ifP (r18.2 = (dw r11.2)) <|
 (EV P 88 #[r17.1] (dw r11.2)).bind fun r19 =>
 ifP (ld P 56 r2.1 r19.2 = some (r18.1, r19.2) ∧ True ∧ True) <|
 (EV P 87 #[r19.1, r18.1] r19.2).bind fun r20 =>
 ifP (True ∧ True ∧ True) <|
 (st P 49 r3.1 r20.1 r20.2).bind fun r21 =>
 ifP (True ∧ True ∧ True) <|
 ((ld P 49 r3.1 r21.2).bind fun r22 => ifP (r22.2 = r21.2) (some r22.1)).bind fun v23 =>
 some (v23, r21.2)) := by kernel_rfl

/-! impl_VerOk -/
theorem impl_VerOk_fn (x0 : Value) (w : World) : fnC P (EV P) 42 #[x0] w =
 (bx P 56 x0 w).bind fun r1 =>
 (vl (.bool false) r1.2).bind fun r2 =>
 (ld P 56 r1.1 (dw r2.2)).bind fun r4 =>
 ifP (r4.2 = (dw r2.2)) <|
 (EV P 89 #[r4.1] (dw r2.2)).bind fun r5 =>
 ifP (True ∧ True) <|
 (vl r5.1 r5.2).bind fun r6 =>
 ifP (r6.2 = r5.2) <|
 (gif r6.1 true (fa P 56 r1.1 1 r5.2) r5.2).bind fun r7 =>
 ifP (r7.2 = r5.2) <|
 (gif r6.1 true (ld P 32 r7.1 r5.2) r5.2).bind fun r8 =>
 ifP (r8.2 = r5.2) <|
 (gif r6.1 true (EV P 60 #[r8.1] r5.2) r5.2).bind fun r9 =>
 ifP (True ∧ True ∧ True ∧ True) <|
 (pickV r6.1 r9.1 (.bool false) r9.2).bind fun r10 =>
 ifP (r10.2 = r9.2) <|
 (vl r10.1 r9.2).bind fun r11 =>
 ifP (r11.2 = r9.2) <|
 (gif r11.1 true (fa P 56 r1.1 1 r9.2) r9.2).bind fun r12 =>
 ifP (r12.2 = r9.2) <|
 (gif r11.1 true (fa P 32 r12.1 0 r9.2) r9.2).bind fun r13 =>
 ifP (r13.2 = r9.2) <|
 (gif r11.1 true (ld P 3 r13.1 r9.2) r9.2).bind fun r14 =>
 ifP (r14.2 = r9.2) <|
 (gif r11.1 true (fa P 56 r1.1 2 r9.2) r9.2).bind fun r15 =>
 ifP (r15.2 = r9.2) <|
 (gif r11.1 true (ld P 25 r15.1 r9.2) r9.2).bind fun r16 =>
 ifP (r16.2 = r9.2) <|
 (gif r11.1 true (EV P 90 #[r16.1] r9.2) r9.2).bind fun r17 =>
 ifP (True ∧ True ∧ gif r11.1 true (ld P 3 r13.1 r17.2) r17.2 = some (r14.1, r17.2) ∧ gif r11.1 true (fa P 32 r12.1 0 r17.2) r17.2 = some (r13.1, r17.2) ∧ gif r11.1 true (fa P 56 r1.1 1 r17.2) r17.2 = some (r12.1, r17.2) ∧ True ∧ True ∧ True ∧ True) <|
 (gif r11.1 true (bo P .gtr 3 (.tmp 13) (.tmp 16) r14.1 r17.1 r17.2) r17.2).bind fun r18 =>
 ifP (r18.2 = r17.2) <|
 (pickV r11.1 r18.1 (.bool false) r17.2).bind fun r19 =>
 ifP (r19.2 = r17.2) <|
 (vl r19.1 r17.2).bind fun r20 =>
 ifP (r20.2 = r17.2) <|
 some (r20.1, r17.2) := by kernel_rfl

/-! impl_TagMax -/
theorem impl_TagMax_fn (x0 x1 : Value) (w : World) : fnC P (EV P) 43 #[x0, x1] w =
 (bx P 32 x0 w).bind fun r1 =>
 (bx P 32 x1 r1.2).bind fun r2 =>
 (al P 32 r2.2).bind fun r3 =>
 (ld P 32 r1.1 r3.2).bind fun r4 =>
 (ld P 32 r2.1 r4.2).bind fun r5 =>
 (EV P 91 #[r4.1, r5.1] r5.2).bind fun r6 =>
 cnd r6.1 (
 (ld P 32 r2.1 r6.2).bind fun r7 =>
 (st P 32 r3.1 r7.1 r7.2).bind fun r8 =>
 ((ld P 32 r3.1 r8.2).bind fun r9 => ifP (r9.2 = r8.2) (some r9.1)).bind fun v10 =>
 some (v10, r8.2)) (
 (ld P 32 r1.1 r6.2).bind fun r11 =>
 (st P 32 r3.1 r11.1 r11.2).bind fun r12 =>
 ((ld P 32 r3.1 r12.2).bind fun r13 => ifP (r13.2 = r12.2) (some r13.1)).bind fun v14 =>
 some (v14, r12.2)) := by kernel_rfl

/-! spec_DrawStoreJoin -/
theorem spec_DrawStoreJoin_fn (x0 : Value) (w : World) : fnC P (EV P) 44 #[x0] w =
 (al P 49 w).bind fun r1 =>
 (al P 49 r1.2).bind fun r2 =>
 (vl x0 r2.2).bind fun r3 =>
 (EV P 53 #[r3.1] r3.2).bind fun r4 =>
 (vl r4.1 r4.2).bind fun r5 =>
 (vl r5.1 r5.2).bind fun r6 =>
 (EV P 80 #[r6.1] r6.2).bind fun r7 =>
 (al P 49 r7.2).bind fun r8 =>
 (st P 49 r8.1 r7.1 r8.2).bind fun r9 =>
 (ld P 49 r8.1 (dw r9.2)).bind fun r11 =>
 ifP (r11.2 = (dw r9.2)) <|
 (vl r5.1 (dw r9.2)).bind fun r12 =>
 ifP (r12.2 = (dw r9.2)) <|
 (EV P 80 #[r12.1] (dw r9.2)).bind fun r13 =>
 ifP (ld P 49 r8.1 r13.2 = some (r11.1, r13.2) ∧ True) <|
 (st P 49 r1.1 r11.1 r13.2).bind fun r14 =>
 ifP (True ∧ True) <|
 (st P 49 r2.1 r13.1 r14.2).bind fun r15 =>
 ifP (True ∧ True) <|
 ((ld P 49 r1.1 r15.2).bind fun r16 => ifP (r16.2 = r15.2) (some r16.1)).bind fun v17 =>
 ((ld P 49 r2.1 r15.2).bind fun r18 => ifP (r18.2 = r15.2) (some r18.1)).bind fun v19 =>
 some (.tuple #[v17, v19], r15.2) := by kernel_rfl

/-! impl_StoreJoin -/
noncomputable def impl_StoreJoin_l1 (e : Env) (w : World) : Option (Value × World) := exC P (EV P) 45 44 (.loop (cA (cA (cB (cA (cB (cB (cB (bodyOf P 45))))))))) e w (kBlock 0 (kSeq P (EV P) 45 44 (cB (cB (cB (cB (bodyOf P 45))))) (kFn P (fnOf P 45))))
noncomputable def impl_StoreJoin_j1 (e : Env) (w : World) : Option (Value × World) := exC P (EV P) 45 44 (cB (cB (cB (cA (cA (cB (cA (cB (cB (cB (bodyOf P 45))))))))))) e w (kLoop P (EV P) 45 44 (cA (cA (cB (cA (cB (cB (cB (bodyOf P 45)))))))) (kBlock 0 (kSeq P (EV P) 45 44 (cB (cB (cB (cB (bodyOf P 45))))) (kFn P (fnOf P 45)))))
theorem impl_StoreJoin_l1_eq (e : Env) (w : World) : impl_StoreJoin_l1 e w =
 (bo P .lss 3 (.tmp 22) (.tmp 21) (e 22) (e 21) w).bind fun r1 =>
 cnd r1.1 (
 (vl (e 22) r1.2).bind fun r2 =>
 (ia P 47 (e 20) (e 22) r2.2).bind fun r3 =>
 (ld P 56 r3.1 r3.2).bind fun r4 =>
 (al P 56 r4.2).bind fun r5 =>
 (vl r2.1 r5.2).bind fun r6 =>
 (st P 56 r5.1 r4.1 r6.2).bind fun r7 =>
 (fa P 49 (e 5) 0 (dw r7.2)).bind fun r9 =>
 ifP (r9.2 = (dw r7.2)) <|
 (ld P 47 r9.1 (dw r7.2)).bind fun r10 =>
 ifP (r10.2 = (dw r7.2)) <|
 (vl r6.1 (dw r7.2)).bind fun r11 =>
 ifP (r11.2 = (dw r7.2)) <|
 (ia P 47 r10.1 r11.1 (dw r7.2)).bind fun r12 =>
 ifP (r12.2 = (dw r7.2)) <|
 (fa P 56 r12.1 1 (dw r7.2)).bind fun r13 =>
 ifP (r13.2 = (dw r7.2)) <|
 (ld P 32 r13.1 (dw r7.2)).bind fun r14 =>
 ifP (r14.2 = (dw r7.2)) <|
 (fa P 56 r5.1 1 (dw r7.2)).bind fun r15 =>
 ifP (r15.2 = (dw r7.2)) <|
 (ld P 32 r15.1 (dw r7.2)).bind fun r16 =>
 ifP (r16.2 = (dw r7.2)) <|
 (EV P 91 #[r14.1, r16.1] (dw r7.2)).bind fun r17 =>
 ifP (True ∧ True ∧ True ∧ True ∧ True ∧ True ∧ True ∧ True) <|
 cnd r17.1 (
 (fa P 49 (e 5) 0 (dw r17.2)).bind fun r19 =>
 ifP (r19.2 = (dw r17.2)) <|
 (ld P 47 r19.1 (dw r17.2)).bind fun r20 =>
 ifP (r20.2 = (dw r17.2)) <|
 (vl r6.1 (dw r17.2)).bind fun r21 =>
 ifP (r21.2 = (dw r17.2)) <|
 (ld P 56 r5.1 (dw r17.2)).bind fun r22 =>
 ifP (r22.2 = (dw r17.2)) <|
 (EV P 84 #[r22.1] (dw r17.2)).bind fun r23 =>
 ifP (True ∧ ld P 47 r19.1 r23.2 = some (r20.1, r23.2) ∧ fa P 49 (e 5) 0 r23.2 = some (r19.1, r23.2) ∧ True) <|
 (ia P 47 r20.1 r21.1 r23.2).bind fun r24 =>
 ifP (r24.2 = r23.2) <|
 (st P 56 r24.1 r23.1 r23.2).bind fun r25 =>
 ifP (True ∧ True ∧ True ∧ True ∧ True) <|
 impl_StoreJoin_j1 (ups e [(23, r1.1), (24, r2.1), (25, r3.1), (26, r4.1), (7, r5.1), (6, r6.1), (27, r9.1), (28, r10.1), (29, r11.1), (30, r12.1), (31, r13.1), (32, r14.1), (33, r15.1), (34, r16.1), (35, r17.1), (36, r19.1), (37, r20.1), (38, r21.1), (39, r22.1), (40, r23.1), (41, r24.1)]) r25.2) (
 impl_StoreJoin_j1 (ups e [(23, r1.1), (24, r2.1), (25, r3.1), (26, r4.1), (7, r5.1), (6, r6.1), (27, r9.1), (28, r10.1), (29, r11.1), (30, r12.1), (31, r13.1), (32, r14.1), (33, r15.1), (34, r16.1), (35, r17.1)]) r17.2)) (
 (ld P 49 (e 5) r1.2).bind fun r26 =>
 (st P 49 (e 4) r26.1 r26.2).bind fun r27 =>
 ((ld P 49 (e 4) r27.2).bind fun r28 => ifP (r28.2 = r27.2) (some r28.1)).bind fun v29 =>
 some (v29, r27.2)) := (exC_loop P (EV P) 45 44 (cA (cA (cB (cA (cB (cB (cB (bodyOf P 45)))))))) e w (kBlock 0 (kSeq P (EV P) 45 44 (cB (cB (cB (cB (bodyOf P 45))))) (kFn P (fnOf P 45))))).trans (by kernel_rfl)
theorem impl_StoreJoin_j1_eq (e : Env) (w : World) : impl_StoreJoin_j1 e w =
 (bo P .add 3 (.tmp 22) (.const (.int .i64 1)) (e 22) (.int .i64 1) w).bind fun r1 =>
 (vl r1.1 r1.2).bind fun r2 =>
 impl_StoreJoin_l1 (ups e [(42, r1.1), (22, r2.1)]) r2.2 := by kernel_rfl
theorem impl_StoreJoin_fn (x0 x1 : Value) (w : World) : fnC P (EV P) 45 #[x0, x1] w =
 (bx P 49 x0 w).bind fun r1 =>
 (bx P 49 x1 r1.2).bind fun r2 =>
 (al P 49 r2.2).bind fun r3 =>
 (ld P 49 r1.1 r3.2).bind fun r4 =>
 (EV P 31 #[r4.1] r4.2).bind fun r5 =>
 (uo P .not r5.1 r5.2).bind fun r6 =>
 (vl r6.1 r6.2).bind fun r7 =>
 (gif r7.1 false (ld P 49 r2.1 r7.2) r7.2).bind fun r8 =>
 (gif r7.1 false (EV P 31 #[r8.1] r8.2) r8.2).bind fun r9 =>
 (gif r7.1 false (uo P .not r9.1 r9.2) r9.2).bind fun r10 =>
 (pickV r7.1 (.bool true) r10.1 r10.2).bind fun r11 =>
 cnd r11.1 (
 (bd P 49 #[] r11.2).bind fun r12 =>
 (st P 49 r3.1 r12.1 r12.2).bind fun r13 =>
 ((ld P 49 r3.1 r13.2).bind fun r14 => ifP (r14.2 = r13.2) (some r14.1)).bind fun v15 =>
 some (v15, r13.2)) (
 (ld P 49 r1.1 r11.2).bind fun r16 =>
 (EV P 82 #[r16.1] r16.2).bind fun r17 =>
 (al P 49 r17.2).bind fun r18 =>
 (st P 49 r18.1 r17.1 r18.2).bind fun r19 =>
 (fa P 49 r2.1 0 r19.2).bind fun r20 =>
 (ld P 47 r20.1 r20.2).bind fun r21 =>
 (b_len P #[47] 3 #[r21.1] r21.2).bind fun r22 =>
 (vl (.int .i64 0) r22.2).bind fun r23 =>
 impl_StoreJoin_l1 (ups (env0 #[x0, x1]) [(2, r1.1), (3, r2.1), (4, r3.1), (8, r4.1), (9, r5.1), (10, r6.1), (11, r7.1), (12, r8.1), (13, r9.1), (14, r10.1), (15, r11.1), (17, r16.1), (18, r17.1), (5, r18.1), (19, r20.1), (20, r21.1), (21, r22.1), (22, r23.1)]) r23.2) := by kernel_rfl

/-! spec_StoreJoin -/
noncomputable def spec_StoreJoin_l1 (e : Env) (w : World) : Option (Value × World) := exC P (EV P) 46 38 (.loop (cA (cA (cB (cA (cB (cB (cB (bodyOf P 46))))))))) e w (kBlock 0 (kSeq P (EV P) 46 38 (cB (cB (cB (cB (bodyOf P 46))))) (kFn P (fnOf P 46))))
noncomputable def spec_StoreJoin_j1 (e : Env) (w : World) : Option (Value × World) := exC P (EV P) 46 38 (cB (cB (cA (cA (cB (cA (cB (cB (cB (bodyOf P 46)))))))))) e w (kLoop P (EV P) 46 38 (cA (cA (cB (cA (cB (cB (cB (bodyOf P 46)))))))) (kBlock 0 (kSeq P (EV P) 46 38 (cB (cB (cB (cB (bodyOf P 46))))) (kFn P (fnOf P 46)))))
theorem spec_StoreJoin_l1_eq (e : Env) (w : World) : spec_StoreJoin_l1 e w =
 (vl (e 6) w).bind fun r1 =>
 (bo P .lss 3 (.tmp 18) (.const (.int .i64 4)) r1.1 (.int .i64 4) r1.2).bind fun r2 =>
 cnd r2.1 (
 (fa P 49 (e 3) 0 r2.2).bind fun r3 =>
 (ld P 47 r3.1 r3.2).bind fun r4 =>
 (vl (e 6) r4.2).bind fun r5 =>
 (ia P 47 r4.1 r5.1 r5.2).bind fun r6 =>
 (fa P 56 r6.1 1 r6.2).bind fun r7 =>
 (fa P 32 r7.1 0 r7.2).bind fun r8 =>
 (ld P 3 r8.1 r8.2).bind fun r9 =>
 (bo P .gtr 3 (.tmp 28) (.const (.int .i64 0)) r9.1 (.int .i64 0) r9.2).bind fun r10 =>
 cnd r10.1 (
 (ld P 49 (e 5) (dw r10.2)).bind fun r12 =>
 ifP (r12.2 = (dw r10.2)) <|
 (fa P 49 (e 3) 0 (dw r10.2)).bind fun r13 =>
 ifP (r13.2 = (dw r10.2)) <|
 (ld P 47 r13.1 (dw r10.2)).bind fun r14 =>
 ifP (r14.2 = (dw r10.2)) <|
 (vl (e 6) (dw r10.2)).bind fun r15 =>
 ifP (r15.2 = (dw r10.2)) <|
 (ia P 47 r14.1 r15.1 (dw r10.2)).bind fun r16 =>
 ifP (r16.2 = (dw r10.2)) <|
 (ld P 56 r16.1 (dw r10.2)).bind fun r17 =>
 ifP (r17.2 = (dw r10.2)) <|
 (EV P 87 #[r12.1, r17.1] (dw r10.2)).bind fun r18 =>
 ifP (True ∧ True ∧ True ∧ True ∧ True ∧ True) <|
 (st P 49 (e 5) r18.1 r18.2).bind fun r19 =>
 ifP (True ∧ True ∧ True ∧ True ∧ True ∧ True) <|
 spec_StoreJoin_j1 (ups e [(18, r1.1), (19, r2.1), (22, r3.1), (23, r4.1), (24, r5.1), (25, r6.1), (26, r7.1), (27, r8.1), (28, r9.1), (29, r10.1), (30, r12.1), (31, r13.1), (32, r14.1), (33, r15.1), (34, r16.1), (35, r17.1), (36, r18.1)]) r19.2) (
 spec_StoreJoin_j1 (ups e [(18, r1.1), (19, r2.1), (22, r3.1), (23, r4.1), (24, r5.1), (25, r6.1), (26, r7.1), (27, r8.1), (28, r9.1), (29, r10.1)]) r10.2)) (
 (ld P 49 (e 5) r2.2).bind fun r20 =>
 (st P 49 (e 4) r20.1 r20.2).bind fun r21 =>
 ((ld P 49 (e 4) r21.2).bind fun r22 => ifP (r22.2 = r21.2) (some r22.1)).bind fun v23 =>
 some (v23, r21.2)) := (exC_loop P (EV P) 46 38 (cA (cA (cB (cA (cB (cB (cB (bodyOf P 46)))))))) e w (kBlock 0 (kSeq P (EV P) 46 38 (cB (cB (cB (cB (bodyOf P 46))))) (kFn P (fnOf P 46))))).trans (by kernel_rfl)
theorem spec_StoreJoin_j1_eq (e : Env) (w : World) : spec_StoreJoin_j1 e w =
 (vl (e 6) w).bind fun r1 =>
 (bo P .add 3 (.tmp 20) (.const (.int .i64 1)) r1.1 (.int .i64 1) r1.2).bind fun r2 =>
 (vl r2.1 r2.2).bind fun r3 =>
 spec_StoreJoin_l1 (ups e [(20, r1.1), (21, r2.1), (6, r3.1)]) r3.2 := by kernel_rfl
theorem spec_StoreJoin_fn (x0 x1 : Value) (w : World) : fnC P (EV P) 46 #[x0, x1] w =
 (bx P 49 x0 w).bind fun r1 =>
 (bx P 49 x1 r1.2).bind fun r2 =>
 (al P 49 r2.2).bind fun r3 =>
 (ld P 49 r1.1 r3.2).bind fun r4 =>
 (EV P 70 #[r4.1] r4.2).bind fun r5 =>
 (uo P .not r5.1 r5.2).bind fun r6 =>
 (vl r6.1 r6.2).bind fun r7 =>
 (gif r7.1 false (ld P 49 r2.1 r7.2) r7.2).bind fun r8 =>
 (gif r7.1 false (EV P 70 #[r8.1] r8.2) r8.2).bind fun r9 =>
 (gif r7.1 false (uo P .not r9.1 r9.2) r9.2).bind fun r10 =>
 (pickV r7.1 (.bool true) r10.1 r10.2).bind fun r11 =>
 cnd r11.1 (
 (bd P 49 #[] r11.2).bind fun r12 =>
 (st P 49 r3.1 r12.1 r12.2).bind fun r13 =>
 ((ld P 49 r3.1 r13.2).bind fun r14 => ifP (r14.2 = r13.2) (some r14.1)).bind fun v15 =>
 some (v15, r13.2)) (
 (ld P 49 r1.1 r11.2).bind fun r16 =>
 (EV P 88 #[r16.1] r16.2).bind fun r17 =>
 (al P 49 r17.2).bind fun r18 =>
 (st P 49 r18.1 r17.1 r18.2).bind fun r19 =>
 (vl (.int .i64 0) r19.2).bind fun r20 =>
 spec_StoreJoin_l1 (ups (env0 #[x0, x1]) [(2, r1.1), (3, r2.1), (4, r3.1), (7, r4.1), (8, r5.1), (9, r6.1), (10, r7.1), (11, r8.1), (12, r9.1), (13, r10.1), (14, r11.1), (16, r16.1), (17, r17.1), (5, r18.1), (6, r20.1)]) r20.2) := by kernel_rfl

/-! impl_StoreNew -/
theorem impl_StoreNew_fn (w : World) : fnC P (EV P) 47 #[] w =
 (al P 49 w).bind fun r1 =>
 (ms P 47 (.int .i64 4) (.int .i64 4) r1.2).bind fun r2 =>
 (bd P 49 #[(0, r2.1)] r2.2).bind fun r3 =>
 (st P 49 r1.1 r3.1 r3.2).bind fun r4 =>
 ((ld P 49 r1.1 r4.2).bind fun r5 => ifP (r5.2 = r4.2) (some r5.1)).bind fun v6 =>
 some (v6, r4.2) := by kernel_rfl

/-! laws_heldStore -/
theorem laws_heldStore_fn (x0 x1 : Value) (w : World) : fnC P (EV P) 48 #[x0, x1] w =
 (bx P 49 x0 w).bind fun r1 =>
 (vl (.int .i64 0) r1.2).bind fun r2 =>
 (fa P 49 r1.1 0 r2.2).bind fun r3 =>
 (ld P 47 r3.1 r3.2).bind fun r4 =>
 (vl x1 r4.2).bind fun r5 =>
 (EV P 92 #[r4.1, r5.1] r5.2).bind fun r6 =>
 (vl r6.1 r6.2).bind fun r7 =>
 (vl r7.1 r7.2).bind fun r8 =>
 (bo P .lss 3 (.tmp 9) (.const (.int .i64 0)) r8.1 (.int .i64 0) r8.2).bind fun r9 =>
 cnd r9.1 (
 (vl (.int .i64 (-1)) r9.2).bind fun r10 =>
 some (r10.1, r10.2)) (
 (vl r7.1 r9.2).bind fun r11 =>
 (vl r11.1 r11.2).bind fun r12 =>
 some (r12.1, r12.2)) := by kernel_rfl

/-! laws_szVer -/
theorem laws_szVer_fn (x0 x1 : Value) (w : World) : fnC P (EV P) 49 #[x0, x1] w =
 (bx P 70 x0 w).bind fun r1 =>
 (vl (.int .i64 0) r1.2).bind fun r2 =>
 (fa P 70 r1.1 2 r2.2).bind fun r3 =>
 (ld P 37 r3.1 r3.2).bind fun r4 =>
 (vl x1 r4.2).bind fun r5 =>
 (EV P 23 #[r4.1, r5.1] r5.2).bind fun r6 =>
 (vl r6.1 r6.2).bind fun r7 =>
 (vl r7.1 r7.2).bind fun r8 =>
 (bo P .lss 3 (.tmp 9) (.const (.int .i64 0)) r8.1 (.int .i64 0) r8.2).bind fun r9 =>
 cnd r9.1 (
 (vl (.int .i64 (-1)) r9.2).bind fun r10 =>
 some (r10.1, r10.2)) (
 (vl r7.1 r9.2).bind fun r11 =>
 (fa P 70 r1.1 3 r11.2).bind fun r12 =>
 (ld P 9 r12.1 r12.2).bind fun r13 =>
 (b_len P #[9] 3 #[r13.1] r13.2).bind fun r14 =>
 (bo P .sub 3 (.tmp 11) (.tmp 14) r11.1 r14.1 r14.2).bind fun r15 =>
 (vl r15.1 r15.2).bind fun r16 =>
 (vl r16.1 r16.2).bind fun r17 =>
 (bo P .lss 3 (.tmp 16) (.const (.int .i64 0)) r17.1 (.int .i64 0) r17.2).bind fun r18 =>
 cnd r18.1 (
 (vl (.int .i64 (-1)) r18.2).bind fun r19 =>
 some (r19.1, r19.2)) (
 (vl r16.1 r18.2).bind fun r20 =>
 (vl r20.1 r20.2).bind fun r21 =>
 some (r21.1, r21.2))) := by kernel_rfl

/-! laws_toVer -/
theorem laws_toVer_fn (x0 : Value) (w : World) : fnC P (EV P) 50 #[x0] w =
 (bx P 70 x0 w).bind fun r1 =>
 (al P 56 r1.2).bind fun r2 =>
 (al P 56 r2.2).bind fun r3 =>
 (fa P 70 r1.1 0 r3.2).bind fun r4 =>
 (ld P 3 r4.1 r4.2).bind fun r5 =>
 (fa P 56 r3.1 0 r5.2).bind fun r6 =>
 (st P 3 r6.1 r5.1 r6.2).bind fun r7 =>
 (fa P 70 r1.1 1 r7.2).bind fun r8 =>
 (ld P 68 r8.1 r8.2).bind fun r9 =>
 (EV P 93 #[r9.1] r9.2).bind fun r10 =>
 (fa P 56 r3.1 1 r10.2).bind fun r11 =>
 (st P 32 r11.1 r10.1 r11.2).bind fun r12 =>
 (fa P 70 r1.1 2 r12.2).bind fun r13 =>
 (ld P 37 r13.1 r13.2).bind fun r14 =>
 (EV P 24 #[r14.1] r14.2).bind fun r15 =>
 (fa P 56 r3.1 2 r15.2).bind fun r16 =>
 (st P 25 r16.1 r15.1 r16.2).bind fun r17 =>
 (fa P 70 r1.1 3 r17.2).bind fun r18 =>
 (ld P 9 r18.1 r18.2).bind fun r19 =>
 (fa P 56 r3.1 3 r19.2).bind fun r20 =>
 (st P 9 r20.1 r19.1 r20.2).bind fun r21 =>
 (fa P 70 r1.1 4 r21.2).bind fun r22 =>
 (ld P 4 r22.1 r22.2).bind fun r23 =>
 (fa P 56 r3.1 4 r23.2).bind fun r24 =>
 (st P 4 r24.1 r23.1 r24.2).bind fun r25 =>
 (ld P 56 r3.1 r25.2).bind fun r26 =>
 (st P 56 r2.1 r26.1 r26.2).bind fun r27 =>
 ((ld P 56 r2.1 r27.2).bind fun r28 => ifP (r28.2 = r27.2) (some r28.1)).bind fun v29 =>
 some (v29, r27.2) := by kernel_rfl

/-! laws_eqVer -/
theorem laws_eqVer_fn (x0 x1 : Value) (w : World) : fnC P (EV P) 51 #[x0, x1] w =
 (bx P 56 x0 w).bind fun r1 =>
 (bx P 56 x1 r1.2).bind fun r2 =>
 (vl (.bool false) r2.2).bind fun r3 =>
 (fa P 56 r1.1 0 r3.2).bind fun r4 =>
 (ld P 3 r4.1 r4.2).bind fun r5 =>
 (fa P 56 r2.1 0 r5.2).bind fun r6 =>
 (ld P 3 r6.1 r6.2).bind fun r7 =>
 (bo P .neq 3 (.tmp 6) (.tmp 8) r5.1 r7.1 r7.2).bind fun r8 =>
 cnd r8.1 (
 (vl (.bool false) r8.2).bind fun r9 =>
 some (r9.1, r9.2)) (
 (fa P 56 r1.1 1 r8.2).bind fun r10 =>
 (ld P 32 r10.1 r10.2).bind fun r11 =>
 (fa P 56 r2.1 1 r11.2).bind fun r12 =>
 (ld P 32 r12.1 r12.2).bind fun r13 =>
 (EV P 94 #[r11.1, r13.1] r13.2).bind fun r14 =>
 (uo P .not r14.1 r14.2).bind fun r15 =>
 cnd r15.1 (
 (vl (.bool false) r15.2).bind fun r16 =>
 some (r16.1, r16.2)) (
 (fa P 56 r1.1 2 r15.2).bind fun r17 =>
 (ld P 25 r17.1 r17.2).bind fun r18 =>
 (fa P 56 r2.1 2 r18.2).bind fun r19 =>
 (ld P 25 r19.1 r19.2).bind fun r20 =>
 (EV P 25 #[r18.1, r20.1] r20.2).bind fun r21 =>
 (uo P .not r21.1 r21.2).bind fun r22 =>
 cnd r22.1 (
 (vl (.bool false) r22.2).bind fun r23 =>
 some (r23.1, r23.2)) (
 (fa P 56 r1.1 3 r22.2).bind fun r24 =>
 (ld P 9 r24.1 r24.2).bind fun r25 =>
 (fa P 56 r2.1 3 r25.2).bind fun r26 =>
 (ld P 9 r26.1 r26.2).bind fun r27 =>
 (bo P .neq 9 (.tmp 23) (.tmp 25) r25.1 r27.1 r27.2).bind fun r28 =>
 cnd r28.1 (
 (vl (.bool false) r28.2).bind fun r29 =>
 some (r29.1, r29.2)) (
 (fa P 56 r1.1 4 r28.2).bind fun r30 =>
 (ld P 4 r30.1 r30.2).bind fun r31 =>
 (fa P 56 r2.1 4 r31.2).bind fun r32 =>
 (ld P 4 r32.1 r32.2).bind fun r33 =>
 (bo P .neq 4 (.tmp 28) (.tmp 30) r31.1 r33.1 r33.2).bind fun r34 =>
 cnd r34.1 (
 (vl (.bool false) r34.2).bind fun r35 =>
 some (r35.1, r35.2)) (
 (vl (.bool true) r34.2).bind fun r36 =>
 some (r36.1, r36.2)))))) := by kernel_rfl

/-! laws_markVer -/
theorem laws_markVer_fn (x0 x1 : Value) (w : World) : fnC P (EV P) 52 #[x0, x1] w =
 (bx P 56 x0 w).bind fun r1 =>
 (vl (.int .i64 0) r1.2).bind fun r2 =>
 (fa P 56 r1.1 2 r2.2).bind fun r3 =>
 (ld P 25 r3.1 r3.2).bind fun r4 =>
 (vl x1 r4.2).bind fun r5 =>
 (EV P 26 #[r4.1, r5.1] r5.2).bind fun r6 =>
 (vl r6.1 r6.2).bind fun r7 =>
 (vl r7.1 r7.2).bind fun r8 =>
 (vl r8.1 r8.2).bind fun r9 =>
 some (r9.1, r9.2) := by kernel_rfl

/-! spec_l20Open -/
noncomputable def spec_l20Open_j1 (e : Env) (w : World) : Option (Value × World) := exC P (EV P) 53 11 (cB (cB (bodyOf P 53))) e w (kFn P (fnOf P 53))
theorem spec_l20Open_j1_eq (e : Env) (w : World) : spec_l20Open_j1 e w =
 (vl (e 0) w).bind fun r1 =>
 (bd P 101 #[(0, r1.1)] r1.2).bind fun r2 =>
 (bx P 101 r2.1 r2.2).bind fun r3 =>
 (vl r3.1 r3.2).bind fun r4 =>
 some (r4.1, r4.2) := by kernel_rfl
theorem spec_l20Open_fn (x0 : Value) (w : World) : fnC P (EV P) 53 #[x0] w =
 (vl (Go.Value.pointer none) w).bind fun r1 =>
 (vl x0 r1.2).bind fun r2 =>
 (b_len P #[22] 3 #[r2.1] r2.2).bind fun r3 =>
 (bo P .gtr 3 (.tmp 4) (.const (.int .i64 2000)) r3.1 (.int .i64 2000) r3.2).bind fun r4 =>
 cnd r4.1 (
 (vl x0 r4.2).bind fun r5 =>
 (sl P 22 r5.1 none (some (.int .i64 2000)) none r5.2).bind fun r6 =>
 (vl r6.1 r6.2).bind fun r7 =>
 spec_l20Open_j1 (ups (env0 #[x0]) [(2, r1.1), (3, r2.1), (4, r3.1), (5, r4.1), (6, r5.1), (7, r6.1), (0, r7.1)]) r7.2) (
 spec_l20Open_j1 (ups (env0 #[x0]) [(2, r1.1), (3, r2.1), (4, r3.1), (5, r4.1)]) r4.2) := by kernel_rfl

/-! spec_l20Past -/
noncomputable def spec_l20Past_l1 (e : Env) (w : World) : Option (Value × World) := exC P (EV P) 54 34 (.loop (cA (cA (cB (cA (cB (cB (bodyOf P 54)))))))) e w (kBlock 0 (kSeq P (EV P) 54 34 (cB (cB (cB (bodyOf P 54)))) (kFn P (fnOf P 54))))
noncomputable def spec_l20Past_j1 (e : Env) (w : World) : Option (Value × World) := exC P (EV P) 54 34 (cB (cB (cB (cB (bodyOf P 54))))) e w (kFn P (fnOf P 54))
theorem spec_l20Past_l1_eq (e : Env) (w : World) : spec_l20Past_l1 e w =
 (vl (e 4) w).bind fun r1 =>
 (bo P .lss 3 (.tmp 6) (.const (.int .i64 4)) r1.1 (.int .i64 4) r1.2).bind fun r2 =>
 cnd r2.1 (
 (fa P 25 (e 3) 0 (dw r2.2)).bind fun r4 =>
 ifP (r4.2 = (dw r2.2)) <|
 (ld P 23 r4.1 (dw r2.2)).bind fun r5 =>
 ifP (r5.2 = (dw r2.2)) <|
 (vl (e 4) (dw r2.2)).bind fun r6 =>
 ifP (r6.2 = (dw r2.2)) <|
 (vl (e 0) (dw r2.2)).bind fun r7 =>
 ifP (r7.2 = (dw r2.2)) <|
 (EV P 96 #[r7.1] (dw r2.2)).bind fun r8 =>
 ifP (ld P 23 r4.1 r8.2 = some (r5.1, r8.2) ∧ fa P 25 (e 3) 0 r8.2 = some (r4.1, r8.2) ∧ True) <|
 (ia P 23 r5.1 r6.1 r8.2).bind fun r9 =>
 ifP (r9.2 = r8.2) <|
 (st P 32 r9.1 r8.1 r8.2).bind fun r10 =>
 ifP (True ∧ True ∧ True ∧ True) <|
 (vl (e 4) r10.2).bind fun r11 =>
 (bo P .add 3 (.tmp 8) (.const (.int .i64 1)) r11.1 (.int .i64 1) r11.2).bind fun r12 =>
 (vl r12.1 r12.2).bind fun r13 =>
 spec_l20Past_l1 (ups e [(6, r1.1), (7, r2.1), (10, r4.1), (11, r5.1), (12, r6.1), (13, r7.1), (14, r8.1), (15, r9.1), (8, r11.1), (9, r12.1), (4, r13.1)]) r13.2) (
 (vl (e 0) r2.2).bind fun r14 =>
 (EV P 62 #[r14.1, (.int .i64 10)] r14.2).bind fun r15 =>
 (bo P .eql 3 (.tmp 17) (.const (.int .i64 0)) r15.1 (.int .i64 0) r15.2).bind fun r16 =>
 (vl r16.1 r16.2).bind fun r17 =>
 cnd r17.1 (
 (fa P 25 (e 3) 0 r17.2).bind fun r18 =>
 (ld P 23 r18.1 r18.2).bind fun r19 =>
 (sl P 23 r19.1 (some (.int .i64 1)) none none r19.2).bind fun r20 =>
 (fa P 25 (e 3) 0 r20.2).bind fun r21 =>
 (st P 23 r21.1 r20.1 r21.2).bind fun r22 =>
 spec_l20Past_j1 (ups e [(6, r1.1), (7, r2.1), (16, r14.1), (17, r15.1), (19, r16.1), (18, r17.1), (20, r18.1), (21, r19.1), (22, r20.1), (23, r21.1)]) r22.2) (
 (bo P .eql 3 (.tmp 17) (.const (.int .i64 1)) r15.1 (.int .i64 1) r17.2).bind fun r23 =>
 (vl r23.1 r23.2).bind fun r24 =>
 cnd r24.1 (
 (fa P 25 (e 3) 0 (dw r24.2)).bind fun r26 =>
 ifP (r26.2 = (dw r24.2)) <|
 (ld P 23 r26.1 (dw r24.2)).bind fun r27 =>
 ifP (r27.2 = (dw r24.2)) <|
 (vl (e 0) (dw r24.2)).bind fun r28 =>
 ifP (r28.2 = (dw r24.2)) <|
 (vl (e 0) (dw r24.2)).bind fun r29 =>
 ifP (r29.2 = (dw r24.2)) <|
 (EV P 62 #[r28.1, (.int .i64 4)] (dw r24.2)).bind fun r30 =>
 ifP (ld P 23 r26.1 r30.2 = some (r27.1, r30.2) ∧ fa P 25 (e 3) 0 r30.2 = some (r26.1, r30.2) ∧ True) <|
 (EV P 97 #[r29.1] r30.2).bind fun r31 =>
 ifP (ld P 23 r26.1 r31.2 = some (r27.1, r31.2) ∧ fa P 25 (e 3) 0 r31.2 = some (r26.1, r31.2) ∧ True) <|
 (ia P 23 r27.1 r30.1 r31.2).bind fun r32 =>
 ifP (r32.2 = r31.2) <|
 (st P 32 r32.1 r31.1 r31.2).bind fun r33 =>
 ifP (True ∧ True ∧ True ∧ True) <|
 spec_l20Past_j1 (ups e [(6, r1.1), (7, r2.1), (16, r14.1), (17, r15.1), (19, r16.1), (18, r17.1), (25, r23.1), (24, r24.1), (26, r26.1), (27, r27.1), (28, r28.1), (30, r29.1), (29, r30.1), (31, r31.1), (32, r32.1)]) r33.2) (
 spec_l20Past_j1 (ups e [(6, r1.1), (7, r2.1), (16, r14.1), (17, r15.1), (19, r16.1), (18, r17.1), (25, r23.1), (24, r24.1)]) r24.2))) := (exC_loop P (EV P) 54 34 (cA (cA (cB (cA (cB (cB (bodyOf P 54))))))) e w (kBlock 0 (kSeq P (EV P) 54 34 (cB (cB (cB (bodyOf P 54)))) (kFn P (fnOf P 54))))).trans (by kernel_rfl)
theorem spec_l20Past_j1_eq (e : Env) (w : World) : spec_l20Past_j1 e w =
 (ld P 25 (e 3) w).bind fun r1 =>
 (st P 25 (e 2) r1.1 r1.2).bind fun r2 =>
 ((ld P 25 (e 2) r2.2).bind fun r3 => ifP (r3.2 = r2.2) (some r3.1)).bind fun v4 =>
 some (v4, r2.2) := by kernel_rfl
theorem spec_l20Past_fn (x0 : Value) (w : World) : fnC P (EV P) 54 #[x0] w =
 (al P 25 w).bind fun r1 =>
 (EV P 95 #[] r1.2).bind fun r2 =>
 (al P 25 r2.2).bind fun r3 =>
 (st P 25 r3.1 r2.1 r3.2).bind fun r4 =>
 (vl (.int .i64 0) r4.2).bind fun r5 =>
 spec_l20Past_l1 (ups (env0 #[x0]) [(2, r1.1), (5, r2.1), (3, r3.1), (4, r5.1)]) r5.2 := by kernel_rfl

/-! impl_Past_join -/
noncomputable def impl_Past_join_l1 (e : Env) (w : World) : Option (Value × World) := exC P (EV P) 55 31 (.loop (cA (cA (cB (cA (cB (cB (bodyOf P 55)))))))) e w (kBlock 0 (kSeq P (EV P) 55 31 (cB (cB (cB (bodyOf P 55)))) (kFn P (fnOf P 55))))
theorem impl_Past_join_l1_eq (e : Env) (w : World) : impl_Past_join_l1 e w =
 (bo P .lss 3 (.tmp 13) (.tmp 12) (e 13) (e 12) w).bind fun r1 =>
 cnd r1.1 (
 (vl (e 13) r1.2).bind fun r2 =>
 (ia P 23 (e 11) (e 13) r2.2).bind fun r3 =>
 (ld P 32 r3.1 r3.2).bind fun r4 =>
 (al P 32 r4.2).bind fun r5 =>
 (vl r2.1 r5.2).bind fun r6 =>
 (st P 32 r5.1 r4.1 r6.2).bind fun r7 =>
 (fa P 25 (e 5) 0 (dw r7.2)).bind fun r9 =>
 ifP (r9.2 = (dw r7.2)) <|
 (ld P 23 r9.1 (dw r7.2)).bind fun r10 =>
 ifP (r10.2 = (dw r7.2)) <|
 (vl r6.1 (dw r7.2)).bind fun r11 =>
 ifP (r11.2 = (dw r7.2)) <|
 (fa P 25 (e 5) 0 (dw r7.2)).bind fun r12 =>
 ifP (r12.2 = (dw r7.2)) <|
 (ld P 23 r12.1 (dw r7.2)).bind fun r13 =>
 ifP (r13.2 = (dw r7.2)) <|
 (vl r6.1 (dw r7.2)).bind fun r14 =>
 ifP (r14.2 = (dw r7.2)) <|
 (ia P 23 r13.1 r14.1 (dw r7.2)).bind fun r15 =>
 ifP (r15.2 = (dw r7.2)) <|
 (ld P 32 r15.1 (dw r7.2)).bind fun r16 =>
 ifP (r16.2 = (dw r7.2)) <|
 (ld P 32 r5.1 (dw r7.2)).bind fun r17 =>
 ifP (r17.2 = (dw r7.2)) <|
 (EV P 43 #[r16.1, r17.1] (dw r7.2)).bind fun r18 =>
 ifP (True ∧ True ∧ True ∧ True ∧ True ∧ ld P 23 r9.1 r18.2 = some (r10.1, r18.2) ∧ fa P 25 (e 5) 0 r18.2 = some (r9.1, r18.2) ∧ True) <|
 (ia P 23 r10.1 r11.1 r18.2).bind fun r19 =>
 ifP (r19.2 = r18.2) <|
 (st P 32 r19.1 r18.1 r18.2).bind fun r20 =>
 ifP (True ∧ True ∧ True ∧ True ∧ True ∧ True ∧ True ∧ True ∧ True) <|
 (bo P .add 3 (.tmp 13) (.const (.int .i64 1)) (e 13) (.int .i64 1) r20.2).bind fun r21 =>
 (vl r21.1 r21.2).bind fun r22 =>
 impl_Past_join_l1 (ups e [(14, r1.1), (15, r2.1), (16, r3.1), (17, r4.1), (7, r5.1), (6, r6.1), (18, r9.1), (19, r10.1), (20, r11.1), (21, r12.1), (22, r13.1), (23, r14.1), (24, r15.1), (25, r16.1), (26, r17.1), (27, r18.1), (28, r19.1), (29, r21.1), (13, r22.1)]) r22.2) (
 (ld P 25 (e 5) r1.2).bind fun r23 =>
 (st P 25 (e 4) r23.1 r23.2).bind fun r24 =>
 ((ld P 25 (e 4) r24.2).bind fun r25 => ifP (r25.2 = r24.2) (some r25.1)).bind fun v26 =>
 some (v26, r24.2)) := (exC_loop P (EV P) 55 31 (cA (cA (cB (cA (cB (cB (bodyOf P 55))))))) e w (kBlock 0 (kSeq P (EV P) 55 31 (cB (cB (cB (bodyOf P 55)))) (kFn P (fnOf P 55))))).trans (by kernel_rfl)
theorem impl_Past_join_fn (x0 x1 : Value) (w : World) : fnC P (EV P) 55 #[x0, x1] w =
 (bx P 25 x0 w).bind fun r1 =>
 (bx P 25 x1 r1.2).bind fun r2 =>
 (al P 25 r2.2).bind fun r3 =>
 (ld P 25 r1.1 r3.2).bind fun r4 =>
 (EV P 98 #[r4.1] r4.2).bind fun r5 =>
 (al P 25 r5.2).bind fun r6 =>
 (st P 25 r6.1 r5.1 r6.2).bind fun r7 =>
 (fa P 25 r2.1 0 r7.2).bind fun r8 =>
 (ld P 23 r8.1 r8.2).bind fun r9 =>
 (b_len P #[23] 3 #[r9.1] r9.2).bind fun r10 =>
 (vl (.int .i64 0) r10.2).bind fun r11 =>
 impl_Past_join_l1 (ups (env0 #[x0, x1]) [(2, r1.1), (3, r2.1), (4, r3.1), (8, r4.1), (9, r5.1), (5, r6.1), (10, r8.1), (11, r9.1), (12, r10.1), (13, r11.1)]) r11.2 := by kernel_rfl

/-! spec_l1PastOk -/
noncomputable def spec_l1PastOk_l1 (e : Env) (w : World) : Option (Value × World) := exC P (EV P) 56 22 (.loop (cA (cA (cB (cA (cB (bodyOf P 56))))))) e w (kBlock 0 (kSeq P (EV P) 56 22 (cB (cB (bodyOf P 56))) (kFn P (fnOf P 56))))
theorem spec_l1PastOk_l1_eq (e : Env) (w : World) : spec_l1PastOk_l1 e w =
 (vl (e 3) w).bind fun r1 =>
 (fa P 25 (e 1) 0 r1.2).bind fun r2 =>
 (ld P 23 r2.1 r2.2).bind fun r3 =>
 (b_len P #[23] 3 #[r3.1] r3.2).bind fun r4 =>
 (bo P .lss 3 (.tmp 4) (.tmp 7) r1.1 r4.1 r4.2).bind fun r5 =>
 cnd r5.1 (
 (fa P 25 (e 1) 0 r5.2).bind fun r6 =>
 (ld P 23 r6.1 r6.2).bind fun r7 =>
 (vl (e 3) r7.2).bind fun r8 =>
 (ia P 23 r7.1 r8.1 r8.2).bind fun r9 =>
 (ld P 32 r9.1 r9.2).bind fun r10 =>
 (EV P 99 #[r10.1] r10.2).bind fun r11 =>
 (uo P .not r11.1 r11.2).bind fun r12 =>
 cnd r12.1 (
 (vl (.bool false) r12.2).bind fun r13 =>
 some (r13.1, r13.2)) (
 (vl (e 3) r12.2).bind fun r14 =>
 (bo P .add 3 (.tmp 9) (.const (.int .i64 1)) r14.1 (.int .i64 1) r14.2).bind fun r15 =>
 (vl r15.1 r15.2).bind fun r16 =>
 spec_l1PastOk_l1 (ups e [(4, r1.1), (5, r2.1), (6, r3.1), (7, r4.1), (8, r5.1), (11, r6.1), (12, r7.1), (13, r8.1), (14, r9.1), (15, r10.1), (16, r11.1), (17, r12.1), (9, r14.1), (10, r15.1), (3, r16.1)]) r16.2)) (
 (fa P 25 (e 1) 0 r5.2).bind fun r17 =>
 (ld P 23 r17.1 r17.2).bind fun r18 =>
 (b_len P #[23] 3 #[r18.1] r18.2).bind fun r19 =>
 (bo P .eql 3 (.tmp 20) (.const (.int .i64 4)) r19.1 (.int .i64 4) r19.2).bind fun r20 =>
 (vl r20.1 r20.2).bind fun r21 =>
 some (r21.1, r21.2)) := (exC_loop P (EV P) 56 22 (cA (cA (cB (cA (cB (bodyOf P 56)))))) e w (kBlock 0 (kSeq P (EV P) 56 22 (cB (cB (bodyOf P 56))) (kFn P (fnOf P 56))))).trans (by kernel_rfl)
theorem spec_l1PastOk_fn (x0 : Value) (w : World) : fnC P (EV P) 56 #[x0] w =
 (bx P 25 x0 w).bind fun r1 =>
 (vl (.bool false) r1.2).bind fun r2 =>
 (vl (.int .i64 0) r2.2).bind fun r3 =>
 spec_l1PastOk_l1 (ups (env0 #[x0]) [(1, r1.1), (2, r2.1), (3, r3.1)]) r3.2 := by kernel_rfl

/-! spec_l1Join -/
noncomputable def spec_l1Join_l1 (e : Env) (w : World) : Option (Value × World) := exC P (EV P) 57 29 (.loop (cA (cA (cB (cA (cB (cB (bodyOf P 57)))))))) e w (kBlock 0 (kSeq P (EV P) 57 29 (cB (cB (cB (bodyOf P 57)))) (kFn P (fnOf P 57))))
theorem spec_l1Join_l1_eq (e : Env) (w : World) : spec_l1Join_l1 e w =
 (vl (e 6) w).bind fun r1 =>
 (bo P .lss 3 (.tmp 8) (.const (.int .i64 4)) r1.1 (.int .i64 4) r1.2).bind fun r2 =>
 cnd r2.1 (
 (fa P 25 (e 5) 0 (dw r2.2)).bind fun r4 =>
 ifP (r4.2 = (dw r2.2)) <|
 (ld P 23 r4.1 (dw r2.2)).bind fun r5 =>
 ifP (r5.2 = (dw r2.2)) <|
 (fa P 25 (e 2) 0 (dw r2.2)).bind fun r6 =>
 ifP (r6.2 = (dw r2.2)) <|
 (ld P 23 r6.1 (dw r2.2)).bind fun r7 =>
 ifP (r7.2 = (dw r2.2)) <|
 (vl (e 6) (dw r2.2)).bind fun r8 =>
 ifP (r8.2 = (dw r2.2)) <|
 (ia P 23 r7.1 r8.1 (dw r2.2)).bind fun r9 =>
 ifP (r9.2 = (dw r2.2)) <|
 (ld P 32 r9.1 (dw r2.2)).bind fun r10 =>
 ifP (r10.2 = (dw r2.2)) <|
 (fa P 25 (e 3) 0 (dw r2.2)).bind fun r11 =>
 ifP (r11.2 = (dw r2.2)) <|
 (ld P 23 r11.1 (dw r2.2)).bind fun r12 =>
 ifP (r12.2 = (dw r2.2)) <|
 (vl (e 6) (dw r2.2)).bind fun r13 =>
 ifP (r13.2 = (dw r2.2)) <|
 (ia P 23 r12.1 r13.1 (dw r2.2)).bind fun r14 =>
 ifP (r14.2 = (dw r2.2)) <|
 (ld P 32 r14.1 (dw r2.2)).bind fun r15 =>
 ifP (r15.2 = (dw r2.2)) <|
 (EV P 100 #[r10.1, r15.1] (dw r2.2)).bind fun r16 =>
 ifP (True ∧ True ∧ True ∧ True ∧ True ∧ True ∧ True ∧ True ∧ ld P 23 r4.1 r16.2 = some (r5.1, r16.2) ∧ fa P 25 (e 5) 0 r16.2 = some (r4.1, r16.2) ∧ True) <|
 (bs P 23 1 #[(0, r16.1)] r16.2).bind fun r17 =>
 ifP (True ∧ True ∧ True ∧ True ∧ True ∧ True ∧ True ∧ True ∧ ld P 23 r4.1 r17.2 = some (r5.1, r17.2) ∧ fa P 25 (e 5) 0 r17.2 = some (r4.1, r17.2) ∧ True) <|
 (b_append P #[23, 23] 23 #[r5.1, r17.1] r17.2).bind fun r18 =>
 ifP (True ∧ True ∧ True ∧ True ∧ True ∧ True ∧ True ∧ True ∧ True ∧ True ∧ True) <|
 (fa P 25 (e 5) 0 r18.2).bind fun r19 =>
 ifP (r19.2 = r18.2) <|
 (st P 23 r19.1 r18.1 r18.2).bind fun r20 =>
 ifP (True ∧ True ∧ True ∧ True ∧ True ∧ True ∧ True ∧ True ∧ True ∧ True ∧ True ∧ True) <|
 (vl (e 6) r20.2).bind fun r21 =>
 (bo P .add 3 (.tmp 10) (.const (.int .i64 1)) r21.1 (.int .i64 1) r21.2).bind fun r22 =>
 (vl r22.1 r22.2).bind fun r23 =>
 spec_l1Join_l1 (ups e [(8, r1.1), (9, r2.1), (12, r4.1), (13, r5.1), (14, r6.1), (15, r7.1), (16, r8.1), (17, r9.1), (18, r10.1), (19, r11.1), (20, r12.1), (21, r13.1), (22, r14.1), (23, r15.1), (24, r16.1), (25, r17.1), (26, r18.1), (27, r19.1), (10, r21.1), (11, r22.1), (6, r23.1)]) r23.2) (
 (ld P 25 (e 5) r2.2).bind fun r24 =>
 (st P 25 (e 4) r24.1 r24.2).bind fun r25 =>
 ((ld P 25 (e 4) r25.2).bind fun r26 => ifP (r26.2 = r25.2) (some r26.1)).bind fun v27 =>
 some (v27, r25.2)) := (exC_loop P (EV P) 57 29 (cA (cA (cB (cA (cB (cB (bodyOf P 57))))))) e w (kBlock 0 (kSeq P (EV P) 57 29 (cB (cB (cB (bodyOf P 57)))) (kFn P (fnOf P 57))))).trans (by kernel_rfl)
theorem spec_l1Join_fn (x0 x1 : Value) (w : World) : fnC P (EV P) 57 #[x0, x1] w =
 (bx P 25 x0 w).bind fun r1 =>
 (bx P 25 x1 r1.2).bind fun r2 =>
 (al P 25 r2.2).bind fun r3 =>
 (bd P 25 #[] r3.2).bind fun r4 =>
 (al P 25 r4.2).bind fun r5 =>
 (st P 25 r5.1 r4.1 r5.2).bind fun r6 =>
 (vl (.int .i64 0) r6.2).bind fun r7 =>
 spec_l1Join_l1 (ups (env0 #[x0, x1]) [(2, r1.1), (3, r2.1), (4, r3.1), (7, r4.1), (5, r5.1), (6, r7.1)]) r7.2 := by kernel_rfl

/-! slices_ContainsFunc_Tag -/
theorem slices_ContainsFunc_Tag_fn (x0 x1 : Value) (w : World) : fnC P (EV P) 58 #[x0, x1] w =
 (vl (.bool false) w).bind fun r1 =>
 (vl x0 r1.2).bind fun r2 =>
 (vl x1 r2.2).bind fun r3 =>
 (EV P 101 #[r2.1, r3.1] r3.2).bind fun r4 =>
 (bo P .geq 3 (.tmp 7) (.const (.int .i64 0)) r4.1 (.int .i64 0) r4.2).bind fun r5 =>
 (vl r5.1 r5.2).bind fun r6 =>
 some (r6.1, r6.2) := by kernel_rfl

/-! impl_PastOk_1 -/
theorem impl_PastOk_1_fn (x0 : Value) (w : World) : fnC P (EV P) 59 #[x0] w =
 (bx P 32 x0 w).bind fun r1 =>
 (vl (.bool false) r1.2).bind fun r2 =>
 (ld P 32 r1.1 r2.2).bind fun r3 =>
 (EV P 60 #[r3.1] r3.2).bind fun r4 =>
 (uo P .not r4.1 r4.2).bind fun r5 =>
 (vl r5.1 r5.2).bind fun r6 =>
 some (r6.1, r6.2) := by kernel_rfl

/-! impl_TagOk -/
theorem impl_TagOk_fn (x0 : Value) (w : World) : fnC P (EV P) 60 #[x0] w =
 (bx P 32 x0 w).bind fun r1 =>
 (vl (.bool false) r1.2).bind fun r2 =>
 (ld P 32 r1.1 r2.2).bind fun r3 =>
 (bd P 32 #[] r3.2).bind fun r4 =>
 (bo P .eql 32 (.tmp 3) (.tmp 4) r3.1 r4.1 r4.2).bind fun r5 =>
 (vl r5.1 r5.2).bind fun r6 =>
 (gif r6.1 false (fa P 32 r1.1 0 r6.2) r6.2).bind fun r7 =>
 (gif r6.1 false (ld P 3 r7.1 r7.2) r7.2).bind fun r8 =>
 (gif r6.1 false (EV P 102 #[r8.1, (.int .i64 1), (.int .i64 999)] r8.2) r8.2).bind fun r9 =>
 (gif r6.1 false (vl r9.1 r9.2) r9.2).bind fun r10 =>
 (gif r10.1 true (fa P 32 r1.1 1 r10.2) r10.2).bind fun r11 =>
 (gif r10.1 true (ld P 3 r11.1 r11.2) r11.2).bind fun r12 =>
 (gif r10.1 true (EV P 103 #[r12.1] r12.2) r12.2).bind fun r13 =>
 (gif r6.1 false (pickV r10.1 r13.1 (.bool false) r13.2) r13.2).bind fun r14 =>
 (pickV r6.1 (.bool true) r14.1 r14.2).bind fun r15 =>
 (vl r15.1 r15.2).bind fun r16 =>
 some (r16.1, r16.2) := by kernel_rfl

/-! impl_Past_under -/
noncomputable def impl_Past_under_l1 (e : Env) (w : World) : Option (Value × World) := exC P (EV P) 61 23 (.loop (cA (cA (cB (cA (cB (bodyOf P 61))))))) e w (kBlock 0 (kSeq P (EV P) 61 23 (cB (cB (bodyOf P 61))) (kFn P (fnOf P 61))))
theorem impl_Past_under_l1_eq (e : Env) (w : World) : impl_Past_under_l1 e w =
 (bo P .lss 3 (.tmp 10) (.tmp 9) (e 10) (e 9) w).bind fun r1 =>
 cnd r1.1 (
 (vl (e 10) r1.2).bind fun r2 =>
 (ia P 23 (e 8) (e 10) r2.2).bind fun r3 =>
 (ld P 32 r3.1 r3.2).bind fun r4 =>
 (al P 32 r4.2).bind fun r5 =>
 (vl r2.1 r5.2).bind fun r6 =>
 (st P 32 r5.1 r4.1 r6.2).bind fun r7 =>
 (fa P 25 (e 3) 0 (dw r7.2)).bind fun r9 =>
 ifP (r9.2 = (dw r7.2)) <|
 (ld P 23 r9.1 (dw r7.2)).bind fun r10 =>
 ifP (r10.2 = (dw r7.2)) <|
 (vl r6.1 (dw r7.2)).bind fun r11 =>
 ifP (r11.2 = (dw r7.2)) <|
 (ia P 23 r10.1 r11.1 (dw r7.2)).bind fun r12 =>
 ifP (r12.2 = (dw r7.2)) <|
 (ld P 32 r12.1 (dw r7.2)).bind fun r13 =>
 ifP (r13.2 = (dw r7.2)) <|
 (ld P 32 r5.1 (dw r7.2)).bind fun r14 =>
 ifP (r14.2 = (dw r7.2)) <|
 (EV P 91 #[r13.1, r14.1] (dw r7.2)).bind fun r15 =>
 ifP (True ∧ True ∧ True ∧ True ∧ True ∧ True) <|
 cnd r15.1 (
 (vl (.bool false) r15.2).bind fun r16 =>
 some (r16.1, r16.2)) (
 (bo P .add 3 (.tmp 10) (.const (.int .i64 1)) (e 10) (.int .i64 1) r15.2).bind fun r17 =>
 (vl r17.1 r17.2).bind fun r18 =>
 impl_Past_under_l1 (ups e [(11, r1.1), (12, r2.1), (13, r3.1), (14, r4.1), (6, r5.1), (5, r6.1), (15, r9.1), (16, r10.1), (17, r11.1), (18, r12.1), (19, r13.1), (20, r14.1), (21, r15.1), (22, r17.1), (10, r18.1)]) r18.2)) (
 (vl (.bool true) r1.2).bind fun r19 =>
 some (r19.1, r19.2)) := (exC_loop P (EV P) 61 23 (cA (cA (cB (cA (cB (bodyOf P 61)))))) e w (kBlock 0 (kSeq P (EV P) 61 23 (cB (cB (bodyOf P 61))) (kFn P (fnOf P 61))))).trans (by kernel_rfl)
theorem impl_Past_under_fn (x0 x1 : Value) (w : World) : fnC P (EV P) 61 #[x0, x1] w =
 (bx P 25 x0 w).bind fun r1 =>
 (bx P 25 x1 r1.2).bind fun r2 =>
 (vl (.bool false) r2.2).bind fun r3 =>
 (fa P 25 r1.1 0 r3.2).bind fun r4 =>
 (ld P 23 r4.1 r4.2).bind fun r5 =>
 (b_len P #[23] 3 #[r5.1] r5.2).bind fun r6 =>
 (vl (.int .i64 0) r6.2).bind fun r7 =>
 impl_Past_under_l1 (ups (env0 #[x0, x1]) [(2, r1.1), (3, r2.1), (4, r3.1), (7, r4.1), (8, r5.1), (9, r6.1), (10, r7.1)]) r7.2 := by kernel_rfl

/-! spec_l20Rd_pick -/
theorem spec_l20Rd_pick_fn (x0 x1 : Value) (w : World) : fnC P (EV P) 62 #[x0, x1] w =
 (vl (.int .i64 0) w).bind fun r1 =>
 (vl x0 r1.2).bind fun r2 =>
 (vl x0 r2.2).bind fun r3 =>
 (nk P r3.1 r3.2).bind fun r4 =>
 (fa P 101 r4.1 1 r4.2).bind fun r5 =>
 (ld P 3 r5.1 r5.2).bind fun r6 =>
 (bo P .add 3 (.tmp 11) (.const (.int .i64 1)) r6.1 (.int .i64 1) r6.2).bind fun r7 =>
 (nk P r2.1 r7.2).bind fun r8 =>
 (fa P 101 r8.1 1 r8.2).bind fun r9 =>
 (st P 3 r9.1 r7.1 r9.2).bind fun r10 =>
 (vl x1 r10.2).bind fun r11 =>
 (bo P .lss 3 (.tmp 15) (.const (.int .i64 1)) r11.1 (.int .i64 1) r11.2).bind fun r12 =>
 (vl r12.1 r12.2).bind fun r13 =>
 (gif r13.1 false (vl x0 r13.2) r13.2).bind fun r14 =>
 (gif r13.1 false (nk P r14.1 r14.2) r14.2).bind fun r15 =>
 (gif r13.1 false (fa P 101 r15.1 0 r15.2) r15.2).bind fun r16 =>
 (gif r13.1 false (ld P 22 r16.1 r16.2) r16.2).bind fun r17 =>
 (gif r13.1 false (b_len P #[22] 3 #[r17.1] r17.2) r17.2).bind fun r18 =>
 (gif r13.1 false (bo P .eql 3 (.tmp 22) (.const (.int .i64 0)) r18.1 (.int .i64 0) r18.2) r18.2).bind fun r19 =>
 (pickV r13.1 (.bool true) r19.1 r19.2).bind fun r20 =>
 cnd r20.1 (
 (vl (.int .i64 0) r20.2).bind fun r21 =>
 some (r21.1, r21.2)) (
 (vl x0 r20.2).bind fun r22 =>
 (nk P r22.1 r22.2).bind fun r23 =>
 (fa P 101 r23.1 1 r23.2).bind fun r24 =>
 (ld P 3 r24.1 r24.2).bind fun r25 =>
 (bo P .sub 3 (.tmp 28) (.const (.int .i64 1)) r25.1 (.int .i64 1) r25.2).bind fun r26 =>
 (vl r26.1 r26.2).bind fun r27 =>
 (vl r27.1 r27.2).bind fun r28 =>
 (vl x0 r28.2).bind fun r29 =>
 (nk P r29.1 r29.2).bind fun r30 =>
 (fa P 101 r30.1 0 r30.2).bind fun r31 =>
 (ld P 22 r31.1 r31.2).bind fun r32 =>
 (b_len P #[22] 3 #[r32.1] r32.2).bind fun r33 =>
 (bo P .lss 3 (.tmp 30) (.tmp 35) r28.1 r33.1 r33.2).bind fun r34 =>
 cnd r34.1 (
 (vl x0 r34.2).bind fun r35 =>
 (nk P r35.1 r35.2).bind fun r36 =>
 (fa P 101 r36.1 0 r36.2).bind fun r37 =>
 (ld P 22 r37.1 r37.2).bind fun r38 =>
 (vl r27.1 r38.2).bind fun r39 =>
 (ia P 22 r38.1 r39.1 r39.2).bind fun r40 =>
 (ld P 5 r40.1 r40.2).bind fun r41 =>
 (cv P 5 3 r41.1 r41.2).bind fun r42 =>
 (vl x1 r42.2).bind fun r43 =>
 (bo P .rem 3 (.tmp 44) (.tmp 45) r42.1 r43.1 r43.2).bind fun r44 =>
 (vl r44.1 r44.2).bind fun r45 =>
 some (r45.1, r45.2)) (
 (vl x0 (dw r34.2)).bind fun r47 =>
 ifP (r47.2 = (dw r34.2)) <|
 (nk P r47.1 (dw r34.2)).bind fun r48 =>
 ifP (r48.2 = (dw r34.2)) <|
 (fa P 101 r48.1 0 (dw r34.2)).bind fun r49 =>
 ifP (r49.2 = (dw r34.2)) <|
 (ld P 22 r49.1 (dw r34.2)).bind fun r50 =>
 ifP (r50.2 = (dw r34.2)) <|
 (vl r27.1 (dw r34.2)).bind fun r51 =>
 ifP (r51.2 = (dw r34.2)) <|
 (vl x0 (dw r34.2)).bind fun r52 =>
 ifP (r52.2 = (dw r34.2)) <|
 (nk P r52.1 (dw r34.2)).bind fun r53 =>
 ifP (r53.2 = (dw r34.2)) <|
 (fa P 101 r53.1 0 (dw r34.2)).bind fun r54 =>
 ifP (r54.2 = (dw r34.2)) <|
 (ld P 22 r54.1 (dw r34.2)).bind fun r55 =>
 ifP (r55.2 = (dw r34.2)) <|
 (b_len P #[22] 3 #[r55.1] (dw r34.2)).bind fun r56 =>
 ifP (r56.2 = (dw r34.2)) <|
 (bo P .rem 3 (.tmp 51) (.tmp 56) r51.1 r56.1 (dw r34.2)).bind fun r57 =>
 ifP (r57.2 = (dw r34.2)) <|
 (ia P 22 r50.1 r57.1 (dw r34.2)).bind fun r58 =>
 ifP (r58.2 = (dw r34.2)) <|
 (ld P 5 r58.1 (dw r34.2)).bind fun r59 =>
 ifP (r59.2 = (dw r34.2)) <|
 (cv P 5 3 r59.1 (dw r34.2)).bind fun r60 =>
 ifP (r60.2 = (dw r34.2)) <|
 (bo P .mul 3 (.tmp 60) (.const (.int .i64 131)) r60.1 (.int .i64 131) (dw r34.2)).bind fun r61 =>
 ifP (r61.2 = (dw r34.2)) <|
 (vl x0 (dw r34.2)).bind fun r62 =>
 ifP (r62.2 = (dw r34.2)) <|
 (nk P r62.1 (dw r34.2)).bind fun r63 =>
 ifP (r63.2 = (dw r34.2)) <|
 (fa P 101 r63.1 0 (dw r34.2)).bind fun r64 =>
 ifP (r64.2 = (dw r34.2)) <|
 (ld P 22 r64.1 (dw r34.2)).bind fun r65 =>
 ifP (r65.2 = (dw r34.2)) <|
 (vl r27.1 (dw r34.2)).bind fun r66 =>
 ifP (r66.2 = (dw r34.2)) <|
 (bo P .mul 3 (.tmp 66) (.const (.int .i64 7)) r66.1 (.int .i64 7) (dw r34.2)).bind fun r67 =>
 ifP (r67.2 = (dw r34.2)) <|
 (bo P .add 3 (.tmp 67) (.const (.int .i64 3)) r67.1 (.int .i64 3) (dw r34.2)).bind fun r68 =>
 ifP (r68.2 = (dw r34.2)) <|
 (vl x0 (dw r34.2)).bind fun r69 =>
 ifP (r69.2 = (dw r34.2)) <|
 (nk P r69.1 (dw r34.2)).bind fun r70 =>
 ifP (r70.2 = (dw r34.2)) <|
 (fa P 101 r70.1 0 (dw r34.2)).bind fun r71 =>
 ifP (r71.2 = (dw r34.2)) <|
 (ld P 22 r71.1 (dw r34.2)).bind fun r72 =>
 ifP (r72.2 = (dw r34.2)) <|
 (b_len P #[22] 3 #[r72.1] (dw r34.2)).bind fun r73 =>
 ifP (r73.2 = (dw r34.2)) <|
 (bo P .rem 3 (.tmp 68) (.tmp 73) r68.1 r73.1 (dw r34.2)).bind fun r74 =>
 ifP (r74.2 = (dw r34.2)) <|
 (ia P 22 r65.1 r74.1 (dw r34.2)).bind fun r75 =>
 ifP (r75.2 = (dw r34.2)) <|
 (ld P 5 r75.1 (dw r34.2)).bind fun r76 =>
 ifP (r76.2 = (dw r34.2)) <|
 (cv P 5 3 r76.1 (dw r34.2)).bind fun r77 =>
 ifP (r77.2 = (dw r34.2)) <|
 (bo P .mul 3 (.tmp 77) (.const (.int .i64 1117)) r77.1 (.int .i64 1117) (dw r34.2)).bind fun r78 =>
 ifP (r78.2 = (dw r34.2)) <|
 (bo P .add 3 (.tmp 61) (.tmp 78) r61.1 r78.1 (dw r34.2)).bind fun r79 =>
 ifP (r79.2 = (dw r34.2)) <|
 (vl r27.1 (dw r34.2)).bind fun r80 =>
 ifP (r80.2 = (dw r34.2)) <|
 (bo P .mul 3 (.tmp 80) (.const (.int .i64 29)) r80.1 (.int .i64 29) (dw r34.2)).bind fun r81 =>
 ifP (r81.2 = (dw r34.2)) <|
 (bo P .add 3 (.tmp 79) (.tmp 81) r79.1 r81.1 (dw r34.2)).bind fun r82 =>
 ifP (r82.2 = (dw r34.2)) <|
 (vl r27.1 (dw r34.2)).bind fun r83 =>
 ifP (r83.2 = (dw r34.2)) <|
 (vl x0 (dw r34.2)).bind fun r84 =>
 ifP (r84.2 = (dw r34.2)) <|
 (nk P r84.1 (dw r34.2)).bind fun r85 =>
 ifP (r85.2 = (dw r34.2)) <|
 (fa P 101 r85.1 0 (dw r34.2)).bind fun r86 =>
 ifP (r86.2 = (dw r34.2)) <|
 (ld P 22 r86.1 (dw r34.2)).bind fun r87 =>
 ifP (r87.2 = (dw r34.2)) <|
 (b_len P #[22] 3 #[r87.1] (dw r34.2)).bind fun r88 =>
 ifP (r88.2 = (dw r34.2)) <|
 (bo P .quo 3 (.tmp 83) (.tmp 88) r83.1 r88.1 (dw r34.2)).bind fun r89 =>
 ifP (r89.2 = (dw r34.2)) <|
 (bo P .mul 3 (.tmp 89) (.const (.int .i64 53)) r89.1 (.int .i64 53) (dw r34.2)).bind fun r90 =>
 ifP (r90.2 = (dw r34.2)) <|
 (bo P .add 3 (.tmp 82) (.tmp 90) r82.1 r90.1 (dw r34.2)).bind fun r91 =>
 ifP (r91.2 = (dw r34.2)) <|
 (vl r91.1 (dw r34.2)).bind fun r92 =>
 ifP (r92.2 = (dw r34.2)) <|
 (vl r92.1 (dw r34.2)).bind fun r93 =>
 (vl r92.1 r93.2).bind fun r94 =>
 (bo P .quo 3 (.tmp 93) (.const (.int .i64 64)) r94.1 (.int .i64 64) r94.2).bind fun r95 =>
 (bo P .xor 3 (.tmp 92) (.tmp 94) r93.1 r95.1 r95.2).bind fun r96 =>
 (vl r96.1 r96.2).bind fun r97 =>
 (vl r97.1 r97.2).bind fun r98 =>
 (vl x1 r98.2).bind fun r99 =>
 (bo P .rem 3 (.tmp 96) (.tmp 97) r98.1 r99.1 r99.2).bind fun r100 =>
 (vl r100.1 r100.2).bind fun r101 =>
 some (r101.1, r101.2))) := by kernel_rfl

/-! spec_l1Within -/
noncomputable def spec_l1Within_l1 (e : Env) (w : World) : Option (Value × World) := exC P (EV P) 63 21 (.loop (cA (cA (cB (cA (cB (bodyOf P 63))))))) e w (kBlock 0 (kSeq P (EV P) 63 21 (cB (cB (bodyOf P 63))) (kFn P (fnOf P 63))))
theorem spec_l1Within_l1_eq (e : Env) (w : World) : spec_l1Within_l1 e w =
 (vl (e 5) w).bind fun r1 =>
 (bo P .lss 3 (.tmp 6) (.const (.int .i64 4)) r1.1 (.int .i64 4) r1.2).bind fun r2 =>
 cnd r2.1 (
 (fa P 25 (e 3) 0 (dw r2.2)).bind fun r4 =>
 ifP (r4.2 = (dw r2.2)) <|
 (ld P 23 r4.1 (dw r2.2)).bind fun r5 =>
 ifP (r5.2 = (dw r2.2)) <|
 (vl (e 5) (dw r2.2)).bind fun r6 =>
 ifP (r6.2 = (dw r2.2)) <|
 (ia P 23 r5.1 r6.1 (dw r2.2)).bind fun r7 =>
 ifP (r7.2 = (dw r2.2)) <|
 (ld P 32 r7.1 (dw r2.2)).bind fun r8 =>
 ifP (r8.2 = (dw r2.2)) <|
 (fa P 25 (e 2) 0 (dw r2.2)).bind fun r9 =>
 ifP (r9.2 = (dw r2.2)) <|
 (ld P 23 r9.1 (dw r2.2)).bind fun r10 =>
 ifP (r10.2 = (dw r2.2)) <|
 (vl (e 5) (dw r2.2)).bind fun r11 =>
 ifP (r11.2 = (dw r2.2)) <|
 (ia P 23 r10.1 r11.1 (dw r2.2)).bind fun r12 =>
 ifP (r12.2 = (dw r2.2)) <|
 (ld P 32 r12.1 (dw r2.2)).bind fun r13 =>
 ifP (r13.2 = (dw r2.2)) <|
 (EV P 104 #[r8.1, r13.1] (dw r2.2)).bind fun r14 =>
 ifP (True ∧ True ∧ True ∧ True ∧ True ∧ True ∧ True ∧ True ∧ True) <|
 cnd r14.1 (
 (vl (.bool false) r14.2).bind fun r15 =>
 some (r15.1, r15.2)) (
 (vl (e 5) r14.2).bind fun r16 =>
 (bo P .add 3 (.tmp 8) (.const (.int .i64 1)) r16.1 (.int .i64 1) r16.2).bind fun r17 =>
 (vl r17.1 r17.2).bind fun r18 =>
 spec_l1Within_l1 (ups e [(6, r1.1), (7, r2.1), (10, r4.1), (11, r5.1), (12, r6.1), (13, r7.1), (14, r8.1), (15, r9.1), (16, r10.1), (17, r11.1), (18, r12.1), (19, r13.1), (20, r14.1), (8, r16.1), (9, r17.1), (5, r18.1)]) r18.2)) (
 (vl (.bool true) r2.2).bind fun r19 =>
 some (r19.1, r19.2)) := (exC_loop P (EV P) 63 21 (cA (cA (cB (cA (cB (bodyOf P 63)))))) e w (kBlock 0 (kSeq P (EV P) 63 21 (cB (cB (bodyOf P 63))) (kFn P (fnOf P 63))))).trans (by kernel_rfl)
theorem spec_l1Within_fn (x0 x1 : Value) (w : World) : fnC P (EV P) 63 #[x0, x1] w =
 (bx P 25 x0 w).bind fun r1 =>
 (bx P 25 x1 r1.2).bind fun r2 =>
 (vl (.bool false) r2.2).bind fun r3 =>
 (vl (.int .i64 0) r3.2).bind fun r4 =>
 spec_l1Within_l1 (ups (env0 #[x0, x1]) [(2, r1.1), (3, r2.1), (4, r3.1), (5, r4.1)]) r4.2 := by kernel_rfl

/-! laws_szTagS -/
theorem laws_szTagS_fn (x0 x1 : Value) (w : World) : fnC P (EV P) 64 #[x0, x1] w =
 (vl (.int .i64 0) w).bind fun r1 =>
 (vl x1 r1.2).bind fun r2 =>
 (vl x0 r2.2).bind fun r3 =>
 (b_len P #[35] 3 #[r3.1] r3.2).bind fun r4 =>
 (bo P .sub 3 (.tmp 5) (.tmp 7) r2.1 r4.1 r4.2).bind fun r5 =>
 (vl r5.1 r5.2).bind fun r6 =>
 (vl r6.1 r6.2).bind fun r7 =>
 (bo P .lss 3 (.tmp 9) (.const (.int .i64 0)) r7.1 (.int .i64 0) r7.2).bind fun r8 =>
 cnd r8.1 (
 (vl (.int .i64 (-1)) r8.2).bind fun r9 =>
 some (r9.1, r9.2)) (
 (vl r6.1 r8.2).bind fun r10 =>
 (vl r10.1 r10.2).bind fun r11 =>
 some (r11.1, r11.2)) := by kernel_rfl

/-! laws_toTagS -/
noncomputable def laws_toTagS_l1 (e : Env) (w : World) : Option (Value × World) := exC P (EV P) 65 23 (.loop (cA (cA (cB (cA (cB (cB (bodyOf P 65)))))))) e w (kBlock 0 (kSeq P (EV P) 65 23 (cB (cB (cB (bodyOf P 65)))) (kFn P (fnOf P 65))))
theorem laws_toTagS_l1_eq (e : Env) (w : World) : laws_toTagS_l1 e w =
 (vl (e 4) w).bind fun r1 =>
 (vl (e 0) r1.2).bind fun r2 =>
 (b_len P #[35] 3 #[r2.1] r2.2).bind fun r3 =>
 (bo P .lss 3 (.tmp 8) (.tmp 10) r1.1 r3.1 r3.2).bind fun r4 =>
 cnd r4.1 (
 (vl (e 3) r4.2).bind fun r5 =>
 (vl (e 4) r5.2).bind fun r6 =>
 (vl (e 0) r6.2).bind fun r7 =>
 (vl (e 4) r7.2).bind fun r8 =>
 (ia P 35 r7.1 r8.1 r8.2).bind fun r9 =>
 (ld P 68 r9.1 r9.2).bind fun r10 =>
 (EV P 93 #[r10.1] r10.2).bind fun r11 =>
 (ia P 23 r5.1 r6.1 r11.2).bind fun r12 =>
 (st P 32 r12.1 r11.1 r12.2).bind fun r13 =>
 (vl (e 4) r13.2).bind fun r14 =>
 (bo P .add 3 (.tmp 12) (.const (.int .i64 1)) r14.1 (.int .i64 1) r14.2).bind fun r15 =>
 (vl r15.1 r15.2).bind fun r16 =>
 laws_toTagS_l1 (ups e [(8, r1.1), (9, r2.1), (10, r3.1), (11, r4.1), (14, r5.1), (15, r6.1), (16, r7.1), (17, r8.1), (18, r9.1), (19, r10.1), (20, r11.1), (21, r12.1), (12, r14.1), (13, r15.1), (4, r16.1)]) r16.2) (
 (vl (e 3) r4.2).bind fun r17 =>
 (vl r17.1 r17.2).bind fun r18 =>
 some (r18.1, r18.2)) := (exC_loop P (EV P) 65 23 (cA (cA (cB (cA (cB (cB (bodyOf P 65))))))) e w (kBlock 0 (kSeq P (EV P) 65 23 (cB (cB (cB (bodyOf P 65)))) (kFn P (fnOf P 65))))).trans (by kernel_rfl)
theorem laws_toTagS_fn (x0 : Value) (w : World) : fnC P (EV P) 65 #[x0] w =
 (vl (Go.Value.slice none 0 0) w).bind fun r1 =>
 (vl x0 r1.2).bind fun r2 =>
 (b_len P #[35] 3 #[r2.1] r2.2).bind fun r3 =>
 (ms P 23 r3.1 r3.1 r3.2).bind fun r4 =>
 (vl r4.1 r4.2).bind fun r5 =>
 (vl (.int .i64 0) r5.2).bind fun r6 =>
 laws_toTagS_l1 (ups (env0 #[x0]) [(2, r1.1), (5, r2.1), (6, r3.1), (7, r4.1), (3, r5.1), (4, r6.1)]) r6.2 := by kernel_rfl

/-! laws_eqTagS -/
noncomputable def laws_eqTagS_l1 (e : Env) (w : World) : Option (Value × World) := exC P (EV P) 66 27 (.loop (cA (cA (cB (cA (cB (cB (bodyOf P 66)))))))) e w (kBlock 0 (kSeq P (EV P) 66 27 (cB (cB (cB (bodyOf P 66)))) (kFn P (fnOf P 66))))
theorem laws_eqTagS_l1_eq (e : Env) (w : World) : laws_eqTagS_l1 e w =
 (vl (e 5) w).bind fun r1 =>
 (vl (e 0) r1.2).bind fun r2 =>
 (b_len P #[23] 3 #[r2.1] r2.2).bind fun r3 =>
 (bo P .lss 3 (.tmp 11) (.tmp 13) r1.1 r3.1 r3.2).bind fun r4 =>
 cnd r4.1 (
 (vl (e 0) (dw r4.2)).bind fun r6 =>
 ifP (r6.2 = (dw r4.2)) <|
 (vl (e 5) (dw r4.2)).bind fun r7 =>
 ifP (r7.2 = (dw r4.2)) <|
 (ia P 23 r6.1 r7.1 (dw r4.2)).bind fun r8 =>
 ifP (r8.2 = (dw r4.2)) <|
 (ld P 32 r8.1 (dw r4.2)).bind fun r9 =>
 ifP (r9.2 = (dw r4.2)) <|
 (vl (e 1) (dw r4.2)).bind fun r10 =>
 ifP (r10.2 = (dw r4.2)) <|
 (vl (e 5) (dw r4.2)).bind fun r11 =>
 ifP (r11.2 = (dw r4.2)) <|
 (ia P 23 r10.1 r11.1 (dw r4.2)).bind fun r12 =>
 ifP (r12.2 = (dw r4.2)) <|
 (ld P 32 r12.1 (dw r4.2)).bind fun r13 =>
 ifP (r13.2 = (dw r4.2)) <|
 (EV P 94 #[r9.1, r13.1] (dw r4.2)).bind fun r14 =>
 ifP (True ∧ True ∧ True ∧ True ∧ True) <|
 (uo P .not r14.1 r14.2).bind fun r15 =>
 ifP (r15.2 = r14.2) <|
 cnd r15.1 (
 (vl (.bool false) r14.2).bind fun r16 =>
 some (r16.1, r16.2)) (
 (vl (e 5) r14.2).bind fun r17 =>
 (bo P .add 3 (.tmp 15) (.const (.int .i64 1)) r17.1 (.int .i64 1) r17.2).bind fun r18 =>
 (vl r18.1 r18.2).bind fun r19 =>
 laws_eqTagS_l1 (ups e [(11, r1.1), (12, r2.1), (13, r3.1), (14, r4.1), (17, r6.1), (18, r7.1), (19, r8.1), (20, r9.1), (21, r10.1), (22, r11.1), (23, r12.1), (24, r13.1), (25, r14.1), (26, r15.1), (15, r17.1), (16, r18.1), (5, r19.1)]) r19.2)) (
 (vl (.bool true) r4.2).bind fun r20 =>
 some (r20.1, r20.2)) := (exC_loop P (EV P) 66 27 (cA (cA (cB (cA (cB (cB (bodyOf P 66))))))) e w (kBlock 0 (kSeq P (EV P) 66 27 (cB (cB (cB (bodyOf P 66)))) (kFn P (fnOf P 66))))).trans (by kernel_rfl)
theorem laws_eqTagS_fn (x0 x1 : Value) (w : World) : fnC P (EV P) 66 #[x0, x1] w =
 (vl (.bool false) w).bind fun r1 =>
 (vl x0 r1.2).bind fun r2 =>
 (b_len P #[23] 3 #[r2.1] r2.2).bind fun r3 =>
 (vl x1 r3.2).bind fun r4 =>
 (b_len P #[23] 3 #[r4.1] r4.2).bind fun r5 =>
 (bo P .neq 3 (.tmp 7) (.tmp 9) r3.1 r5.1 r5.2).bind fun r6 =>
 cnd r6.1 (
 (vl (.bool false) r6.2).bind fun r7 =>
 some (r7.1, r7.2)) (
 (vl (.int .i64 0) r6.2).bind fun r8 =>
 laws_eqTagS_l1 (ups (env0 #[x0, x1]) [(4, r1.1), (6, r2.1), (7, r3.1), (8, r4.1), (9, r5.1), (10, r6.1), (5, r8.1)]) r8.2) := by kernel_rfl

/-! laws_markTagS -/
noncomputable def laws_markTagS_l1 (e : Env) (w : World) : Option (Value × World) := exC P (EV P) 67 27 (.loop (cA (cA (cB (cA (cB (bodyOf P 67))))))) e w (kBlock 0 (kSeq P (EV P) 67 27 (cB (cB (bodyOf P 67))) (kFn P (fnOf P 67))))
theorem laws_markTagS_l1_eq (e : Env) (w : World) : laws_markTagS_l1 e w =
 (vl (e 5) w).bind fun r1 =>
 (vl (e 0) r1.2).bind fun r2 =>
 (b_len P #[23] 3 #[r2.1] r2.2).bind fun r3 =>
 (bo P .lss 3 (.tmp 6) (.tmp 8) r1.1 r3.1 r3.2).bind fun r4 =>
 cnd r4.1 (
 (vl (e 0) r4.2).bind fun r5 =>
 (vl (e 5) r5.2).bind fun r6 =>
 (vl (e 1) r6.2).bind fun r7 =>
 (ia P 23 r5.1 r6.1 r7.2).bind fun r8 =>
 (fa P 32 r8.1 0 r8.2).bind fun r9 =>
 (st P 3 r9.1 r7.1 r9.2).bind fun r10 =>
 (vl (e 1) r10.2).bind fun r11 =>
 (bo P .add 3 (.tmp 17) (.const (.int .i64 1)) r11.1 (.int .i64 1) r11.2).bind fun r12 =>
 (vl r12.1 r12.2).bind fun r13 =>
 (vl (e 0) r13.2).bind fun r14 =>
 (vl (e 5) r14.2).bind fun r15 =>
 (vl r13.1 r15.2).bind fun r16 =>
 (ia P 23 r14.1 r15.1 r16.2).bind fun r17 =>
 (fa P 32 r17.1 1 r17.2).bind fun r18 =>
 (st P 3 r18.1 r16.1 r18.2).bind fun r19 =>
 (vl r13.1 r19.2).bind fun r20 =>
 (bo P .add 3 (.tmp 24) (.const (.int .i64 1)) r20.1 (.int .i64 1) r20.2).bind fun r21 =>
 (vl r21.1 r21.2).bind fun r22 =>
 (vl (e 5) r22.2).bind fun r23 =>
 (bo P .add 3 (.tmp 10) (.const (.int .i64 1)) r23.1 (.int .i64 1) r23.2).bind fun r24 =>
 (vl r24.1 r24.2).bind fun r25 =>
 laws_markTagS_l1 (ups e [(6, r1.1), (7, r2.1), (8, r3.1), (9, r4.1), (12, r5.1), (13, r6.1), (14, r7.1), (15, r8.1), (16, r9.1), (17, r11.1), (18, r12.1), (1, r13.1), (19, r14.1), (20, r15.1), (21, r16.1), (22, r17.1), (23, r18.1), (24, r20.1), (25, r21.1), (1, r22.1), (10, r23.1), (11, r24.1), (5, r25.1)]) r25.2) (
 (vl (e 1) r4.2).bind fun r26 =>
 (vl r26.1 r26.2).bind fun r27 =>
 some (r27.1, r27.2)) := (exC_loop P (EV P) 67 27 (cA (cA (cB (cA (cB (bodyOf P 67)))))) e w (kBlock 0 (kSeq P (EV P) 67 27 (cB (cB (bodyOf P 67))) (kFn P (fnOf P 67))))).trans (by kernel_rfl)
theorem laws_markTagS_fn (x0 x1 : Value) (w : World) : fnC P (EV P) 67 #[x0, x1] w =
 (vl (.int .i64 0) w).bind fun r1 =>
 (vl (.int .i64 0) r1.2).bind fun r2 =>
 laws_markTagS_l1 (ups (env0 #[x0, x1]) [(4, r1.1), (5, r2.1)]) r2.2 := by kernel_rfl

/-! laws_heldTagS -/
noncomputable def laws_heldTagS_l1 (e : Env) (w : World) : Option (Value × World) := exC P (EV P) 68 31 (.loop (cA (cA (cB (cA (cB (bodyOf P 68))))))) e w (kBlock 0 (kSeq P (EV P) 68 31 (cB (cB (bodyOf P 68))) (kFn P (fnOf P 68))))
theorem laws_heldTagS_l1_eq (e : Env) (w : World) : laws_heldTagS_l1 e w =
 (vl (e 5) w).bind fun r1 =>
 (vl (e 0) r1.2).bind fun r2 =>
 (b_len P #[23] 3 #[r2.1] r2.2).bind fun r3 =>
 (bo P .lss 3 (.tmp 6) (.tmp 8) r1.1 r3.1 r3.2).bind fun r4 =>
 cnd r4.1 (
 (vl (e 0) r4.2).bind fun r5 =>
 (vl (e 5) r5.2).bind fun r6 =>
 (ia P 23 r5.1 r6.1 r6.2).bind fun r7 =>
 (fa P 32 r7.1 0 r7.2).bind fun r8 =>
 (ld P 3 r8.1 r8.2).bind fun r9 =>
 (vl (e 1) r9.2).bind fun r10 =>
 (bo P .neq 3 (.tmp 16) (.tmp 17) r9.1 r10.1 r10.2).bind fun r11 =>
 cnd r11.1 (
 (vl (.int .i64 (-1)) r11.2).bind fun r12 =>
 some (r12.1, r12.2)) (
 (vl (e 1) r11.2).bind fun r13 =>
 (bo P .add 3 (.tmp 19) (.const (.int .i64 1)) r13.1 (.int .i64 1) r13.2).bind fun r14 =>
 (vl r14.1 r14.2).bind fun r15 =>
 (vl (e 0) r15.2).bind fun r16 =>
 (vl (e 5) r16.2).bind fun r17 =>
 (ia P 23 r16.1 r17.1 r17.2).bind fun r18 =>
 (fa P 32 r18.1 1 r18.2).bind fun r19 =>
 (ld P 3 r19.1 r19.2).bind fun r20 =>
 (vl r15.1 r20.2).bind fun r21 =>
 (bo P .neq 3 (.tmp 25) (.tmp 26) r20.1 r21.1 r21.2).bind fun r22 =>
 cnd r22.1 (
 (vl (.int .i64 (-1)) r22.2).bind fun r23 =>
 some (r23.1, r23.2)) (
 (vl r15.1 r22.2).bind fun r24 =>
 (bo P .add 3 (.tmp 28) (.const (.int .i64 1)) r24.1 (.int .i64 1) r24.2).bind fun r25 =>
 (vl r25.1 r25.2).bind fun r26 =>
 (vl (e 5) r26.2).bind fun r27 =>
 (bo P .add 3 (.tmp 10) (.const (.int .i64 1)) r27.1 (.int .i64 1) r27.2).bind fun r28 =>
 (vl r28.1 r28.2).bind fun r29 =>
 laws_heldTagS_l1 (ups e [(6, r1.1), (7, r2.1), (8, r3.1), (9, r4.1), (12, r5.1), (13, r6.1), (14, r7.1), (15, r8.1), (16, r9.1), (17, r10.1), (18, r11.1), (19, r13.1), (20, r14.1), (1, r15.1), (21, r16.1), (22, r17.1), (23, r18.1), (24, r19.1), (25, r20.1), (26, r21.1), (27, r22.1), (28, r24.1), (29, r25.1), (1, r26.1), (10, r27.1), (11, r28.1), (5, r29.1)]) r29.2))) (
 (vl (e 1) r4.2).bind fun r30 =>
 (vl r30.1 r30.2).bind fun r31 =>
 some (r31.1, r31.2)) := (exC_loop P (EV P) 68 31 (cA (cA (cB (cA (cB (bodyOf P 68)))))) e w (kBlock 0 (kSeq P (EV P) 68 31 (cB (cB (bodyOf P 68))) (kFn P (fnOf P 68))))).trans (by kernel_rfl)
theorem laws_heldTagS_fn (x0 x1 : Value) (w : World) : fnC P (EV P) 68 #[x0, x1] w =
 (vl (.int .i64 0) w).bind fun r1 =>
 (vl (.int .i64 0) r1.2).bind fun r2 =>
 laws_heldTagS_l1 (ups (env0 #[x0, x1]) [(4, r1.1), (5, r2.1)]) r2.2 := by kernel_rfl

/-! laws_szVerS -/
noncomputable def laws_szVerS_l1 (e : Env) (w : World) : Option (Value × World) := exC P (EV P) 69 27 (.loop (cA (cA (cB (cA (cB (cB (cB (bodyOf P 69))))))))) e w (kBlock 0 (kSeq P (EV P) 69 27 (cB (cB (cB (cB (bodyOf P 69))))) (kFn P (fnOf P 69))))
theorem laws_szVerS_l1_eq (e : Env) (w : World) : laws_szVerS_l1 e w =
 (vl (e 5) w).bind fun r1 =>
 (vl (e 0) r1.2).bind fun r2 =>
 (b_len P #[42] 3 #[r2.1] r2.2).bind fun r3 =>
 (bo P .lss 3 (.tmp 12) (.tmp 14) r1.1 r3.1 r3.2).bind fun r4 =>
 cnd r4.1 (
 (vl (e 0) r4.2).bind fun r5 =>
 (vl (e 5) r5.2).bind fun r6 =>
 (ia P 42 r5.1 r6.1 r6.2).bind fun r7 =>
 (ld P 70 r7.1 r7.2).bind fun r8 =>
 (vl (e 1) r8.2).bind fun r9 =>
 (EV P 49 #[r8.1, r9.1] r9.2).bind fun r10 =>
 (vl r10.1 r10.2).bind fun r11 =>
 (vl r11.1 r11.2).bind fun r12 =>
 (bo P .lss 3 (.tmp 24) (.const (.int .i64 0)) r12.1 (.int .i64 0) r12.2).bind fun r13 =>
 cnd r13.1 (
 (vl (.int .i64 (-1)) r13.2).bind fun r14 =>
 some (r14.1, r14.2)) (
 (vl (e 5) r13.2).bind fun r15 =>
 (bo P .add 3 (.tmp 16) (.const (.int .i64 1)) r15.1 (.int .i64 1) r15.2).bind fun r16 =>
 (vl r16.1 r16.2).bind fun r17 =>
 laws_szVerS_l1 (ups e [(12, r1.1), (13, r2.1), (14, r3.1), (15, r4.1), (18, r5.1), (19, r6.1), (20, r7.1), (21, r8.1), (22, r9.1), (23, r10.1), (1, r11.1), (24, r12.1), (25, r13.1), (16, r15.1), (17, r16.1), (5, r17.1)]) r17.2)) (
 (vl (e 1) r4.2).bind fun r18 =>
 (vl r18.1 r18.2).bind fun r19 =>
 some (r19.1, r19.2)) := (exC_loop P (EV P) 69 27 (cA (cA (cB (cA (cB (cB (cB (bodyOf P 69)))))))) e w (kBlock 0 (kSeq P (EV P) 69 27 (cB (cB (cB (cB (bodyOf P 69))))) (kFn P (fnOf P 69))))).trans (by kernel_rfl)
theorem laws_szVerS_fn (x0 x1 : Value) (w : World) : fnC P (EV P) 69 #[x0, x1] w =
 (vl (.int .i64 0) w).bind fun r1 =>
 (vl x1 r1.2).bind fun r2 =>
 (vl x0 r2.2).bind fun r3 =>
 (b_len P #[42] 3 #[r3.1] r3.2).bind fun r4 =>
 (bo P .sub 3 (.tmp 6) (.tmp 8) r2.1 r4.1 r4.2).bind fun r5 =>
 (vl r5.1 r5.2).bind fun r6 =>
 (vl r6.1 r6.2).bind fun r7 =>
 (bo P .lss 3 (.tmp 10) (.const (.int .i64 0)) r7.1 (.int .i64 0) r7.2).bind fun r8 =>
 cnd r8.1 (
 (vl (.int .i64 (-1)) r8.2).bind fun r9 =>
 some (r9.1, r9.2)) (
 (vl (.int .i64 0) r8.2).bind fun r10 =>
 laws_szVerS_l1 (ups (env0 #[x0, x1]) [(4, r1.1), (6, r2.1), (7, r3.1), (8, r4.1), (9, r5.1), (1, r6.1), (10, r7.1), (11, r8.1), (5, r10.1)]) r10.2) := by kernel_rfl

/-! spec_l2StoreOk -/
noncomputable def spec_l2StoreOk_l1 (e : Env) (w : World) : Option (Value × World) := exC P (EV P) 70 87 (.loop (cA (cA (cB (cA (cB (bodyOf P 70))))))) e w (kBlock 0 (kSeq P (EV P) 70 87 (cB (cB (bodyOf P 70))) (kFn P (fnOf P 70))))
theorem spec_l2StoreOk_l1_eq (e : Env) (w : World) : spec_l2StoreOk_l1 e w =
 (vl (e 3) w).bind fun r1 =>
 (fa P 49 (e 1) 0 r1.2).bind fun r2 =>
 (ld P 47 r2.1 r2.2).bind fun r3 =>
 (b_len P #[47] 3 #[r3.1] r3.2).bind fun r4 =>
 (bo P .lss 3 (.tmp 4) (.tmp 7) r1.1 r4.1 r4.2).bind fun r5 =>
 cnd r5.1 (
 (fa P 49 (e 1) 0 r5.2).bind fun r6 =>
 (ld P 47 r6.1 r6.2).bind fun r7 =>
 (vl (e 3) r7.2).bind fun r8 =>
 (ia P 47 r7.1 r8.1 r8.2).bind fun r9 =>
 (fa P 56 r9.1 1 r9.2).bind fun r10 =>
 (ld P 32 r10.1 r10.2).bind fun r11 =>
 (bd P 32 #[] r11.2).bind fun r12 =>
 (bo P .neq 32 (.tmp 16) (.tmp 17) r11.1 r12.1 r12.2).bind fun r13 =>
 (vl r13.1 r13.2).bind fun r14 =>
 (gif r14.1 true (fa P 49 (e 1) 0 r14.2) r14.2).bind fun r15 =>
 (gif r14.1 true (ld P 47 r15.1 r15.2) r15.2).bind fun r16 =>
 (gif r14.1 true (vl (e 3) r16.2) r16.2).bind fun r17 =>
 (gif r14.1 true (ia P 47 r16.1 r17.1 r17.2) r17.2).bind fun r18 =>
 (gif r14.1 true (ld P 56 r18.1 r18.2) r18.2).bind fun r19 =>
 (gif r14.1 true (EV P 86 #[r19.1] r19.2) r19.2).bind fun r20 =>
 (gif r14.1 true (uo P .not r20.1 r20.2) r20.2).bind fun r21 =>
 (gif r14.1 true (vl r21.1 r21.2) r21.2).bind fun r22 =>
 (gif r22.1 false (fa P 49 (e 1) 0 r22.2) r22.2).bind fun r23 =>
 (gif r22.1 false (ld P 47 r23.1 r23.2) r23.2).bind fun r24 =>
 (gif r22.1 false (vl (e 3) r24.2) r24.2).bind fun r25 =>
 (gif r22.1 false (ia P 47 r24.1 r25.1 r25.2) r25.2).bind fun r26 =>
 (gif r22.1 false (fa P 56 r26.1 0 r26.2) r26.2).bind fun r27 =>
 (gif r22.1 false (ld P 3 r27.1 r27.2) r27.2).bind fun r28 =>
 (gif r22.1 false (vl (e 3) r28.2) r28.2).bind fun r29 =>
 (gif r22.1 false (bo P .neq 3 (.tmp 33) (.tmp 34) r28.1 r29.1 r29.2) r29.2).bind fun r30 =>
 (gif r14.1 true (pickV r22.1 (.bool true) r30.1 r30.2) r30.2).bind fun r31 =>
 (pickV r14.1 r31.1 (.bool false) r31.2).bind fun r32 =>
 cnd r32.1 (
 (vl (.bool false) r32.2).bind fun r33 =>
 some (r33.1, r33.2)) (
 (fa P 49 (e 1) 0 r32.2).bind fun r34 =>
 (ld P 47 r34.1 r34.2).bind fun r35 =>
 (vl (e 3) r35.2).bind fun r36 =>
 (ia P 47 r35.1 r36.1 r36.2).bind fun r37 =>
 (fa P 56 r37.1 1 r37.2).bind fun r38 =>
 (ld P 32 r38.1 r38.2).bind fun r39 =>
 (bd P 32 #[] r39.2).bind fun r40 =>
 (bo P .eql 32 (.tmp 43) (.tmp 44) r39.1 r40.1 r40.2).bind fun r41 =>
 (vl r41.1 r41.2).bind fun r42 =>
 (gif r42.1 true (fa P 49 (e 1) 0 r42.2) r42.2).bind fun r43 =>
 (gif r42.1 true (ld P 47 r43.1 r43.2) r43.2).bind fun r44 =>
 (gif r42.1 true (vl (e 3) r44.2) r44.2).bind fun r45 =>
 (gif r42.1 true (ia P 47 r44.1 r45.1 r45.2) r45.2).bind fun r46 =>
 (gif r42.1 true (fa P 56 r46.1 0 r46.2) r46.2).bind fun r47 =>
 (gif r42.1 true (ld P 3 r47.1 r47.2) r47.2).bind fun r48 =>
 (gif r42.1 true (bo P .neq 3 (.tmp 52) (.const (.int .i64 0)) r48.1 (.int .i64 0) r48.2) r48.2).bind fun r49 =>
 (gif r42.1 true (vl r49.1 r49.2) r49.2).bind fun r50 =>
 (gif r50.1 false (fa P 49 (e 1) 0 r50.2) r50.2).bind fun r51 =>
 (gif r50.1 false (ld P 47 r51.1 r51.2) r51.2).bind fun r52 =>
 (gif r50.1 false (vl (e 3) r52.2) r52.2).bind fun r53 =>
 (gif r50.1 false (ia P 47 r52.1 r53.1 r53.2) r53.2).bind fun r54 =>
 (gif r50.1 false (fa P 56 r54.1 3 r54.2) r54.2).bind fun r55 =>
 (gif r50.1 false (ld P 9 r55.1 r55.2) r55.2).bind fun r56 =>
 (gif r50.1 false (bo P .neq 9 (.tmp 60) (.const (Go.Value.string { data := #[] })) r56.1 (Go.Value.string { data := #[] }) r56.2) r56.2).bind fun r57 =>
 (gif r42.1 true (pickV r50.1 (.bool true) r57.1 r57.2) r57.2).bind fun r58 =>
 (gif r42.1 true (vl r58.1 r58.2) r58.2).bind fun r59 =>
 (gif r59.1 false (fa P 49 (e 1) 0 r59.2) r59.2).bind fun r60 =>
 (gif r59.1 false (ld P 47 r60.1 r60.2) r60.2).bind fun r61 =>
 (gif r59.1 false (vl (e 3) r61.2) r61.2).bind fun r62 =>
 (gif r59.1 false (ia P 47 r61.1 r62.1 r62.2) r62.2).bind fun r63 =>
 (gif r59.1 false (fa P 56 r63.1 4 r63.2) r63.2).bind fun r64 =>
 (gif r59.1 false (ld P 4 r64.1 r64.2) r64.2).bind fun r65 =>
 (gif r42.1 true (pickV r59.1 (.bool true) r65.1 r65.2) r65.2).bind fun r66 =>
 (gif r42.1 true (vl r66.1 r66.2) r66.2).bind fun r67 =>
 (gif r67.1 false (fa P 49 (e 1) 0 r67.2) r67.2).bind fun r68 =>
 (gif r67.1 false (ld P 47 r68.1 r68.2) r68.2).bind fun r69 =>
 (gif r67.1 false (vl (e 3) r69.2) r69.2).bind fun r70 =>
 (gif r67.1 false (ia P 47 r69.1 r70.1 r70.2) r70.2).bind fun r71 =>
 (gif r67.1 false (fa P 56 r71.1 2 r71.2) r71.2).bind fun r72 =>
 (gif r67.1 false (fa P 25 r72.1 0 r72.2) r72.2).bind fun r73 =>
 (gif r67.1 false (ld P 23 r73.1 r73.2) r73.2).bind fun r74 =>
 (gif r67.1 false (b_len P #[23] 3 #[r74.1] r74.2) r74.2).bind fun r75 =>
 (gif r67.1 false (bo P .gtr 3 (.tmp 79) (.const (.int .i64 0)) r75.1 (.int .i64 0) r75.2) r75.2).bind fun r76 =>
 (gif r42.1 true (pickV r67.1 (.bool true) r76.1 r76.2) r76.2).bind fun r77 =>
 (pickV r42.1 r77.1 (.bool false) r77.2).bind fun r78 =>
 cnd r78.1 (
 (vl (.bool false) r78.2).bind fun r79 =>
 some (r79.1, r79.2)) (
 (vl (e 3) r78.2).bind fun r80 =>
 (bo P .add 3 (.tmp 9) (.const (.int .i64 1)) r80.1 (.int .i64 1) r80.2).bind fun r81 =>
 (vl r81.1 r81.2).bind fun r82 =>
 spec_l2StoreOk_l1 (ups e [(4, r1.1), (5, r2.1), (6, r3.1), (7, r4.1), (8, r5.1), (11, r6.1), (12, r7.1), (13, r8.1), (14, r9.1), (15, r10.1), (16, r11.1), (17, r12.1), (18, r13.1), (19, r14.1), (20, r15.1), (21, r16.1), (22, r17.1), (23, r18.1), (24, r19.1), (25, r20.1), (26, r21.1), (27, r22.1), (28, r23.1), (29, r24.1), (30, r25.1), (31, r26.1), (32, r27.1), (33, r28.1), (34, r29.1), (35, r30.1), (36, r31.1), (37, r32.1), (38, r34.1), (39, r35.1), (40, r36.1), (41, r37.1), (42, r38.1), (43, r39.1), (44, r40.1), (45, r41.1), (46, r42.1), (47, r43.1), (48, r44.1), (49, r45.1), (50, r46.1), (51, r47.1), (52, r48.1), (53, r49.1), (54, r50.1), (55, r51.1), (56, r52.1), (57, r53.1), (58, r54.1), (59, r55.1), (60, r56.1), (61, r57.1), (62, r58.1), (63, r59.1), (64, r60.1), (65, r61.1), (66, r62.1), (67, r63.1), (68, r64.1), (69, r65.1), (70, r66.1), (71, r67.1), (72, r68.1), (73, r69.1), (74, r70.1), (75, r71.1), (76, r72.1), (77, r73.1), (78, r74.1), (79, r75.1), (80, r76.1), (81, r77.1), (82, r78.1), (9, r80.1), (10, r81.1), (3, r82.1)]) r82.2))) (
 (fa P 49 (e 1) 0 r5.2).bind fun r83 =>
 (ld P 47 r83.1 r83.2).bind fun r84 =>
 (b_len P #[47] 3 #[r84.1] r84.2).bind fun r85 =>
 (bo P .eql 3 (.tmp 85) (.const (.int .i64 4)) r85.1 (.int .i64 4) r85.2).bind fun r86 =>
 (vl r86.1 r86.2).bind fun r87 =>
 some (r87.1, r87.2)) := (exC_loop P (EV P) 70 87 (cA (cA (cB (cA (cB (bodyOf P 70)))))) e w (kBlock 0 (kSeq P (EV P) 70 87 (cB (cB (bodyOf P 70))) (kFn P (fnOf P 70))))).trans (by kernel_rfl)
theorem spec_l2StoreOk_fn (x0 : Value) (w : World) : fnC P (EV P) 70 #[x0] w =
 (bx P 49 x0 w).bind fun r1 =>
 (vl (.bool false) r1.2).bind fun r2 =>
 (vl (.int .i64 0) r2.2).bind fun r3 =>
 spec_l2StoreOk_l1 (ups (env0 #[x0]) [(1, r1.1), (2, r2.1), (3, r3.1)]) r3.2 := by kernel_rfl


end Go.Proofs.Ytjpacbedcocohaa.X
