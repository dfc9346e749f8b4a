/- A part of the proof: an evaluator of the model, its laws, and contracts of functions; no condition. -/
import Derived.Test.YtobejpplmjfkpaaDoorEvT
set_option linter.unusedVariables false
set_option maxRecDepth 100000
namespace Go.Proofs.YtobejpplmjfkpaaDoor.X
open Go Go.Ev
theorem laws_FnExactTagPut_fn (x0 : Value) (w : World) : fnC P (EV P) 3 #[x0] w =
 (bx P 23 x0 w).bind fun r1 =>
 (vl (.bool false) r1.2).bind fun r2 =>
 (ld P 23 r1.1 r2.2).bind fun r3 =>
 (EV P 8 #[r3.1] r3.2).bind fun r4 =>
 (EV P 7 #[r4.1] r4.2).bind fun r5 =>
 (vl r5.1 r5.2).bind fun r6 =>
 (ld P 23 r1.1 r6.2).bind fun r7 =>
 (EV P 8 #[r7.1] r7.2).bind fun r8 =>
 (EV P 9 #[r8.1] r8.2).bind fun r9 =>
 (vl r9.1 r9.2).bind fun r10 =>
 (vl r10.1 r10.2).bind fun r11 =>
 (vl r6.1 r11.2).bind fun r12 =>
 (bo P .neq 9 (.tmp 11) (.tmp 12) r11.1 r12.1 r12.2).bind fun r13 =>
 cnd r13.1 (
 (vl (.bool false) r13.2).bind fun r14 =>
 some (r14.1, r14.2)) (
 (vl (.bool true) r13.2).bind fun r15 =>
 some (r15.1, r15.2)) := by kernel_rfl
theorem spec_TagPut_fn (x0 : Value) (w : World) : fnC P (EV P) 7 #[x0] w =
 (bx P 25 x0 w).bind fun r1 =>
 (vl (Go.Value.string { data := #[] }) r1.2).bind fun r2 =>
 (ld P 25 r1.1 r2.2).bind fun r3 =>
 (EV P 17 #[r3.1] r3.2).bind fun r4 =>
 (uo P .not r4.1 r4.2).bind fun r5 =>
 cnd r5.1 (
 (vl (Go.Value.string { data := #[] }) r5.2).bind fun r6 =>
 some (r6.1, r6.2)) (
 (ld P 25 r1.1 r5.2).bind fun r7 =>
 (EV P 18 #[r7.1] r7.2).bind fun r8 =>
 (vl r8.1 r8.2).bind fun r9 =>
 some (r9.1, r9.2)) := by kernel_rfl
theorem laws_toTag_fn (x0 : Value) (w : World) : fnC P (EV P) 8 #[x0] w =
 (bx P 23 x0 w).bind fun r1 =>
 (al P 25 r1.2).bind fun r2 =>
 (al P 25 r2.2).bind fun r3 =>
 (fa P 23 r1.1 0 r3.2).bind fun r4 =>
 (ld P 3 r4.1 r4.2).bind fun r5 =>
 (fa P 25 r3.1 0 r5.2).bind fun r6 =>
 (st P 3 r6.1 r5.1 r6.2).bind fun r7 =>
 (fa P 23 r1.1 1 r7.2).bind fun r8 =>
 (ld P 3 r8.1 r8.2).bind fun r9 =>
 (fa P 25 r3.1 1 r9.2).bind fun r10 =>
 (st P 3 r10.1 r9.1 r10.2).bind fun r11 =>
 (ld P 25 r3.1 r11.2).bind fun r12 =>
 (st P 25 r2.1 r12.1 r12.2).bind fun r13 =>
 ((ld P 25 r2.1 r13.2).bind fun r14 => ifP (r14.2 = r13.2) (some r14.1)).bind fun v15 =>
 some (v15, r13.2) := by kernel_rfl
theorem impl_TagPut_fn (x0 : Value) (w : World) : fnC P (EV P) 9 #[x0] w =
 (bx P 25 x0 w).bind fun r1 =>
 (vl (Go.Value.string { data := #[] }) r1.2).bind fun r2 =>
 (ld P 25 r1.1 r2.2).bind fun r3 =>
 (EV P 14 #[r3.1] r3.2).bind fun r4 =>
 (uo P .not r4.1 r4.2).bind fun r5 =>
 cnd r5.1 (
 (vl (Go.Value.string { data := #[] }) r5.2).bind fun r6 =>
 some (r6.1, r6.2)) (
 (ld P 25 r1.1 r5.2).bind fun r7 =>
 (EV P 19 #[r7.1] r7.2).bind fun r8 =>
 (vl r8.1 r8.2).bind fun r9 =>
 some (r9.1, r9.2)) := by kernel_rfl
theorem impl_TagOk_fn (x0 : Value) (w : World) : fnC P (EV P) 14 #[x0] w =
 (bx P 25 x0 w).bind fun r1 =>
 (vl (.bool false) r1.2).bind fun r2 =>
 (ld P 25 r1.1 r2.2).bind fun r3 =>
 (bd P 25 #[] r3.2).bind fun r4 =>
 (bo P .eql 25 (.tmp 3) (.tmp 4) r3.1 r4.1 r4.2).bind fun r5 =>
 (vl r5.1 r5.2).bind fun r6 =>
 (gif r6.1 false (fa P 25 r1.1 0 r6.2) r6.2).bind fun r7 =>
 (gif r6.1 false (ld P 3 r7.1 r7.2) r7.2).bind fun r8 =>
 (gif r6.1 false (EV P 26 #[r8.1, (.int .i64 1), (.int .i64 999)] r8.2) r8.2).bind fun r9 =>
 (gif r6.1 false (vl r9.1 r9.2) r9.2).bind fun r10 =>
 (gif r10.1 true (fa P 25 r1.1 1 r10.2) r10.2).bind fun r11 =>
 (gif r10.1 true (ld P 3 r11.1 r11.2) r11.2).bind fun r12 =>
 (gif r10.1 true (EV P 27 #[r12.1] r12.2) r12.2).bind fun r13 =>
 (gif r6.1 false (pickV r10.1 r13.1 (.bool false) r13.2) r13.2).bind fun r14 =>
 (pickV r6.1 (.bool true) r14.1 r14.2).bind fun r15 =>
 (vl r15.1 r15.2).bind fun r16 =>
 some (r16.1, r16.2) := by kernel_rfl
theorem spec_l1TagOk_fn (x0 : Value) (w : World) : fnC P (EV P) 17 #[x0] w =
 (bx P 25 x0 w).bind fun r1 =>
 (vl (.bool false) r1.2).bind fun r2 =>
 (ld P 25 r1.1 r2.2).bind fun r3 =>
 (bd P 25 #[] r3.2).bind fun r4 =>
 (bo P .eql 25 (.tmp 3) (.tmp 4) r3.1 r4.1 r4.2).bind fun r5 =>
 (vl r5.1 r5.2).bind fun r6 =>
 (gif r6.1 false (fa P 25 r1.1 0 r6.2) r6.2).bind fun r7 =>
 (gif r6.1 false (ld P 3 r7.1 r7.2) r7.2).bind fun r8 =>
 (gif r6.1 false (EV P 30 #[r8.1, (.int .i64 1), (.int .i64 999)] r8.2) r8.2).bind fun r9 =>
 (gif r6.1 false (vl r9.1 r9.2) r9.2).bind fun r10 =>
 (gif r10.1 true (fa P 25 r1.1 1 r10.2) r10.2).bind fun r11 =>
 (gif r10.1 true (ld P 3 r11.1 r11.2) r11.2).bind fun r12 =>
 (gif r10.1 true (EV P 30 #[r12.1, (.int .i64 0), (.int .i64 2)] r12.2) r12.2).bind fun r13 =>
 (gif r6.1 false (pickV r10.1 r13.1 (.bool false) r13.2) r13.2).bind fun r14 =>
 (pickV r6.1 (.bool true) r14.1 r14.2).bind fun r15 =>
 (vl r15.1 r15.2).bind fun r16 =>
 some (r16.1, r16.2) := by kernel_rfl
theorem spec_l1Put_fn (x0 : Value) (w : World) : fnC P (EV P) 18 #[x0] w =
 (bx P 25 x0 w).bind fun r1 =>
 (vl (Go.Value.string { data := #[] }) r1.2).bind fun r2 =>
 (fa P 25 r1.1 0 (dw r2.2)).bind fun r4 =>
 ifP (r4.2 = (dw r2.2)) <|
 (ld P 3 r4.1 (dw r2.2)).bind fun r5 =>
 ifP (r5.2 = (dw r2.2)) <|
 (fa P 25 r1.1 1 (dw r2.2)).bind fun r6 =>
 ifP (r6.2 = (dw r2.2)) <|
 (ld P 3 r6.1 (dw r2.2)).bind fun r7 =>
 ifP (r7.2 = (dw r2.2)) <|
 (EV P 31 #[r5.1] (dw r2.2)).bind fun r8 =>
 ifP (ld P 3 r6.1 r8.2 = some (r7.1, r8.2) ∧ fa P 25 r1.1 1 r8.2 = some (r6.1, r8.2) ∧ True ∧ True ∧ True) <|
 (bo P .add 9 (.tmp 5) (.const (Go.Value.string { data := #[46] })) r8.1 (Go.Value.string { data := #[46] }) r8.2).bind fun r9 =>
 ifP (r9.2 = r8.2) <|
 (EV P 31 #[r7.1] r8.2).bind fun r10 =>
 ifP (bo P .add 9 (.tmp 5) (.const (Go.Value.string { data := #[46] })) r8.1 (Go.Value.string { data := #[46] }) r10.2 = some (r9.1, r10.2) ∧ True ∧ True ∧ True ∧ True ∧ True) <|
 (bo P .add 9 (.tmp 6) (.tmp 9) r9.1 r10.1 r10.2).bind fun r11 =>
 ifP (r11.2 = r10.2) <|
 (vl r11.1 r10.2).bind fun r12 =>
 ifP (r12.2 = r10.2) <|
 some (r12.1, r10.2) := by kernel_rfl
theorem impl_Tag_text_fn (x0 : Value) (w : World) : fnC P (EV P) 19 #[x0] w =
 (bx P 25 x0 w).bind fun r1 =>
 (vl (Go.Value.string { data := #[] }) r1.2).bind fun r2 =>
 (fa P 25 r1.1 0 (dw r2.2)).bind fun r4 =>
 ifP (r4.2 = (dw r2.2)) <|
 (ld P 3 r4.1 (dw r2.2)).bind fun r5 =>
 ifP (r5.2 = (dw r2.2)) <|
 (fa P 25 r1.1 1 (dw r2.2)).bind fun r6 =>
 ifP (r6.2 = (dw r2.2)) <|
 (ld P 3 r6.1 (dw r2.2)).bind fun r7 =>
 ifP (r7.2 = (dw r2.2)) <|
 (EV P 32 #[r5.1] (dw r2.2)).bind fun r8 =>
 ifP (ld P 3 r6.1 r8.2 = some (r7.1, r8.2) ∧ fa P 25 r1.1 1 r8.2 = some (r6.1, r8.2) ∧ True ∧ True ∧ True) <|
 (bo P .add 9 (.tmp 5) (.const (Go.Value.string { data := #[46] })) r8.1 (Go.Value.string { data := #[46] }) r8.2).bind fun r9 =>
 ifP (r9.2 = r8.2) <|
 (EV P 32 #[r7.1] r8.2).bind fun r10 =>
 ifP (bo P .add 9 (.tmp 5) (.const (Go.Value.string { data := #[46] })) r8.1 (Go.Value.string { data := #[46] }) r10.2 = some (r9.1, r10.2) ∧ True ∧ True ∧ True ∧ True ∧ True) <|
 (bo P .add 9 (.tmp 6) (.tmp 9) r9.1 r10.1 r10.2).bind fun r11 =>
 ifP (r11.2 = r10.2) <|
 (vl r11.1 r10.2).bind fun r12 =>
 ifP (r12.2 = r10.2) <|
 some (r12.1, r10.2) := by kernel_rfl
theorem impl_within_fn (x0 x1 x2 : Value) (w : World) : fnC P (EV P) 26 #[x0, x1, x2] w =
 (vl (.bool false) w).bind fun r1 =>
 (vl x0 r1.2).bind fun r2 =>
 (vl x1 r2.2).bind fun r3 =>
 (bo P .geq 3 (.tmp 7) (.tmp 8) r2.1 r3.1 r3.2).bind fun r4 =>
 (vl r4.1 r4.2).bind fun r5 =>
 (gif r5.1 true (vl x0 r5.2) r5.2).bind fun r6 =>
 (gif r5.1 true (vl x2 r6.2) r6.2).bind fun r7 =>
 (gif r5.1 true (bo P .leq 3 (.tmp 11) (.tmp 12) r6.1 r7.1 r7.2) r7.2).bind fun r8 =>
 (pickV r5.1 r8.1 (.bool false) r8.2).bind fun r9 =>
 (vl r9.1 r9.2).bind fun r10 =>
 some (r10.1, r10.2) := by kernel_rfl
theorem impl_placeOk_fn (x0 : Value) (w : World) : fnC P (EV P) 27 #[x0] w =
 (vl (.bool false) w).bind fun r1 =>
 (vl x0 r1.2).bind fun r2 =>
 (EV P 26 #[r2.1, (.int .i64 0), (.int .i64 2)] r2.2).bind fun r3 =>
 (vl r3.1 r3.2).bind fun r4 =>
 some (r4.1, r4.2) := by kernel_rfl
theorem spec_l1In_fn (x0 x1 x2 : Value) (w : World) : fnC P (EV P) 30 #[x0, x1, x2] w =
 (vl (.bool false) w).bind fun r1 =>
 (vl x0 r1.2).bind fun r2 =>
 (vl x1 r2.2).bind fun r3 =>
 (bo P .geq 3 (.tmp 7) (.tmp 8) r2.1 r3.1 r3.2).bind fun r4 =>
 (vl r4.1 r4.2).bind fun r5 =>
 (gif r5.1 true (vl x0 r5.2) r5.2).bind fun r6 =>
 (gif r5.1 true (vl x2 r6.2) r6.2).bind fun r7 =>
 (gif r5.1 true (bo P .leq 3 (.tmp 11) (.tmp 12) r6.1 r7.1 r7.2) r7.2).bind fun r8 =>
 (pickV r5.1 r8.1 (.bool false) r8.2).bind fun r9 =>
 (vl r9.1 r9.2).bind fun r10 =>
 some (r10.1, r10.2) := by kernel_rfl
noncomputable def spec_l1Dec_a1 (e : Env) (w : World) : Option (Value × World) := exC P (EV P) 31 28 (cA (cB (cB (cB (cB (bodyOf P 31)))))) e w (kSeq P (EV P) 31 28 (cB (cB (cB (cB (cB (bodyOf P 31)))))) (kFn P (fnOf P 31)))
noncomputable def spec_l1Dec_j1 (e : Env) (w : World) : Option (Value × World) := exC P (EV P) 31 28 (cB (cB (cB (cB (cB (bodyOf P 31)))))) e w (kFn P (fnOf P 31))
theorem spec_l1Dec_a1_any (e : Env) (w : World) {Q : Value × World → Prop} (h :
 (Ret (vl (e 0) (dw w)) fun r1 => r1.2 = (dw w) ∧
 (Ret (bo P .quo 3 (.tmp 18) (.const (.int .i64 10)) r1.1 (.int .i64 10) (dw w)) fun r2 => r2.2 = (dw w) ∧
 (Ret (vl (e 0) (dw w)) fun r3 => r3.2 = (dw w) ∧
 (Ret (bo P .rem 3 (.tmp 21) (.const (.int .i64 10)) r3.1 (.int .i64 10) (dw w)) fun r4 => r4.2 = (dw w) ∧
 (Ret (bo P .add 3 (.const (.int .i64 48)) (.tmp 22) (.int .i64 48) r4.1 (dw w)) fun r5 => r5.2 = (dw w) ∧
 (Ret (cv P 3 5 r5.1 (dw w)) fun r6 => r6.2 = (dw w) ∧
 ((Ret (EV P 31 #[r2.1] (dw w)) fun r7 => (cv P 3 5 r5.1 r7.2 = some (r6.1, r7.2) ∧ bo P .add 3 (.const (.int .i64 48)) (.tmp 22) (.int .i64 48) r4.1 r7.2 = some (r5.1, r7.2) ∧ bo P .rem 3 (.tmp 21) (.const (.int .i64 10)) r3.1 (.int .i64 10) r7.2 = some (r4.1, r7.2) ∧ True ∧ True) ∧
 ((Ret (bs P 32 1 #[(0, r6.1)] r7.2) fun r8 => (True ∧ True ∧ True ∧ bo P .quo 3 (.tmp 18) (.const (.int .i64 10)) r1.1 (.int .i64 10) r8.2 = some (r2.1, r8.2) ∧ True) ∧
 (Ret (cv P 32 9 r8.1 r8.2) fun r9 => r9.2 = r8.2 ∧
 (Ret (bo P .add 9 (.tmp 20) (.tmp 26) r7.1 r9.1 r8.2) fun r10 => r10.2 = r8.2 ∧
 (Ret (vl r10.1 r8.2) fun r11 => r11.2 = r8.2 ∧
 Ret (spec_l1Dec_j1 (ups e [(18, r1.1), (19, r2.1), (21, r3.1), (22, r4.1), (23, r5.1), (24, r6.1), (20, r7.1), (25, r8.1), (26, r9.1), (27, r10.1), (2, r11.1)]) r8.2) Q)))))) ∧
 (Ret (bs P 32 1 #[(0, r6.1)] (dw w)) fun r12 => (True ∧ True ∧ True ∧ bo P .quo 3 (.tmp 18) (.const (.int .i64 10)) r1.1 (.int .i64 10) r12.2 = some (r2.1, r12.2) ∧ True) ∧
 (Ret (cv P 32 9 r12.1 r12.2) fun r13 => r13.2 = r12.2 ∧
 ((Ret (EV P 31 #[r2.1] r12.2) fun r14 => (cv P 32 9 r12.1 r14.2 = some (r13.1, r14.2) ∧ cv P 3 5 r5.1 r14.2 = some (r6.1, r14.2) ∧ bo P .add 3 (.const (.int .i64 48)) (.tmp 22) (.int .i64 48) r4.1 r14.2 = some (r5.1, r14.2) ∧ bo P .rem 3 (.tmp 21) (.const (.int .i64 10)) r3.1 (.int .i64 10) r14.2 = some (r4.1, r14.2) ∧ True ∧ True) ∧
 (Ret (bo P .add 9 (.tmp 20) (.tmp 26) r14.1 r13.1 r14.2) fun r15 => r15.2 = r14.2 ∧
 (Ret (vl r15.1 r14.2) fun r16 => r16.2 = r14.2 ∧
 Ret (spec_l1Dec_j1 (ups e [(18, r1.1), (19, r2.1), (21, r3.1), (22, r4.1), (23, r5.1), (24, r6.1), (25, r12.1), (26, r13.1), (20, r14.1), (27, r15.1), (2, r16.1)]) r14.2) Q)))))))))))))) : Ret (spec_l1Dec_a1 e w) Q := exC_any (id := 7) (ops := opsOf (cA (cB (cB (cB (cB (bodyOf P 31))))))) (by kernel_rfl) (by kernel_rfl) (Eq.mpr (by kernel_rfl) h)
theorem spec_l1Dec_j1_eq (e : Env) (w : World) : spec_l1Dec_j1 e w =
 some ((e 2), w) := by kernel_rfl
theorem spec_l1Dec_fn (x0 : Value) (w : World) : fnC P (EV P) 31 #[x0] w =
 (vl (Go.Value.string { data := #[] }) w).bind fun r1 =>
 (vl x0 r1.2).bind fun r2 =>
 (bo P .lss 3 (.tmp 3) (.const (.int .i64 (-9223372036854775807))) r2.1 (.int .i64 (-9223372036854775807)) r2.2).bind fun r3 =>
 cnd r3.1 (
 (vl (Go.Value.string { data := #[45, 57, 50, 50, 51, 51, 55, 50, 48, 51, 54, 56, 53, 52, 55, 55, 53, 56, 48, 56] }) r3.2).bind fun r4 =>
 some (r4.1, r4.2)) (
 (vl x0 r3.2).bind fun r5 =>
 (bo P .lss 3 (.tmp 5) (.const (.int .i64 0)) r5.1 (.int .i64 0) r5.2).bind fun r6 =>
 cnd r6.1 (
 (vl x0 r6.2).bind fun r7 =>
 (uo P .neg r7.1 r7.2).bind fun r8 =>
 (EV P 31 #[r8.1] r8.2).bind fun r9 =>
 (bo P .add 9 (.const (Go.Value.string { data := #[45] })) (.tmp 9) (Go.Value.string { data := #[45] }) r9.1 r9.2).bind fun r10 =>
 (vl r10.1 r10.2).bind fun r11 =>
 some (r11.1, r11.2)) (
 (vl x0 r6.2).bind fun r12 =>
 (bo P .lss 3 (.tmp 11) (.const (.int .i64 10)) r12.1 (.int .i64 10) r12.2).bind fun r13 =>
 cnd r13.1 (
 (vl x0 r13.2).bind fun r14 =>
 (bo P .add 3 (.const (.int .i64 48)) (.tmp 13) (.int .i64 48) r14.1 r14.2).bind fun r15 =>
 (cv P 3 5 r15.1 r15.2).bind fun r16 =>
 (bs P 32 1 #[(0, r16.1)] r16.2).bind fun r17 =>
 (cv P 32 9 r17.1 r17.2).bind fun r18 =>
 (vl r18.1 r18.2).bind fun r19 =>
 some (r19.1, r19.2)) (
 spec_l1Dec_a1 (ups (env0 #[x0]) [(2, r1.1), (3, r2.1), (4, r3.1), (5, r5.1), (6, r6.1), (11, r12.1), (12, r13.1)]) r13.2))) := by kernel_rfl
theorem strconv_Itoa_fn (x0 : Value) (w : World) : fnC P (EV P) 32 #[x0] w =
 (vl (Go.Value.string { data := #[] }) w).bind fun r1 =>
 (vl x0 r1.2).bind fun r2 =>
 (EV P 39 #[r2.1] r2.2).bind fun r3 =>
 (vl r3.1 r3.2).bind fun r4 =>
 some (r4.1, r4.2) := by kernel_rfl
theorem internal_strconv_Itoa_fn (x0 : Value) (w : World) : fnC P (EV P) 39 #[x0] w =
 (vl (Go.Value.string { data := #[] }) w).bind fun r1 =>
 (vl x0 r1.2).bind fun r2 =>
 (EV P 46 #[r2.1, (.int .i64 10)] r2.2).bind fun r3 =>
 (vl r3.1 r3.2).bind fun r4 =>
 some (r4.1, r4.2) := by kernel_rfl
end Go.Proofs.YtobejpplmjfkpaaDoor.X
