/- A part of the proof: an evaluator of the model, its laws, and contracts of functions; no condition. -/
import Derived.Test.YtjagkbamkohnoaaEvT
set_option linter.unusedVariables false
set_option maxRecDepth 100000
namespace Go.Proofs.Ytjagkbamkohnoaa.X
open Go Go.Ev
noncomputable def slices_IndexFunc_Tag_l1 (e : Env) (w : World) : Option (Value × World) := exC P (EV P) 111 19 (.loop (cA (cA (cB (cA (cB (bodyOf P 111))))))) e w (kBlock 0 (kSeq P (EV P) 111 19 (cB (cB (bodyOf P 111))) (kFn P (fnOf P 111))))
theorem slices_IndexFunc_Tag_l1_eq (e : Env) (w : World) : slices_IndexFunc_Tag_l1 e w =
 (bo P .lss 3 (.tmp 8) (.tmp 7) (e 8) (e 7) w).bind fun r1 =>
 cnd r1.1 (
 (vl (e 8) r1.2).bind fun r2 =>
 (vl r2.1 r2.2).bind fun r3 =>
 (vl (e 1) r3.2).bind fun r4 =>
 (vl (e 0) r4.2).bind fun r5 =>
 (vl r3.1 r5.2).bind fun r6 =>
 (ia P 28 r5.1 r6.1 r6.2).bind fun r7 =>
 (ld P 27 r7.1 r7.2).bind fun r8 =>
 (clo P r4.1 #[r8.1] r8.2).bind fun r9 =>
 cnd r9.1 (
 (vl r3.1 r9.2).bind fun r10 =>
 (vl r10.1 r10.2).bind fun r11 =>
 some (r11.1, r11.2)) (
 (bo P .add 3 (.tmp 8) (.const (.int .i64 1)) (e 8) (.int .i64 1) r9.2).bind fun r12 =>
 (vl r12.1 r12.2).bind fun r13 =>
 slices_IndexFunc_Tag_l1 (ups e [(9, r1.1), (10, r2.1), (5, r3.1), (11, r4.1), (12, r5.1), (13, r6.1), (14, r7.1), (15, r8.1), (16, r9.1), (18, r12.1), (8, r13.1)]) r13.2)) (
 (vl (.int .i64 (-1)) r1.2).bind fun r14 =>
 some (r14.1, r14.2)) := (exC_loop P (EV P) 111 19 (cA (cA (cB (cA (cB (bodyOf P 111)))))) e w (kBlock 0 (kSeq P (EV P) 111 19 (cB (cB (bodyOf P 111))) (kFn P (fnOf P 111))))).trans (by kernel_rfl)
theorem slices_IndexFunc_Tag_fn (x0 x1 : Value) (w : World) : fnC P (EV P) 111 #[x0, x1] w =
 (vl (.int .i64 0) w).bind fun r1 =>
 (vl x0 r1.2).bind fun r2 =>
 (b_len P #[28] 3 #[r2.1] r2.2).bind fun r3 =>
 (vl (.int .i64 0) r3.2).bind fun r4 =>
 slices_IndexFunc_Tag_l1 (ups (env0 #[x0, x1]) [(4, r1.1), (6, r2.1), (7, r3.1), (8, r4.1)]) r4.2 := by kernel_rfl
theorem spec_l20Text_fn (x0 : Value) (w : World) : fnC P (EV P) 115 #[x0] w =
 (vl (Go.Value.string { data := #[] }) w).bind fun r1 =>
 (vl x0 r1.2).bind fun r2 =>
 (bs P 98 8 #[(0, (Go.Value.string { data := #[] })), (1, (Go.Value.string { data := #[97] })), (2, (Go.Value.string { data := #[98] })), (3, (Go.Value.string { data := #[120, 35, 49] })), (4, (Go.Value.string { data := #[61] })), (5, (Go.Value.string { data := #[45] })), (6, (Go.Value.string { data := #[108, 111, 110, 103, 116, 101, 120, 116] })), (7, (Go.Value.string { data := #[122, 122] }))] r2.2).bind fun r3 =>
 (EV P 84 #[r2.1, r3.1] r3.2).bind fun r4 =>
 (vl r4.1 r4.2).bind fun r5 =>
 some (r5.1, r5.2) := by kernel_rfl
theorem slices_Clip_Tag_fn (x0 : Value) (w : World) : fnC P (EV P) 118 #[x0] w =
 (vl (Go.Value.slice none 0 0) w).bind fun r1 =>
 (vl x0 r1.2).bind fun r2 =>
 (vl x0 r2.2).bind fun r3 =>
 (b_len P #[28] 3 #[r3.1] r3.2).bind fun r4 =>
 (vl x0 r4.2).bind fun r5 =>
 (b_len P #[28] 3 #[r5.1] r5.2).bind fun r6 =>
 (sl P 28 r2.1 none (some r4.1) (some r6.1) r6.2).bind fun r7 =>
 (vl r7.1 r7.2).bind fun r8 =>
 some (r8.1, r8.2) := by kernel_rfl
theorem slices_Clone_Tag_fn (x0 : Value) (w : World) : fnC P (EV P) 119 #[x0] w =
 (vl (Go.Value.slice none 0 0) w).bind fun r1 =>
 (vl x0 r1.2).bind fun r2 =>
 (bo P .eql 28 (.tmp 3) (.const (Go.Value.slice none 0 0)) r2.1 (Go.Value.slice none 0 0) r2.2).bind fun r3 =>
 cnd r3.1 (
 (vl (Go.Value.slice none 0 0) r3.2).bind fun r4 =>
 some (r4.1, r4.2)) (
 (bs P 28 0 #[] r3.2).bind fun r5 =>
 (vl x0 r5.2).bind fun r6 =>
 (b_append P #[28, 28] 28 #[r5.1, r6.1] r6.2).bind fun r7 =>
 (vl r7.1 r7.2).bind fun r8 =>
 some (r8.1, r8.2)) := by kernel_rfl
theorem spec_l2New_fn (w : World) : fnC P (EV P) 120 #[] w =
 (al P 43 w).bind fun r1 =>
 (ms P 41 (.int .i64 4) (.int .i64 4) r1.2).bind fun r2 =>
 (bd P 43 #[(0, r2.1)] r2.2).bind fun r3 =>
 (st P 43 r1.1 r3.1 r3.2).bind fun r4 =>
 ((ld P 43 r1.1 r4.2).bind fun r5 => ifP (r5.2 = r4.2) (some r5.1)).bind fun v6 =>
 some (v6, r4.2) := by kernel_rfl
noncomputable def cmp_Or_int_l1 (e : Env) (w : World) : Option (Value × World) := exC P (EV P) 121 18 (.loop (cA (cA (cB (cA (cB (cB (bodyOf P 121)))))))) e w (kBlock 0 (kSeq P (EV P) 121 18 (cB (cB (cB (bodyOf P 121)))) (kFn P (fnOf P 121))))
theorem cmp_Or_int_l1_eq (e : Env) (w : World) : cmp_Or_int_l1 e w =
 (bo P .lss 3 (.tmp 8) (.tmp 7) (e 8) (e 7) w).bind fun r1 =>
 cnd r1.1 (
 (ia P 85 (e 6) (e 8) r1.2).bind fun r2 =>
 (ld P 3 r2.1 r2.2).bind fun r3 =>
 (vl r3.1 r3.2).bind fun r4 =>
 (vl r4.1 r4.2).bind fun r5 =>
 (vl (e 3) r5.2).bind fun r6 =>
 (bo P .neq 3 (.tmp 12) (.tmp 13) r5.1 r6.1 r6.2).bind fun r7 =>
 cnd r7.1 (
 (vl r4.1 r7.2).bind fun r8 =>
 (vl r8.1 r8.2).bind fun r9 =>
 some (r9.1, r9.2)) (
 (bo P .add 3 (.tmp 8) (.const (.int .i64 1)) (e 8) (.int .i64 1) r7.2).bind fun r10 =>
 (vl r10.1 r10.2).bind fun r11 =>
 cmp_Or_int_l1 (ups e [(9, r1.1), (10, r2.1), (11, r3.1), (5, r4.1), (12, r5.1), (13, r6.1), (14, r7.1), (16, r10.1), (8, r11.1)]) r11.2)) (
 (vl (e 3) r1.2).bind fun r12 =>
 (vl r12.1 r12.2).bind fun r13 =>
 some (r13.1, r13.2)) := (exC_loop P (EV P) 121 18 (cA (cA (cB (cA (cB (cB (bodyOf P 121))))))) e w (kBlock 0 (kSeq P (EV P) 121 18 (cB (cB (cB (bodyOf P 121)))) (kFn P (fnOf P 121))))).trans (by kernel_rfl)
theorem cmp_Or_int_fn (x0 : Value) (w : World) : fnC P (EV P) 121 #[x0] w =
 (vl (.int .i64 0) w).bind fun r1 =>
 (vl (.int .i64 0) r1.2).bind fun r2 =>
 (vl x0 r2.2).bind fun r3 =>
 (b_len P #[85] 3 #[r3.1] r3.2).bind fun r4 =>
 (vl (.int .i64 0) r4.2).bind fun r5 =>
 cmp_Or_int_l1 (ups (env0 #[x0]) [(2, r1.1), (3, r2.1), (6, r3.1), (7, r4.1), (8, r5.1)]) r5.2 := by kernel_rfl
theorem cmp_Compare_int_fn (x0 x1 : Value) (w : World) : fnC P (EV P) 122 #[x0, x1] w =
 (vl (.int .i64 0) w).bind fun r1 =>
 (vl x0 r1.2).bind fun r2 =>
 (EV P 125 #[r2.1] r2.2).bind fun r3 =>
 (vl r3.1 r3.2).bind fun r4 =>
 (vl x1 r4.2).bind fun r5 =>
 (EV P 125 #[r5.1] r5.2).bind fun r6 =>
 (vl r6.1 r6.2).bind fun r7 =>
 (vl r4.1 r7.2).bind fun r8 =>
 cnd r8.1 (
 (vl r7.1 r8.2).bind fun r9 =>
 cnd r9.1 (
 (vl (.int .i64 0) r9.2).bind fun r10 =>
 some (r10.1, r10.2)) (
 (vl (.int .i64 (-1)) r9.2).bind fun r11 =>
 some (r11.1, r11.2))) (
 (vl r7.1 r8.2).bind fun r12 =>
 cnd r12.1 (
 (vl (.int .i64 1) r12.2).bind fun r13 =>
 some (r13.1, r13.2)) (
 (vl x0 r12.2).bind fun r14 =>
 (vl x1 r14.2).bind fun r15 =>
 (bo P .lss 3 (.tmp 14) (.tmp 15) r14.1 r15.1 r15.2).bind fun r16 =>
 cnd r16.1 (
 (vl (.int .i64 (-1)) r16.2).bind fun r17 =>
 some (r17.1, r17.2)) (
 (vl x0 r16.2).bind fun r18 =>
 (vl x1 r18.2).bind fun r19 =>
 (bo P .gtr 3 (.tmp 17) (.tmp 18) r18.1 r19.1 r19.2).bind fun r20 =>
 cnd r20.1 (
 (vl (.int .i64 1) r20.2).bind fun r21 =>
 some (r21.1, r21.2)) (
 (vl (.int .i64 0) r20.2).bind fun r22 =>
 some (r22.1, r22.2))))) := by kernel_rfl
theorem cmp_isNaN_int_fn (x0 : Value) (w : World) : fnC P (EV P) 125 #[x0] w =
 (vl (.bool false) w).bind fun r1 =>
 (vl x0 r1.2).bind fun r2 =>
 (vl x0 r2.2).bind fun r3 =>
 (bo P .neq 3 (.tmp 3) (.tmp 4) r2.1 r3.1 r3.2).bind fun r4 =>
 (vl r4.1 r4.2).bind fun r5 =>
 some (r5.1, r5.2) := by kernel_rfl
end Go.Proofs.Ytjagkbamkohnoaa.X
