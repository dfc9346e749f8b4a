/- A part of the proof: an evaluator of the model, its laws, and contracts of functions; no condition. -/
import Derived.Test.YtkhbpmhagpljiaaDoorEvLt
import Derived.Test.YtkhbpmhagpljiaaDoorT0
set_option linter.unusedVariables false
set_option linter.unusedSimpArgs false
set_option maxRecDepth 100000
set_option maxHeartbeats 1000000
namespace Go.Proofs.YtkhbpmhagpljiaaDoor.X
open Go Go.Ev Go.RowKit
theorem dec2 {n : Nat} (h : n < 100) (h10 : 10 ≤ n) : decL n = [dg (n / 10), dg (n % 10)] := by
  rw [decL_ge (by omega), decL_lt (n := n / 10) (by omega)]
  rfl
theorem small_m {n : Nat} (h : n < 100) (w : World) : Ret (EV P 58 #[i64 n] w) fun r => r = (.string (bts (decL n)), w) := by
  refine Ret.post fun Q hQ => ?_
  refine Ret.enter plain mixed (internal_strconv_small_fn _ _) (by kernel_rfl) (n := 1) (by kernel_rfl) rfl ?_
  by_cases h10 : n < 10
  · have hs := sl_str (P := P) (t := 9) (by kernel_rfl) ⟨#[48, 49, 50, 51, 52, 53, 54, 55, 56, 57, 97, 98, 99, 100, 101, 102, 103, 104, 105, 106, 107, 108, 109, 110, 111, 112, 113, 114, 115, 116, 117, 118, 119, 120, 121, 122]⟩ (i := (n : Int)) (j := (n : Int) + 1) (by omega) (by omega) (by show _ ≤ ((36 : Nat) : Int); omega) w
    rw [show (n : Int).toNat = n by omega, show ((n : Int) + 1).toNat = n + 1 by omega, small1 n h10, ← decL_lt h10] at hs
    simp (maxSteps := 1000000) (disch := first | assumption | omega | (simp only [World.size_alloc, size_setRow, dw_size]; done) | (simp only [World.size_alloc, size_setRow, dw_size] <;> omega) | (simp only [List.length_set, Array.length_toList, List.length_cons, List.length_nil, List.length_append, bts_size] <;> omega) | (simp only [List.all_cons, List.all_nil, Value.oneCell', Bool.and_self, Bool.and_true]; done)) [-Option.bind_some, hp_alloc_lt, hp_alloc_eq, hp_set_ne, wrap_small, ups_ap_cons, ups_ap_nil, upd_same, upd_other, env0_ap0, env0_aps, xt_a, xt_b, xt_c, nk_ptr, -splice_eq, -stR_cells, stR_box, stR_boxA, stR_row, stR_row0, stR_row1, stR_rowA, stR_rowA0, splice_rowv, splice_rowv0, splice_rowv1, splice_z, splice_n, splice_s, nth_rowv, nth_rowv0, nth_rowv1, rowv_len, show (n : Int) < 10 by omega, h10, hs]
    exact hQ _ rfl
  · have hs := sl_str (P := P) (t := 9) (by kernel_rfl) smallsT (i := (n : Int) * 2) (j := (n : Int) * 2 + 2) (by omega) (by omega) (by show _ ≤ ((200 : Nat) : Int); omega) w
    rw [show ((n : Int) * 2).toNat = n * 2 by omega, show ((n : Int) * 2 + 2).toNat = n * 2 + 2 by omega, small2 n h (by omega), ← dec2 h (by omega)] at hs
    unfold smallsT at hs
    have hw1 : IntKind.i64.wrap ((n : Int) * 2) = (n : Int) * 2 := w64 (by omega) (by omega)
    have hw2 : IntKind.i64.wrap ((n : Int) * 2 + 2) = (n : Int) * 2 + 2 := w64 (by omega) (by omega)
    simp (maxSteps := 1000000) (disch := first | assumption | omega | (simp only [World.size_alloc, size_setRow, dw_size]; done) | (simp only [World.size_alloc, size_setRow, dw_size] <;> omega) | (simp only [List.length_set, Array.length_toList, List.length_cons, List.length_nil, List.length_append, bts_size] <;> omega) | (simp only [List.all_cons, List.all_nil, Value.oneCell', Bool.and_self, Bool.and_true]; done)) [-Option.bind_some, hp_alloc_lt, hp_alloc_eq, hp_set_ne, wrap_small, ups_ap_cons, ups_ap_nil, upd_same, upd_other, env0_ap0, env0_aps, xt_a, xt_b, xt_c, nk_ptr, -splice_eq, -stR_cells, stR_box, stR_boxA, stR_row, stR_row0, stR_row1, stR_rowA, stR_rowA0, splice_rowv, splice_rowv0, splice_rowv1, splice_z, splice_n, splice_s, nth_rowv, nth_rowv0, nth_rowv1, rowv_len, show ¬ (n : Int) < 10 by omega, h10, bo_mul, hw1, hw2, hs]
    exact hQ _ rfl
end Go.Proofs.YtkhbpmhagpljiaaDoor.X
