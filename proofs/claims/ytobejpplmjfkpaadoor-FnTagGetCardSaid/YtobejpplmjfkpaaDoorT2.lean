/- A part of the proof: an evaluator of the model, its laws, and contracts of functions; no condition. -/
import Derived.Test.YtobejpplmjfkpaaDoorEvN
import Derived.Test.YtobejpplmjfkpaaDoorT1
set_option linter.unusedVariables false
set_option linter.unusedSimpArgs false
set_option maxRecDepth 100000
set_option maxHeartbeats 1000000
namespace Go.Proofs.YtobejpplmjfkpaaDoor.X
open Go Go.Ev Go.RowKit
theorem len64_m {n : Nat} (h1 : 100 ≤ n) (h2 : n ≤ 999) (w : World) : Ret (EV P 63 #[.int .u64 n] w) fun r => ∃ L : Nat, r = (i64 L, w) ∧ 7 ≤ L ∧ L ≤ 10 := by
  refine Ret.post fun Q hQ => ?_
  refine Ret.enter plain mixed (math_bits_Len64_fn _ _) (by kernel_rfl) (n := 1) (by kernel_rfl) rfl ?_
  simp (maxSteps := 1000000) (disch := first | assumption | omega | (simp only [World.size_alloc, size_setRow, dw_size]; done) | (simp only [World.size_alloc, size_setRow, dw_size] <;> omega) | (simp only [List.length_set, Array.length_toList, List.length_cons, List.length_nil, List.length_append, bts_size] <;> omega) | (simp only [List.all_cons, List.all_nil, Value.oneCell', Bool.and_self, Bool.and_true]; done)) [-Option.bind_some, hp_alloc_lt, hp_alloc_eq, hp_set_ne, wrap_small, ups_ap_cons, ups_ap_nil, upd_same, upd_other, env0_ap0, env0_aps, xt_a, xt_b, xt_c, -splice_eq, -stR_cells, stR_box, stR_boxA, stR_row, stR_row0, stR_row1, stR_rowA, stR_rowA0, splice_rowv, splice_rowv0, splice_rowv1, splice_z, splice_n, splice_s, nth_rowv, nth_rowv0, nth_rowv1, rowv_len, show ¬ (4294967296 : Int) ≤ n by omega]
  rw [math_bits_Len64_j1_eq]
  simp (maxSteps := 1000000) (disch := first | assumption | omega | (simp only [World.size_alloc, size_setRow, dw_size]; done) | (simp only [World.size_alloc, size_setRow, dw_size] <;> omega) | (simp only [List.length_set, Array.length_toList, List.length_cons, List.length_nil, List.length_append, bts_size] <;> omega) | (simp only [List.all_cons, List.all_nil, Value.oneCell', Bool.and_self, Bool.and_true]; done)) [-Option.bind_some, hp_alloc_lt, hp_alloc_eq, hp_set_ne, wrap_small, ups_ap_cons, ups_ap_nil, upd_same, upd_other, env0_ap0, env0_aps, xt_a, xt_b, xt_c, -splice_eq, -stR_cells, stR_box, stR_boxA, stR_row, stR_row0, stR_row1, stR_rowA, stR_rowA0, splice_rowv, splice_rowv0, splice_rowv1, splice_z, splice_n, splice_s, nth_rowv, nth_rowv0, nth_rowv1, rowv_len, show ¬ (65536 : Int) ≤ n by omega]
  rw [math_bits_Len64_j2_eq]
  by_cases h : 256 ≤ n
  · obtain ⟨m, hm⟩ : ∃ m : Nat, m = n / 256 := ⟨_, rfl⟩
    have hsh : (n : Int) / 2 ^ min 8 IntKind.u64.bits = (m : Int) := by
      show (n : Int) / 2 ^ 8 = _
      omega
    obtain ⟨b, hb⟩ : ∃ b, b = UInt8.ofNat (if m = 0 then 0 else m.log2 + 1) := ⟨_, rfl⟩
    have hb1 := len8_b m (by omega) (by omega)
    rw [← hb] at hb1
    have hat := len8_at m (by omega)
    rw [← hb] at hat
    have hix := fun w => ix_strk (P := P) (t := 9) (by kernel_rfl) len8T (k := .u8) (i := (m : Int)) (by omega) (b := b) (by simpa using hat) w
    unfold len8T at hix
    have hw8 : IntKind.u8.wrap (m : Int) = m := wu8 (by omega) (by omega)
    have hw3 : IntKind.i64.wrap (b.toNat : Int) = b.toNat := w64 (by omega) (by omega)
    have hw4 : IntKind.i64.wrap (8 + (b.toNat : Int)) = 8 + (b.toNat : Int) := w64 (by omega) (by omega)
    simp (maxSteps := 1000000) (disch := first | assumption | omega | (simp only [World.size_alloc, size_setRow, dw_size]; done) | (simp only [World.size_alloc, size_setRow, dw_size] <;> omega) | (simp only [List.length_set, Array.length_toList, List.length_cons, List.length_nil, List.length_append, bts_size] <;> omega) | (simp only [List.all_cons, List.all_nil, Value.oneCell', Bool.and_self, Bool.and_true]; done)) [-Option.bind_some, hp_alloc_lt, hp_alloc_eq, hp_set_ne, wrap_small, ups_ap_cons, ups_ap_nil, upd_same, upd_other, env0_ap0, env0_aps, xt_a, xt_b, xt_c, -splice_eq, -stR_cells, stR_box, stR_boxA, stR_row, stR_row0, stR_row1, stR_rowA, stR_rowA0, splice_rowv, splice_rowv0, splice_rowv1, splice_z, splice_n, splice_s, nth_rowv, nth_rowv0, nth_rowv1, rowv_len, show (256 : Int) ≤ n by omega, h, bo_shrk, hsh]
    rw [math_bits_Len64_j3_eq]
    simp (maxSteps := 1000000) (disch := first | assumption | omega | (simp only [World.size_alloc, size_setRow, dw_size]; done) | (simp only [World.size_alloc, size_setRow, dw_size] <;> omega) | (simp only [List.length_set, Array.length_toList, List.length_cons, List.length_nil, List.length_append, bts_size] <;> omega) | (simp only [List.all_cons, List.all_nil, Value.oneCell', Bool.and_self, Bool.and_true]; done)) [-Option.bind_some, hp_alloc_lt, hp_alloc_eq, hp_set_ne, wrap_small, ups_ap_cons, ups_ap_nil, upd_same, upd_other, env0_ap0, env0_aps, xt_a, xt_b, xt_c, -splice_eq, -stR_cells, stR_box, stR_boxA, stR_row, stR_row0, stR_row1, stR_rowA, stR_rowA0, splice_rowv, splice_rowv0, splice_rowv1, splice_z, splice_n, splice_s, nth_rowv, nth_rowv0, nth_rowv1, rowv_len, cv_int, hw8, hix, hw3, hw4]
    trace_state; exact hQ _ ⟨8 + b.toNat, by rw [Int.natCast_add]; rfl, by omega, by omega⟩
  · obtain ⟨b, hb⟩ : ∃ b, b = UInt8.ofNat (if n = 0 then 0 else n.log2 + 1) := ⟨_, rfl⟩
    have hb1 := len8_a n (by omega) (by omega)
    rw [← hb] at hb1
    have hat := len8_at n (by omega)
    rw [← hb] at hat
    have hix := fun w => ix_strk (P := P) (t := 9) (by kernel_rfl) len8T (k := .u8) (i := (n : Int)) (by omega) (b := b) (by simpa using hat) w
    unfold len8T at hix
    have hw8 : IntKind.u8.wrap (n : Int) = n := wu8 (by omega) (by omega)
    have hw3 : IntKind.i64.wrap (b.toNat : Int) = b.toNat := w64 (by omega) (by omega)
    simp (maxSteps := 1000000) (disch := first | assumption | omega | (simp only [World.size_alloc, size_setRow, dw_size]; done) | (simp only [World.size_alloc, size_setRow, dw_size] <;> omega) | (simp only [List.length_set, Array.length_toList, List.length_cons, List.length_nil, List.length_append, bts_size] <;> omega) | (simp only [List.all_cons, List.all_nil, Value.oneCell', Bool.and_self, Bool.and_true]; done)) [-Option.bind_some, hp_alloc_lt, hp_alloc_eq, hp_set_ne, wrap_small, ups_ap_cons, ups_ap_nil, upd_same, upd_other, env0_ap0, env0_aps, xt_a, xt_b, xt_c, -splice_eq, -stR_cells, stR_box, stR_boxA, stR_row, stR_row0, stR_row1, stR_rowA, stR_rowA0, splice_rowv, splice_rowv0, splice_rowv1, splice_z, splice_n, splice_s, nth_rowv, nth_rowv0, nth_rowv1, rowv_len, show ¬ (256 : Int) ≤ n by omega, h]
    rw [math_bits_Len64_j3_eq]
    simp (maxSteps := 1000000) (disch := first | assumption | omega | (simp only [World.size_alloc, size_setRow, dw_size]; done) | (simp only [World.size_alloc, size_setRow, dw_size] <;> omega) | (simp only [List.length_set, Array.length_toList, List.length_cons, List.length_nil, List.length_append, bts_size] <;> omega) | (simp only [List.all_cons, List.all_nil, Value.oneCell', Bool.and_self, Bool.and_true]; done)) [-Option.bind_some, hp_alloc_lt, hp_alloc_eq, hp_set_ne, wrap_small, ups_ap_cons, ups_ap_nil, upd_same, upd_other, env0_ap0, env0_aps, xt_a, xt_b, xt_c, -splice_eq, -stR_cells, stR_box, stR_boxA, stR_row, stR_row0, stR_row1, stR_rowA, stR_rowA0, splice_rowv, splice_rowv0, splice_rowv1, splice_z, splice_n, splice_s, nth_rowv, nth_rowv0, nth_rowv1, rowv_len, cv_int, hw8, hix, hw3]
    exact hQ _ ⟨b.toNat, rfl, by omega, by omega⟩
theorem log10_m {L : Nat} (h1 : 7 ≤ L) (h2 : L ≤ 10) (w : World) : Ret (EV P 62 #[i64 L] w) fun r => r = (i64 (if L = 10 then 3 else 2), w) := by
  have hw : IntKind.i64.wrap ((L : Int) * 78913) = (L : Int) * 78913 := w64 (by omega) (by omega)
  have hsh : (L : Int) * 78913 / 2 ^ min 18 IntKind.i64.bits = (if L = 10 then 3 else 2) := by
    show (L : Int) * 78913 / 2 ^ 18 = _
    split <;> omega
  refine Ret.post fun Q hQ => ?_
  refine Ret.enter plain mixed (internal_strconv_log10Pow2_fn _ _) (by kernel_rfl) (n := 1) (by kernel_rfl) rfl ?_
  simp (maxSteps := 1000000) (disch := first | assumption | omega | (simp only [World.size_alloc, size_setRow, dw_size]; done) | (simp only [World.size_alloc, size_setRow, dw_size] <;> omega) | (simp only [List.length_set, Array.length_toList, List.length_cons, List.length_nil, List.length_append, bts_size] <;> omega) | (simp only [List.all_cons, List.all_nil, Value.oneCell', Bool.and_self, Bool.and_true]; done)) [-Option.bind_some, hp_alloc_lt, hp_alloc_eq, hp_set_ne, wrap_small, ups_ap_cons, ups_ap_nil, upd_same, upd_other, env0_ap0, env0_aps, xt_a, xt_b, xt_c, -splice_eq, -stR_cells, stR_box, stR_boxA, stR_row, stR_row0, stR_row1, stR_rowA, stR_rowA0, splice_rowv, splice_rowv0, splice_rowv1, splice_z, splice_n, splice_s, nth_rowv, nth_rowv0, nth_rowv1, rowv_len, bo_mul, hw, bo_shrk, hsh]
  exact hQ _ rfl
theorem bool2int_m (b : Bool) (w : World) : Ret (EV P 64 #[.bool b] w) fun r => r = (i64 (if b then 1 else 0), w) := by
  refine Ret.post fun Q hQ => ?_
  refine Ret.enter plain mixed (internal_strconv_bool2_int_fn _ _) (by kernel_rfl) (n := 1) (by kernel_rfl) rfl ?_
  cases b
  · simp (maxSteps := 1000000) (disch := first | assumption | omega | (simp only [World.size_alloc, size_setRow, dw_size]; done) | (simp only [World.size_alloc, size_setRow, dw_size] <;> omega) | (simp only [List.length_set, Array.length_toList, List.length_cons, List.length_nil, List.length_append, bts_size] <;> omega) | (simp only [List.all_cons, List.all_nil, Value.oneCell', Bool.and_self, Bool.and_true]; done)) [-Option.bind_some, hp_alloc_lt, hp_alloc_eq, hp_set_ne, wrap_small, ups_ap_cons, ups_ap_nil, upd_same, upd_other, env0_ap0, env0_aps, xt_a, xt_b, xt_c, -splice_eq, -stR_cells, stR_box, stR_boxA, stR_row, stR_row0, stR_row1, stR_rowA, stR_rowA0, splice_rowv, splice_rowv0, splice_rowv1, splice_z, splice_n, splice_s, nth_rowv, nth_rowv0, nth_rowv1, rowv_len]
    exact hQ _ rfl
  · simp (maxSteps := 1000000) (disch := first | assumption | omega | (simp only [World.size_alloc, size_setRow, dw_size]; done) | (simp only [World.size_alloc, size_setRow, dw_size] <;> omega) | (simp only [List.length_set, Array.length_toList, List.length_cons, List.length_nil, List.length_append, bts_size] <;> omega) | (simp only [List.all_cons, List.all_nil, Value.oneCell', Bool.and_self, Bool.and_true]; done)) [-Option.bind_some, hp_alloc_lt, hp_alloc_eq, hp_set_ne, wrap_small, ups_ap_cons, ups_ap_nil, upd_same, upd_other, env0_ap0, env0_aps, xt_a, xt_b, xt_c, -splice_eq, -stR_cells, stR_box, stR_boxA, stR_row, stR_row0, stR_row1, stR_rowA, stR_rowA0, splice_rowv, splice_rowv0, splice_rowv1, splice_z, splice_n, splice_s, nth_rowv, nth_rowv0, nth_rowv1, rowv_len]
    exact hQ _ rfl
theorem numDigits_m {n : Nat} (h1 : 100 ≤ n) (h2 : n ≤ 999) {w : World} (G : Glob w) : Ret (EV P 55 #[.int .u64 n] w) fun r => r = (i64 3, w) := by
  have c2 : cellO (hp w 3) 2 = some (.int .u64 100) := by have := G.t10 2 _ rfl; simpa using this
  have c3 : cellO (hp w 3) 3 = some (.int .u64 1000) := by have := G.t10 3 _ rfl; simpa using this
  refine Ret.post fun Q hQ => ?_
  refine Ret.enter plain mixed (internal_strconv_numDigits_fn _ _) (by kernel_rfl) (n := 1) (by kernel_rfl) rfl ?_
  simp (maxSteps := 1000000) (disch := first | assumption | omega | (simp only [World.size_alloc, size_setRow, dw_size]; done) | (simp only [World.size_alloc, size_setRow, dw_size] <;> omega) | (simp only [List.length_set, Array.length_toList, List.length_cons, List.length_nil, List.length_append, bts_size] <;> omega) | (simp only [List.all_cons, List.all_nil, Value.oneCell', Bool.and_self, Bool.and_true]; done)) [-Option.bind_some, hp_alloc_lt, hp_alloc_eq, hp_set_ne, wrap_small, ups_ap_cons, ups_ap_nil, upd_same, upd_other, env0_ap0, env0_aps, xt_a, xt_b, xt_c, -splice_eq, -stR_cells, stR_box, stR_boxA, stR_row, stR_row0, stR_row1, stR_rowA, stR_rowA0, splice_rowv, splice_rowv0, splice_rowv1, splice_z, splice_n, splice_s, nth_rowv, nth_rowv0, nth_rowv1, rowv_len]
  refine Ret.bind (len64_m h1 h2 _) ?_
  rintro ⟨_, w1⟩ ⟨L, h, hL1, hL2⟩
  simp only [Prod.mk.injEq] at h
  obtain ⟨rfl, rfl⟩ := h
  refine Ret.bind (log10_m hL1 hL2 _) ?_
  rintro ⟨_, w1⟩ h
  simp only [Prod.mk.injEq] at h
  obtain ⟨rfl, rfl⟩ := h
  by_cases hL : L = 10
  · simp only [hL, if_true]
    simp (maxSteps := 1000000) (disch := first | assumption | omega | (simp only [World.size_alloc, size_setRow, dw_size]; done) | (simp only [World.size_alloc, size_setRow, dw_size] <;> omega) | (simp only [List.length_set, Array.length_toList, List.length_cons, List.length_nil, List.length_append, bts_size] <;> omega) | (simp only [List.all_cons, List.all_nil, Value.oneCell', Bool.and_self, Bool.and_true]; done)) [-Option.bind_some, hp_alloc_lt, hp_alloc_eq, hp_set_ne, wrap_small, ups_ap_cons, ups_ap_nil, upd_same, upd_other, env0_ap0, env0_aps, xt_a, xt_b, xt_c, -splice_eq, -stR_cells, stR_box, stR_boxA, stR_row, stR_row0, stR_row1, stR_rowA, stR_rowA0, splice_rowv, splice_rowv0, splice_rowv1, splice_z, splice_n, splice_s, nth_rowv, nth_rowv0, nth_rowv1, rowv_len, ia_arr (P := P) (t := 92) Tryd.underlying92 (by kernel_rfl : szB P 71 = some 1), c3, show ¬ (1000 : Int) ≤ n by omega]
    refine Ret.bind (bool2int_m _ _) ?_
    rintro ⟨_, w2⟩ h
    simp only [Prod.mk.injEq] at h
    obtain ⟨rfl, rfl⟩ := h
    simp (maxSteps := 1000000) (disch := first | assumption | omega | (simp only [World.size_alloc, size_setRow, dw_size]; done) | (simp only [World.size_alloc, size_setRow, dw_size] <;> omega) | (simp only [List.length_set, Array.length_toList, List.length_cons, List.length_nil, List.length_append, bts_size] <;> omega) | (simp only [List.all_cons, List.all_nil, Value.oneCell', Bool.and_self, Bool.and_true]; done)) [-Option.bind_some, hp_alloc_lt, hp_alloc_eq, hp_set_ne, wrap_small, ups_ap_cons, ups_ap_nil, upd_same, upd_other, env0_ap0, env0_aps, xt_a, xt_b, xt_c, -splice_eq, -stR_cells, stR_box, stR_boxA, stR_row, stR_row0, stR_row1, stR_rowA, stR_rowA0, splice_rowv, splice_rowv0, splice_rowv1, splice_z, splice_n, splice_s, nth_rowv, nth_rowv0, nth_rowv1, rowv_len]
    exact hQ _ rfl
  · simp only [hL, if_false]
    simp (maxSteps := 1000000) (disch := first | assumption | omega | (simp only [World.size_alloc, size_setRow, dw_size]; done) | (simp only [World.size_alloc, size_setRow, dw_size] <;> omega) | (simp only [List.length_set, Array.length_toList, List.length_cons, List.length_nil, List.length_append, bts_size] <;> omega) | (simp only [List.all_cons, List.all_nil, Value.oneCell', Bool.and_self, Bool.and_true]; done)) [-Option.bind_some, hp_alloc_lt, hp_alloc_eq, hp_set_ne, wrap_small, ups_ap_cons, ups_ap_nil, upd_same, upd_other, env0_ap0, env0_aps, xt_a, xt_b, xt_c, -splice_eq, -stR_cells, stR_box, stR_boxA, stR_row, stR_row0, stR_row1, stR_rowA, stR_rowA0, splice_rowv, splice_rowv0, splice_rowv1, splice_z, splice_n, splice_s, nth_rowv, nth_rowv0, nth_rowv1, rowv_len, ia_arr (P := P) (t := 92) Tryd.underlying92 (by kernel_rfl : szB P 71 = some 1), c2, show (100 : Int) ≤ n by omega]
    refine Ret.bind (bool2int_m _ _) ?_
    rintro ⟨_, w2⟩ h
    simp only [Prod.mk.injEq] at h
    obtain ⟨rfl, rfl⟩ := h
    simp (maxSteps := 1000000) (disch := first | assumption | omega | (simp only [World.size_alloc, size_setRow, dw_size]; done) | (simp only [World.size_alloc, size_setRow, dw_size] <;> omega) | (simp only [List.length_set, Array.length_toList, List.length_cons, List.length_nil, List.length_append, bts_size] <;> omega) | (simp only [List.all_cons, List.all_nil, Value.oneCell', Bool.and_self, Bool.and_true]; done)) [-Option.bind_some, hp_alloc_lt, hp_alloc_eq, hp_set_ne, wrap_small, ups_ap_cons, ups_ap_nil, upd_same, upd_other, env0_ap0, env0_aps, xt_a, xt_b, xt_c, -splice_eq, -stR_cells, stR_box, stR_boxA, stR_row, stR_row0, stR_row1, stR_rowA, stR_rowA0, splice_rowv, splice_rowv0, splice_rowv1, splice_z, splice_n, splice_s, nth_rowv, nth_rowv0, nth_rowv1, rowv_len]
    exact hQ _ rfl
end Go.Proofs.YtobejpplmjfkpaaDoor.X
