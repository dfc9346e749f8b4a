/- A part of the proof: an evaluator of the model, its laws, and contracts of functions; no condition. -/
import Derived.Test.YtkhbpmhagpljiaaDoorEvLv
import Derived.Test.YtkhbpmhagpljiaaDoorT10
set_option linter.unusedVariables false
set_option linter.unusedSimpArgs false
set_option maxRecDepth 100000
set_option maxHeartbeats 1000000
namespace Go.Proofs.YtkhbpmhagpljiaaDoor.X
open Go Go.Ev Go.RowKit
abbrev tStrs : Lay (List ByteArray) := LList 9 8796093021952 LStr
theorem l1Num_n {l : List UInt8} (hl : l.length ≤ 140737488351232) : ∀ (d k : Nat) (e : Env) (w : World) (n : Int), k + d = l.length → e 0 = .string (bts l) → e 3 = i64 n → e 4 = i64 k →
    Ret (spec_l1Num_l1 e w) fun r => ∃ m, r = (i64 m, w) ∧ ((∀ c ∈ l, 48 ≤ c.toNat ∧ c.toNat ≤ 57) → l.length ≤ 6 → 0 < l.length → (1 < l.length → l.head? ≠ some 48) → atoiL n (l.drop k) = some m) := by
  intro d
  induction d with
  | zero =>
    intro k e w n hd e0 e3 e4
    rw [spec_l1Num_l1_eq]
    obtain rfl : k = l.length := by omega
    rw [List.drop_length]
    refine Ret.post fun Q hQ => ?_
    by_cases h0 : l.length = 0
    · have h0' : ((l.length : Int) == 0) = true := beq_iff_eq.2 (by omega)
      simp (maxSteps := 1000000) (disch := first | assumption | omega | (simp only [World.size_alloc, size_setRow, dw_size]; done) | (simp only [World.size_alloc, size_setRow, dw_size] <;> omega) | (simp only [List.length_set, Array.length_toList, List.length_cons, List.length_nil, List.length_append, bts_size] <;> omega) | (simp only [List.all_cons, List.all_nil, Value.oneCell', Bool.and_self, Bool.and_true]; done)) [-Option.bind_some, hp_alloc_lt, hp_alloc_eq, hp_set_ne, wrap_small, ups_ap_cons, ups_ap_nil, upd_same, upd_other, env0_ap0, env0_aps, xt_a, xt_b, xt_c, nk_ptr, -splice_eq, -stR_cells, stR_box, stR_boxA, stR_row, stR_row0, stR_row1, stR_rowA, stR_rowA0, splice_rowv, splice_rowv0, splice_rowv1, splice_z, splice_n, splice_s, nth_rowv, nth_rowv0, nth_rowv1, rowv_len, e0, e3, e4, bts_size, h0', e0, e3, e4]
      exact hQ _ ⟨-1, rfl, fun _ _ h => by omega⟩
    · have h0' : ((l.length : Int) == 0) = false := beq_eq_false_iff_ne.2 (by omega)
      obtain ⟨x, s0, rfl⟩ : ∃ x s0, l = x :: s0 := by
        cases l with
        | nil => simp at h0
        | cons x s0 => exact ⟨x, s0, rfl⟩
      have hix := fun w => ix_bts (P := P) (t := 9) (by kernel_rfl) (x :: s0) (k := .i64) (i := 0) (by decide) (b := x) rfl w
      obtain ⟨L, hL⟩ : ∃ L, L = (x :: s0).length := ⟨_, rfl⟩
      rw [← hL] at h0' e4
      by_cases h1 : 1 < L
      · by_cases h48 : (x.toNat : Int) = 48
        · have h48' : ((x.toNat : Int) == 48) = true := beq_iff_eq.2 h48
          have hx : x = 48 := UInt8.toNat_inj.1 (by show x.toNat = 48; omega)
          simp (maxSteps := 1000000) (disch := first | assumption | omega | (simp only [World.size_alloc, size_setRow, dw_size]; done) | (simp only [World.size_alloc, size_setRow, dw_size] <;> omega) | (simp only [List.length_set, Array.length_toList, List.length_cons, List.length_nil, List.length_append, bts_size] <;> omega) | (simp only [List.all_cons, List.all_nil, Value.oneCell', Bool.and_self, Bool.and_true]; done)) [-Option.bind_some, hp_alloc_lt, hp_alloc_eq, hp_set_ne, wrap_small, ups_ap_cons, ups_ap_nil, upd_same, upd_other, env0_ap0, env0_aps, xt_a, xt_b, xt_c, nk_ptr, -splice_eq, -stR_cells, stR_box, stR_boxA, stR_row, stR_row0, stR_row1, stR_rowA, stR_rowA0, splice_rowv, splice_rowv0, splice_rowv1, splice_z, splice_n, splice_s, nth_rowv, nth_rowv0, nth_rowv1, rowv_len, e0, e3, e4, bts_size, ← hL, h0', show (1 : Int) < L by omega, h1, hix, h48', e0, e3, e4]
          exact hQ _ ⟨-1, rfl, fun _ _ _ h => absurd (by rw [hx]; rfl) (h (by omega))⟩
        · have h48' : ((x.toNat : Int) == 48) = false := beq_eq_false_iff_ne.2 h48
          simp (maxSteps := 1000000) (disch := first | assumption | omega | (simp only [World.size_alloc, size_setRow, dw_size]; done) | (simp only [World.size_alloc, size_setRow, dw_size] <;> omega) | (simp only [List.length_set, Array.length_toList, List.length_cons, List.length_nil, List.length_append, bts_size] <;> omega) | (simp only [List.all_cons, List.all_nil, Value.oneCell', Bool.and_self, Bool.and_true]; done)) [-Option.bind_some, hp_alloc_lt, hp_alloc_eq, hp_set_ne, wrap_small, ups_ap_cons, ups_ap_nil, upd_same, upd_other, env0_ap0, env0_aps, xt_a, xt_b, xt_c, nk_ptr, -splice_eq, -stR_cells, stR_box, stR_boxA, stR_row, stR_row0, stR_row1, stR_rowA, stR_rowA0, splice_rowv, splice_rowv0, splice_rowv1, splice_z, splice_n, splice_s, nth_rowv, nth_rowv0, nth_rowv1, rowv_len, e0, e3, e4, bts_size, ← hL, h0', show (1 : Int) < L by omega, h1, hix, h48', e0, e3, e4]
          exact hQ _ ⟨n, rfl, fun _ _ _ _ => rfl⟩
      · simp (maxSteps := 1000000) (disch := first | assumption | omega | (simp only [World.size_alloc, size_setRow, dw_size]; done) | (simp only [World.size_alloc, size_setRow, dw_size] <;> omega) | (simp only [List.length_set, Array.length_toList, List.length_cons, List.length_nil, List.length_append, bts_size] <;> omega) | (simp only [List.all_cons, List.all_nil, Value.oneCell', Bool.and_self, Bool.and_true]; done)) [-Option.bind_some, hp_alloc_lt, hp_alloc_eq, hp_set_ne, wrap_small, ups_ap_cons, ups_ap_nil, upd_same, upd_other, env0_ap0, env0_aps, xt_a, xt_b, xt_c, nk_ptr, -splice_eq, -stR_cells, stR_box, stR_boxA, stR_row, stR_row0, stR_row1, stR_rowA, stR_rowA0, splice_rowv, splice_rowv0, splice_rowv1, splice_z, splice_n, splice_s, nth_rowv, nth_rowv0, nth_rowv1, rowv_len, e0, e3, e4, bts_size, ← hL, h0', show ¬ (1 : Int) < L by omega, h1, e0, e3, e4]
        exact hQ _ ⟨n, rfl, fun _ _ _ _ => rfl⟩
  | succ d ih =>
    intro k e w n hd e0 e3 e4
    rw [spec_l1Num_l1_eq]
    have hlt : k < l.length := by omega
    obtain ⟨b, hb, hdr⟩ := drop_at hlt
    have hix := fun w => ix_bts (P := P) (t := 9) (by kernel_rfl) l (k := .i64) (i := (k : Int)) (by omega) (b := b) (by rw [Int.toNat_natCast]; exact hb) w
    have hmem : b ∈ l := List.mem_of_getElem? hb
    refine Ret.post fun Q hQ => ?_
    by_cases hlo : (b.toNat : Int) < 48
    · simp (maxSteps := 1000000) (disch := first | assumption | omega | (simp only [World.size_alloc, size_setRow, dw_size]; done) | (simp only [World.size_alloc, size_setRow, dw_size] <;> omega) | (simp only [List.length_set, Array.length_toList, List.length_cons, List.length_nil, List.length_append, bts_size] <;> omega) | (simp only [List.all_cons, List.all_nil, Value.oneCell', Bool.and_self, Bool.and_true]; done)) [-Option.bind_some, hp_alloc_lt, hp_alloc_eq, hp_set_ne, wrap_small, ups_ap_cons, ups_ap_nil, upd_same, upd_other, env0_ap0, env0_aps, xt_a, xt_b, xt_c, nk_ptr, -splice_eq, -stR_cells, stR_box, stR_boxA, stR_row, stR_row0, stR_row1, stR_rowA, stR_rowA0, splice_rowv, splice_rowv0, splice_rowv1, splice_z, splice_n, splice_s, nth_rowv, nth_rowv0, nth_rowv1, rowv_len, e0, e3, e4, bts_size, hlt, hix, hlo, e0, e3, e4, hlt]
      exact hQ _ ⟨-1, rfl, fun h => by have := h b hmem; omega⟩
    by_cases hhi : (57 : Int) < b.toNat
    · simp (maxSteps := 1000000) (disch := first | assumption | omega | (simp only [World.size_alloc, size_setRow, dw_size]; done) | (simp only [World.size_alloc, size_setRow, dw_size] <;> omega) | (simp only [List.length_set, Array.length_toList, List.length_cons, List.length_nil, List.length_append, bts_size] <;> omega) | (simp only [List.all_cons, List.all_nil, Value.oneCell', Bool.and_self, Bool.and_true]; done)) [-Option.bind_some, hp_alloc_lt, hp_alloc_eq, hp_set_ne, wrap_small, ups_ap_cons, ups_ap_nil, upd_same, upd_other, env0_ap0, env0_aps, xt_a, xt_b, xt_c, nk_ptr, -splice_eq, -stR_cells, stR_box, stR_boxA, stR_row, stR_row0, stR_row1, stR_rowA, stR_rowA0, splice_rowv, splice_rowv0, splice_rowv1, splice_z, splice_n, splice_s, nth_rowv, nth_rowv0, nth_rowv1, rowv_len, e0, e3, e4, bts_size, hlt, hix, hlo, hhi, e0, e3, e4, hlt]
      exact hQ _ ⟨-1, rfl, fun h => by have := h b hmem; omega⟩
    by_cases hk : (6 : Int) ≤ k
    · simp (maxSteps := 1000000) (disch := first | assumption | omega | (simp only [World.size_alloc, size_setRow, dw_size]; done) | (simp only [World.size_alloc, size_setRow, dw_size] <;> omega) | (simp only [List.length_set, Array.length_toList, List.length_cons, List.length_nil, List.length_append, bts_size] <;> omega) | (simp only [List.all_cons, List.all_nil, Value.oneCell', Bool.and_self, Bool.and_true]; done)) [-Option.bind_some, hp_alloc_lt, hp_alloc_eq, hp_set_ne, wrap_small, ups_ap_cons, ups_ap_nil, upd_same, upd_other, env0_ap0, env0_aps, xt_a, xt_b, xt_c, nk_ptr, -splice_eq, -stR_cells, stR_box, stR_boxA, stR_row, stR_row0, stR_row1, stR_rowA, stR_rowA0, splice_rowv, splice_rowv0, splice_rowv1, splice_z, splice_n, splice_s, nth_rowv, nth_rowv0, nth_rowv1, rowv_len, e0, e3, e4, bts_size, hlt, hix, hlo, hhi, hk, e0, e3, e4, hlt]
      exact hQ _ ⟨-1, rfl, fun _ h => by omega⟩
    · simp (maxSteps := 1000000) (disch := first | assumption | omega | (simp only [World.size_alloc, size_setRow, dw_size]; done) | (simp only [World.size_alloc, size_setRow, dw_size] <;> omega) | (simp only [List.length_set, Array.length_toList, List.length_cons, List.length_nil, List.length_append, bts_size] <;> omega) | (simp only [List.all_cons, List.all_nil, Value.oneCell', Bool.and_self, Bool.and_true]; done)) [-Option.bind_some, hp_alloc_lt, hp_alloc_eq, hp_set_ne, wrap_small, ups_ap_cons, ups_ap_nil, upd_same, upd_other, env0_ap0, env0_aps, xt_a, xt_b, xt_c, nk_ptr, -splice_eq, -stR_cells, stR_box, stR_boxA, stR_row, stR_row0, stR_row1, stR_rowA, stR_rowA0, splice_rowv, splice_rowv0, splice_rowv1, splice_z, splice_n, splice_s, nth_rowv, nth_rowv0, nth_rowv1, rowv_len, e0, e3, e4, bts_size, hlt, hix, hlo, hhi, hk, bo_mul, cv_int, e0, e3, e4, hlt]
      refine Ret.mono (ih (k + 1) _ _ (IntKind.i64.wrap (IntKind.i64.wrap (n * 10) + IntKind.i64.wrap (IntKind.u8.wrap ((b.toNat : Int) - 48)))) (by omega) (by first | omega | assumption | rfl | exact congrArg i64 (by omega) | (simp; done) | (simp; omega)) (by first | omega | assumption | rfl | exact congrArg i64 (by omega) | (simp; done) | (simp; omega)) (by first | omega | assumption | rfl | exact congrArg i64 (by omega) | (simp; done) | (simp; omega))) ?_
      rintro r ⟨m, h1, h2⟩
      refine hQ _ ⟨m, h1, fun g1 g2 g3 g4 => ?_⟩
      rw [hdr]
      show (if 9 < IntKind.u8.wrap ((b.toNat : Int) - 48) then none else _) = _
      rw [if_neg (by rw [wu8 (by omega) (by omega)]; omega)]
      exact h2 g1 g2 g3 g4
theorem l1Num_m {l : List UInt8} (hl : l.length ≤ 140737488351232) (w : World) : Ret (EV P 26 #[.string (bts l)] w) fun r => ∃ m, r = (i64 m, w) ∧ ∀ v : Nat, v ≤ 999999 → l = decL v → m = v := by
  refine Ret.post fun Q hQ => ?_
  refine Ret.enter plain mixed (spec_l1Num_fn _ _) (by kernel_rfl) (n := 1) (by kernel_rfl) rfl ?_
  simp (maxSteps := 1000000) (disch := first | assumption | omega | (simp only [World.size_alloc, size_setRow, dw_size]; done) | (simp only [World.size_alloc, size_setRow, dw_size] <;> omega) | (simp only [List.length_set, Array.length_toList, List.length_cons, List.length_nil, List.length_append, bts_size] <;> omega) | (simp only [List.all_cons, List.all_nil, Value.oneCell', Bool.and_self, Bool.and_true]; done)) [-Option.bind_some, hp_alloc_lt, hp_alloc_eq, hp_set_ne, wrap_small, ups_ap_cons, ups_ap_nil, upd_same, upd_other, env0_ap0, env0_aps, xt_a, xt_b, xt_c, nk_ptr, -splice_eq, -stR_cells, stR_box, stR_boxA, stR_row, stR_row0, stR_row1, stR_rowA, stR_rowA0, splice_rowv, splice_rowv0, splice_rowv1, splice_z, splice_n, splice_s, nth_rowv, nth_rowv0, nth_rowv1, rowv_len]
  refine Ret.mono (l1Num_n hl l.length 0 _ w 0 (by omega) rfl rfl rfl) ?_
  rintro _ ⟨m, rfl, h⟩
  refine hQ _ ⟨m, rfl, fun v hv he => ?_⟩
  have h1 := decL_pow 5 v (by omega)
  have h2 := decL_len v
  have h3 := h (by rw [he]; exact decL_mem) (by rw [he]; omega) (by rw [he]; omega) (fun hh => by
    rw [he] at hh ⊢
    exact decL_nz v (by
      rcases Nat.lt_or_ge v 10 with h | h
      · rw [decL_lt h] at hh; simp at hh
      · exact h))
  rw [List.drop_zero, he, atoiL_dec v (by omega)] at h3
  exact (Option.some.inj h3).symm
theorem l1Cut_n {l : List UInt8} {c : UInt8} {N : Nat} (hN : N ≤ 100000000) (hl : l.length ≤ 140737488351232) {w0 : World} : ∀ (d i : Nat) (e : Env) (w : World) (st : Nat) (pre : List UInt8) (parts : List (List UInt8)) (sv : Value),
    i + d = l.length → st ≤ i → l.drop st = pre ++ l.drop i → pre.length = i - st → c ∉ pre → parts.length ≤ N →
    e 0 = .string (bts l) → e 1 = .int .u8 c.toNat → e 2 = i64 N → e 7 = sv → e 8 = i64 st → e 9 = i64 i → Ext w0 w →
    O tStrs (In w0.heap.size w.heap.size) w [sv] (parts.map bts) →
    Ret (spec_l1Cut_l1 e w) fun r => ∃ a q, r.1 = .slice a (parts ++ cutN c (N - parts.length) (l.drop st)).length q ∧ O tStrs (In w0.heap.size r.2.heap.size) r.2 [r.1] ((parts ++ cutN c (N - parts.length) (l.drop st)).map bts) ∧ Ext w0 r.2 := by
  intro d
  -- what is put behind
  have put : ∀ (w : World) (sv : Value) (parts : List (List UInt8)) (g : Nat) (s : List UInt8), Ext w0 w → O tStrs (In w0.heap.size w.heap.size) w [sv] (parts.map bts) → parts.length ≤ N → s.length ≤ 140737488351232 → hp w g = some (.cells #[.string (bts s)] 9 (0, 0)) →
      Ret (b_append P #[52, 52] 52 #[sv, .slice (some ⟨g, 0, none⟩) 1 1] w) fun r => ∃ a q, r.1 = .slice a (parts.length + 1) q ∧ O tStrs (In w0.heap.size r.2.heap.size) r.2 [.slice a (parts.length + 1) q] ((parts ++ [s]).map bts) ∧ Ext w0 r.2 := by
    intro w sv parts g s E0 ho hp' hs hg
    have zE0 := E0.size
    try simp only [World.size_alloc, size_setRow, dw_size] at zE0
    have hz := E0.size
    refine Ret.mono (O.appD (L := LStr) (mx := 8796093021952) flat_str el_52 zz_9 rfl (by decide) ho (one_raw (P := P) (by rw [bts_size]; exact hs) hg) (by simp; omega) (by decide) (by decide)) ?_
    rintro ⟨_, w1⟩ ⟨a1, c1, rfl, o1, M1⟩
    have zM1 := M1.size
    try simp only [World.size_alloc, size_setRow, dw_size] at zM1
    try dsimp only at o1 M1
    have zM1 := M1.size
    have F1 : Ext w0 w1 := Mod.after (a := w0) E0 M1 (by intro x hx h; simp only [In] at h; omega)
    refine ⟨a1, c1, by simp, ?_, F1⟩
    rw [List.map_append]
    rw [List.length_map] at o1
    exact o1.wide (by intro b hb hl; simp only [In] at hb ⊢; rcases hb with hb | hb <;> omega)
  induction d with
  | zero =>
    intro i e w st pre parts sv hd hst hdr hpl hpre hpn e0 e1 e2 e7 e8 e9 E0 ho
    have zE0 := E0.size
    try simp only [World.size_alloc, size_setRow, dw_size] at zE0
    rw [spec_l1Cut_l1_eq]
    obtain rfl : i = l.length := by omega
    rw [List.drop_length, List.append_nil] at hdr
    have hsf := fun w => sl_str_from (P := P) (t := 9) (by kernel_rfl) l (i := (st : Int)) (by omega) (by omega) w
    rw [Int.toNat_natCast] at hsf
    have hcn : cutN c (N - parts.length) (l.drop st) = [l.drop st] := cutN_not (by rw [hdr]; exact hpre) _
    rw [hcn]
    refine Ret.post fun Q hQ => ?_
    simp (maxSteps := 1000000) (disch := first | assumption | omega | (simp only [World.size_alloc, size_setRow, dw_size]; done) | (simp only [World.size_alloc, size_setRow, dw_size] <;> omega) | (simp only [List.length_set, Array.length_toList, List.length_cons, List.length_nil, List.length_append, bts_size] <;> omega) | (simp only [List.all_cons, List.all_nil, Value.oneCell', Bool.and_self, Bool.and_true]; done)) [-Option.bind_some, hp_alloc_lt, hp_alloc_eq, hp_set_ne, wrap_small, ups_ap_cons, ups_ap_nil, upd_same, upd_other, env0_ap0, env0_aps, xt_a, xt_b, xt_c, nk_ptr, -splice_eq, -stR_cells, stR_box, stR_boxA, stR_row, stR_row0, stR_row1, stR_rowA, stR_rowA0, splice_rowv, splice_rowv0, splice_rowv1, splice_z, splice_n, splice_s, nth_rowv, nth_rowv0, nth_rowv1, rowv_len, e0, e1, e2, e7, e8, e9, bts_size, hsf, e0, e1, e2, e7, e8, e9, E0.blk]
    refine Ret.bind (put _ sv parts w.heap.size (l.drop st) (by (repeat (first | exact Ext.rfl | assumption | (refine Ext.al ?_ _) | (refine Ext.dw ?_) | (refine Ext.set ?_ (by first | omega | (simp only [World.size_alloc, size_setRow, dw_size]; omega)) _) | (refine Ext.tr ?_ (by assumption))))) ?_ hpn (by rw [List.length_drop]; omega) (by first | assumption | rfl | (simp (maxSteps := 1000000) (disch := first | assumption | omega | (simp only [World.size_alloc, size_setRow, dw_size]; done) | (simp only [World.size_alloc, size_setRow, dw_size] <;> omega) | (simp only [List.length_set, Array.length_toList, List.length_cons, List.length_nil, List.length_append, bts_size] <;> omega) | (simp only [List.all_cons, List.all_nil, Value.oneCell', Bool.and_self, Bool.and_true]; done)) [-Option.bind_some, hp_alloc_lt, hp_alloc_eq, hp_set_ne, wrap_small, ups_ap_cons, ups_ap_nil, upd_same, upd_other, env0_ap0, env0_aps, xt_a, xt_b, xt_c, nk_ptr, -splice_eq, -stR_cells, stR_box, stR_boxA, stR_row, stR_row0, stR_row1, stR_rowA, stR_rowA0, splice_rowv, splice_rowv0, splice_rowv1, splice_z, splice_n, splice_s, nth_rowv, nth_rowv0, nth_rowv1, rowv_len, e0, e1, e2, e7, e8, e9, E0.blk]; done))) ?_
    · exact (ho.keep (by intro b hS hb; (try dsimp only at hS); (try simp only [In, World.size_alloc, size_setRow, dw_size] at hS hb); first | rfl | (simp (disch := first | assumption | omega | (simp only [World.size_alloc, size_setRow, dw_size]; omega) | (simp only [World.size_alloc, size_setRow, dw_size, In]; omega)) only [E0.blk, hp_alloc_lt, hp_set_ne, hp_dw]; done))).wide (by intro b h1 h2; (try dsimp only at h1); (try simp only [In, World.size_alloc, size_setRow, dw_size] at *); omega)
    · rintro ⟨_, w1⟩ ⟨a, q, rfl, o1, E1⟩
      have zE1 := E1.size
      try simp only [World.size_alloc, size_setRow, dw_size] at zE1
      try dsimp only at o1 E1
      simp (maxSteps := 1000000) (disch := first | assumption | omega | (simp only [World.size_alloc, size_setRow, dw_size]; done) | (simp only [World.size_alloc, size_setRow, dw_size] <;> omega) | (simp only [List.length_set, Array.length_toList, List.length_cons, List.length_nil, List.length_append, bts_size] <;> omega) | (simp only [List.all_cons, List.all_nil, Value.oneCell', Bool.and_self, Bool.and_true]; done)) [-Option.bind_some, hp_alloc_lt, hp_alloc_eq, hp_set_ne, wrap_small, ups_ap_cons, ups_ap_nil, upd_same, upd_other, env0_ap0, env0_aps, xt_a, xt_b, xt_c, nk_ptr, -splice_eq, -stR_cells, stR_box, stR_boxA, stR_row, stR_row0, stR_row1, stR_rowA, stR_rowA0, splice_rowv, splice_rowv0, splice_rowv1, splice_z, splice_n, splice_s, nth_rowv, nth_rowv0, nth_rowv1, rowv_len, e0, e1, e2, e7, e8, e9, E0.blk, E1.blk]
      exact hQ _ ⟨a, q, by simp, o1, E1⟩
  | succ d ih =>
    intro i e w st pre parts sv hd hst hdr hpl hpre hpn e0 e1 e2 e7 e8 e9 E0 ho
    have zE0 := E0.size
    try simp only [World.size_alloc, size_setRow, dw_size] at zE0
    rw [spec_l1Cut_l1_eq]
    have hlt : i < l.length := by omega
    obtain ⟨b, hb, hdi⟩ := drop_at hlt
    obtain ⟨a0, c0, rfl, _⟩ := ho.d.sl
    rw [List.length_map] at e7 ho
    have hix := fun w => ix_bts (P := P) (t := 9) (by kernel_rfl) l (k := .i64) (i := (i : Int)) (by omega) (b := b) (by rw [Int.toNat_natCast]; exact hb) w
    refine Ret.post fun Q hQ => ?_
    by_cases hlN : parts.length < N
    · by_cases hbc : b = c
      · subst hbc
        have hsx := fun w => sl_str (P := P) (t := 9) (by kernel_rfl) (bts l) (i := (st : Int)) (j := (i : Int)) (by omega) (by omega) (by rw [bts_size]; omega) w
        rw [bts_extract, Int.toNat_natCast, Int.toNat_natCast, hdr, List.take_append_of_le_length (by omega), List.take_of_length_le (by omega)] at hsx
        have hbb : ((b.toNat : Int) == b.toNat) = true := beq_iff_eq.2 rfl
        simp (maxSteps := 1000000) (disch := first | assumption | omega | (simp only [World.size_alloc, size_setRow, dw_size]; done) | (simp only [World.size_alloc, size_setRow, dw_size] <;> omega) | (simp only [List.length_set, Array.length_toList, List.length_cons, List.length_nil, List.length_append, bts_size] <;> omega) | (simp only [List.all_cons, List.all_nil, Value.oneCell', Bool.and_self, Bool.and_true]; done)) [-Option.bind_some, hp_alloc_lt, hp_alloc_eq, hp_set_ne, wrap_small, ups_ap_cons, ups_ap_nil, upd_same, upd_other, env0_ap0, env0_aps, xt_a, xt_b, xt_c, nk_ptr, -splice_eq, -stR_cells, stR_box, stR_boxA, stR_row, stR_row0, stR_row1, stR_rowA, stR_rowA0, splice_rowv, splice_rowv0, splice_rowv1, splice_z, splice_n, splice_s, nth_rowv, nth_rowv0, nth_rowv1, rowv_len, e0, e1, e2, e7, e8, e9, bts_size, hlt, hlN, hix, hbb, hsx, e0, e1, e2, e7, e8, e9, E0.blk, hlt]
        refine Ret.bind (put _ _ parts w.heap.size pre (by (repeat (first | exact Ext.rfl | assumption | (refine Ext.al ?_ _) | (refine Ext.dw ?_) | (refine Ext.set ?_ (by first | omega | (simp only [World.size_alloc, size_setRow, dw_size]; omega)) _) | (refine Ext.tr ?_ (by assumption))))) ?_ hpn (by omega) (by first | assumption | rfl | (simp (maxSteps := 1000000) (disch := first | assumption | omega | (simp only [World.size_alloc, size_setRow, dw_size]; done) | (simp only [World.size_alloc, size_setRow, dw_size] <;> omega) | (simp only [List.length_set, Array.length_toList, List.length_cons, List.length_nil, List.length_append, bts_size] <;> omega) | (simp only [List.all_cons, List.all_nil, Value.oneCell', Bool.and_self, Bool.and_true]; done)) [-Option.bind_some, hp_alloc_lt, hp_alloc_eq, hp_set_ne, wrap_small, ups_ap_cons, ups_ap_nil, upd_same, upd_other, env0_ap0, env0_aps, xt_a, xt_b, xt_c, nk_ptr, -splice_eq, -stR_cells, stR_box, stR_boxA, stR_row, stR_row0, stR_row1, stR_rowA, stR_rowA0, splice_rowv, splice_rowv0, splice_rowv1, splice_z, splice_n, splice_s, nth_rowv, nth_rowv0, nth_rowv1, rowv_len, e0, e1, e2, e7, e8, e9, E0.blk, hlt]; done))) ?_
        · exact (ho.keep (by intro b hS hb; (try dsimp only at hS); (try simp only [In, World.size_alloc, size_setRow, dw_size] at hS hb); first | rfl | (simp (disch := first | assumption | omega | (simp only [World.size_alloc, size_setRow, dw_size]; omega) | (simp only [World.size_alloc, size_setRow, dw_size, In]; omega)) only [E0.blk, hp_alloc_lt, hp_set_ne, hp_dw]; done))).wide (by intro b h1 h2; (try dsimp only at h1); (try simp only [In, World.size_alloc, size_setRow, dw_size] at *); omega)
        · rintro ⟨_, w1⟩ ⟨a, q, rfl, o1, E1⟩
          have zE1 := E1.size
          try simp only [World.size_alloc, size_setRow, dw_size] at zE1
          try dsimp only at o1 E1
          simp (maxSteps := 1000000) (disch := first | assumption | omega | (simp only [World.size_alloc, size_setRow, dw_size]; done) | (simp only [World.size_alloc, size_setRow, dw_size] <;> omega) | (simp only [List.length_set, Array.length_toList, List.length_cons, List.length_nil, List.length_append, bts_size] <;> omega) | (simp only [List.all_cons, List.all_nil, Value.oneCell', Bool.and_self, Bool.and_true]; done)) [-Option.bind_some, hp_alloc_lt, hp_alloc_eq, hp_set_ne, wrap_small, ups_ap_cons, ups_ap_nil, upd_same, upd_other, env0_ap0, env0_aps, xt_a, xt_b, xt_c, nk_ptr, -splice_eq, -stR_cells, stR_box, stR_boxA, stR_row, stR_row0, stR_row1, stR_rowA, stR_rowA0, splice_rowv, splice_rowv0, splice_rowv1, splice_z, splice_n, splice_s, nth_rowv, nth_rowv0, nth_rowv1, rowv_len, e0, e1, e2, e7, e8, e9, spec_l1Cut_j1_eq, e0, e1, e2, e7, e8, e9, E0.blk, hlt, E1.blk]
          refine Ret.mono (ih (i + 1) _ _ (i + 1) [] (parts ++ [pre]) _ (by omega) (Nat.le_refl _) rfl (by simp) (by simp) (by simp; omega) (by first | omega | assumption | rfl | exact congrArg i64 (by omega) | (simp; done) | (simp; omega)) (by first | omega | assumption | rfl | exact congrArg i64 (by omega) | (simp; done) | (simp; omega)) (by first | omega | assumption | rfl | exact congrArg i64 (by omega) | (simp; done) | (simp; omega)) rfl (by first | omega | assumption | rfl | exact congrArg i64 (by omega) | (simp; done) | (simp; omega)) (by first | omega | assumption | rfl | exact congrArg i64 (by omega) | (simp; done) | (simp; omega)) E1 o1) ?_
          rintro r ⟨a, q, h1, h2, h3⟩
          have hcn : cutN b (N - parts.length) (l.drop st) = pre :: cutN b (N - (parts ++ [pre]).length) (l.drop (i + 1)) := by
            rw [hdr, hdi, show N - parts.length = (N - (parts ++ [pre]).length) + 1 by simp; omega]
            exact cutN_app hpre _
          rw [List.append_assoc, List.singleton_append, ← hcn] at h1 h2
          exact hQ _ ⟨a, q, h1, h2, h3⟩
      · have hbb : ((b.toNat : Int) == c.toNat) = false := beq_eq_false_iff_ne.2 fun h => hbc (UInt8.toNat_inj.1 (by omega))
        simp (maxSteps := 1000000) (disch := first | assumption | omega | (simp only [World.size_alloc, size_setRow, dw_size]; done) | (simp only [World.size_alloc, size_setRow, dw_size] <;> omega) | (simp only [List.length_set, Array.length_toList, List.length_cons, List.length_nil, List.length_append, bts_size] <;> omega) | (simp only [List.all_cons, List.all_nil, Value.oneCell', Bool.and_self, Bool.and_true]; done)) [-Option.bind_some, hp_alloc_lt, hp_alloc_eq, hp_set_ne, wrap_small, ups_ap_cons, ups_ap_nil, upd_same, upd_other, env0_ap0, env0_aps, xt_a, xt_b, xt_c, nk_ptr, -splice_eq, -stR_cells, stR_box, stR_boxA, stR_row, stR_row0, stR_row1, stR_rowA, stR_rowA0, splice_rowv, splice_rowv0, splice_rowv1, splice_z, splice_n, splice_s, nth_rowv, nth_rowv0, nth_rowv1, rowv_len, e0, e1, e2, e7, e8, e9, bts_size, hlt, hlN, hix, hbb, spec_l1Cut_j1_eq, e0, e1, e2, e7, e8, e9, E0.blk, hlt]
        exact Ret.mono (ih (i + 1) _ _ st (pre ++ [b]) parts (.slice a0 parts.length c0) (by omega) (by omega) (by rw [hdr, hdi]; simp) (by simp; omega) (by simp; exact ⟨hpre, fun h => hbc h.symm⟩) hpn (by first | omega | assumption | rfl | exact congrArg i64 (by omega) | (simp; done) | (simp; omega)) (by first | omega | assumption | rfl | exact congrArg i64 (by omega) | (simp; done) | (simp; omega)) (by first | omega | assumption | rfl | exact congrArg i64 (by omega) | (simp; done) | (simp; omega)) (by first | omega | assumption | rfl | exact congrArg i64 (by omega) | (simp; done) | (simp; omega)) (by first | omega | assumption | rfl | exact congrArg i64 (by omega) | (simp; done) | (simp; omega)) (by first | omega | assumption | rfl | exact congrArg i64 (by omega) | (simp; done) | (simp; omega)) E0 ho) hQ
    · have hN' : N - parts.length = 0 := by omega
      have hsf := fun w => sl_str_from (P := P) (t := 9) (by kernel_rfl) l (i := (st : Int)) (by omega) (by omega) w
      rw [Int.toNat_natCast] at hsf
      have hcn : cutN c (N - parts.length) (l.drop st) = [l.drop st] := by rw [hN']; rfl
      rw [hcn] at hQ
      simp (maxSteps := 1000000) (disch := first | assumption | omega | (simp only [World.size_alloc, size_setRow, dw_size]; done) | (simp only [World.size_alloc, size_setRow, dw_size] <;> omega) | (simp only [List.length_set, Array.length_toList, List.length_cons, List.length_nil, List.length_append, bts_size] <;> omega) | (simp only [List.all_cons, List.all_nil, Value.oneCell', Bool.and_self, Bool.and_true]; done)) [-Option.bind_some, hp_alloc_lt, hp_alloc_eq, hp_set_ne, wrap_small, ups_ap_cons, ups_ap_nil, upd_same, upd_other, env0_ap0, env0_aps, xt_a, xt_b, xt_c, nk_ptr, -splice_eq, -stR_cells, stR_box, stR_boxA, stR_row, stR_row0, stR_row1, stR_rowA, stR_rowA0, splice_rowv, splice_rowv0, splice_rowv1, splice_z, splice_n, splice_s, nth_rowv, nth_rowv0, nth_rowv1, rowv_len, e0, e1, e2, e7, e8, e9, bts_size, hlt, hlN, hsf, e0, e1, e2, e7, e8, e9, E0.blk, hlt]
      refine Ret.bind (put _ _ parts w.heap.size (l.drop st) (by (repeat (first | exact Ext.rfl | assumption | (refine Ext.al ?_ _) | (refine Ext.dw ?_) | (refine Ext.set ?_ (by first | omega | (simp only [World.size_alloc, size_setRow, dw_size]; omega)) _) | (refine Ext.tr ?_ (by assumption))))) ?_ hpn (by rw [List.length_drop]; omega) (by first | assumption | rfl | (simp (maxSteps := 1000000) (disch := first | assumption | omega | (simp only [World.size_alloc, size_setRow, dw_size]; done) | (simp only [World.size_alloc, size_setRow, dw_size] <;> omega) | (simp only [List.length_set, Array.length_toList, List.length_cons, List.length_nil, List.length_append, bts_size] <;> omega) | (simp only [List.all_cons, List.all_nil, Value.oneCell', Bool.and_self, Bool.and_true]; done)) [-Option.bind_some, hp_alloc_lt, hp_alloc_eq, hp_set_ne, wrap_small, ups_ap_cons, ups_ap_nil, upd_same, upd_other, env0_ap0, env0_aps, xt_a, xt_b, xt_c, nk_ptr, -splice_eq, -stR_cells, stR_box, stR_boxA, stR_row, stR_row0, stR_row1, stR_rowA, stR_rowA0, splice_rowv, splice_rowv0, splice_rowv1, splice_z, splice_n, splice_s, nth_rowv, nth_rowv0, nth_rowv1, rowv_len, e0, e1, e2, e7, e8, e9, E0.blk, hlt]; done))) ?_
      · exact (ho.keep (by intro b hS hb; (try dsimp only at hS); (try simp only [In, World.size_alloc, size_setRow, dw_size] at hS hb); first | rfl | (simp (disch := first | assumption | omega | (simp only [World.size_alloc, size_setRow, dw_size]; omega) | (simp only [World.size_alloc, size_setRow, dw_size, In]; omega)) only [E0.blk, hp_alloc_lt, hp_set_ne, hp_dw]; done))).wide (by intro b h1 h2; (try dsimp only at h1); (try simp only [In, World.size_alloc, size_setRow, dw_size] at *); omega)
      · rintro ⟨_, w1⟩ ⟨a, q, rfl, o1, E1⟩
        have zE1 := E1.size
        try simp only [World.size_alloc, size_setRow, dw_size] at zE1
        try dsimp only at o1 E1
        simp (maxSteps := 1000000) (disch := first | assumption | omega | (simp only [World.size_alloc, size_setRow, dw_size]; done) | (simp only [World.size_alloc, size_setRow, dw_size] <;> omega) | (simp only [List.length_set, Array.length_toList, List.length_cons, List.length_nil, List.length_append, bts_size] <;> omega) | (simp only [List.all_cons, List.all_nil, Value.oneCell', Bool.and_self, Bool.and_true]; done)) [-Option.bind_some, hp_alloc_lt, hp_alloc_eq, hp_set_ne, wrap_small, ups_ap_cons, ups_ap_nil, upd_same, upd_other, env0_ap0, env0_aps, xt_a, xt_b, xt_c, nk_ptr, -splice_eq, -stR_cells, stR_box, stR_boxA, stR_row, stR_row0, stR_row1, stR_rowA, stR_rowA0, splice_rowv, splice_rowv0, splice_rowv1, splice_z, splice_n, splice_s, nth_rowv, nth_rowv0, nth_rowv1, rowv_len, e0, e1, e2, e7, e8, e9, E0.blk, hlt, E1.blk]
        exact hQ _ ⟨a, q, by simp, o1, E1⟩
theorem l1Cut_m {l : List UInt8} {c : UInt8} {N : Nat} (hN : N ≤ 100000000) (hl : l.length ≤ 140737488351232) (w : World) :
    Ret (EV P 24 #[.string (bts l), .int .u8 c.toNat, i64 N] w) fun r => ∃ a q, r.1 = .slice a (cutN c N l).length q ∧ O tStrs (In w.heap.size r.2.heap.size) r.2 [r.1] ((cutN c N l).map bts) ∧ Ext w r.2 := by
  refine Ret.post fun Q hQ => ?_
  refine Ret.enter plain mixed (spec_l1Cut_fn _ _ _ _) (by kernel_rfl) (n := 3) (by kernel_rfl) rfl ?_
  simp (maxSteps := 1000000) (disch := first | assumption | omega | (simp only [World.size_alloc, size_setRow, dw_size]; done) | (simp only [World.size_alloc, size_setRow, dw_size] <;> omega) | (simp only [List.length_set, Array.length_toList, List.length_cons, List.length_nil, List.length_append, bts_size] <;> omega) | (simp only [List.all_cons, List.all_nil, Value.oneCell', Bool.and_self, Bool.and_true]; done)) [-Option.bind_some, hp_alloc_lt, hp_alloc_eq, hp_set_ne, wrap_small, ups_ap_cons, ups_ap_nil, upd_same, upd_other, env0_ap0, env0_aps, xt_a, xt_b, xt_c, nk_ptr, -splice_eq, -stR_cells, stR_box, stR_boxA, stR_row, stR_row0, stR_row1, stR_rowA, stR_rowA0, splice_rowv, splice_rowv0, splice_rowv1, splice_z, splice_n, splice_s, nth_rowv, nth_rowv0, nth_rowv1, rowv_len]
  have := l1Cut_n (l := l) (c := c) hN hl (w0 := w) l.length 0 (ups (env0 #[.string (bts l), .int .u8 c.toNat, i64 N]) [(6, .slice none 0 0), (10, .slice (some ⟨w.heap.size, 0, none⟩) 0 0), (7, .slice (some ⟨w.heap.size, 0, none⟩) 0 0), (8, i64 0), (9, i64 0)]) (w.alloc (.cells #[] 9)) 0 [] [] (.slice (some ⟨w.heap.size, 0, none⟩) 0 0) (by omega) (by omega) rfl rfl (by simp) (by simp) rfl rfl rfl rfl rfl rfl (by (repeat (first | exact Ext.rfl | assumption | (refine Ext.al ?_ _) | (refine Ext.dw ?_) | (refine Ext.set ?_ (by first | omega | (simp only [World.size_alloc, size_setRow, dw_size]; omega)) _) | (refine Ext.tr ?_ (by assumption))))) ((O.empty (g := w.heap.size) (hp_alloc_eq rfl)).wide (by intro b hb hl; simp only [In]; omega))
  exact Ret.mono this hQ
end Go.Proofs.YtkhbpmhagpljiaaDoor.X
set_option linter.unusedVariables false
set_option linter.unusedSimpArgs false
set_option maxRecDepth 100000
set_option maxHeartbeats 1000000
namespace Go.Proofs.YtkhbpmhagpljiaaDoor.X
open Go Go.Ev Go.RowKit
def TagGot (l : List UInt8) (t : Tag) (ok : Bool) : Prop := (ok = true → tagOk t = true ∧ tagL t = l) ∧ (ok = false → t = ⟨0, 0⟩ ∧ ∀ t', tagOk t' = true → tagL t' ≠ l)
theorem TagGot.eq {l : List UInt8} {t t' : Tag} {ok ok' : Bool} (h : TagGot l t ok) (h' : TagGot l t' ok') : t = t' ∧ ok = ok' := by
  cases ok <;> cases ok'
  · exact ⟨(h.2 rfl).1.trans (h'.2 rfl).1.symm, rfl⟩
  · exact absurd (h'.1 rfl).2 ((h.2 rfl).2 _ (h'.1 rfl).1)
  · exact absurd (h.1 rfl).2 ((h'.2 rfl).2 _ (h.1 rfl).1)
  · exact ⟨tagL_inj (h.1 rfl).1 (h'.1 rfl).1 ((h.1 rfl).2.trans (h'.1 rfl).2.symm), rfl⟩
theorem tag_cut {t : Tag} {l : List UInt8} (h : tagL t = l) : cutL 46 l = some (decL t.t.toNat, decL t.p.toNat) := by
  rw [← h, tagL]
  exact cutL_app (dec_noc (by decide) _)
theorem tag_cutN {t : Tag} {l : List UInt8} (h : tagL t = l) : cutN 46 2 l = [decL t.t.toNat, decL t.p.toNat] := by
  rw [← h, tagL, cutN_app (dec_noc (by decide) _), cutN_not (dec_noc (by decide) _)]
theorem cutV_some (l : List UInt8) : ∃ a b f, cutV 46 l = .tuple #[.string (bts a), .string (bts b), .bool f] ∧ a.length ≤ l.length ∧ b.length ≤ l.length ∧ ∀ t', tagL t' = l → a = decL t'.t.toNat ∧ b = decL t'.p.toNat := by
  unfold cutV
  cases hc : cutL 46 l with
  | none => exact ⟨l, [], false, rfl, Nat.le_refl _, Nat.zero_le _, fun t' h => by rw [tag_cut h] at hc; cases hc⟩
  | some p =>
    have h1 := (cutL_eq hc).1
    have hlen : l.length = p.1.length + (p.2.length + 1) := by conv => lhs; rw [h1]; simp
    refine ⟨p.1, p.2, true, rfl, by omega, by omega, fun t' h => ?_⟩
    rw [tag_cut h] at hc
    obtain rfl := Option.some.inj hc
    exact ⟨rfl, rfl⟩
theorem impl_TagGet_m {l : List UInt8} (hl : l.length ≤ 140737488351232) {w : World} (G : GlobE w) : Ret (EV P 48 #[.string (bts l)] w) fun r => ∃ t ok, r.1 = .tuple #[t.v, .bool ok] ∧ TagGot l t ok ∧ Ext w r.2 := by
  obtain ⟨a, b, f, hV, ha, hb, hu⟩ := cutV_some l
  refine Ret.post fun Q hQ => ?_
  refine Ret.enter plain mixed (impl_TagGet_fn _ _) (by kernel_rfl) (n := 1) (by kernel_rfl) rfl ?_
  simp (maxSteps := 1000000) (disch := first | assumption | omega | (simp only [World.size_alloc, size_setRow, dw_size]; done) | (simp only [World.size_alloc, size_setRow, dw_size] <;> omega) | (simp only [List.length_set, Array.length_toList, List.length_cons, List.length_nil, List.length_append, bts_size] <;> omega) | (simp only [List.all_cons, List.all_nil, Value.oneCell', Bool.and_self, Bool.and_true]; done)) [-Option.bind_some, hp_alloc_lt, hp_alloc_eq, hp_set_ne, wrap_small, ups_ap_cons, ups_ap_nil, upd_same, upd_other, env0_ap0, env0_aps, xt_a, xt_b, xt_c, nk_ptr, -splice_eq, -stR_cells, stR_box, stR_boxA, stR_row, stR_row0, stR_row1, stR_rowA, stR_rowA0, splice_rowv, splice_rowv0, splice_rowv1, splice_z, splice_n, splice_s, nth_rowv, nth_rowv0, nth_rowv1, rowv_len, mk_bts]
  refine Ret.bind (cut_m (by omega) 46 _) ?_
  rintro ⟨_, w1⟩ ⟨rfl, E1⟩
  try dsimp only at E1
  have zE1 := E1.size
  try simp only [World.size_alloc, size_setRow, dw_size] at zE1
  rw [hV]
  simp (maxSteps := 1000000) (disch := first | assumption | omega | (simp only [World.size_alloc, size_setRow, dw_size]; done) | (simp only [World.size_alloc, size_setRow, dw_size] <;> omega) | (simp only [List.length_set, Array.length_toList, List.length_cons, List.length_nil, List.length_append, bts_size] <;> omega) | (simp only [List.all_cons, List.all_nil, Value.oneCell', Bool.and_self, Bool.and_true]; done)) [-Option.bind_some, hp_alloc_lt, hp_alloc_eq, hp_set_ne, wrap_small, ups_ap_cons, ups_ap_nil, upd_same, upd_other, env0_ap0, env0_aps, xt_a, xt_b, xt_c, nk_ptr, -splice_eq, -stR_cells, stR_box, stR_boxA, stR_row, stR_row0, stR_row1, stR_rowA, stR_rowA0, splice_rowv, splice_rowv0, splice_rowv1, splice_z, splice_n, splice_s, nth_rowv, nth_rowv0, nth_rowv1, rowv_len, E1.blk]
  refine Ret.bind (atoi_m (by omega) (G.ext (by (repeat (first | exact Ext.rfl | assumption | (refine Ext.al ?_ _) | (refine Ext.dw ?_) | (refine Ext.set ?_ (by first | omega | (simp only [World.size_alloc, size_setRow, dw_size]; omega)) _) | (refine Ext.tr ?_ (by assumption))))))) ?_
  rintro ⟨_, w2⟩ ⟨E2, m1, er1, rfl, he1, hv1⟩
  try dsimp only at E2 m1 er1 he1 hv1
  have zE2 := E2.size
  try simp only [World.size_alloc, size_setRow, dw_size] at zE2
  simp (maxSteps := 1000000) (disch := first | assumption | omega | (simp only [World.size_alloc, size_setRow, dw_size]; done) | (simp only [World.size_alloc, size_setRow, dw_size] <;> omega) | (simp only [List.length_set, Array.length_toList, List.length_cons, List.length_nil, List.length_append, bts_size] <;> omega) | (simp only [List.all_cons, List.all_nil, Value.oneCell', Bool.and_self, Bool.and_true]; done)) [-Option.bind_some, hp_alloc_lt, hp_alloc_eq, hp_set_ne, wrap_small, ups_ap_cons, ups_ap_nil, upd_same, upd_other, env0_ap0, env0_aps, xt_a, xt_b, xt_c, nk_ptr, -splice_eq, -stR_cells, stR_box, stR_boxA, stR_row, stR_row0, stR_row1, stR_rowA, stR_rowA0, splice_rowv, splice_rowv0, splice_rowv1, splice_z, splice_n, splice_s, nth_rowv, nth_rowv0, nth_rowv1, rowv_len, E1.blk, E2.blk]
  refine Ret.bind (atoi_m (by omega) (G.ext (by (repeat (first | exact Ext.rfl | assumption | (refine Ext.al ?_ _) | (refine Ext.dw ?_) | (refine Ext.set ?_ (by first | omega | (simp only [World.size_alloc, size_setRow, dw_size]; omega)) _) | (refine Ext.tr ?_ (by assumption))))))) ?_
  rintro ⟨_, w3⟩ ⟨E3, m2, er2, rfl, he2, hv2⟩
  try dsimp only at E3 m2 er2 he2 hv2
  have zE3 := E3.size
  try simp only [World.size_alloc, size_setRow, dw_size] at zE3
  have hno : ∀ t', tagOk t' = true → tagL t' = l → er1 = .nilIface ∧ er2 = .nilIface ∧ t' = ⟨m1, m2⟩ := by
    intro t' h1 h2
    obtain ⟨h3, h4⟩ := hu t' h2
    have hr := tagOk_rng h1
    have h5 := hv1 t'.t.toNat (by omega) h3
    have h6 := hv2 t'.p.toNat (by omega) h4
    refine ⟨h5.1, h6.1, ?_⟩
    have q5 : t'.t = m1 := by omega
    have q6 : t'.p = m2 := by omega
    rw [← q5, ← q6]
  have X0 : hp w3 w.heap.size = some (.cells #[i64 0, i64 0] 36 (0, 0)) := (by first | assumption | rfl | (simp (maxSteps := 1000000) (disch := first | assumption | omega | (simp only [World.size_alloc, size_setRow, dw_size]; done) | (simp only [World.size_alloc, size_setRow, dw_size] <;> omega) | (simp only [List.length_set, Array.length_toList, List.length_cons, List.length_nil, List.length_append, bts_size] <;> omega) | (simp only [List.all_cons, List.all_nil, Value.oneCell', Bool.and_self, Bool.and_true]; done)) [-Option.bind_some, hp_alloc_lt, hp_alloc_eq, hp_set_ne, wrap_small, ups_ap_cons, ups_ap_nil, upd_same, upd_other, env0_ap0, env0_aps, xt_a, xt_b, xt_c, nk_ptr, -splice_eq, -stR_cells, stR_box, stR_boxA, stR_row, stR_row0, stR_row1, stR_rowA, stR_rowA0, splice_rowv, splice_rowv0, splice_rowv1, splice_z, splice_n, splice_s, nth_rowv, nth_rowv0, nth_rowv1, rowv_len, E1.blk, E2.blk, E3.blk]; done))
  rcases he1 with rfl | ⟨u1, x1, rfl⟩
  · rcases he2 with rfl | ⟨u2, x2, rfl⟩
    · simp (maxSteps := 1000000) (disch := first | assumption | omega | (simp only [World.size_alloc, size_setRow, dw_size]; done) | (simp only [World.size_alloc, size_setRow, dw_size] <;> omega) | (simp only [List.length_set, Array.length_toList, List.length_cons, List.length_nil, List.length_append, bts_size] <;> omega) | (simp only [List.all_cons, List.all_nil, Value.oneCell', Bool.and_self, Bool.and_true]; done)) [-Option.bind_some, hp_alloc_lt, hp_alloc_eq, hp_set_ne, wrap_small, ups_ap_cons, ups_ap_nil, upd_same, upd_other, env0_ap0, env0_aps, xt_a, xt_b, xt_c, nk_ptr, -splice_eq, -stR_cells, stR_box, stR_boxA, stR_row, stR_row0, stR_row1, stR_rowA, stR_rowA0, splice_rowv, splice_rowv0, splice_rowv1, splice_z, splice_n, splice_s, nth_rowv, nth_rowv0, nth_rowv1, rowv_len, nn0, E1.blk, E2.blk, E3.blk, X0]
      refine Ret.bind (impl_TagOk_c ⟨m1, m2⟩ _) ?_
      rintro ⟨_, w4⟩ ⟨rfl, E4⟩
      try dsimp only at E4
      have zE4 := E4.size
      try simp only [World.size_alloc, size_setRow, dw_size] at zE4
      cases hok : tagOk ⟨m1, m2⟩
      · simp (maxSteps := 1000000) (disch := first | assumption | omega | (simp only [World.size_alloc, size_setRow, dw_size]; done) | (simp only [World.size_alloc, size_setRow, dw_size] <;> omega) | (simp only [List.length_set, Array.length_toList, List.length_cons, List.length_nil, List.length_append, bts_size] <;> omega) | (simp only [List.all_cons, List.all_nil, Value.oneCell', Bool.and_self, Bool.and_true]; done)) [-Option.bind_some, hp_alloc_lt, hp_alloc_eq, hp_set_ne, wrap_small, ups_ap_cons, ups_ap_nil, upd_same, upd_other, env0_ap0, env0_aps, xt_a, xt_b, xt_c, nk_ptr, X0, E1.blk, E2.blk, E3.blk, X0, E4.blk]
        exact hQ _ ⟨⟨0, 0⟩, false, rfl, ⟨by simp, fun _ => ⟨rfl, fun t' h1 h2 => by rw [(hno t' h1 h2).2.2, hok] at h1; cases h1⟩⟩, by (repeat (first | exact Ext.rfl | assumption | (refine Ext.al ?_ _) | (refine Ext.dw ?_) | (refine Ext.set ?_ (by first | omega | (simp only [World.size_alloc, size_setRow, dw_size]; omega)) _) | (refine Ext.tr ?_ (by assumption))))⟩
      · simp (maxSteps := 1000000) (disch := first | assumption | omega | (simp only [World.size_alloc, size_setRow, dw_size]; done) | (simp only [World.size_alloc, size_setRow, dw_size] <;> omega) | (simp only [List.length_set, Array.length_toList, List.length_cons, List.length_nil, List.length_append, bts_size] <;> omega) | (simp only [List.all_cons, List.all_nil, Value.oneCell', Bool.and_self, Bool.and_true]; done)) [-Option.bind_some, hp_alloc_lt, hp_alloc_eq, hp_set_ne, wrap_small, ups_ap_cons, ups_ap_nil, upd_same, upd_other, env0_ap0, env0_aps, xt_a, xt_b, xt_c, nk_ptr, -splice_eq, -stR_cells, stR_box, stR_boxA, stR_row, stR_row0, stR_row1, stR_rowA, stR_rowA0, splice_rowv, splice_rowv0, splice_rowv1, splice_z, splice_n, splice_s, nth_rowv, nth_rowv0, nth_rowv1, rowv_len, E1.blk, E2.blk, E3.blk, X0, E4.blk]
        refine Ret.bind (impl_Tag_text_m hok (G.g.ext (by (repeat (first | exact Ext.rfl | assumption | (refine Ext.al ?_ _) | (refine Ext.dw ?_) | (refine Ext.set ?_ (by first | omega | (simp only [World.size_alloc, size_setRow, dw_size]; omega)) _) | (refine Ext.tr ?_ (by assumption))))))) ?_
        rintro ⟨_, w5⟩ ⟨rfl, E5⟩
        try dsimp only at E5
        have zE5 := E5.size
        try simp only [World.size_alloc, size_setRow, dw_size] at zE5
        by_cases hte : tagL ⟨m1, m2⟩ = l
        · simp (maxSteps := 1000000) (disch := first | assumption | omega | (simp only [World.size_alloc, size_setRow, dw_size]; done) | (simp only [World.size_alloc, size_setRow, dw_size] <;> omega) | (simp only [List.length_set, Array.length_toList, List.length_cons, List.length_nil, List.length_append, bts_size] <;> omega) | (simp only [List.all_cons, List.all_nil, Value.oneCell', Bool.and_self, Bool.and_true]; done)) [-Option.bind_some, hp_alloc_lt, hp_alloc_eq, hp_set_ne, wrap_small, ups_ap_cons, ups_ap_nil, upd_same, upd_other, env0_ap0, env0_aps, xt_a, xt_b, xt_c, nk_ptr, bo_neq_str, bts_list, hte, X0, E1.blk, E2.blk, E3.blk, X0, E4.blk, E5.blk]
          exact hQ _ ⟨⟨m1, m2⟩, true, rfl, ⟨fun _ => ⟨hok, hte⟩, by simp⟩, by (repeat (first | exact Ext.rfl | assumption | (refine Ext.al ?_ _) | (refine Ext.dw ?_) | (refine Ext.set ?_ (by first | omega | (simp only [World.size_alloc, size_setRow, dw_size]; omega)) _) | (refine Ext.tr ?_ (by assumption))))⟩
        · have hte' : (tagL ⟨m1, m2⟩ == l) = false := beq_eq_false_iff_ne.2 hte
          simp (maxSteps := 1000000) (disch := first | assumption | omega | (simp only [World.size_alloc, size_setRow, dw_size]; done) | (simp only [World.size_alloc, size_setRow, dw_size] <;> omega) | (simp only [List.length_set, Array.length_toList, List.length_cons, List.length_nil, List.length_append, bts_size] <;> omega) | (simp only [List.all_cons, List.all_nil, Value.oneCell', Bool.and_self, Bool.and_true]; done)) [-Option.bind_some, hp_alloc_lt, hp_alloc_eq, hp_set_ne, wrap_small, ups_ap_cons, ups_ap_nil, upd_same, upd_other, env0_ap0, env0_aps, xt_a, xt_b, xt_c, nk_ptr, bo_neq_str, bts_list, hte', X0, E1.blk, E2.blk, E3.blk, X0, E4.blk, E5.blk]
          exact hQ _ ⟨⟨0, 0⟩, false, rfl, ⟨by simp, fun _ => ⟨rfl, fun t' h1 h2 => hte (by rw [← (hno t' h1 h2).2.2]; exact h2)⟩⟩, by (repeat (first | exact Ext.rfl | assumption | (refine Ext.al ?_ _) | (refine Ext.dw ?_) | (refine Ext.set ?_ (by first | omega | (simp only [World.size_alloc, size_setRow, dw_size]; omega)) _) | (refine Ext.tr ?_ (by assumption))))⟩
    · simp (maxSteps := 1000000) (disch := first | assumption | omega | (simp only [World.size_alloc, size_setRow, dw_size]; done) | (simp only [World.size_alloc, size_setRow, dw_size] <;> omega) | (simp only [List.length_set, Array.length_toList, List.length_cons, List.length_nil, List.length_append, bts_size] <;> omega) | (simp only [List.all_cons, List.all_nil, Value.oneCell', Bool.and_self, Bool.and_true]; done)) [-Option.bind_some, hp_alloc_lt, hp_alloc_eq, hp_set_ne, wrap_small, ups_ap_cons, ups_ap_nil, upd_same, upd_other, env0_ap0, env0_aps, xt_a, xt_b, xt_c, nk_ptr, nn0, nn1, X0, E1.blk, E2.blk, E3.blk, X0]
      exact hQ _ ⟨⟨0, 0⟩, false, rfl, ⟨by simp, fun _ => ⟨rfl, fun t' h1 h2 => by have := (hno t' h1 h2).2.1; cases this⟩⟩, by (repeat (first | exact Ext.rfl | assumption | (refine Ext.al ?_ _) | (refine Ext.dw ?_) | (refine Ext.set ?_ (by first | omega | (simp only [World.size_alloc, size_setRow, dw_size]; omega)) _) | (refine Ext.tr ?_ (by assumption))))⟩
  · simp (maxSteps := 1000000) (disch := first | assumption | omega | (simp only [World.size_alloc, size_setRow, dw_size]; done) | (simp only [World.size_alloc, size_setRow, dw_size] <;> omega) | (simp only [List.length_set, Array.length_toList, List.length_cons, List.length_nil, List.length_append, bts_size] <;> omega) | (simp only [List.all_cons, List.all_nil, Value.oneCell', Bool.and_self, Bool.and_true]; done)) [-Option.bind_some, hp_alloc_lt, hp_alloc_eq, hp_set_ne, wrap_small, ups_ap_cons, ups_ap_nil, upd_same, upd_other, env0_ap0, env0_aps, xt_a, xt_b, xt_c, nk_ptr, nn0, nn1, X0, E1.blk, E2.blk, E3.blk, X0]
    exact hQ _ ⟨⟨0, 0⟩, false, rfl, ⟨by simp, fun _ => ⟨rfl, fun t' h1 h2 => by have := (hno t' h1 h2).1; cases this⟩⟩, by (repeat (first | exact Ext.rfl | assumption | (refine Ext.al ?_ _) | (refine Ext.dw ?_) | (refine Ext.set ?_ (by first | omega | (simp only [World.size_alloc, size_setRow, dw_size]; omega)) _) | (refine Ext.tr ?_ (by assumption))))⟩
theorem rdS {a : Option Addr} {q n i : Nat} {xs : List ByteArray} {x : ByteArray} {S : Nat → Prop} {w w' : World} (ho : O tStrs S w [.slice a n q] xs) (hx : xs[i]? = some x) (E : Ext w w') : ∃ b o, a = some ⟨b, o, none⟩ ∧ cellO (hp w' b) (o + i) = some (.string x) := by
  obtain ⟨b1, o1, cs1, rfl, A1, D1, _, l1⟩ := (ho.d.ext E).at (by decide) hx
  obtain ⟨rfl, hxs⟩ := D.str.1 D1
  exact ⟨b1, o1, rfl, by have := A1 0 _ rfl; simpa only [show LStr.n = 1 from rfl, Nat.mul_one, Nat.add_zero] using this⟩
theorem spec_TagGet_j {l : List UInt8} {m1 m2 : Int} {b0 b5 : Nat} {w0 : World} {e : Env} {w : World} (e0 : e 0 = .string (bts l)) (e2 : e 2 = pt b0 0) (e5 : e 5 = pt b5 0) (h0 : hp w b0 = some (.cells #[i64 0, i64 0] 36 (0, 0))) (h5 : hp w b5 = some (.cells #[i64 m1, i64 m2] 36 (0, 0))) (hb : w0.heap.size ≤ b0) (hne : b0 ≠ b5) (E0 : Ext w0 w)
    (hno : ∀ t', tagOk t' = true → tagL t' = l → t' = ⟨m1, m2⟩) : Ret (spec_TagGet_j1 e w) fun r => ∃ t ok, r.1 = .tuple #[t.v, .bool ok] ∧ TagGot l t ok ∧ Ext w0 r.2 := by
  have hlt0 := hp_lt h0
  have hlt5 := hp_lt h5
  rw [spec_TagGet_j1_eq]
  refine Ret.post fun Q hQ => ?_
  simp (maxSteps := 1000000) (disch := first | assumption | omega | (simp only [World.size_alloc, size_setRow, dw_size]; done) | (simp only [World.size_alloc, size_setRow, dw_size] <;> omega) | (simp only [List.length_set, Array.length_toList, List.length_cons, List.length_nil, List.length_append, bts_size] <;> omega) | (simp only [List.all_cons, List.all_nil, Value.oneCell', Bool.and_self, Bool.and_true]; done)) [-Option.bind_some, hp_alloc_lt, hp_alloc_eq, hp_set_ne, wrap_small, ups_ap_cons, ups_ap_nil, upd_same, upd_other, env0_ap0, env0_aps, xt_a, xt_b, xt_c, nk_ptr, -splice_eq, -stR_cells, stR_box, stR_boxA, stR_row, stR_row0, stR_row1, stR_rowA, stR_rowA0, splice_rowv, splice_rowv0, splice_rowv1, splice_z, splice_n, splice_s, nth_rowv, nth_rowv0, nth_rowv1, rowv_len, e0, e2, e5, h5, hlt0, hlt5]
  refine Ret.bind (spec_l1TagOk_c ⟨m1, m2⟩ _) ?_
  rintro ⟨_, w1⟩ ⟨rfl, E1⟩
  try dsimp only at E1
  have zE1 := E1.size
  try simp only [World.size_alloc, size_setRow, dw_size] at zE1
  have h0 := (E1.blk hlt0).trans h0
  have h5 := (E1.blk hlt5).trans h5
  cases hok : tagOk ⟨m1, m2⟩
  · simp (maxSteps := 1000000) (disch := first | assumption | omega | (simp only [World.size_alloc, size_setRow, dw_size]; done) | (simp only [World.size_alloc, size_setRow, dw_size] <;> omega) | (simp only [List.length_set, Array.length_toList, List.length_cons, List.length_nil, List.length_append, bts_size] <;> omega) | (simp only [List.all_cons, List.all_nil, Value.oneCell', Bool.and_self, Bool.and_true]; done)) [-Option.bind_some, hp_alloc_lt, hp_alloc_eq, hp_set_ne, wrap_small, ups_ap_cons, ups_ap_nil, upd_same, upd_other, env0_ap0, env0_aps, xt_a, xt_b, xt_c, nk_ptr, e0, e2, e5, h0, h5, hlt0, hlt5, E1.blk]
    exact hQ _ ⟨⟨0, 0⟩, false, rfl, ⟨by simp, fun _ => ⟨rfl, fun t' h1 h2 => by rw [hno t' h1 h2, hok] at h1; cases h1⟩⟩, by (repeat (first | exact Ext.rfl | assumption | (refine Ext.al ?_ _) | (refine Ext.dw ?_) | (refine Ext.set ?_ (by first | omega | (simp only [World.size_alloc, size_setRow, dw_size]; omega)) _) | (refine Ext.tr ?_ (by assumption))))⟩
  · simp (maxSteps := 1000000) (disch := first | assumption | omega | (simp only [World.size_alloc, size_setRow, dw_size]; done) | (simp only [World.size_alloc, size_setRow, dw_size] <;> omega) | (simp only [List.length_set, Array.length_toList, List.length_cons, List.length_nil, List.length_append, bts_size] <;> omega) | (simp only [List.all_cons, List.all_nil, Value.oneCell', Bool.and_self, Bool.and_true]; done)) [-Option.bind_some, hp_alloc_lt, hp_alloc_eq, hp_set_ne, wrap_small, ups_ap_cons, ups_ap_nil, upd_same, upd_other, env0_ap0, env0_aps, xt_a, xt_b, xt_c, nk_ptr, -splice_eq, -stR_cells, stR_box, stR_boxA, stR_row, stR_row0, stR_row1, stR_rowA, stR_rowA0, splice_rowv, splice_rowv0, splice_rowv1, splice_z, splice_n, splice_s, nth_rowv, nth_rowv0, nth_rowv1, rowv_len, e0, e2, e5, h0, h5, hlt0, hlt5, E1.blk]
    refine Ret.bind (spec_l1Put_m hok _) ?_
    rintro ⟨_, w2⟩ ⟨rfl, E2⟩
    try dsimp only at E2
    have zE2 := E2.size
    try simp only [World.size_alloc, size_setRow, dw_size] at zE2
    have hlt0 := hp_lt h0
    have hlt5 := hp_lt h5
    have h0 := (E2.blk hlt0).trans h0
    have h5 := (E2.blk hlt5).trans h5
    by_cases hte : tagL ⟨m1, m2⟩ = l
    · simp (maxSteps := 1000000) (disch := first | assumption | omega | (simp only [World.size_alloc, size_setRow, dw_size]; done) | (simp only [World.size_alloc, size_setRow, dw_size] <;> omega) | (simp only [List.length_set, Array.length_toList, List.length_cons, List.length_nil, List.length_append, bts_size] <;> omega) | (simp only [List.all_cons, List.all_nil, Value.oneCell', Bool.and_self, Bool.and_true]; done)) [-Option.bind_some, hp_alloc_lt, hp_alloc_eq, hp_set_ne, wrap_small, ups_ap_cons, ups_ap_nil, upd_same, upd_other, env0_ap0, env0_aps, xt_a, xt_b, xt_c, nk_ptr, e0, e2, e5, h0, h5, bo_neq_str, bts_list, hte, hlt0, hlt5, E1.blk, E2.blk, hlt0, hlt5]
      exact hQ _ ⟨⟨m1, m2⟩, true, rfl, ⟨fun _ => ⟨hok, hte⟩, by simp⟩, by (repeat (first | exact Ext.rfl | assumption | (refine Ext.al ?_ _) | (refine Ext.dw ?_) | (refine Ext.set ?_ (by first | omega | (simp only [World.size_alloc, size_setRow, dw_size]; omega)) _) | (refine Ext.tr ?_ (by assumption))))⟩
    · have hte' : (tagL ⟨m1, m2⟩ == l) = false := beq_eq_false_iff_ne.2 hte
      simp (maxSteps := 1000000) (disch := first | assumption | omega | (simp only [World.size_alloc, size_setRow, dw_size]; done) | (simp only [World.size_alloc, size_setRow, dw_size] <;> omega) | (simp only [List.length_set, Array.length_toList, List.length_cons, List.length_nil, List.length_append, bts_size] <;> omega) | (simp only [List.all_cons, List.all_nil, Value.oneCell', Bool.and_self, Bool.and_true]; done)) [-Option.bind_some, hp_alloc_lt, hp_alloc_eq, hp_set_ne, wrap_small, ups_ap_cons, ups_ap_nil, upd_same, upd_other, env0_ap0, env0_aps, xt_a, xt_b, xt_c, nk_ptr, e0, e2, e5, h0, h5, bo_neq_str, bts_list, hte', hlt0, hlt5, E1.blk, E2.blk, hlt0, hlt5]
      exact hQ _ ⟨⟨0, 0⟩, false, rfl, ⟨by simp, fun _ => ⟨rfl, fun t' h1 h2 => hte (by rw [← hno t' h1 h2]; exact h2)⟩⟩, by (repeat (first | exact Ext.rfl | assumption | (refine Ext.al ?_ _) | (refine Ext.dw ?_) | (refine Ext.set ?_ (by first | omega | (simp only [World.size_alloc, size_setRow, dw_size]; omega)) _) | (refine Ext.tr ?_ (by assumption))))⟩
theorem spec_TagGet_m {l : List UInt8} (hl : l.length ≤ 140737488351232) (w : World) : Ret (EV P 25 #[.string (bts l)] w) fun r => ∃ t ok, r.1 = .tuple #[t.v, .bool ok] ∧ TagGot l t ok ∧ Ext w r.2 := by
  refine Ret.post fun Q hQ => ?_
  refine Ret.enter plain mixed (spec_TagGet_fn _ _) (by kernel_rfl) (n := 1) (by kernel_rfl) rfl ?_
  simp (maxSteps := 1000000) (disch := first | assumption | omega | (simp only [World.size_alloc, size_setRow, dw_size]; done) | (simp only [World.size_alloc, size_setRow, dw_size] <;> omega) | (simp only [List.length_set, Array.length_toList, List.length_cons, List.length_nil, List.length_append, bts_size] <;> omega) | (simp only [List.all_cons, List.all_nil, Value.oneCell', Bool.and_self, Bool.and_true]; done)) [-Option.bind_some, hp_alloc_lt, hp_alloc_eq, hp_set_ne, wrap_small, ups_ap_cons, ups_ap_nil, upd_same, upd_other, env0_ap0, env0_aps, xt_a, xt_b, xt_c, nk_ptr, -splice_eq, -stR_cells, stR_box, stR_boxA, stR_row, stR_row0, stR_row1, stR_rowA, stR_rowA0, splice_rowv, splice_rowv0, splice_rowv1, splice_z, splice_n, splice_s, nth_rowv, nth_rowv0, nth_rowv1, rowv_len]
  refine Ret.bind (l1Cut_m (c := 46) (N := 2) (by decide) hl _) ?_
  rintro ⟨_, w1⟩ ⟨a, q, rfl, o1, E1⟩
  try dsimp only at a q o1 E1
  have zE1 := E1.size
  try simp only [World.size_alloc, size_setRow, dw_size] at zE1
  have X0 : hp w1 w.heap.size = some (.cells #[i64 0, i64 0] 36 (0, 0)) := (by first | assumption | rfl | (simp (maxSteps := 1000000) (disch := first | assumption | omega | (simp only [World.size_alloc, size_setRow, dw_size]; done) | (simp only [World.size_alloc, size_setRow, dw_size] <;> omega) | (simp only [List.length_set, Array.length_toList, List.length_cons, List.length_nil, List.length_append, bts_size] <;> omega) | (simp only [List.all_cons, List.all_nil, Value.oneCell', Bool.and_self, Bool.and_true]; done)) [-Option.bind_some, hp_alloc_lt, hp_alloc_eq, hp_set_ne, wrap_small, ups_ap_cons, ups_ap_nil, upd_same, upd_other, env0_ap0, env0_aps, xt_a, xt_b, xt_c, nk_ptr, -splice_eq, -stR_cells, stR_box, stR_boxA, stR_row, stR_row0, stR_row1, stR_rowA, stR_rowA0, splice_rowv, splice_rowv0, splice_rowv1, splice_z, splice_n, splice_s, nth_rowv, nth_rowv0, nth_rowv1, rowv_len, E1.blk]; done))
  by_cases h2 : (cutN 46 2 l).length = 2
  · obtain ⟨x, y, hxy⟩ : ∃ x y, cutN 46 2 l = [x, y] := by
      cases hh : cutN 46 2 l with
      | nil => rw [hh] at h2; simp at h2
      | cons x t =>
        cases t with
        | nil => rw [hh] at h2; simp at h2
        | cons y t =>
          cases t with
          | nil => exact ⟨x, y, rfl⟩
          | cons z t => rw [hh] at h2; simp at h2
    have hsz := cutN_sz 46 2 l
    rw [hxy] at o1 hsz
    have hx := hsz x (by simp)
    have hy := hsz y (by simp)
    obtain ⟨g, o, rfl, hr0⟩ := rdS (w' := w1) (i := 0) o1 rfl Ext.rfl
    rw [Nat.add_zero] at hr0
    have hg : g < w1.heap.size := by
      cases hh : hp w1 g with
      | none => rw [hh] at hr0; cases hr0
      | some o => exact hp_lt hh
    have hwl : w.heap.size < w1.heap.size := by have := E1.size; simp only [World.size_alloc] at this; omega
    have fin : ∀ (m1 m2 : Int), (∀ v : Nat, v ≤ 999999 → x = decL v → m1 = v) → (∀ v : Nat, v ≤ 999999 → y = decL v → m2 = v) → ∀ t', tagOk t' = true → tagL t' = l → t' = ⟨m1, m2⟩ := by
      intro m1 m2 hm1 hm2 t' h1 h2
      have h3 := tag_cutN h2
      rw [hxy] at h3
      have hr := tagOk_rng h1
      have h5 := hm1 t'.t.toNat (by omega) (List.cons.inj h3).1
      have h6 := hm2 t'.p.toNat (by omega) (List.cons.inj (List.cons.inj h3).2).1
      have q5 : t'.t = m1 := by omega
      have q6 : t'.p = m2 := by omega
      rw [← q5, ← q6]
    obtain ⟨_, _, ho, hr1⟩ := rdS (w' := w1) (i := 1) o1 rfl Ext.rfl
    cases ho
    simp (maxSteps := 1000000) (disch := first | assumption | omega | (simp only [World.size_alloc, size_setRow, dw_size]; done) | (simp only [World.size_alloc, size_setRow, dw_size] <;> omega) | (simp only [List.length_set, Array.length_toList, List.length_cons, List.length_nil, List.length_append, bts_size] <;> omega) | (simp only [List.all_cons, List.all_nil, Value.oneCell', Bool.and_self, Bool.and_true]; done)) [-Option.bind_some, hp_alloc_lt, hp_alloc_eq, hp_set_ne, wrap_small, ups_ap_cons, ups_ap_nil, upd_same, upd_other, env0_ap0, env0_aps, xt_a, xt_b, xt_c, nk_ptr, -splice_eq, -stR_cells, stR_box, stR_boxA, stR_row, stR_row0, stR_row1, stR_rowA, stR_rowA0, splice_rowv, splice_rowv0, splice_rowv1, splice_z, splice_n, splice_s, nth_rowv, nth_rowv0, nth_rowv1, rowv_len, hxy, E1.blk, X0, hg]
    refine spec_TagGet_a1_any _ _ ?_
    simp (maxSteps := 1000000) (disch := first | assumption | omega | (simp only [World.size_alloc, size_setRow, dw_size]; done) | (simp only [World.size_alloc, size_setRow, dw_size] <;> omega) | (simp only [List.length_set, Array.length_toList, List.length_cons, List.length_nil, List.length_append, bts_size] <;> omega) | (simp only [List.all_cons, List.all_nil, Value.oneCell', Bool.and_self, Bool.and_true]; done)) [-Option.bind_some, hp_alloc_lt, hp_alloc_eq, hp_set_ne, wrap_small, ups_ap_cons, ups_ap_nil, upd_same, upd_other, env0_ap0, env0_aps, xt_a, xt_b, xt_c, nk_ptr, -splice_eq, -stR_cells, stR_box, stR_boxA, stR_row, stR_row0, stR_row1, stR_rowA, stR_rowA0, splice_rowv, splice_rowv0, splice_rowv1, splice_z, splice_n, splice_s, nth_rowv, nth_rowv0, nth_rowv1, rowv_len, hr0, hr1, ia_52, E1.blk, X0, hg]
    constructor
    · refine Ret.mono (l1Num_m (l := x) (by omega) _) ?_
      rintro _ ⟨m1, rfl, hm1⟩
      simp (maxSteps := 1000000) (disch := first | assumption | omega | (simp only [World.size_alloc, size_setRow, dw_size]; done) | (simp only [World.size_alloc, size_setRow, dw_size] <;> omega) | (simp only [List.length_set, Array.length_toList, List.length_cons, List.length_nil, List.length_append, bts_size] <;> omega) | (simp only [List.all_cons, List.all_nil, Value.oneCell', Bool.and_self, Bool.and_true]; done)) [-Option.bind_some, hp_alloc_lt, hp_alloc_eq, hp_set_ne, wrap_small, ups_ap_cons, ups_ap_nil, upd_same, upd_other, env0_ap0, env0_aps, xt_a, xt_b, xt_c, nk_ptr, -splice_eq, -stR_cells, stR_box, stR_boxA, stR_row, stR_row0, stR_row1, stR_rowA, stR_rowA0, splice_rowv, splice_rowv0, splice_rowv1, splice_z, splice_n, splice_s, nth_rowv, nth_rowv0, nth_rowv1, rowv_len, hr0, hr1, E1.blk, X0, hg]
      constructor
      · refine Ret.mono (l1Num_m (l := y) (by omega) _) ?_
        rintro _ ⟨m2, rfl, hm2⟩
        simp (maxSteps := 1000000) (disch := first | assumption | omega | (simp only [World.size_alloc, size_setRow, dw_size]; done) | (simp only [World.size_alloc, size_setRow, dw_size] <;> omega) | (simp only [List.length_set, Array.length_toList, List.length_cons, List.length_nil, List.length_append, bts_size] <;> omega) | (simp only [List.all_cons, List.all_nil, Value.oneCell', Bool.and_self, Bool.and_true]; done)) [-Option.bind_some, hp_alloc_lt, hp_alloc_eq, hp_set_ne, wrap_small, ups_ap_cons, ups_ap_nil, upd_same, upd_other, env0_ap0, env0_aps, xt_a, xt_b, xt_c, nk_ptr, -splice_eq, -stR_cells, stR_box, stR_boxA, stR_row, stR_row0, stR_row1, stR_rowA, stR_rowA0, splice_rowv, splice_rowv0, splice_rowv1, splice_z, splice_n, splice_s, nth_rowv, nth_rowv0, nth_rowv1, rowv_len, hr0, hr1, E1.blk, X0, hg]
        exact Ret.mono (spec_TagGet_j (w0 := w) (m1 := m1) (m2 := m2) (by first | omega | assumption | rfl | exact congrArg i64 (by omega) | (simp; done) | (simp; omega)) (by first | omega | assumption | rfl | exact congrArg i64 (by omega) | (simp; done) | (simp; omega)) (by first | omega | assumption | rfl | exact congrArg i64 (by omega) | (simp; done) | (simp; omega)) (by first | assumption | rfl | (simp (maxSteps := 1000000) (disch := first | assumption | omega | (simp only [World.size_alloc, size_setRow, dw_size]; done) | (simp only [World.size_alloc, size_setRow, dw_size] <;> omega) | (simp only [List.length_set, Array.length_toList, List.length_cons, List.length_nil, List.length_append, bts_size] <;> omega) | (simp only [List.all_cons, List.all_nil, Value.oneCell', Bool.and_self, Bool.and_true]; done)) [-Option.bind_some, hp_alloc_lt, hp_alloc_eq, hp_set_ne, wrap_small, ups_ap_cons, ups_ap_nil, upd_same, upd_other, env0_ap0, env0_aps, xt_a, xt_b, xt_c, nk_ptr, X0, E1.blk, X0, hg]; done)) (by first | assumption | rfl | (simp (maxSteps := 1000000) (disch := first | assumption | omega | (simp only [World.size_alloc, size_setRow, dw_size]; done) | (simp only [World.size_alloc, size_setRow, dw_size] <;> omega) | (simp only [List.length_set, Array.length_toList, List.length_cons, List.length_nil, List.length_append, bts_size] <;> omega) | (simp only [List.all_cons, List.all_nil, Value.oneCell', Bool.and_self, Bool.and_true]; done)) [-Option.bind_some, hp_alloc_lt, hp_alloc_eq, hp_set_ne, wrap_small, ups_ap_cons, ups_ap_nil, upd_same, upd_other, env0_ap0, env0_aps, xt_a, xt_b, xt_c, nk_ptr, X0, E1.blk, X0, hg]; done)) (Nat.le_refl _) (by simp; omega) (by (repeat (first | exact Ext.rfl | assumption | (refine Ext.al ?_ _) | (refine Ext.dw ?_) | (refine Ext.set ?_ (by first | omega | (simp only [World.size_alloc, size_setRow, dw_size]; omega)) _) | (refine Ext.tr ?_ (by assumption))))) (fin m1 m2 hm1 hm2)) hQ
      · refine Ret.mono (l1Num_m (l := y) (by omega) _) ?_
        rintro _ ⟨m2, rfl, hm2⟩
        simp (maxSteps := 1000000) (disch := first | assumption | omega | (simp only [World.size_alloc, size_setRow, dw_size]; done) | (simp only [World.size_alloc, size_setRow, dw_size] <;> omega) | (simp only [List.length_set, Array.length_toList, List.length_cons, List.length_nil, List.length_append, bts_size] <;> omega) | (simp only [List.all_cons, List.all_nil, Value.oneCell', Bool.and_self, Bool.and_true]; done)) [-Option.bind_some, hp_alloc_lt, hp_alloc_eq, hp_set_ne, wrap_small, ups_ap_cons, ups_ap_nil, upd_same, upd_other, env0_ap0, env0_aps, xt_a, xt_b, xt_c, nk_ptr, -splice_eq, -stR_cells, stR_box, stR_boxA, stR_row, stR_row0, stR_row1, stR_rowA, stR_rowA0, splice_rowv, splice_rowv0, splice_rowv1, splice_z, splice_n, splice_s, nth_rowv, nth_rowv0, nth_rowv1, rowv_len, hr0, hr1, E1.blk, X0, hg]
        exact Ret.mono (spec_TagGet_j (w0 := w) (m1 := m1) (m2 := m2) (by first | omega | assumption | rfl | exact congrArg i64 (by omega) | (simp; done) | (simp; omega)) (by first | omega | assumption | rfl | exact congrArg i64 (by omega) | (simp; done) | (simp; omega)) (by first | omega | assumption | rfl | exact congrArg i64 (by omega) | (simp; done) | (simp; omega)) (by first | assumption | rfl | (simp (maxSteps := 1000000) (disch := first | assumption | omega | (simp only [World.size_alloc, size_setRow, dw_size]; done) | (simp only [World.size_alloc, size_setRow, dw_size] <;> omega) | (simp only [List.length_set, Array.length_toList, List.length_cons, List.length_nil, List.length_append, bts_size] <;> omega) | (simp only [List.all_cons, List.all_nil, Value.oneCell', Bool.and_self, Bool.and_true]; done)) [-Option.bind_some, hp_alloc_lt, hp_alloc_eq, hp_set_ne, wrap_small, ups_ap_cons, ups_ap_nil, upd_same, upd_other, env0_ap0, env0_aps, xt_a, xt_b, xt_c, nk_ptr, X0, E1.blk, X0, hg]; done)) (by first | assumption | rfl | (simp (maxSteps := 1000000) (disch := first | assumption | omega | (simp only [World.size_alloc, size_setRow, dw_size]; done) | (simp only [World.size_alloc, size_setRow, dw_size] <;> omega) | (simp only [List.length_set, Array.length_toList, List.length_cons, List.length_nil, List.length_append, bts_size] <;> omega) | (simp only [List.all_cons, List.all_nil, Value.oneCell', Bool.and_self, Bool.and_true]; done)) [-Option.bind_some, hp_alloc_lt, hp_alloc_eq, hp_set_ne, wrap_small, ups_ap_cons, ups_ap_nil, upd_same, upd_other, env0_ap0, env0_aps, xt_a, xt_b, xt_c, nk_ptr, X0, E1.blk, X0, hg]; done)) (Nat.le_refl _) (by simp; omega) (by (repeat (first | exact Ext.rfl | assumption | (refine Ext.al ?_ _) | (refine Ext.dw ?_) | (refine Ext.set ?_ (by first | omega | (simp only [World.size_alloc, size_setRow, dw_size]; omega)) _) | (refine Ext.tr ?_ (by assumption))))) (fin m1 m2 hm1 hm2)) hQ
    · refine Ret.mono (l1Num_m (l := x) (by omega) _) ?_
      rintro _ ⟨m1, rfl, hm1⟩
      simp (maxSteps := 1000000) (disch := first | assumption | omega | (simp only [World.size_alloc, size_setRow, dw_size]; done) | (simp only [World.size_alloc, size_setRow, dw_size] <;> omega) | (simp only [List.length_set, Array.length_toList, List.length_cons, List.length_nil, List.length_append, bts_size] <;> omega) | (simp only [List.all_cons, List.all_nil, Value.oneCell', Bool.and_self, Bool.and_true]; done)) [-Option.bind_some, hp_alloc_lt, hp_alloc_eq, hp_set_ne, wrap_small, ups_ap_cons, ups_ap_nil, upd_same, upd_other, env0_ap0, env0_aps, xt_a, xt_b, xt_c, nk_ptr, -splice_eq, -stR_cells, stR_box, stR_boxA, stR_row, stR_row0, stR_row1, stR_rowA, stR_rowA0, splice_rowv, splice_rowv0, splice_rowv1, splice_z, splice_n, splice_s, nth_rowv, nth_rowv0, nth_rowv1, rowv_len, hr0, hr1, E1.blk, X0, hg]
      refine Ret.mono (l1Num_m (l := y) (by omega) _) ?_
      rintro _ ⟨m2, rfl, hm2⟩
      simp (maxSteps := 1000000) (disch := first | assumption | omega | (simp only [World.size_alloc, size_setRow, dw_size]; done) | (simp only [World.size_alloc, size_setRow, dw_size] <;> omega) | (simp only [List.length_set, Array.length_toList, List.length_cons, List.length_nil, List.length_append, bts_size] <;> omega) | (simp only [List.all_cons, List.all_nil, Value.oneCell', Bool.and_self, Bool.and_true]; done)) [-Option.bind_some, hp_alloc_lt, hp_alloc_eq, hp_set_ne, wrap_small, ups_ap_cons, ups_ap_nil, upd_same, upd_other, env0_ap0, env0_aps, xt_a, xt_b, xt_c, nk_ptr, -splice_eq, -stR_cells, stR_box, stR_boxA, stR_row, stR_row0, stR_row1, stR_rowA, stR_rowA0, splice_rowv, splice_rowv0, splice_rowv1, splice_z, splice_n, splice_s, nth_rowv, nth_rowv0, nth_rowv1, rowv_len, hr0, hr1, E1.blk, X0, hg]
      exact Ret.mono (spec_TagGet_j (w0 := w) (m1 := m1) (m2 := m2) (by first | omega | assumption | rfl | exact congrArg i64 (by omega) | (simp; done) | (simp; omega)) (by first | omega | assumption | rfl | exact congrArg i64 (by omega) | (simp; done) | (simp; omega)) (by first | omega | assumption | rfl | exact congrArg i64 (by omega) | (simp; done) | (simp; omega)) (by first | assumption | rfl | (simp (maxSteps := 1000000) (disch := first | assumption | omega | (simp only [World.size_alloc, size_setRow, dw_size]; done) | (simp only [World.size_alloc, size_setRow, dw_size] <;> omega) | (simp only [List.length_set, Array.length_toList, List.length_cons, List.length_nil, List.length_append, bts_size] <;> omega) | (simp only [List.all_cons, List.all_nil, Value.oneCell', Bool.and_self, Bool.and_true]; done)) [-Option.bind_some, hp_alloc_lt, hp_alloc_eq, hp_set_ne, wrap_small, ups_ap_cons, ups_ap_nil, upd_same, upd_other, env0_ap0, env0_aps, xt_a, xt_b, xt_c, nk_ptr, X0, E1.blk, X0, hg]; done)) (by first | assumption | rfl | (simp (maxSteps := 1000000) (disch := first | assumption | omega | (simp only [World.size_alloc, size_setRow, dw_size]; done) | (simp only [World.size_alloc, size_setRow, dw_size] <;> omega) | (simp only [List.length_set, Array.length_toList, List.length_cons, List.length_nil, List.length_append, bts_size] <;> omega) | (simp only [List.all_cons, List.all_nil, Value.oneCell', Bool.and_self, Bool.and_true]; done)) [-Option.bind_some, hp_alloc_lt, hp_alloc_eq, hp_set_ne, wrap_small, ups_ap_cons, ups_ap_nil, upd_same, upd_other, env0_ap0, env0_aps, xt_a, xt_b, xt_c, nk_ptr, X0, E1.blk, X0, hg]; done)) (Nat.le_refl _) (by simp; omega) (by (repeat (first | exact Ext.rfl | assumption | (refine Ext.al ?_ _) | (refine Ext.dw ?_) | (refine Ext.set ?_ (by first | omega | (simp only [World.size_alloc, size_setRow, dw_size]; omega)) _) | (refine Ext.tr ?_ (by assumption))))) (fin m1 m2 hm1 hm2)) hQ
  · have h2' : ((cutN 46 2 l).length : Int) ≠ 2 := by omega
    have h2'' : (((cutN 46 2 l).length : Int) != 2) = true := by simpa using h2'
    simp (maxSteps := 1000000) (disch := first | assumption | omega | (simp only [World.size_alloc, size_setRow, dw_size]; done) | (simp only [World.size_alloc, size_setRow, dw_size] <;> omega) | (simp only [List.length_set, Array.length_toList, List.length_cons, List.length_nil, List.length_append, bts_size] <;> omega) | (simp only [List.all_cons, List.all_nil, Value.oneCell', Bool.and_self, Bool.and_true]; done)) [-Option.bind_some, hp_alloc_lt, hp_alloc_eq, hp_set_ne, wrap_small, ups_ap_cons, ups_ap_nil, upd_same, upd_other, env0_ap0, env0_aps, xt_a, xt_b, xt_c, nk_ptr, h2'', X0, E1.blk, X0]
    exact hQ _ ⟨⟨0, 0⟩, false, rfl, ⟨by simp, fun _ => ⟨rfl, fun t' h1 h3 => h2 (by rw [tag_cutN h3]; rfl)⟩⟩, by (repeat (first | exact Ext.rfl | assumption | (refine Ext.al ?_ _) | (refine Ext.dw ?_) | (refine Ext.set ?_ (by first | omega | (simp only [World.size_alloc, size_setRow, dw_size]; omega)) _) | (refine Ext.tr ?_ (by assumption))))⟩
end Go.Proofs.YtkhbpmhagpljiaaDoor.X
