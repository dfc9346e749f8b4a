/- A part of the proof: an evaluator of the model, its laws, and contracts of functions; no condition. -/
import Derived.Test.YtobejpplmjfkpaaDoorEvLv
import Derived.Test.YtobejpplmjfkpaaDoorT10
import Derived.Test.YtobejpplmjfkpaaDoorEvO
set_option linter.unusedVariables false
set_option linter.unusedSimpArgs false
set_option maxRecDepth 100000
set_option maxHeartbeats 1000000
namespace Go.Proofs.YtobejpplmjfkpaaDoor.X
open Go Go.Ev Go.RowKit
abbrev tStrs : Lay (List ByteArray) := LList 9 8796093021952 LStr
theorem l1Num_n {l : List UInt8} (hl : l.length ≤ 140737488351232) : ∀ (d k : Nat) (e : Env) (w : World) (n : Int), k + d = l.length → e 0 = .string (bts l) → e 3 = i64 n → e 4 = i64 k →
    Ret (spec_l1Num_l1 e w) fun r => ∃ m, r = (i64 m, w) ∧ ((∀ c ∈ l, 48 ≤ c.toNat ∧ c.toNat ≤ 57) → l.length ≤ 6 → 0 < l.length → (1 < l.length → l.head? ≠ some 48) → atoiL n (l.drop k) = some m) := by
  intro d
  induction d with
  | zero =>
    intro k e w n hd e0 e3 e4
    rw [spec_l1Num_l1_eq]
    obtain rfl : k = l.length := by omega
    rw [List.drop_length]
    refine Ret.post fun Q hQ => ?_
    by_cases h0 : l.length = 0
    · have h0' : ((l.length : Int) == 0) = true := beq_iff_eq.2 (by omega)
      simp (maxSteps := 1000000) (disch := first | assumption | omega | (simp only [World.size_alloc, size_setRow, dw_size]; done) | (simp only [World.size_alloc, size_setRow, dw_size] <;> omega) | (simp only [List.length_set, Array.length_toList, List.length_cons, List.length_nil, List.length_append, bts_size] <;> omega) | (simp only [List.all_cons, List.all_nil, Value.oneCell', Bool.and_self, Bool.and_true]; done)) [-Option.bind_some, hp_alloc_lt, hp_alloc_eq, hp_set_ne, wrap_small, ups_ap_cons, ups_ap_nil, upd_same, upd_other, env0_ap0, env0_aps, xt_a, xt_b, xt_c, -splice_eq, -stR_cells, stR_box, stR_boxA, stR_row, stR_row0, stR_row1, stR_rowA, stR_rowA0, splice_rowv, splice_rowv0, splice_rowv1, splice_z, splice_n, splice_s, nth_rowv, nth_rowv0, nth_rowv1, rowv_len, e0, e3, e4, bts_size, h0', e0, e3, e4]
      exact hQ _ ⟨-1, rfl, fun _ _ h => by omega⟩
    · have h0' : ((l.length : Int) == 0) = false := beq_eq_false_iff_ne.2 (by omega)
      obtain ⟨x, s0, rfl⟩ : ∃ x s0, l = x :: s0 := by
        cases l with
        | nil => simp at h0
        | cons x s0 => exact ⟨x, s0, rfl⟩
      have hix := fun w => ix_bts (P := P) (t := 9) (by kernel_rfl) (x :: s0) (k := .i64) (i := 0) (by decide) (b := x) rfl w
      obtain ⟨L, hL⟩ : ∃ L, L = (x :: s0).length := ⟨_, rfl⟩
      rw [← hL] at h0' e4
      by_cases h1 : 1 < L
      · by_cases h48 : (x.toNat : Int) = 48
        · have h48' : ((x.toNat : Int) == 48) = true := beq_iff_eq.2 h48
          have hx : x = 48 := UInt8.toNat_inj.1 (by show x.toNat = 48; omega)
          simp (maxSteps := 1000000) (disch := first | assumption | omega | (simp only [World.size_alloc, size_setRow, dw_size]; done) | (simp only [World.size_alloc, size_setRow, dw_size] <;> omega) | (simp only [List.length_set, Array.length_toList, List.length_cons, List.length_nil, List.length_append, bts_size] <;> omega) | (simp only [List.all_cons, List.all_nil, Value.oneCell', Bool.and_self, Bool.and_true]; done)) [-Option.bind_some, hp_alloc_lt, hp_alloc_eq, hp_set_ne, wrap_small, ups_ap_cons, ups_ap_nil, upd_same, upd_other, env0_ap0, env0_aps, xt_a, xt_b, xt_c, -splice_eq, -stR_cells, stR_box, stR_boxA, stR_row, stR_row0, stR_row1, stR_rowA, stR_rowA0, splice_rowv, splice_rowv0, splice_rowv1, splice_z, splice_n, splice_s, nth_rowv, nth_rowv0, nth_rowv1, rowv_len, e0, e3, e4, bts_size, ← hL, h0', show (1 : Int) < L by omega, h1, hix, h48', e0, e3, e4]
          exact hQ _ ⟨-1, rfl, fun _ _ _ h => absurd (by rw [hx]; rfl) (h (by omega))⟩
        · have h48' : ((x.toNat : Int) == 48) = false := beq_eq_false_iff_ne.2 h48
          simp (maxSteps := 1000000) (disch := first | assumption | omega | (simp only [World.size_alloc, size_setRow, dw_size]; done) | (simp only [World.size_alloc, size_setRow, dw_size] <;> omega) | (simp only [List.length_set, Array.length_toList, List.length_cons, List.length_nil, List.length_append, bts_size] <;> omega) | (simp only [List.all_cons, List.all_nil, Value.oneCell', Bool.and_self, Bool.and_true]; done)) [-Option.bind_some, hp_alloc_lt, hp_alloc_eq, hp_set_ne, wrap_small, ups_ap_cons, ups_ap_nil, upd_same, upd_other, env0_ap0, env0_aps, xt_a, xt_b, xt_c, -splice_eq, -stR_cells, stR_box, stR_boxA, stR_row, stR_row0, stR_row1, stR_rowA, stR_rowA0, splice_rowv, splice_rowv0, splice_rowv1, splice_z, splice_n, splice_s, nth_rowv, nth_rowv0, nth_rowv1, rowv_len, e0, e3, e4, bts_size, ← hL, h0', show (1 : Int) < L by omega, h1, hix, h48', e0, e3, e4]
          exact hQ _ ⟨n, rfl, fun _ _ _ _ => rfl⟩
      · simp (maxSteps := 1000000) (disch := first | assumption | omega | (simp only [World.size_alloc, size_setRow, dw_size]; done) | (simp only [World.size_alloc, size_setRow, dw_size] <;> omega) | (simp only [List.length_set, Array.length_toList, List.length_cons, List.length_nil, List.length_append, bts_size] <;> omega) | (simp only [List.all_cons, List.all_nil, Value.oneCell', Bool.and_self, Bool.and_true]; done)) [-Option.bind_some, hp_alloc_lt, hp_alloc_eq, hp_set_ne, wrap_small, ups_ap_cons, ups_ap_nil, upd_same, upd_other, env0_ap0, env0_aps, xt_a, xt_b, xt_c, -splice_eq, -stR_cells, stR_box, stR_boxA, stR_row, stR_row0, stR_row1, stR_rowA, stR_rowA0, splice_rowv, splice_rowv0, splice_rowv1, splice_z, splice_n, splice_s, nth_rowv, nth_rowv0, nth_rowv1, rowv_len, e0, e3, e4, bts_size, ← hL, h0', show ¬ (1 : Int) < L by omega, h1, e0, e3, e4]
        exact hQ _ ⟨n, rfl, fun _ _ _ _ => rfl⟩
  | succ d ih =>
    intro k e w n hd e0 e3 e4
    rw [spec_l1Num_l1_eq]
    have hlt : k < l.length := by omega
    obtain ⟨b, hb, hdr⟩ := drop_at hlt
    have hix := fun w => ix_bts (P := P) (t := 9) (by kernel_rfl) l (k := .i64) (i := (k : Int)) (by omega) (b := b) (by rw [Int.toNat_natCast]; exact hb) w
    have hmem : b ∈ l := List.mem_of_getElem? hb
    refine Ret.post fun Q hQ => ?_
    by_cases hlo : (b.toNat : Int) < 48
    · simp (maxSteps := 1000000) (disch := first | assumption | omega | (simp only [World.size_alloc, size_setRow, dw_size]; done) | (simp only [World.size_alloc, size_setRow, dw_size] <;> omega) | (simp only [List.length_set, Array.length_toList, List.length_cons, List.length_nil, List.length_append, bts_size] <;> omega) | (simp only [List.all_cons, List.all_nil, Value.oneCell', Bool.and_self, Bool.and_true]; done)) [-Option.bind_some, hp_alloc_lt, hp_alloc_eq, hp_set_ne, wrap_small, ups_ap_cons, ups_ap_nil, upd_same, upd_other, env0_ap0, env0_aps, xt_a, xt_b, xt_c, -splice_eq, -stR_cells, stR_box, stR_boxA, stR_row, stR_row0, stR_row1, stR_rowA, stR_rowA0, splice_rowv, splice_rowv0, splice_rowv1, splice_z, splice_n, splice_s, nth_rowv, nth_rowv0, nth_rowv1, rowv_len, e0, e3, e4, bts_size, hlt, hix, hlo, e0, e3, e4, hlt]
      exact hQ _ ⟨-1, rfl, fun h => by have := h b hmem; omega⟩
    by_cases hhi : (57 : Int) < b.toNat
    · simp (maxSteps := 1000000) (disch := first | assumption | omega | (simp only [World.size_alloc, size_setRow, dw_size]; done) | (simp only [World.size_alloc, size_setRow, dw_size] <;> omega) | (simp only [List.length_set, Array.length_toList, List.length_cons, List.length_nil, List.length_append, bts_size] <;> omega) | (simp only [List.all_cons, List.all_nil, Value.oneCell', Bool.and_self, Bool.and_true]; done)) [-Option.bind_some, hp_alloc_lt, hp_alloc_eq, hp_set_ne, wrap_small, ups_ap_cons, ups_ap_nil, upd_same, upd_other, env0_ap0, env0_aps, xt_a, xt_b, xt_c, -splice_eq, -stR_cells, stR_box, stR_boxA, stR_row, stR_row0, stR_row1, stR_rowA, stR_rowA0, splice_rowv, splice_rowv0, splice_rowv1, splice_z, splice_n, splice_s, nth_rowv, nth_rowv0, nth_rowv1, rowv_len, e0, e3, e4, bts_size, hlt, hix, hlo, hhi, e0, e3, e4, hlt]
      exact hQ _ ⟨-1, rfl, fun h => by have := h b hmem; omega⟩
    by_cases hk : (6 : Int) ≤ k
    · simp (maxSteps := 1000000) (disch := first | assumption | omega | (simp only [World.size_alloc, size_setRow, dw_size]; done) | (simp only [World.size_alloc, size_setRow, dw_size] <;> omega) | (simp only [List.length_set, Array.length_toList, List.length_cons, List.length_nil, List.length_append, bts_size] <;> omega) | (simp only [List.all_cons, List.all_nil, Value.oneCell', Bool.and_self, Bool.and_true]; done)) [-Option.bind_some, hp_alloc_lt, hp_alloc_eq, hp_set_ne, wrap_small, ups_ap_cons, ups_ap_nil, upd_same, upd_other, env0_ap0, env0_aps, xt_a, xt_b, xt_c, -splice_eq, -stR_cells, stR_box, stR_boxA, stR_row, stR_row0, stR_row1, stR_rowA, stR_rowA0, splice_rowv, splice_rowv0, splice_rowv1, splice_z, splice_n, splice_s, nth_rowv, nth_rowv0, nth_rowv1, rowv_len, e0, e3, e4, bts_size, hlt, hix, hlo, hhi, hk, e0, e3, e4, hlt]
      exact hQ _ ⟨-1, rfl, fun _ h => by omega⟩
    · simp (maxSteps := 1000000) (disch := first | assumption | omega | (simp only [World.size_alloc, size_setRow, dw_size]; done) | (simp only [World.size_alloc, size_setRow, dw_size] <;> omega) | (simp only [List.length_set, Array.length_toList, List.length_cons, List.length_nil, List.length_append, bts_size] <;> omega) | (simp only [List.all_cons, List.all_nil, Value.oneCell', Bool.and_self, Bool.and_true]; done)) [-Option.bind_some, hp_alloc_lt, hp_alloc_eq, hp_set_ne, wrap_small, ups_ap_cons, ups_ap_nil, upd_same, upd_other, env0_ap0, env0_aps, xt_a, xt_b, xt_c, -splice_eq, -stR_cells, stR_box, stR_boxA, stR_row, stR_row0, stR_row1, stR_rowA, stR_rowA0, splice_rowv, splice_rowv0, splice_rowv1, splice_z, splice_n, splice_s, nth_rowv, nth_rowv0, nth_rowv1, rowv_len, e0, e3, e4, bts_size, hlt, hix, hlo, hhi, hk, bo_mul, cv_int, e0, e3, e4, hlt]
      refine Ret.mono (ih (k + 1) _ _ (IntKind.i64.wrap (IntKind.i64.wrap (n * 10) + IntKind.i64.wrap (IntKind.u8.wrap ((b.toNat : Int) - 48)))) (by omega) (by first | omega | assumption | rfl | exact congrArg i64 (by omega) | (simp; done) | (simp; omega)) (by first | omega | assumption | rfl | exact congrArg i64 (by omega) | (simp; done) | (simp; omega)) (by first | omega | assumption | rfl | exact congrArg i64 (by omega) | (simp; done) | (simp; omega))) ?_
      rintro r ⟨m, h1, h2⟩
      refine hQ _ ⟨m, h1, fun g1 g2 g3 g4 => ?_⟩
      rw [hdr]
      show (if 9 < IntKind.u8.wrap ((b.toNat : Int) - 48) then none else _) = _
      rw [if_neg (by rw [wu8 (by omega) (by omega)]; omega)]
      exact h2 g1 g2 g3 g4
theorem l1Num_m {l : List UInt8} (hl : l.length ≤ 140737488351232) (w : World) : Ret (EV P 21 #[.string (bts l)] w) fun r => ∃ m, r = (i64 m, w) ∧ ∀ v : Nat, v ≤ 999999 → l = decL v → m = v := by
  refine Ret.post fun Q hQ => ?_
  refine Ret.enter plain mixed (spec_l1Num_fn _ _) (by kernel_rfl) (n := 1) (by kernel_rfl) rfl ?_
  simp (maxSteps := 1000000) (disch := first | assumption | omega | (simp only [World.size_alloc, size_setRow, dw_size]; done) | (simp only [World.size_alloc, size_setRow, dw_size] <;> omega) | (simp only [List.length_set, Array.length_toList, List.length_cons, List.length_nil, List.length_append, bts_size] <;> omega) | (simp only [List.all_cons, List.all_nil, Value.oneCell', Bool.and_self, Bool.and_true]; done)) [-Option.bind_some, hp_alloc_lt, hp_alloc_eq, hp_set_ne, wrap_small, ups_ap_cons, ups_ap_nil, upd_same, upd_other, env0_ap0, env0_aps, xt_a, xt_b, xt_c, -splice_eq, -stR_cells, stR_box, stR_boxA, stR_row, stR_row0, stR_row1, stR_rowA, stR_rowA0, splice_rowv, splice_rowv0, splice_rowv1, splice_z, splice_n, splice_s, nth_rowv, nth_rowv0, nth_rowv1, rowv_len]
  refine Ret.mono (l1Num_n hl l.length 0 _ w 0 (by omega) rfl rfl rfl) ?_
  rintro _ ⟨m, rfl, h⟩
  refine hQ _ ⟨m, rfl, fun v hv he => ?_⟩
  have h1 := decL_pow 5 v (by omega)
  have h2 := decL_len v
  have h3 := h (by rw [he]; exact decL_mem) (by rw [he]; omega) (by rw [he]; omega) (fun hh => by
    rw [he] at hh ⊢
    exact decL_nz v (by
      rcases Nat.lt_or_ge v 10 with h | h
      · rw [decL_lt h] at hh; simp at hh
      · exact h))
  rw [List.drop_zero, he, atoiL_dec v (by omega)] at h3
  exact (Option.some.inj h3).symm
theorem l1Cut_n {l : List UInt8} {c : UInt8} {N : Nat} (hN : N ≤ 1000000) (hl : l.length ≤ 140737488351232) {w0 : World} : ∀ (d i : Nat) (e : Env) (w : World) (st : Nat) (pre : List UInt8) (parts : List (List UInt8)) (sv : Value),
    i + d = l.length → st ≤ i → l.drop st = pre ++ l.drop i → pre.length = i - st → c ∉ pre → parts.length ≤ N →
    e 0 = .string (bts l) → e 1 = .int .u8 c.toNat → e 2 = i64 N → e 7 = sv → e 8 = i64 st → e 9 = i64 i → Ext w0 w →
    O tStrs (In w0.heap.size w.heap.size) w [sv] (parts.map bts) →
    Ret (spec_l1Cut_l1 e w) fun r => ∃ a q, r.1 = .slice a (parts ++ cutN c (N - parts.length) (l.drop st)).length q ∧ O tStrs (In w0.heap.size r.2.heap.size) r.2 [r.1] ((parts ++ cutN c (N - parts.length) (l.drop st)).map bts) ∧ Ext w0 r.2 := by
  intro d
  -- what is put behind
  have put : ∀ (w : World) (sv : Value) (parts : List (List UInt8)) (g : Nat) (s : List UInt8), Ext w0 w → O tStrs (In w0.heap.size w.heap.size) w [sv] (parts.map bts) → parts.length ≤ N → s.length ≤ 140737488351232 → hp w g = some (.cells #[.string (bts s)] 9 (0, 0)) →
      Ret (b_append P #[38, 38] 38 #[sv, .slice (some ⟨g, 0, none⟩) 1 1] w) fun r => ∃ a q, r.1 = .slice a (parts.length + 1) q ∧ O tStrs (In w0.heap.size r.2.heap.size) r.2 [.slice a (parts.length + 1) q] ((parts ++ [s]).map bts) ∧ Ext w0 r.2 := by
    intro w sv parts g s E0 ho hp' hs hg
    have zE0 := E0.size
    try simp only [World.size_alloc, size_setRow, dw_size] at zE0
    have hz := E0.size
    refine Ret.mono (O.appD (L := LStr) (mx := 8796093021952) flat_str el_38 zz_9 rfl (by decide) ho (one_raw (P := P) (by rw [bts_size]; exact hs) hg) (by simp; omega) (by decide) (by decide)) ?_
    rintro ⟨_, w1⟩ ⟨a1, c1, rfl, o1, M1⟩
    have zM1 := M1.size
    try simp only [World.size_alloc, size_setRow, dw_size] at zM1
    try dsimp only at o1 M1
    have zM1 := M1.size
    have F1 : Ext w0 w1 := Mod.after (a := w0) E0 M1 (by intro x hx h; simp only [In] at h; omega)
    refine ⟨a1, c1, by simp, ?_, F1⟩
    rw [List.map_append]
    rw [List.length_map] at o1
    exact o1.wide (by intro b hb hl; simp only [In] at hb ⊢; rcases hb with hb | hb <;> omega)
  induction d with
  | zero =>
    intro i e w st pre parts sv hd hst hdr hpl hpre hpn e0 e1 e2 e7 e8 e9 E0 ho
    have zE0 := E0.size
    try simp only [World.size_alloc, size_setRow, dw_size] at zE0
    rw [spec_l1Cut_l1_eq]
    obtain rfl : i = l.length := by omega
    rw [List.drop_length, List.append_nil] at hdr
    have hsf := fun w => sl_str_from (P := P) (t := 9) (by kernel_rfl) l (i := (st : Int)) (by omega) (by omega) w
    rw [Int.toNat_natCast] at hsf
    have hcn : cutN c (N - parts.length) (l.drop st) = [l.drop st] := cutN_not (by rw [hdr]; exact hpre) _
    rw [hcn]
    refine Ret.post fun Q hQ => ?_
    simp (maxSteps := 1000000) (disch := first | assumption | omega | (simp only [World.size_alloc, size_setRow, dw_size]; done) | (simp only [World.size_alloc, size_setRow, dw_size] <;> omega) | (simp only [List.length_set, Array.length_toList, List.length_cons, List.length_nil, List.length_append, bts_size] <;> omega) | (simp only [List.all_cons, List.all_nil, Value.oneCell', Bool.and_self, Bool.and_true]; done)) [-Option.bind_some, hp_alloc_lt, hp_alloc_eq, hp_set_ne, wrap_small, ups_ap_cons, ups_ap_nil, upd_same, upd_other, env0_ap0, env0_aps, xt_a, xt_b, xt_c, -splice_eq, -stR_cells, stR_box, stR_boxA, stR_row, stR_row0, stR_row1, stR_rowA, stR_rowA0, splice_rowv, splice_rowv0, splice_rowv1, splice_z, splice_n, splice_s, nth_rowv, nth_rowv0, nth_rowv1, rowv_len, e0, e1, e2, e7, e8, e9, bts_size, hsf, e0, e1, e2, e7, e8, e9, E0.blk]
    refine Ret.bind (put _ sv parts w.heap.size (l.drop st) (by (repeat (first | exact Ext.rfl | assumption | (refine Ext.al ?_ _) | (refine Ext.dw ?_) | (refine Ext.set ?_ (by first | omega | (simp only [World.size_alloc, size_setRow, dw_size]; omega)) _) | (refine Ext.tr ?_ (by assumption))))) ?_ hpn (by rw [List.length_drop]; omega) (by first | assumption | rfl | (simp (maxSteps := 1000000) (disch := first | assumption | omega | (simp only [World.size_alloc, size_setRow, dw_size]; done) | (simp only [World.size_alloc, size_setRow, dw_size] <;> omega) | (simp only [List.length_set, Array.length_toList, List.length_cons, List.length_nil, List.length_append, bts_size] <;> omega) | (simp only [List.all_cons, List.all_nil, Value.oneCell', Bool.and_self, Bool.and_true]; done)) [-Option.bind_some, hp_alloc_lt, hp_alloc_eq, hp_set_ne, wrap_small, ups_ap_cons, ups_ap_nil, upd_same, upd_other, env0_ap0, env0_aps, xt_a, xt_b, xt_c, -splice_eq, -stR_cells, stR_box, stR_boxA, stR_row, stR_row0, stR_row1, stR_rowA, stR_rowA0, splice_rowv, splice_rowv0, splice_rowv1, splice_z, splice_n, splice_s, nth_rowv, nth_rowv0, nth_rowv1, rowv_len, e0, e1, e2, e7, e8, e9, E0.blk]; done))) ?_
    · exact (ho.keep (by intro b hS hb; (try dsimp only at hS); (try simp only [In, World.size_alloc, size_setRow, dw_size] at hS hb); first | rfl | (simp (disch := first | assumption | omega | (simp only [World.size_alloc, size_setRow, dw_size]; omega) | (simp only [World.size_alloc, size_setRow, dw_size, In]; omega)) only [E0.blk, hp_alloc_lt, hp_set_ne, hp_dw]; done))).wide (by intro b h1 h2; (try dsimp only at h1); (try simp only [In, World.size_alloc, size_setRow, dw_size] at *); omega)
    · rintro ⟨_, w1⟩ ⟨a, q, rfl, o1, E1⟩
      have zE1 := E1.size
      try simp only [World.size_alloc, size_setRow, dw_size] at zE1
      try dsimp only at o1 E1
      simp (maxSteps := 1000000) (disch := first | assumption | omega | (simp only [World.size_alloc, size_setRow, dw_size]; done) | (simp only [World.size_alloc, size_setRow, dw_size] <;> omega) | (simp only [List.length_set, Array.length_toList, List.length_cons, List.length_nil, List.length_append, bts_size] <;> omega) | (simp only [List.all_cons, List.all_nil, Value.oneCell', Bool.and_self, Bool.and_true]; done)) [-Option.bind_some, hp_alloc_lt, hp_alloc_eq, hp_set_ne, wrap_small, ups_ap_cons, ups_ap_nil, upd_same, upd_other, env0_ap0, env0_aps, xt_a, xt_b, xt_c, -splice_eq, -stR_cells, stR_box, stR_boxA, stR_row, stR_row0, stR_row1, stR_rowA, stR_rowA0, splice_rowv, splice_rowv0, splice_rowv1, splice_z, splice_n, splice_s, nth_rowv, nth_rowv0, nth_rowv1, rowv_len, e0, e1, e2, e7, e8, e9, E0.blk, E1.blk]
      exact hQ _ ⟨a, q, by simp, o1, E1⟩
  | succ d ih =>
    intro i e w st pre parts sv hd hst hdr hpl hpre hpn e0 e1 e2 e7 e8 e9 E0 ho
    have zE0 := E0.size
    try simp only [World.size_alloc, size_setRow, dw_size] at zE0
    rw [spec_l1Cut_l1_eq]
    have hlt : i < l.length := by omega
    obtain ⟨b, hb, hdi⟩ := drop_at hlt
    obtain ⟨a0, c0, rfl, _⟩ := ho.d.sl
    rw [List.length_map] at e7 ho
    have hix := fun w => ix_bts (P := P) (t := 9) (by kernel_rfl) l (k := .i64) (i := (i : Int)) (by omega) (b := b) (by rw [Int.toNat_natCast]; exact hb) w
    refine Ret.post fun Q hQ => ?_
    by_cases hlN : parts.length < N
    · by_cases hbc : b = c
      · subst hbc
        have hsx := fun w => sl_str (P := P) (t := 9) (by kernel_rfl) (bts l) (i := (st : Int)) (j := (i : Int)) (by omega) (by omega) (by rw [bts_size]; omega) w
        rw [bts_extract, Int.toNat_natCast, Int.toNat_natCast, hdr, List.take_append_of_le_length (by omega), List.take_of_length_le (by omega)] at hsx
        have hbb : ((b.toNat : Int) == b.toNat) = true := beq_iff_eq.2 rfl
        simp (maxSteps := 1000000) (disch := first | assumption | omega | (simp only [World.size_alloc, size_setRow, dw_size]; done) | (simp only [World.size_alloc, size_setRow, dw_size] <;> omega) | (simp only [List.length_set, Array.length_toList, List.length_cons, List.length_nil, List.length_append, bts_size] <;> omega) | (simp only [List.all_cons, List.all_nil, Value.oneCell', Bool.and_self, Bool.and_true]; done)) [-Option.bind_some, hp_alloc_lt, hp_alloc_eq, hp_set_ne, wrap_small, ups_ap_cons, ups_ap_nil, upd_same, upd_other, env0_ap0, env0_aps, xt_a, xt_b, xt_c, -splice_eq, -stR_cells, stR_box, stR_boxA, stR_row, stR_row0, stR_row1, stR_rowA, stR_rowA0, splice_rowv, splice_rowv0, splice_rowv1, splice_z, splice_n, splice_s, nth_rowv, nth_rowv0, nth_rowv1, rowv_len, e0, e1, e2, e7, e8, e9, bts_size, hlt, hlN, hix, hbb, hsx, e0, e1, e2, e7, e8, e9, E0.blk, hlt]
        refine Ret.bind (put _ _ parts w.heap.size pre (by (repeat (first | exact Ext.rfl | assumption | (refine Ext.al ?_ _) | (refine Ext.dw ?_) | (refine Ext.set ?_ (by first | omega | (simp only [World.size_alloc, size_setRow, dw_size]; omega)) _) | (refine Ext.tr ?_ (by assumption))))) ?_ hpn (by omega) (by first | assumption | rfl | (simp (maxSteps := 1000000) (disch := first | assumption | omega | (simp only [World.size_alloc, size_setRow, dw_size]; done) | (simp only [World.size_alloc, size_setRow, dw_size] <;> omega) | (simp only [List.length_set, Array.length_toList, List.length_cons, List.length_nil, List.length_append, bts_size] <;> omega) | (simp only [List.all_cons, List.all_nil, Value.oneCell', Bool.and_self, Bool.and_true]; done)) [-Option.bind_some, hp_alloc_lt, hp_alloc_eq, hp_set_ne, wrap_small, ups_ap_cons, ups_ap_nil, upd_same, upd_other, env0_ap0, env0_aps, xt_a, xt_b, xt_c, -splice_eq, -stR_cells, stR_box, stR_boxA, stR_row, stR_row0, stR_row1, stR_rowA, stR_rowA0, splice_rowv, splice_rowv0, splice_rowv1, splice_z, splice_n, splice_s, nth_rowv, nth_rowv0, nth_rowv1, rowv_len, e0, e1, e2, e7, e8, e9, E0.blk, hlt]; done))) ?_
        · exact (ho.keep (by intro b hS hb; (try dsimp only at hS); (try simp only [In, World.size_alloc, size_setRow, dw_size] at hS hb); first | rfl | (simp (disch := first | assumption | omega | (simp only [World.size_alloc, size_setRow, dw_size]; omega) | (simp only [World.size_alloc, size_setRow, dw_size, In]; omega)) only [E0.blk, hp_alloc_lt, hp_set_ne, hp_dw]; done))).wide (by intro b h1 h2; (try dsimp only at h1); (try simp only [In, World.size_alloc, size_setRow, dw_size] at *); omega)
        · rintro ⟨_, w1⟩ ⟨a, q, rfl, o1, E1⟩
          have zE1 := E1.size
          try simp only [World.size_alloc, size_setRow, dw_size] at zE1
          try dsimp only at o1 E1
          simp (maxSteps := 1000000) (disch := first | assumption | omega | (simp only [World.size_alloc, size_setRow, dw_size]; done) | (simp only [World.size_alloc, size_setRow, dw_size] <;> omega) | (simp only [List.length_set, Array.length_toList, List.length_cons, List.length_nil, List.length_append, bts_size] <;> omega) | (simp only [List.all_cons, List.all_nil, Value.oneCell', Bool.and_self, Bool.and_true]; done)) [-Option.bind_some, hp_alloc_lt, hp_alloc_eq, hp_set_ne, wrap_small, ups_ap_cons, ups_ap_nil, upd_same, upd_other, env0_ap0, env0_aps, xt_a, xt_b, xt_c, -splice_eq, -stR_cells, stR_box, stR_boxA, stR_row, stR_row0, stR_row1, stR_rowA, stR_rowA0, splice_rowv, splice_rowv0, splice_rowv1, splice_z, splice_n, splice_s, nth_rowv, nth_rowv0, nth_rowv1, rowv_len, e0, e1, e2, e7, e8, e9, spec_l1Cut_j1_eq, e0, e1, e2, e7, e8, e9, E0.blk, hlt, E1.blk]
          refine Ret.mono (ih (i + 1) _ _ (i + 1) [] (parts ++ [pre]) _ (by omega) (Nat.le_refl _) rfl (by simp) (by simp) (by simp; omega) (by first | omega | assumption | rfl | exact congrArg i64 (by omega) | (simp; done) | (simp; omega)) (by first | omega | assumption | rfl | exact congrArg i64 (by omega) | (simp; done) | (simp; omega)) (by first | omega | assumption | rfl | exact congrArg i64 (by omega) | (simp; done) | (simp; omega)) rfl (by first | omega | assumption | rfl | exact congrArg i64 (by omega) | (simp; done) | (simp; omega)) (by first | omega | assumption | rfl | exact congrArg i64 (by omega) | (simp; done) | (simp; omega)) E1 o1) ?_
          rintro r ⟨a, q, h1, h2, h3⟩
          have hcn : cutN b (N - parts.length) (l.drop st) = pre :: cutN b (N - (parts ++ [pre]).length) (l.drop (i + 1)) := by
            rw [hdr, hdi, show N - parts.length = (N - (parts ++ [pre]).length) + 1 by simp; omega]
            exact cutN_app hpre _
          rw [List.append_assoc, List.singleton_append, ← hcn] at h1 h2
          exact hQ _ ⟨a, q, h1, h2, h3⟩
      · have hbb : ((b.toNat : Int) == c.toNat) = false := beq_eq_false_iff_ne.2 fun h => hbc (UInt8.toNat_inj.1 (by omega))
        simp (maxSteps := 1000000) (disch := first | assumption | omega | (simp only [World.size_alloc, size_setRow, dw_size]; done) | (simp only [World.size_alloc, size_setRow, dw_size] <;> omega) | (simp only [List.length_set, Array.length_toList, List.length_cons, List.length_nil, List.length_append, bts_size] <;> omega) | (simp only [List.all_cons, List.all_nil, Value.oneCell', Bool.and_self, Bool.and_true]; done)) [-Option.bind_some, hp_alloc_lt, hp_alloc_eq, hp_set_ne, wrap_small, ups_ap_cons, ups_ap_nil, upd_same, upd_other, env0_ap0, env0_aps, xt_a, xt_b, xt_c, -splice_eq, -stR_cells, stR_box, stR_boxA, stR_row, stR_row0, stR_row1, stR_rowA, stR_rowA0, splice_rowv, splice_rowv0, splice_rowv1, splice_z, splice_n, splice_s, nth_rowv, nth_rowv0, nth_rowv1, rowv_len, e0, e1, e2, e7, e8, e9, bts_size, hlt, hlN, hix, hbb, spec_l1Cut_j1_eq, e0, e1, e2, e7, e8, e9, E0.blk, hlt]
        exact Ret.mono (ih (i + 1) _ _ st (pre ++ [b]) parts (.slice a0 parts.length c0) (by omega) (by omega) (by rw [hdr, hdi]; simp) (by simp; omega) (by simp; exact ⟨hpre, fun h => hbc h.symm⟩) hpn (by first | omega | assumption | rfl | exact congrArg i64 (by omega) | (simp; done) | (simp; omega)) (by first | omega | assumption | rfl | exact congrArg i64 (by omega) | (simp; done) | (simp; omega)) (by first | omega | assumption | rfl | exact congrArg i64 (by omega) | (simp; done) | (simp; omega)) (by first | omega | assumption | rfl | exact congrArg i64 (by omega) | (simp; done) | (simp; omega)) (by first | omega | assumption | rfl | exact congrArg i64 (by omega) | (simp; done) | (simp; omega)) (by first | omega | assumption | rfl | exact congrArg i64 (by omega) | (simp; done) | (simp; omega)) E0 ho) hQ
    · have hN' : N - parts.length = 0 := by omega
      have hsf := fun w => sl_str_from (P := P) (t := 9) (by kernel_rfl) l (i := (st : Int)) (by omega) (by omega) w
      rw [Int.toNat_natCast] at hsf
      have hcn : cutN c (N - parts.length) (l.drop st) = [l.drop st] := by rw [hN']; rfl
      rw [hcn] at hQ
      simp (maxSteps := 1000000) (disch := first | assumption | omega | (simp only [World.size_alloc, size_setRow, dw_size]; done) | (simp only [World.size_alloc, size_setRow, dw_size] <;> omega) | (simp only [List.length_set, Array.length_toList, List.length_cons, List.length_nil, List.length_append, bts_size] <;> omega) | (simp only [List.all_cons, List.all_nil, Value.oneCell', Bool.and_self, Bool.and_true]; done)) [-Option.bind_some, hp_alloc_lt, hp_alloc_eq, hp_set_ne, wrap_small, ups_ap_cons, ups_ap_nil, upd_same, upd_other, env0_ap0, env0_aps, xt_a, xt_b, xt_c, -splice_eq, -stR_cells, stR_box, stR_boxA, stR_row, stR_row0, stR_row1, stR_rowA, stR_rowA0, splice_rowv, splice_rowv0, splice_rowv1, splice_z, splice_n, splice_s, nth_rowv, nth_rowv0, nth_rowv1, rowv_len, e0, e1, e2, e7, e8, e9, bts_size, hlt, hlN, hsf, e0, e1, e2, e7, e8, e9, E0.blk, hlt]
      refine Ret.bind (put _ _ parts w.heap.size (l.drop st) (by (repeat (first | exact Ext.rfl | assumption | (refine Ext.al ?_ _) | (refine Ext.dw ?_) | (refine Ext.set ?_ (by first | omega | (simp only [World.size_alloc, size_setRow, dw_size]; omega)) _) | (refine Ext.tr ?_ (by assumption))))) ?_ hpn (by rw [List.length_drop]; omega) (by first | assumption | rfl | (simp (maxSteps := 1000000) (disch := first | assumption | omega | (simp only [World.size_alloc, size_setRow, dw_size]; done) | (simp only [World.size_alloc, size_setRow, dw_size] <;> omega) | (simp only [List.length_set, Array.length_toList, List.length_cons, List.length_nil, List.length_append, bts_size] <;> omega) | (simp only [List.all_cons, List.all_nil, Value.oneCell', Bool.and_self, Bool.and_true]; done)) [-Option.bind_some, hp_alloc_lt, hp_alloc_eq, hp_set_ne, wrap_small, ups_ap_cons, ups_ap_nil, upd_same, upd_other, env0_ap0, env0_aps, xt_a, xt_b, xt_c, -splice_eq, -stR_cells, stR_box, stR_boxA, stR_row, stR_row0, stR_row1, stR_rowA, stR_rowA0, splice_rowv, splice_rowv0, splice_rowv1, splice_z, splice_n, splice_s, nth_rowv, nth_rowv0, nth_rowv1, rowv_len, e0, e1, e2, e7, e8, e9, E0.blk, hlt]; done))) ?_
      · exact (ho.keep (by intro b hS hb; (try dsimp only at hS); (try simp only [In, World.size_alloc, size_setRow, dw_size] at hS hb); first | rfl | (simp (disch := first | assumption | omega | (simp only [World.size_alloc, size_setRow, dw_size]; omega) | (simp only [World.size_alloc, size_setRow, dw_size, In]; omega)) only [E0.blk, hp_alloc_lt, hp_set_ne, hp_dw]; done))).wide (by intro b h1 h2; (try dsimp only at h1); (try simp only [In, World.size_alloc, size_setRow, dw_size] at *); omega)
      · rintro ⟨_, w1⟩ ⟨a, q, rfl, o1, E1⟩
        have zE1 := E1.size
        try simp only [World.size_alloc, size_setRow, dw_size] at zE1
        try dsimp only at o1 E1
        simp (maxSteps := 1000000) (disch := first | assumption | omega | (simp only [World.size_alloc, size_setRow, dw_size]; done) | (simp only [World.size_alloc, size_setRow, dw_size] <;> omega) | (simp only [List.length_set, Array.length_toList, List.length_cons, List.length_nil, List.length_append, bts_size] <;> omega) | (simp only [List.all_cons, List.all_nil, Value.oneCell', Bool.and_self, Bool.and_true]; done)) [-Option.bind_some, hp_alloc_lt, hp_alloc_eq, hp_set_ne, wrap_small, ups_ap_cons, ups_ap_nil, upd_same, upd_other, env0_ap0, env0_aps, xt_a, xt_b, xt_c, -splice_eq, -stR_cells, stR_box, stR_boxA, stR_row, stR_row0, stR_row1, stR_rowA, stR_rowA0, splice_rowv, splice_rowv0, splice_rowv1, splice_z, splice_n, splice_s, nth_rowv, nth_rowv0, nth_rowv1, rowv_len, e0, e1, e2, e7, e8, e9, E0.blk, hlt, E1.blk]
        exact hQ _ ⟨a, q, by simp, o1, E1⟩
theorem l1Cut_m {l : List UInt8} {c : UInt8} {N : Nat} (hN : N ≤ 1000000) (hl : l.length ≤ 140737488351232) (w : World) :
    Ret (EV P 20 #[.string (bts l), .int .u8 c.toNat, i64 N] w) fun r => ∃ a q, r.1 = .slice a (cutN c N l).length q ∧ O tStrs (In w.heap.size r.2.heap.size) r.2 [r.1] ((cutN c N l).map bts) ∧ Ext w r.2 := by
  refine Ret.post fun Q hQ => ?_
  refine Ret.enter plain mixed (spec_l1Cut_fn _ _ _ _) (by kernel_rfl) (n := 3) (by kernel_rfl) rfl ?_
  simp (maxSteps := 1000000) (disch := first | assumption | omega | (simp only [World.size_alloc, size_setRow, dw_size]; done) | (simp only [World.size_alloc, size_setRow, dw_size] <;> omega) | (simp only [List.length_set, Array.length_toList, List.length_cons, List.length_nil, List.length_append, bts_size] <;> omega) | (simp only [List.all_cons, List.all_nil, Value.oneCell', Bool.and_self, Bool.and_true]; done)) [-Option.bind_some, hp_alloc_lt, hp_alloc_eq, hp_set_ne, wrap_small, ups_ap_cons, ups_ap_nil, upd_same, upd_other, env0_ap0, env0_aps, xt_a, xt_b, xt_c, -splice_eq, -stR_cells, stR_box, stR_boxA, stR_row, stR_row0, stR_row1, stR_rowA, stR_rowA0, splice_rowv, splice_rowv0, splice_rowv1, splice_z, splice_n, splice_s, nth_rowv, nth_rowv0, nth_rowv1, rowv_len]
  have := l1Cut_n (l := l) (c := c) hN hl (w0 := w) l.length 0 (ups (env0 #[.string (bts l), .int .u8 c.toNat, i64 N]) [(6, .slice none 0 0), (10, .slice (some ⟨w.heap.size, 0, none⟩) 0 0), (7, .slice (some ⟨w.heap.size, 0, none⟩) 0 0), (8, i64 0), (9, i64 0)]) (w.alloc (.cells #[] 9)) 0 [] [] (.slice (some ⟨w.heap.size, 0, none⟩) 0 0) (by omega) (by omega) rfl rfl (by simp) (by simp) rfl rfl rfl rfl rfl rfl (by (repeat (first | exact Ext.rfl | assumption | (refine Ext.al ?_ _) | (refine Ext.dw ?_) | (refine Ext.set ?_ (by first | omega | (simp only [World.size_alloc, size_setRow, dw_size]; omega)) _) | (refine Ext.tr ?_ (by assumption))))) ((O.empty (g := w.heap.size) (hp_alloc_eq rfl)).wide (by intro b hb hl; simp only [In]; omega))
  exact Ret.mono this hQ
end Go.Proofs.YtobejpplmjfkpaaDoor.X
set_option linter.unusedVariables false
set_option linter.unusedSimpArgs false
set_option maxRecDepth 100000
set_option maxHeartbeats 1000000
namespace Go.Proofs.YtobejpplmjfkpaaDoor.X
open Go Go.Ev Go.RowKit
def TagGot (l : List UInt8) (t : Tag) (ok : Bool) : Prop := (ok = true → tagOk t = true ∧ tagL t = l) ∧ (ok = false → t = ⟨0, 0⟩ ∧ ∀ t', tagOk t' = true → tagL t' ≠ l)
theorem TagGot.eq {l : List UInt8} {t t' : Tag} {ok ok' : Bool} (h : TagGot l t ok) (h' : TagGot l t' ok') : t = t' ∧ ok = ok' := by
  cases ok <;> cases ok'
  · exact ⟨(h.2 rfl).1.trans (h'.2 rfl).1.symm, rfl⟩
  · exact absurd (h'.1 rfl).2 ((h.2 rfl).2 _ (h'.1 rfl).1)
  · exact absurd (h.1 rfl).2 ((h'.2 rfl).2 _ (h.1 rfl).1)
  · exact ⟨tagL_inj (h.1 rfl).1 (h'.1 rfl).1 ((h.1 rfl).2.trans (h'.1 rfl).2.symm), rfl⟩
theorem tag_cut {t : Tag} {l : List UInt8} (h : tagL t = l) : cutL 46 l = some (decL t.t.toNat, decL t.p.toNat) := by
  rw [← h, tagL]
  exact cutL_app (dec_noc (by decide) _)
theorem tag_cutN {t : Tag} {l : List UInt8} (h : tagL t = l) : cutN 46 2 l = [decL t.t.toNat, decL t.p.toNat] := by
  rw [← h, tagL, cutN_app (dec_noc (by decide) _), cutN_not (dec_noc (by decide) _)]
theorem cutV_some (l : List UInt8) : ∃ a b f, cutV 46 l = .tuple #[.string (bts a), .string (bts b), .bool f] ∧ a.length ≤ l.length ∧ b.length ≤ l.length ∧ ∀ t', tagL t' = l → a = decL t'.t.toNat ∧ b = decL t'.p.toNat := by
  unfold cutV
  cases hc : cutL 46 l with
  | none => exact ⟨l, [], false, rfl, Nat.le_refl _, Nat.zero_le _, fun t' h => by rw [tag_cut h] at hc; cases hc⟩
  | some p =>
    have h1 := (cutL_eq hc).1
    have hlen : l.length = p.1.length + (p.2.length + 1) := by conv => lhs; rw [h1]; simp
    refine ⟨p.1, p.2, true, rfl, by omega, by omega, fun t' h => ?_⟩
    rw [tag_cut h] at hc
    obtain rfl := Option.some.inj hc
    exact ⟨rfl, rfl⟩
theorem impl_TagGet_m {l : List UInt8} (hl : l.length ≤ 140737488351232) {w : World} (G : GlobE w) : Ret (EV P 11 #[.string (bts l)] w) fun r => ∃ t ok, r.1 = .tuple #[t.v, .bool ok] ∧ TagGot l t ok ∧ Ext w r.2 := by
  obtain ⟨a, b, f, hV, ha, hb, hu⟩ := cutV_some l
  refine Ret.post fun Q hQ => ?_
  refine Ret.enter plain mixed (impl_TagGet_fn _ _) (by kernel_rfl) (n := 1) (by kernel_rfl) rfl ?_
  simp (maxSteps := 1000000) (disch := first | assumption | omega | (simp only [World.size_alloc, size_setRow, dw_size]; done) | (simp only [World.size_alloc, size_setRow, dw_size] <;> omega) | (simp only [List.length_set, Array.length_toList, List.length_cons, List.length_nil, List.length_append, bts_size] <;> omega) | (simp only [List.all_cons, List.all_nil, Value.oneCell', Bool.and_self, Bool.and_true]; done)) [-Option.bind_some, hp_alloc_lt, hp_alloc_eq, hp_set_ne, wrap_small, ups_ap_cons, ups_ap_nil, upd_same, upd_other, env0_ap0, env0_aps, xt_a, xt_b, xt_c, -splice_eq, -stR_cells, stR_box, stR_boxA, stR_row, stR_row0, stR_row1, stR_rowA, stR_rowA0, splice_rowv, splice_rowv0, splice_rowv1, splice_z, splice_n, splice_s, nth_rowv, nth_rowv0, nth_rowv1, rowv_len, mk_bts]
  refine Ret.bind (cut_m (by omega) 46 _) ?_
  rintro ⟨_, w1⟩ ⟨rfl, E1⟩
  try dsimp only at E1
  have zE1 := E1.size
  try simp only [World.size_alloc, size_setRow, dw_size] at zE1
  rw [hV]
  simp (maxSteps := 1000000) (disch := first | assumption | omega | (simp only [World.size_alloc, size_setRow, dw_size]; done) | (simp only [World.size_alloc, size_setRow, dw_size] <;> omega) | (simp only [List.length_set, Array.length_toList, List.length_cons, List.length_nil, List.length_append, bts_size] <;> omega) | (simp only [List.all_cons, List.all_nil, Value.oneCell', Bool.and_self, Bool.and_true]; done)) [-Option.bind_some, hp_alloc_lt, hp_alloc_eq, hp_set_ne, wrap_small, ups_ap_cons, ups_ap_nil, upd_same, upd_other, env0_ap0, env0_aps, xt_a, xt_b, xt_c, -splice_eq, -stR_cells, stR_box, stR_boxA, stR_row, stR_row0, stR_row1, stR_rowA, stR_rowA0, splice_rowv, splice_rowv0, splice_rowv1, splice_z, splice_n, splice_s, nth_rowv, nth_rowv0, nth_rowv1, rowv_len, E1.blk]
  refine Ret.bind (atoi_m (by omega) (G.ext (by (repeat (first | exact Ext.rfl | assumption | (refine Ext.al ?_ _) | (refine Ext.dw ?_) | (refine Ext.set ?_ (by first | omega | (simp only [World.size_alloc, size_setRow, dw_size]; omega)) _) | (refine Ext.tr ?_ (by assumption))))))) ?_
  rintro ⟨_, w2⟩ ⟨E2, m1, er1, rfl, he1, hv1⟩
  try dsimp only at E2 m1 er1 he1 hv1
  have zE2 := E2.size
  try simp only [World.size_alloc, size_setRow, dw_size] at zE2
  simp (maxSteps := 1000000) (disch := first | assumption | omega | (simp only [World.size_alloc, size_setRow, dw_size]; done) | (simp only [World.size_alloc, size_setRow, dw_size] <;> omega) | (simp only [List.length_set, Array.length_toList, List.length_cons, List.length_nil, List.length_append, bts_size] <;> omega) | (simp only [List.all_cons, List.all_nil, Value.oneCell', Bool.and_self, Bool.and_true]; done)) [-Option.bind_some, hp_alloc_lt, hp_alloc_eq, hp_set_ne, wrap_small, ups_ap_cons, ups_ap_nil, upd_same, upd_other, env0_ap0, env0_aps, xt_a, xt_b, xt_c, -splice_eq, -stR_cells, stR_box, stR_boxA, stR_row, stR_row0, stR_row1, stR_rowA, stR_rowA0, splice_rowv, splice_rowv0, splice_rowv1, splice_z, splice_n, splice_s, nth_rowv, nth_rowv0, nth_rowv1, rowv_len, E1.blk, E2.blk]
  refine Ret.bind (atoi_m (by omega) (G.ext (by (repeat (first | exact Ext.rfl | assumption | (refine Ext.al ?_ _) | (refine Ext.dw ?_) | (refine Ext.set ?_ (by first | omega | (simp only [World.size_alloc, size_setRow, dw_size]; omega)) _) | (refine Ext.tr ?_ (by assumption))))))) ?_
  rintro ⟨_, w3⟩ ⟨E3, m2, er2, rfl, he2, hv2⟩
  try dsimp only at E3 m2 er2 he2 hv2
  have zE3 := E3.size
  try simp only [World.size_alloc, size_setRow, dw_size] at zE3
  have hno : ∀ t', tagOk t' = true → tagL t' = l → er1 = .nilIface ∧ er2 = .nilIface ∧ t' = ⟨m1, m2⟩ := by
    intro t' h1 h2
    obtain ⟨h3, h4⟩ := hu t' h2
    have hr := tagOk_rng h1
    have h5 := hv1 t'.t.toNat (by omega) h3
    have h6 := hv2 t'.p.toNat (by omega) h4
    refine ⟨h5.1, h6.1, ?_⟩
    have q5 : t'.t = m1 := by omega
    have q6 : t'.p = m2 := by omega
    rw [← q5, ← q6]
  have X0 : hp w3 w.heap.size = some (.cells #[i64 0, i64 0] 25 (0, 0)) := (by first | assumption | rfl | (simp (maxSteps := 1000000) (disch := first | assumption | omega | (simp only [World.size_alloc, size_setRow, dw_size]; done) | (simp only [World.size_alloc, size_setRow, dw_size] <;> omega) | (simp only [List.length_set, Array.length_toList, List.length_cons, List.length_nil, List.length_append, bts_size] <;> omega) | (simp only [List.all_cons, List.all_nil, Value.oneCell', Bool.and_self, Bool.and_true]; done)) [-Option.bind_some, hp_alloc_lt, hp_alloc_eq, hp_set_ne, wrap_small, ups_ap_cons, ups_ap_nil, upd_same, upd_other, env0_ap0, env0_aps, xt_a, xt_b, xt_c, -splice_eq, -stR_cells, stR_box, stR_boxA, stR_row, stR_row0, stR_row1, stR_rowA, stR_rowA0, splice_rowv, splice_rowv0, splice_rowv1, splice_z, splice_n, splice_s, nth_rowv, nth_rowv0, nth_rowv1, rowv_len, E1.blk, E2.blk, E3.blk]; done))
  rcases he1 with rfl | ⟨u1, x1, rfl⟩
  · rcases he2 with rfl | ⟨u2, x2, rfl⟩
    · simp (maxSteps := 1000000) (disch := first | assumption | omega | (simp only [World.size_alloc, size_setRow, dw_size]; done) | (simp only [World.size_alloc, size_setRow, dw_size] <;> omega) | (simp only [List.length_set, Array.length_toList, List.length_cons, List.length_nil, List.length_append, bts_size] <;> omega) | (simp only [List.all_cons, List.all_nil, Value.oneCell', Bool.and_self, Bool.and_true]; done)) [-Option.bind_some, hp_alloc_lt, hp_alloc_eq, hp_set_ne, wrap_small, ups_ap_cons, ups_ap_nil, upd_same, upd_other, env0_ap0, env0_aps, xt_a, xt_b, xt_c, -splice_eq, -stR_cells, stR_box, stR_boxA, stR_row, stR_row0, stR_row1, stR_rowA, stR_rowA0, splice_rowv, splice_rowv0, splice_rowv1, splice_z, splice_n, splice_s, nth_rowv, nth_rowv0, nth_rowv1, rowv_len, nn0, E1.blk, E2.blk, E3.blk, X0]
      refine Ret.bind (impl_TagOk_c ⟨m1, m2⟩ _) ?_
      rintro ⟨_, w4⟩ ⟨rfl, E4⟩
      try dsimp only at E4
      have zE4 := E4.size
      try simp only [World.size_alloc, size_setRow, dw_size] at zE4
      cases hok : tagOk ⟨m1, m2⟩
      · simp (maxSteps := 1000000) (disch := first | assumption | omega | (simp only [World.size_alloc, size_setRow, dw_size]; done) | (simp only [World.size_alloc, size_setRow, dw_size] <;> omega) | (simp only [List.length_set, Array.length_toList, List.length_cons, List.length_nil, List.length_append, bts_size] <;> omega) | (simp only [List.all_cons, List.all_nil, Value.oneCell', Bool.and_self, Bool.and_true]; done)) [-Option.bind_some, hp_alloc_lt, hp_alloc_eq, hp_set_ne, wrap_small, ups_ap_cons, ups_ap_nil, upd_same, upd_other, env0_ap0, env0_aps, xt_a, xt_b, xt_c, X0, E1.blk, E2.blk, E3.blk, X0, E4.blk]
        exact hQ _ ⟨⟨0, 0⟩, false, rfl, ⟨by simp, fun _ => ⟨rfl, fun t' h1 h2 => by rw [(hno t' h1 h2).2.2, hok] at h1; cases h1⟩⟩, by (repeat (first | exact Ext.rfl | assumption | (refine Ext.al ?_ _) | (refine Ext.dw ?_) | (refine Ext.set ?_ (by first | omega | (simp only [World.size_alloc, size_setRow, dw_size]; omega)) _) | (refine Ext.tr ?_ (by assumption))))⟩
      · simp (maxSteps := 1000000) (disch := first | assumption | omega | (simp only [World.size_alloc, size_setRow, dw_size]; done) | (simp only [World.size_alloc, size_setRow, dw_size] <;> omega) | (simp only [List.length_set, Array.length_toList, List.length_cons, List.length_nil, List.length_append, bts_size] <;> omega) | (simp only [List.all_cons, List.all_nil, Value.oneCell', Bool.and_self, Bool.and_true]; done)) [-Option.bind_some, hp_alloc_lt, hp_alloc_eq, hp_set_ne, wrap_small, ups_ap_cons, ups_ap_nil, upd_same, upd_other, env0_ap0, env0_aps, xt_a, xt_b, xt_c, -splice_eq, -stR_cells, stR_box, stR_boxA, stR_row, stR_row0, stR_row1, stR_rowA, stR_rowA0, splice_rowv, splice_rowv0, splice_rowv1, splice_z, splice_n, splice_s, nth_rowv, nth_rowv0, nth_rowv1, rowv_len, E1.blk, E2.blk, E3.blk, X0, E4.blk]
        refine Ret.bind (impl_Tag_text_m hok (G.g.ext (by (repeat (first | exact Ext.rfl | assumption | (refine Ext.al ?_ _) | (refine Ext.dw ?_) | (refine Ext.set ?_ (by first | omega | (simp only [World.size_alloc, size_setRow, dw_size]; omega)) _) | (refine Ext.tr ?_ (by assumption))))))) ?_
        rintro ⟨_, w5⟩ ⟨rfl, E5⟩
        try dsimp only at E5
        have zE5 := E5.size
        try simp only [World.size_alloc, size_setRow, dw_size] at zE5
        by_cases hte : tagL ⟨m1, m2⟩ = l
        · simp (maxSteps := 1000000) (disch := first | assumption | omega | (simp only [World.size_alloc, size_setRow, dw_size]; done) | (simp only [World.size_alloc, size_setRow, dw_size] <;> omega) | (simp only [List.length_set, Array.length_toList, List.length_cons, List.length_nil, List.length_append, bts_size] <;> omega) | (simp only [List.all_cons, List.all_nil, Value.oneCell', Bool.and_self, Bool.and_true]; done)) [-Option.bind_some, hp_alloc_lt, hp_alloc_eq, hp_set_ne, wrap_small, ups_ap_cons, ups_ap_nil, upd_same, upd_other, env0_ap0, env0_aps, xt_a, xt_b, xt_c, bo_neq_str, bts_list, hte, X0, E1.blk, E2.blk, E3.blk, X0, E4.blk, E5.blk]
          exact hQ _ ⟨⟨m1, m2⟩, true, rfl, ⟨fun _ => ⟨hok, hte⟩, by simp⟩, by (repeat (first | exact Ext.rfl | assumption | (refine Ext.al ?_ _) | (refine Ext.dw ?_) | (refine Ext.set ?_ (by first | omega | (simp only [World.size_alloc, size_setRow, dw_size]; omega)) _) | (refine Ext.tr ?_ (by assumption))))⟩
        · have hte' : (tagL ⟨m1, m2⟩ == l) = false := beq_eq_false_iff_ne.2 hte
          simp (maxSteps := 1000000) (disch := first | assumption | omega | (simp only [World.size_alloc, size_setRow, dw_size]; done) | (simp only [World.size_alloc, size_setRow, dw_size] <;> omega) | (simp only [List.length_set, Array.length_toList, List.length_cons, List.length_nil, List.length_append, bts_size] <;> omega) | (simp only [List.all_cons, List.all_nil, Value.oneCell', Bool.and_self, Bool.and_true]; done)) [-Option.bind_some, hp_alloc_lt, hp_alloc_eq, hp_set_ne, wrap_small, ups_ap_cons, ups_ap_nil, upd_same, upd_other, env0_ap0, env0_aps, xt_a, xt_b, xt_c, bo_neq_str, bts_list, hte', X0, E1.blk, E2.blk, E3.blk, X0, E4.blk, E5.blk]
          exact hQ _ ⟨⟨0, 0⟩, false, rfl, ⟨by simp, fun _ => ⟨rfl, fun t' h1 h2 => hte (by rw [← (hno t' h1 h2).2.2]; exact h2)⟩⟩, by (repeat (first | exact Ext.rfl | assumption | (refine Ext.al ?_ _) | (refine Ext.dw ?_) | (refine Ext.set ?_ (by first | omega | (simp only [World.size_alloc, size_setRow, dw_size]; omega)) _) | (refine Ext.tr ?_ (by assumption))))⟩
    · simp (maxSteps := 1000000) (disch := first | assumption | omega | (simp only [World.size_alloc, size_setRow, dw_size]; done) | (simp only [World.size_alloc, size_setRow, dw_size] <;> omega) | (simp only [List.length_set, Array.length_toList, List.length_cons, List.length_nil, List.length_append, bts_size] <;> omega) | (simp only [List.all_cons, List.all_nil, Value.oneCell', Bool.and_self, Bool.and_true]; done)) [-Option.bind_some, hp_alloc_lt, hp_alloc_eq, hp_set_ne, wrap_small, ups_ap_cons, ups_ap_nil, upd_same, upd_other, env0_ap0, env0_aps, xt_a, xt_b, xt_c, nn0, nn1, X0, E1.blk, E2.blk, E3.blk, X0]
      exact hQ _ ⟨⟨0, 0⟩, false, rfl, ⟨by simp, fun _ => ⟨rfl, fun t' h1 h2 => by have := (hno t' h1 h2).2.1; cases this⟩⟩, by (repeat (first | exact Ext.rfl | assumption | (refine Ext.al ?_ _) | (refine Ext.dw ?_) | (refine Ext.set ?_ (by first | omega | (simp only [World.size_alloc, size_setRow, dw_size]; omega)) _) | (refine Ext.tr ?_ (by assumption))))⟩
  · simp (maxSteps := 1000000) (disch := first | assumption | omega | (simp only [World.size_alloc, size_setRow, dw_size]; done) | (simp only [World.size_alloc, size_setRow, dw_size] <;> omega) | (simp only [List.length_set, Array.length_toList, List.length_cons, List.length_nil, List.length_append, bts_size] <;> omega) | (simp only [List.all_cons, List.all_nil, Value.oneCell', Bool.and_self, Bool.and_true]; done)) [-Option.bind_some, hp_alloc_lt, hp_alloc_eq, hp_set_ne, wrap_small, ups_ap_cons, ups_ap_nil, upd_same, upd_other, env0_ap0, env0_aps, xt_a, xt_b, xt_c, nn0, nn1, X0, E1.blk, E2.blk, E3.blk, X0]
    exact hQ _ ⟨⟨0, 0⟩, false, rfl, ⟨by simp, fun _ => ⟨rfl, fun t' h1 h2 => by have := (hno t' h1 h2).1; cases this⟩⟩, by (repeat (first | exact Ext.rfl | assumption | (refine Ext.al ?_ _) | (refine Ext.dw ?_) | (refine Ext.set ?_ (by first | omega | (simp only [World.size_alloc, size_setRow, dw_size]; omega)) _) | (refine Ext.tr ?_ (by assumption))))⟩
theorem rdS {a : Option Addr} {q n i : Nat} {xs : List ByteArray} {x : ByteArray} {S : Nat → Prop} {w w' : World} (ho : O tStrs S w [.slice a n q] xs) (hx : xs[i]? = some x) (E : Ext w w') : ∃ b o, a = some ⟨b, o, none⟩ ∧ cellO (hp w' b) (o + i) = some (.string x) := by
  obtain ⟨b1, o1, cs1, rfl, A1, D1, _, l1⟩ := (ho.d.ext E).at (by decide) hx
  obtain ⟨rfl, hxs⟩ := D.str.1 D1
  exact ⟨b1, o1, rfl, by have := A1 0 _ rfl; simpa only [show LStr.n = 1 from rfl, Nat.mul_one, Nat.add_zero] using this⟩
theorem spec_TagGet_j {l : List UInt8} {m1 m2 : Int} {b0 b5 : Nat} {w0 : World} {e : Env} {w : World} (e0 : e 0 = .string (bts l)) (e2 : e 2 = pt b0 0) (e5 : e 5 = pt b5 0) (h0 : hp w b0 = some (.cells #[i64 0, i64 0] 25 (0, 0))) (h5 : hp w b5 = some (.cells #[i64 m1, i64 m2] 25 (0, 0))) (hb : w0.heap.size ≤ b0) (hne : b0 ≠ b5) (E0 : Ext w0 w)
    (hno : ∀ t', tagOk t' = true → tagL t' = l → t' = ⟨m1, m2⟩) : Ret (spec_TagGet_j1 e w) fun r => ∃ t ok, r.1 = .tuple #[t.v, .bool ok] ∧ TagGot l t ok ∧ Ext w0 r.2 := by
  have hlt0 := hp_lt h0
  have hlt5 := hp_lt h5
  rw [spec_TagGet_j1_eq]
  refine Ret.post fun Q hQ => ?_
  simp (maxSteps := 1000000) (disch := first | assumption | omega | (simp only [World.size_alloc, size_setRow, dw_size]; done) | (simp only [World.size_alloc, size_setRow, dw_size] <;> omega) | (simp only [List.length_set, Array.length_toList, List.length_cons, List.length_nil, List.length_append, bts_size] <;> omega) | (simp only [List.all_cons, List.all_nil, Value.oneCell', Bool.and_self, Bool.and_true]; done)) [-Option.bind_some, hp_alloc_lt, hp_alloc_eq, hp_set_ne, wrap_small, ups_ap_cons, ups_ap_nil, upd_same, upd_other, env0_ap0, env0_aps, xt_a, xt_b, xt_c, -splice_eq, -stR_cells, stR_box, stR_boxA, stR_row, stR_row0, stR_row1, stR_rowA, stR_rowA0, splice_rowv, splice_rowv0, splice_rowv1, splice_z, splice_n, splice_s, nth_rowv, nth_rowv0, nth_rowv1, rowv_len, e0, e2, e5, h5, hlt0, hlt5]
  refine Ret.bind (spec_l1TagOk_c ⟨m1, m2⟩ _) ?_
  rintro ⟨_, w1⟩ ⟨rfl, E1⟩
  try dsimp only at E1
  have zE1 := E1.size
  try simp only [World.size_alloc, size_setRow, dw_size] at zE1
  have h0 := (E1.blk hlt0).trans h0
  have h5 := (E1.blk hlt5).trans h5
  cases hok : tagOk ⟨m1, m2⟩
  · simp (maxSteps := 1000000) (disch := first | assumption | omega | (simp only [World.size_alloc, size_setRow, dw_size]; done) | (simp only [World.size_alloc, size_setRow, dw_size] <;> omega) | (simp only [List.length_set, Array.length_toList, List.length_cons, List.length_nil, List.length_append, bts_size] <;> omega) | (simp only [List.all_cons, List.all_nil, Value.oneCell', Bool.and_self, Bool.and_true]; done)) [-Option.bind_some, hp_alloc_lt, hp_alloc_eq, hp_set_ne, wrap_small, ups_ap_cons, ups_ap_nil, upd_same, upd_other, env0_ap0, env0_aps, xt_a, xt_b, xt_c, e0, e2, e5, h0, h5, hlt0, hlt5, E1.blk]
    exact hQ _ ⟨⟨0, 0⟩, false, rfl, ⟨by simp, fun _ => ⟨rfl, fun t' h1 h2 => by rw [hno t' h1 h2, hok] at h1; cases h1⟩⟩, by (repeat (first | exact Ext.rfl | assumption | (refine Ext.al ?_ _) | (refine Ext.dw ?_) | (refine Ext.set ?_ (by first | omega | (simp only [World.size_alloc, size_setRow, dw_size]; omega)) _) | (refine Ext.tr ?_ (by assumption))))⟩
  · simp (maxSteps := 1000000) (disch := first | assumption | omega | (simp only [World.size_alloc, size_setRow, dw_size]; done) | (simp only [World.size_alloc, size_setRow, dw_size] <;> omega) | (simp only [List.length_set, Array.length_toList, List.length_cons, List.length_nil, List.length_append, bts_size] <;> omega) | (simp only [List.all_cons, List.all_nil, Value.oneCell', Bool.and_self, Bool.and_true]; done)) [-Option.bind_some, hp_alloc_lt, hp_alloc_eq, hp_set_ne, wrap_small, ups_ap_cons, ups_ap_nil, upd_same, upd_other, env0_ap0, env0_aps, xt_a, xt_b, xt_c, -splice_eq, -stR_cells, stR_box, stR_boxA, stR_row, stR_row0, stR_row1, stR_rowA, stR_rowA0, splice_rowv, splice_rowv0, splice_rowv1, splice_z, splice_n, splice_s, nth_rowv, nth_rowv0, nth_rowv1, rowv_len, e0, e2, e5, h0, h5, hlt0, hlt5, E1.blk]
    refine Ret.bind (spec_l1Put_m hok _) ?_
    rintro ⟨_, w2⟩ ⟨rfl, E2⟩
    try dsimp only at E2
    have zE2 := E2.size
    try simp only [World.size_alloc, size_setRow, dw_size] at zE2
    have hlt0 := hp_lt h0
    have hlt5 := hp_lt h5
    have h0 := (E2.blk hlt0).trans h0
    have h5 := (E2.blk hlt5).trans h5
    by_cases hte : tagL ⟨m1, m2⟩ = l
    · simp (maxSteps := 1000000) (disch := first | assumption | omega | (simp only [World.size_alloc, size_setRow, dw_size]; done) | (simp only [World.size_alloc, size_setRow, dw_size] <;> omega) | (simp only [List.length_set, Array.length_toList, List.length_cons, List.length_nil, List.length_append, bts_size] <;> omega) | (simp only [List.all_cons, List.all_nil, Value.oneCell', Bool.and_self, Bool.and_true]; done)) [-Option.bind_some, hp_alloc_lt, hp_alloc_eq, hp_set_ne, wrap_small, ups_ap_cons, ups_ap_nil, upd_same, upd_other, env0_ap0, env0_aps, xt_a, xt_b, xt_c, e0, e2, e5, h0, h5, bo_neq_str, bts_list, hte, hlt0, hlt5, E1.blk, E2.blk, hlt0, hlt5]
      exact hQ _ ⟨⟨m1, m2⟩, true, rfl, ⟨fun _ => ⟨hok, hte⟩, by simp⟩, by (repeat (first | exact Ext.rfl | assumption | (refine Ext.al ?_ _) | (refine Ext.dw ?_) | (refine Ext.set ?_ (by first | omega | (simp only [World.size_alloc, size_setRow, dw_size]; omega)) _) | (refine Ext.tr ?_ (by assumption))))⟩
    · have hte' : (tagL ⟨m1, m2⟩ == l) = false := beq_eq_false_iff_ne.2 hte
      simp (maxSteps := 1000000) (disch := first | assumption | omega | (simp only [World.size_alloc, size_setRow, dw_size]; done) | (simp only [World.size_alloc, size_setRow, dw_size] <;> omega) | (simp only [List.length_set, Array.length_toList, List.length_cons, List.length_nil, List.length_append, bts_size] <;> omega) | (simp only [List.all_cons, List.all_nil, Value.oneCell', Bool.and_self, Bool.and_true]; done)) [-Option.bind_some, hp_alloc_lt, hp_alloc_eq, hp_set_ne, wrap_small, ups_ap_cons, ups_ap_nil, upd_same, upd_other, env0_ap0, env0_aps, xt_a, xt_b, xt_c, e0, e2, e5, h0, h5, bo_neq_str, bts_list, hte', hlt0, hlt5, E1.blk, E2.blk, hlt0, hlt5]
      exact hQ _ ⟨⟨0, 0⟩, false, rfl, ⟨by simp, fun _ => ⟨rfl, fun t' h1 h2 => hte (by rw [← hno t' h1 h2]; exact h2)⟩⟩, by (repeat (first | exact Ext.rfl | assumption | (refine Ext.al ?_ _) | (refine Ext.dw ?_) | (refine Ext.set ?_ (by first | omega | (simp only [World.size_alloc, size_setRow, dw_size]; omega)) _) | (refine Ext.tr ?_ (by assumption))))⟩
theorem spec_TagGet_m {l : List UInt8} (hl : l.length ≤ 140737488351232) (w : World) : Ret (EV P 10 #[.string (bts l)] w) fun r => ∃ t ok, r.1 = .tuple #[t.v, .bool ok] ∧ TagGot l t ok ∧ Ext w r.2 := by
  refine Ret.post fun Q hQ => ?_
  refine Ret.enter plain mixed (spec_TagGet_fn _ _) (by kernel_rfl) (n := 1) (by kernel_rfl) rfl ?_
  simp (maxSteps := 1000000) (disch := first | assumption | omega | (simp only [World.size_alloc, size_setRow, dw_size]; done) | (simp only [World.size_alloc, size_setRow, dw_size] <;> omega) | (simp only [List.length_set, Array.length_toList, List.length_cons, List.length_nil, List.length_append, bts_size] <;> omega) | (simp only [List.all_cons, List.all_nil, Value.oneCell', Bool.and_self, Bool.and_true]; done)) [-Option.bind_some, hp_alloc_lt, hp_alloc_eq, hp_set_ne, wrap_small, ups_ap_cons, ups_ap_nil, upd_same, upd_other, env0_ap0, env0_aps, xt_a, xt_b, xt_c, -splice_eq, -stR_cells, stR_box, stR_boxA, stR_row, stR_row0, stR_row1, stR_rowA, stR_rowA0, splice_rowv, splice_rowv0, splice_rowv1, splice_z, splice_n, splice_s, nth_rowv, nth_rowv0, nth_rowv1, rowv_len]
  refine Ret.bind (l1Cut_m (c := 46) (N := 2) (by decide) hl _) ?_
  rintro ⟨_, w1⟩ ⟨a, q, rfl, o1, E1⟩
  try dsimp only at a q o1 E1
  have zE1 := E1.size
  try simp only [World.size_alloc, size_setRow, dw_size] at zE1
  have X0 : hp w1 w.heap.size = some (.cells #[i64 0, i64 0] 25 (0, 0)) := (by first | assumption | rfl | (simp (maxSteps := 1000000) (disch := first | assumption | omega | (simp only [World.size_alloc, size_setRow, dw_size]; done) | (simp only [World.size_alloc, size_setRow, dw_size] <;> omega) | (simp only [List.length_set, Array.length_toList, List.length_cons, List.length_nil, List.length_append, bts_size] <;> omega) | (simp only [List.all_cons, List.all_nil, Value.oneCell', Bool.and_self, Bool.and_true]; done)) [-Option.bind_some, hp_alloc_lt, hp_alloc_eq, hp_set_ne, wrap_small, ups_ap_cons, ups_ap_nil, upd_same, upd_other, env0_ap0, env0_aps, xt_a, xt_b, xt_c, -splice_eq, -stR_cells, stR_box, stR_boxA, stR_row, stR_row0, stR_row1, stR_rowA, stR_rowA0, splice_rowv, splice_rowv0, splice_rowv1, splice_z, splice_n, splice_s, nth_rowv, nth_rowv0, nth_rowv1, rowv_len, E1.blk]; done))
  by_cases h2 : (cutN 46 2 l).length = 2
  · obtain ⟨x, y, hxy⟩ : ∃ x y, cutN 46 2 l = [x, y] := by
      cases hh : cutN 46 2 l with
      | nil => rw [hh] at h2; simp at h2
      | cons x t =>
        cases t with
        | nil => rw [hh] at h2; simp at h2
        | cons y t =>
          cases t with
          | nil => exact ⟨x, y, rfl⟩
          | cons z t => rw [hh] at h2; simp at h2
    have hsz := cutN_sz 46 2 l
    rw [hxy] at o1 hsz
    have hx := hsz x (by simp)
    have hy := hsz y (by simp)
    obtain ⟨g, o, rfl, hr0⟩ := rdS (w' := w1) (i := 0) o1 rfl Ext.rfl
    rw [Nat.add_zero] at hr0
    have hg : g < w1.heap.size := by
      cases hh : hp w1 g with
      | none => rw [hh] at hr0; cases hr0
      | some o => exact hp_lt hh
    have hwl : w.heap.size < w1.heap.size := by have := E1.size; simp only [World.size_alloc] at this; omega
    have fin : ∀ (m1 m2 : Int), (∀ v : Nat, v ≤ 999999 → x = decL v → m1 = v) → (∀ v : Nat, v ≤ 999999 → y = decL v → m2 = v) → ∀ t', tagOk t' = true → tagL t' = l → t' = ⟨m1, m2⟩ := by
      intro m1 m2 hm1 hm2 t' h1 h2
      have h3 := tag_cutN h2
      rw [hxy] at h3
      have hr := tagOk_rng h1
      have h5 := hm1 t'.t.toNat (by omega) (List.cons.inj h3).1
      have h6 := hm2 t'.p.toNat (by omega) (List.cons.inj (List.cons.inj h3).2).1
      have q5 : t'.t = m1 := by omega
      have q6 : t'.p = m2 := by omega
      rw [← q5, ← q6]
    obtain ⟨_, _, ho, hr1⟩ := rdS (w' := w1) (i := 1) o1 rfl Ext.rfl
    cases ho
    simp (maxSteps := 1000000) (disch := first | assumption | omega | (simp only [World.size_alloc, size_setRow, dw_size]; done) | (simp only [World.size_alloc, size_setRow, dw_size] <;> omega) | (simp only [List.length_set, Array.length_toList, List.length_cons, List.length_nil, List.length_append, bts_size] <;> omega) | (simp only [List.all_cons, List.all_nil, Value.oneCell', Bool.and_self, Bool.and_true]; done)) [-Option.bind_some, hp_alloc_lt, hp_alloc_eq, hp_set_ne, wrap_small, ups_ap_cons, ups_ap_nil, upd_same, upd_other, env0_ap0, env0_aps, xt_a, xt_b, xt_c, -splice_eq, -stR_cells, stR_box, stR_boxA, stR_row, stR_row0, stR_row1, stR_rowA, stR_rowA0, splice_rowv, splice_rowv0, splice_rowv1, splice_z, splice_n, splice_s, nth_rowv, nth_rowv0, nth_rowv1, rowv_len, hxy, E1.blk, X0, hg]
    refine spec_TagGet_a1_any _ _ ?_
    simp (maxSteps := 1000000) (disch := first | assumption | omega | (simp only [World.size_alloc, size_setRow, dw_size]; done) | (simp only [World.size_alloc, size_setRow, dw_size] <;> omega) | (simp only [List.length_set, Array.length_toList, List.length_cons, List.length_nil, List.length_append, bts_size] <;> omega) | (simp only [List.all_cons, List.all_nil, Value.oneCell', Bool.and_self, Bool.and_true]; done)) [-Option.bind_some, hp_alloc_lt, hp_alloc_eq, hp_set_ne, wrap_small, ups_ap_cons, ups_ap_nil, upd_same, upd_other, env0_ap0, env0_aps, xt_a, xt_b, xt_c, -splice_eq, -stR_cells, stR_box, stR_boxA, stR_row, stR_row0, stR_row1, stR_rowA, stR_rowA0, splice_rowv, splice_rowv0, splice_rowv1, splice_z, splice_n, splice_s, nth_rowv, nth_rowv0, nth_rowv1, rowv_len, hr0, hr1, ia_38, E1.blk, X0, hg]
    constructor
    · refine Ret.mono (l1Num_m (l := x) (by omega) _) ?_
      rintro _ ⟨m1, rfl, hm1⟩
      simp (maxSteps := 1000000) (disch := first | assumption | omega | (simp only [World.size_alloc, size_setRow, dw_size]; done) | (simp only [World.size_alloc, size_setRow, dw_size] <;> omega) | (simp only [List.length_set, Array.length_toList, List.length_cons, List.length_nil, List.length_append, bts_size] <;> omega) | (simp only [List.all_cons, List.all_nil, Value.oneCell', Bool.and_self, Bool.and_true]; done)) [-Option.bind_some, hp_alloc_lt, hp_alloc_eq, hp_set_ne, wrap_small, ups_ap_cons, ups_ap_nil, upd_same, upd_other, env0_ap0, env0_aps, xt_a, xt_b, xt_c, -splice_eq, -stR_cells, stR_box, stR_boxA, stR_row, stR_row0, stR_row1, stR_rowA, stR_rowA0, splice_rowv, splice_rowv0, splice_rowv1, splice_z, splice_n, splice_s, nth_rowv, nth_rowv0, nth_rowv1, rowv_len, hr0, hr1, E1.blk, X0, hg]
      constructor
      · refine Ret.mono (l1Num_m (l := y) (by omega) _) ?_
        rintro _ ⟨m2, rfl, hm2⟩
        simp (maxSteps := 1000000) (disch := first | assumption | omega | (simp only [World.size_alloc, size_setRow, dw_size]; done) | (simp only [World.size_alloc, size_setRow, dw_size] <;> omega) | (simp only [List.length_set, Array.length_toList, List.length_cons, List.length_nil, List.length_append, bts_size] <;> omega) | (simp only [List.all_cons, List.all_nil, Value.oneCell', Bool.and_self, Bool.and_true]; done)) [-Option.bind_some, hp_alloc_lt, hp_alloc_eq, hp_set_ne, wrap_small, ups_ap_cons, ups_ap_nil, upd_same, upd_other, env0_ap0, env0_aps, xt_a, xt_b, xt_c, -splice_eq, -stR_cells, stR_box, stR_boxA, stR_row, stR_row0, stR_row1, stR_rowA, stR_rowA0, splice_rowv, splice_rowv0, splice_rowv1, splice_z, splice_n, splice_s, nth_rowv, nth_rowv0, nth_rowv1, rowv_len, hr0, hr1, E1.blk, X0, hg]
        exact Ret.mono (spec_TagGet_j (w0 := w) (m1 := m1) (m2 := m2) (by first | omega | assumption | rfl | exact congrArg i64 (by omega) | (simp; done) | (simp; omega)) (by first | omega | assumption | rfl | exact congrArg i64 (by omega) | (simp; done) | (simp; omega)) (by first | omega | assumption | rfl | exact congrArg i64 (by omega) | (simp; done) | (simp; omega)) (by first | assumption | rfl | (simp (maxSteps := 1000000) (disch := first | assumption | omega | (simp only [World.size_alloc, size_setRow, dw_size]; done) | (simp only [World.size_alloc, size_setRow, dw_size] <;> omega) | (simp only [List.length_set, Array.length_toList, List.length_cons, List.length_nil, List.length_append, bts_size] <;> omega) | (simp only [List.all_cons, List.all_nil, Value.oneCell', Bool.and_self, Bool.and_true]; done)) [-Option.bind_some, hp_alloc_lt, hp_alloc_eq, hp_set_ne, wrap_small, ups_ap_cons, ups_ap_nil, upd_same, upd_other, env0_ap0, env0_aps, xt_a, xt_b, xt_c, X0, E1.blk, X0, hg]; done)) (by first | assumption | rfl | (simp (maxSteps := 1000000) (disch := first | assumption | omega | (simp only [World.size_alloc, size_setRow, dw_size]; done) | (simp only [World.size_alloc, size_setRow, dw_size] <;> omega) | (simp only [List.length_set, Array.length_toList, List.length_cons, List.length_nil, List.length_append, bts_size] <;> omega) | (simp only [List.all_cons, List.all_nil, Value.oneCell', Bool.and_self, Bool.and_true]; done)) [-Option.bind_some, hp_alloc_lt, hp_alloc_eq, hp_set_ne, wrap_small, ups_ap_cons, ups_ap_nil, upd_same, upd_other, env0_ap0, env0_aps, xt_a, xt_b, xt_c, X0, E1.blk, X0, hg]; done)) (Nat.le_refl _) (by simp; omega) (by (repeat (first | exact Ext.rfl | assumption | (refine Ext.al ?_ _) | (refine Ext.dw ?_) | (refine Ext.set ?_ (by first | omega | (simp only [World.size_alloc, size_setRow, dw_size]; omega)) _) | (refine Ext.tr ?_ (by assumption))))) (fin m1 m2 hm1 hm2)) hQ
      · refine Ret.mono (l1Num_m (l := y) (by omega) _) ?_
        rintro _ ⟨m2, rfl, hm2⟩
        simp (maxSteps := 1000000) (disch := first | assumption | omega | (simp only [World.size_alloc, size_setRow, dw_size]; done) | (simp only [World.size_alloc, size_setRow, dw_size] <;> omega) | (simp only [List.length_set, Array.length_toList, List.length_cons, List.length_nil, List.length_append, bts_size] <;> omega) | (simp only [List.all_cons, List.all_nil, Value.oneCell', Bool.and_self, Bool.and_true]; done)) [-Option.bind_some, hp_alloc_lt, hp_alloc_eq, hp_set_ne, wrap_small, ups_ap_cons, ups_ap_nil, upd_same, upd_other, env0_ap0, env0_aps, xt_a, xt_b, xt_c, -splice_eq, -stR_cells, stR_box, stR_boxA, stR_row, stR_row0, stR_row1, stR_rowA, stR_rowA0, splice_rowv, splice_rowv0, splice_rowv1, splice_z, splice_n, splice_s, nth_rowv, nth_rowv0, nth_rowv1, rowv_len, hr0, hr1, E1.blk, X0, hg]
        exact Ret.mono (spec_TagGet_j (w0 := w) (m1 := m1) (m2 := m2) (by first | omega | assumption | rfl | exact congrArg i64 (by omega) | (simp; done) | (simp; omega)) (by first | omega | assumption | rfl | exact congrArg i64 (by omega) | (simp; done) | (simp; omega)) (by first | omega | assumption | rfl | exact congrArg i64 (by omega) | (simp; done) | (simp; omega)) (by first | assumption | rfl | (simp (maxSteps := 1000000) (disch := first | assumption | omega | (simp only [World.size_alloc, size_setRow, dw_size]; done) | (simp only [World.size_alloc, size_setRow, dw_size] <;> omega) | (simp only [List.length_set, Array.length_toList, List.length_cons, List.length_nil, List.length_append, bts_size] <;> omega) | (simp only [List.all_cons, List.all_nil, Value.oneCell', Bool.and_self, Bool.and_true]; done)) [-Option.bind_some, hp_alloc_lt, hp_alloc_eq, hp_set_ne, wrap_small, ups_ap_cons, ups_ap_nil, upd_same, upd_other, env0_ap0, env0_aps, xt_a, xt_b, xt_c, X0, E1.blk, X0, hg]; done)) (by first | assumption | rfl | (simp (maxSteps := 1000000) (disch := first | assumption | omega | (simp only [World.size_alloc, size_setRow, dw_size]; done) | (simp only [World.size_alloc, size_setRow, dw_size] <;> omega) | (simp only [List.length_set, Array.length_toList, List.length_cons, List.length_nil, List.length_append, bts_size] <;> omega) | (simp only [List.all_cons, List.all_nil, Value.oneCell', Bool.and_self, Bool.and_true]; done)) [-Option.bind_some, hp_alloc_lt, hp_alloc_eq, hp_set_ne, wrap_small, ups_ap_cons, ups_ap_nil, upd_same, upd_other, env0_ap0, env0_aps, xt_a, xt_b, xt_c, X0, E1.blk, X0, hg]; done)) (Nat.le_refl _) (by simp; omega) (by (repeat (first | exact Ext.rfl | assumption | (refine Ext.al ?_ _) | (refine Ext.dw ?_) | (refine Ext.set ?_ (by first | omega | (simp only [World.size_alloc, size_setRow, dw_size]; omega)) _) | (refine Ext.tr ?_ (by assumption))))) (fin m1 m2 hm1 hm2)) hQ
    · refine Ret.mono (l1Num_m (l := x) (by omega) _) ?_
      rintro _ ⟨m1, rfl, hm1⟩
      simp (maxSteps := 1000000) (disch := first | assumption | omega | (simp only [World.size_alloc, size_setRow, dw_size]; done) | (simp only [World.size_alloc, size_setRow, dw_size] <;> omega) | (simp only [List.length_set, Array.length_toList, List.length_cons, List.length_nil, List.length_append, bts_size] <;> omega) | (simp only [List.all_cons, List.all_nil, Value.oneCell', Bool.and_self, Bool.and_true]; done)) [-Option.bind_some, hp_alloc_lt, hp_alloc_eq, hp_set_ne, wrap_small, ups_ap_cons, ups_ap_nil, upd_same, upd_other, env0_ap0, env0_aps, xt_a, xt_b, xt_c, -splice_eq, -stR_cells, stR_box, stR_boxA, stR_row, stR_row0, stR_row1, stR_rowA, stR_rowA0, splice_rowv, splice_rowv0, splice_rowv1, splice_z, splice_n, splice_s, nth_rowv, nth_rowv0, nth_rowv1, rowv_len, hr0, hr1, E1.blk, X0, hg]
      refine Ret.mono (l1Num_m (l := y) (by omega) _) ?_
      rintro _ ⟨m2, rfl, hm2⟩
      simp (maxSteps := 1000000) (disch := first | assumption | omega | (simp only [World.size_alloc, size_setRow, dw_size]; done) | (simp only [World.size_alloc, size_setRow, dw_size] <;> omega) | (simp only [List.length_set, Array.length_toList, List.length_cons, List.length_nil, List.length_append, bts_size] <;> omega) | (simp only [List.all_cons, List.all_nil, Value.oneCell', Bool.and_self, Bool.and_true]; done)) [-Option.bind_some, hp_alloc_lt, hp_alloc_eq, hp_set_ne, wrap_small, ups_ap_cons, ups_ap_nil, upd_same, upd_other, env0_ap0, env0_aps, xt_a, xt_b, xt_c, -splice_eq, -stR_cells, stR_box, stR_boxA, stR_row, stR_row0, stR_row1, stR_rowA, stR_rowA0, splice_rowv, splice_rowv0, splice_rowv1, splice_z, splice_n, splice_s, nth_rowv, nth_rowv0, nth_rowv1, rowv_len, hr0, hr1, E1.blk, X0, hg]
      exact Ret.mono (spec_TagGet_j (w0 := w) (m1 := m1) (m2 := m2) (by first | omega | assumption | rfl | exact congrArg i64 (by omega) | (simp; done) | (simp; omega)) (by first | omega | assumption | rfl | exact congrArg i64 (by omega) | (simp; done) | (simp; omega)) (by first | omega | assumption | rfl | exact congrArg i64 (by omega) | (simp; done) | (simp; omega)) (by first | assumption | rfl | (simp (maxSteps := 1000000) (disch := first | assumption | omega | (simp only [World.size_alloc, size_setRow, dw_size]; done) | (simp only [World.size_alloc, size_setRow, dw_size] <;> omega) | (simp only [List.length_set, Array.length_toList, List.length_cons, List.length_nil, List.length_append, bts_size] <;> omega) | (simp only [List.all_cons, List.all_nil, Value.oneCell', Bool.and_self, Bool.and_true]; done)) [-Option.bind_some, hp_alloc_lt, hp_alloc_eq, hp_set_ne, wrap_small, ups_ap_cons, ups_ap_nil, upd_same, upd_other, env0_ap0, env0_aps, xt_a, xt_b, xt_c, X0, E1.blk, X0, hg]; done)) (by first | assumption | rfl | (simp (maxSteps := 1000000) (disch := first | assumption | omega | (simp only [World.size_alloc, size_setRow, dw_size]; done) | (simp only [World.size_alloc, size_setRow, dw_size] <;> omega) | (simp only [List.length_set, Array.length_toList, List.length_cons, List.length_nil, List.length_append, bts_size] <;> omega) | (simp only [List.all_cons, List.all_nil, Value.oneCell', Bool.and_self, Bool.and_true]; done)) [-Option.bind_some, hp_alloc_lt, hp_alloc_eq, hp_set_ne, wrap_small, ups_ap_cons, ups_ap_nil, upd_same, upd_other, env0_ap0, env0_aps, xt_a, xt_b, xt_c, X0, E1.blk, X0, hg]; done)) (Nat.le_refl _) (by simp; omega) (by (repeat (first | exact Ext.rfl | assumption | (refine Ext.al ?_ _) | (refine Ext.dw ?_) | (refine Ext.set ?_ (by first | omega | (simp only [World.size_alloc, size_setRow, dw_size]; omega)) _) | (refine Ext.tr ?_ (by assumption))))) (fin m1 m2 hm1 hm2)) hQ
  · have h2' : ((cutN 46 2 l).length : Int) ≠ 2 := by omega
    have h2'' : (((cutN 46 2 l).length : Int) != 2) = true := by simpa using h2'
    simp (maxSteps := 1000000) (disch := first | assumption | omega | (simp only [World.size_alloc, size_setRow, dw_size]; done) | (simp only [World.size_alloc, size_setRow, dw_size] <;> omega) | (simp only [List.length_set, Array.length_toList, List.length_cons, List.length_nil, List.length_append, bts_size] <;> omega) | (simp only [List.all_cons, List.all_nil, Value.oneCell', Bool.and_self, Bool.and_true]; done)) [-Option.bind_some, hp_alloc_lt, hp_alloc_eq, hp_set_ne, wrap_small, ups_ap_cons, ups_ap_nil, upd_same, upd_other, env0_ap0, env0_aps, xt_a, xt_b, xt_c, h2'', X0, E1.blk, X0]
    exact hQ _ ⟨⟨0, 0⟩, false, rfl, ⟨by simp, fun _ => ⟨rfl, fun t' h1 h3 => h2 (by rw [tag_cutN h3]; rfl)⟩⟩, by (repeat (first | exact Ext.rfl | assumption | (refine Ext.al ?_ _) | (refine Ext.dw ?_) | (refine Ext.set ?_ (by first | omega | (simp only [World.size_alloc, size_setRow, dw_size]; omega)) _) | (refine Ext.tr ?_ (by assumption))))⟩
end Go.Proofs.YtobejpplmjfkpaaDoor.X
set_option linter.unusedVariables false
set_option linter.unusedSimpArgs false
set_option maxRecDepth 100000
namespace Go.Proofs.YtobejpplmjfkpaaDoor.X
open Go Go.Ev Go.RowKit
theorem tmod_nat (a b : Nat) : (a : Int).tmod (b : Int) = ((a % b : Nat) : Int) := by
  rw [Int.tmod_eq_emod_of_nonneg (by omega)]; rfl
theorem tdiv_nat (a b : Nat) : (a : Int).tdiv (b : Int) = ((a / b : Nat) : Int) := by
  rw [Int.tdiv_eq_ediv_of_nonneg (by omega)]; rfl
theorem rBytes_get {w : World} {s : Value} {ns : List Int} (h : rBytes w s ns) {i : Nat} (hi : i < ns.length) : ∃ (b o c m : Nat), s = .slice (some ⟨b, o, none⟩) ns.length c ∧ cellO (hp w b) (o + i) = some (.int .u8 (m : Int)) ∧ m ≤ 255 ∧ b < w.heap.size := by
  obtain ⟨a, c, h1, h2, h3, h4, h5⟩ := h
  rcases h5 with h5 | ⟨b, o, h5, h6⟩
  · subst h5; simp at hi
  · subst h5
    have hm := h4 ns[i] (List.getElem_mem hi)
    obtain ⟨m, hmm⟩ := Int.eq_ofNat_of_zero_le hm.1
    have hc := h6 i (.int .u8 (m : Int)) (by rw [List.getElem?_map, List.getElem?_eq_getElem hi, hmm]; rfl)
    refine ⟨b, o, c, m, h1, hc, by omega, ?_⟩
    rcases Nat.lt_or_ge b w.heap.size with h' | h'
    · exact h'
    · rw [hp, Array.getElem?_eq_none h'] at hc; simp [cellO] at hc
theorem rowB_of {s : Value} {ns : List Int} (h : ns.length ≠ 0) : rowB s ns = (blkOf s).toList := by
  cases ns with
  | nil => exact absurd rfl h
  | cons n ns => rfl
theorem spec_l20Rd_pick_c {b p t : Nat} {k : Nat} (hk : 1 ≤ k) (hk2 : k ≤ 1000000) (hp0 : p ≤ 1000000000000) {s : Value} {ns : List Int} {w : World} (hr : rRd t w b s p) (hs : rBytes w s ns) (hn : ns.length ≤ 1000000000000) (hb : ∀ x ∈ rowB s ns, x ≠ b) :
    Ret (EV P 28 #[pt b 0, i64 k] w) fun r => ∃ m : Nat, r.1 = i64 m ∧ m < k ∧ rRd t r.2 b s ((p + 1 : Nat) : Int) ∧ But w r.2 (some b) := by
  have hs' := hs
  obtain ⟨a, c, rfl, hc, hcm, _, _⟩ := hs
  unfold rRd at *
  have hwr : ∀ x : Int, 0 ≤ x → x ≤ 9000000000000000000 → IntKind.i64.wrap x = x := fun x h0 h1 => w64 (by omega) (by omega)
  have b1 : But w (w.setRow b #[.slice a ns.length c, i64 ((p : Int) + 1)]) (some b) := But.set w b _
  have hx1 : hp (w.setRow b #[.slice a ns.length c, i64 ((p : Int) + 1)]) b = some (.cells #[.slice a ns.length c, i64 (((p + 1 : Nat)) : Int)] t (0, 0)) := by rw [hp_set_eq, hr]; rfl
  refine Ret.enter plain mixed (spec_l20Rd_pick_fn _ _ _) (by kernel_rfl) (n := 2) (by kernel_rfl) rfl ?_
  have kk : ¬ (k : Int) < 1 := by omega
  have kn : (k : Int) ≠ 0 := by omega
  by_cases h0 : ns.length = 0
  · have hz : ((ns.length : Int) == 0) = true := by simp only [beq_iff_eq]; omega
    simp (disch := first | omega | (simp only [World.size_alloc, size_setRow, dw_size]; done) | (simp only [World.size_alloc, size_setRow, dw_size]; omega) | (simp only [List.length_set, Array.length_toList]; omega)) [-Option.bind_some, hp_alloc_lt, hp_alloc_eq, hp_set_ne, nk_ptr, hr, hwr, hz, kk, show ¬ k < 1 by omega]
    exact ⟨0, rfl, by omega, b1⟩
  have hz : ((ns.length : Int) == 0) = false := by simp only [beq_eq_false_iff_ne, ne_eq]; omega
  by_cases h1 : p < ns.length
  · obtain ⟨d, o, c', m, hs, hcell, hm, hd⟩ := rBytes_get hs' h1
    have hdb : d ≠ b := hb d (by rw [rowB_of h0]; simp [hs, blkOf])
    simp only [Value.slice.injEq, true_and] at hs
    obtain ⟨rfl, rfl⟩ := hs
    have hm1 : (m : Int).tmod (k : Int) = ((m % k : Nat) : Int) := tmod_nat m k
    simp (disch := first | omega | (simp only [World.size_alloc, size_setRow, dw_size]; done) | (simp only [World.size_alloc, size_setRow, dw_size]; omega) | (simp only [List.length_set, Array.length_toList]; omega)) [-Option.bind_some, hp_alloc_lt, hp_alloc_eq, hp_set_ne, nk_ptr, hr, hwr, hz, h1, kk, show ¬ k < 1 by omega, ia_32, hcell, hp_set_ne, hdb, bo_rem, kn, hm1]
    exact ⟨m % k, rfl, Nat.mod_lt _ (by omega), b1⟩
  have g1 : p % ns.length < ns.length := Nat.mod_lt _ (by omega)
  have g2 : (p * 7 + 3) % ns.length < ns.length := Nat.mod_lt _ (by omega)
  obtain ⟨d, o, c', m1, hs, hcell1, hm1, hd⟩ := rBytes_get hs' g1
  obtain ⟨d2, o2, c2, m2, hs2, hcell2, hm2, hd2⟩ := rBytes_get hs' g2
  have hdb : d ≠ b := hb d (by rw [rowB_of h0]; simp [hs, blkOf])
  have he := hs.symm.trans hs2
  simp only [Value.slice.injEq, Option.some.injEq, Addr.mk.injEq, true_and, and_true] at he hs
  obtain ⟨⟨rfl, rfl⟩, rfl⟩ := he
  obtain ⟨rfl, rfl⟩ := hs
  have t1 : (p : Int).tmod (ns.length : Int) = ((p % ns.length : Nat) : Int) := tmod_nat _ _
  have t2 : ((p : Int) * 7 + 3).tmod (ns.length : Int) = (((p * 7 + 3) % ns.length : Nat) : Int) := tmod_nat (p * 7 + 3) _
  have t3 : (p : Int).tdiv (ns.length : Int) = ((p / ns.length : Nat) : Int) := tdiv_nat _ _
  have t4 : p / ns.length ≤ p := Nat.div_le_self _ _
  generalize p % ns.length = q1 at *
  generalize (p * 7 + 3) % ns.length = q2 at *
  generalize p / ns.length = q3 at *
  have hn0 : (ns.length : Int) ≠ 0 := by omega
  simp (disch := first | omega | (simp only [World.size_alloc, size_setRow, dw_size]; done) | (simp only [World.size_alloc, size_setRow, dw_size]; omega) | (simp only [List.length_set, Array.length_toList]; omega)) [-Option.bind_some, hp_alloc_lt, hp_alloc_eq, hp_set_ne, nk_ptr, hr, hwr, hz, h1, kk, show ¬ k < 1 by omega, ia_32, hcell1, hcell2, hp_set_ne, hdb, bo_rem, bo_quo, kn, hn0, t1, t2, t3, g1, g2, show ns.length ≤ p by omega]
  obtain ⟨X, hX⟩ : ∃ X : Nat, X = m1 * 131 + m2 * 1117 + p * 29 + q3 * 53 := ⟨_, rfl⟩
  have hXi : (m1 : Int) * 131 + m2 * 1117 + p * 29 + q3 * 53 = (X : Int) := by omega
  have hXd : (X : Int).tdiv 64 = ((X / 64 : Nat) : Int) := tdiv_nat X 64
  rw [hXi, hXd, hwr _ (by omega) (by omega)]
  have hxo := fun x y w => (bo_xor (P := P) 3 x y (a := X) (b := X / 64) (by omega) (by omega) w).1
  rw [hxo]
  generalize (X ^^^ X / 64 : Nat) = Y
  have hY : (Y : Int).tmod (k : Int) = ((Y % k : Nat) : Int) := tmod_nat Y k
  simp (disch := first | omega | (simp only [World.size_alloc, size_setRow, dw_size]; done) | (simp only [World.size_alloc, size_setRow, dw_size]; omega) | (simp only [List.length_set, Array.length_toList]; omega)) [-Option.bind_some, hp_alloc_lt, hp_alloc_eq, hp_set_ne, bo_rem, kn, hY]
  exact ⟨Y % k, rfl, Nat.mod_lt _ (by omega), by simp (disch := first | omega | (simp only [World.size_alloc, size_setRow, dw_size]; done) | (simp only [World.size_alloc, size_setRow, dw_size]; omega) | (simp only [List.length_set, Array.length_toList]; omega)) [-Option.bind_some, hp_alloc_lt, hp_alloc_eq, hp_set_ne, hr], b1.tr (But.of (dw_ext _) _)⟩
end Go.Proofs.YtobejpplmjfkpaaDoor.X
set_option linter.unusedVariables false
set_option linter.unusedSimpArgs false
set_option maxRecDepth 100000
set_option maxHeartbeats 1000000
namespace Go.Proofs.YtobejpplmjfkpaaDoor.X
open Go Go.Ev Go.RowKit
/-- A reader in block g, at place p; what it reads lies below B. -/
def R (w : World) (B g p : Nat) : Prop := ∃ s ns, rRd 59 w g s p ∧ rBytes w s ns ∧ ns.length ≤ 1000000000000 ∧ (∀ x ∈ rowB s ns, x < B) ∧ B ≤ g
theorem R.lt {w : World} {B g p : Nat} (h : R w B g p) : B ≤ g ∧ g < w.heap.size := by
  obtain ⟨s, ns, h1, h2, h3, h4, h5⟩ := h
  exact ⟨h5, hp_lt h1⟩
theorem R.keep {w w' : World} {B g p : Nat} (h : R w B g p) (k : ∀ b, b < B ∨ b = g → b < w.heap.size → hp w' b = hp w b) : R w' B g p := by
  obtain ⟨s, ns, h1, h2, h3, h4, h5⟩ := h
  refine ⟨s, ns, (k g (.inr rfl) (hp_lt h1)).trans h1, ?_, h3, h4, h5⟩
  obtain ⟨a, c, q1, q2, q3, q4, q5⟩ := h2
  refine ⟨a, c, q1, q2, q3, q4, ?_⟩
  cases ns with
  | nil => exact .inl rfl
  | cons n ns =>
    rcases q5 with q5 | ⟨d, o, q6, q7⟩
    · cases q5
    · subst q1; subst q6
      have hd := h4 d (by simp [rowB, blkOf])
      exact .inr ⟨d, o, rfl, q7.same (k d (.inl hd) (At.lt (l := ns.map (Value.int .u8)) q7))⟩
theorem R.ext {w w' : World} {B g p : Nat} (h : R w B g p) (k : Ext w w') : R w' B g p := h.keep fun b _ hb => k.blk hb
theorem spec_l20Rd_pick_m {B g p k : Nat} (hk : 1 ≤ k) (hk2 : k ≤ 1000000) (hp0 : p ≤ 1000000000000) {w : World} (hr : R w B g p) :
    Ret (EV P 28 #[pt g 0, i64 k] w) fun r => ∃ m : Nat, r.1 = i64 m ∧ m < k ∧ R r.2 B g (p + 1) ∧ Mod (fun b => b = g) w r.2 := by
  obtain ⟨s, ns, h1, h2, h3, h4, h5⟩ := hr
  have hb : ∀ x ∈ rowB s ns, x ≠ g := fun x hx => by have := h4 x hx; omega
  refine Ret.mono (spec_l20Rd_pick_c hk hk2 hp0 h1 h2 h3 hb) ?_
  rintro r ⟨m, e1, e2, e3, M⟩
  have M' : Mod (fun b => b = g) w r.2 := ⟨M.os, M.tape, M.output, M.size, fun b hb hne => M.blk b hb (by simpa using fun h => hne h.symm)⟩
  have R0 : R w B g p := ⟨s, ns, h1, h2, h3, h4, h5⟩
  refine ⟨m, e1, e2, ⟨s, ns, e3, ?_, h3, h4, h5⟩, M'⟩
  obtain ⟨a, c, q1, q2, q3, q4, q5⟩ := h2
  refine ⟨a, c, q1, q2, q3, q4, ?_⟩
  cases ns with
  | nil => exact .inl rfl
  | cons n ns =>
    rcases q5 with q5 | ⟨d, o, q6, q7⟩
    · cases q5
    · subst q1; subst q6
      have hd := h4 d (by simp [rowB, blkOf])
      exact .inr ⟨d, o, rfl, q7.same (M'.blk d (At.lt (l := ns.map (Value.int .u8)) q7) (by omega))⟩
theorem spec_l20Open_m {s : Value} {ns : List Int} {w : World} (hs : rBytes w s ns) (hn : ns.length ≤ 1000000000000) :
    Ret (EV P 25 #[s] w) fun r => ∃ g, r.1 = pt g 0 ∧ R r.2 w.heap.size g 0 ∧ Ext w r.2 := by
  have hlt : ∀ x ∈ rowB s ns, x < w.heap.size := by
    intro x hx
    obtain ⟨a, c, q1, q2, q3, q4, q5⟩ := hs
    cases ns with
    | nil => simp [rowB] at hx
    | cons n ns =>
      rcases q5 with q5 | ⟨d, o, q6, q7⟩
      · cases q5
      · subst q1; subst q6
        simp only [rowB, blkOf, Option.toList_some, List.mem_singleton] at hx
        rw [hx]
        exact At.lt (l := ns.map (Value.int .u8)) q7
  have fin : ∀ (e : Env) (s : Value) (ns : List Int), e 0 = s → rBytes w s ns → ns.length ≤ 1000000000000 → (∀ x ∈ rowB s ns, x < w.heap.size) → Ret (spec_l20Open_j1 e w) fun r => ∃ g, r.1 = pt g 0 ∧ R r.2 w.heap.size g 0 ∧ Ext w r.2 := by
    intro e s ns e0 hs hn hlt
    have hs' := hs
    obtain ⟨a, c, rfl, q2, q3, q4, q5⟩ := hs
    refine Ret.post fun Q hQ => ?_
    rw [spec_l20Open_j1_eq]
    simp (maxSteps := 1000000) (disch := first | assumption | omega | (simp only [World.size_alloc, size_setRow, dw_size]; done) | (simp only [World.size_alloc, size_setRow, dw_size] <;> omega) | (simp only [List.length_set, Array.length_toList, List.length_cons, List.length_nil, List.length_append, bts_size] <;> omega) | (simp only [List.all_cons, List.all_nil, Value.oneCell', Bool.and_self, Bool.and_true]; done)) [-Option.bind_some, hp_alloc_lt, hp_alloc_eq, hp_set_ne, wrap_small, ups_ap_cons, ups_ap_nil, upd_same, upd_other, env0_ap0, env0_aps, xt_a, xt_b, xt_c, -splice_eq, -stR_cells, stR_box, stR_boxA, stR_row, stR_row0, stR_row1, stR_rowA, stR_rowA0, splice_rowv, splice_rowv0, splice_rowv1, splice_z, splice_n, splice_s, nth_rowv, nth_rowv0, nth_rowv1, rowv_len, e0, hlt, e0, hlt]
    refine hQ _ ⟨w.heap.size, rfl, ⟨_, ns, ?_, hs'.mono (Ext.keep (by (repeat (first | exact Ext.rfl | assumption | (refine Ext.al ?_ _) | (refine Ext.dw ?_) | (refine Ext.set ?_ (by first | omega | (simp only [World.size_alloc, size_setRow, dw_size]; omega)) _) | (refine Ext.tr ?_ (by assumption)))))), hn, hlt, by omega⟩, by (repeat (first | exact Ext.rfl | assumption | (refine Ext.al ?_ _) | (refine Ext.dw ?_) | (refine Ext.set ?_ (by first | omega | (simp only [World.size_alloc, size_setRow, dw_size]; omega)) _) | (refine Ext.tr ?_ (by assumption))))⟩
    show hp _ _ = _
    exact (by first | assumption | rfl | (simp (maxSteps := 1000000) (disch := first | assumption | omega | (simp only [World.size_alloc, size_setRow, dw_size]; done) | (simp only [World.size_alloc, size_setRow, dw_size] <;> omega) | (simp only [List.length_set, Array.length_toList, List.length_cons, List.length_nil, List.length_append, bts_size] <;> omega) | (simp only [List.all_cons, List.all_nil, Value.oneCell', Bool.and_self, Bool.and_true]; done)) [-Option.bind_some, hp_alloc_lt, hp_alloc_eq, hp_set_ne, wrap_small, ups_ap_cons, ups_ap_nil, upd_same, upd_other, env0_ap0, env0_aps, xt_a, xt_b, xt_c, -splice_eq, -stR_cells, stR_box, stR_boxA, stR_row, stR_row0, stR_row1, stR_rowA, stR_rowA0, splice_rowv, splice_rowv0, splice_rowv1, splice_z, splice_n, splice_s, nth_rowv, nth_rowv0, nth_rowv1, rowv_len, hlt, e0, hlt]; done))
  have hs' := hs
  obtain ⟨a, c, rfl, q2, q3, q4, q5⟩ := hs
  refine Ret.post fun Q hQ => ?_
  refine Ret.enter plain mixed (spec_l20Open_fn _ _) (by kernel_rfl) (n := 1) (by kernel_rfl) rfl ?_
  by_cases hl : 2000 < ns.length
  · have hts : rBytes w (.slice a 2000 c) (ns.take 2000) := by
      refine ⟨a, c, by rw [List.length_take]; congr 1; omega, by rw [List.length_take]; omega, q3, fun n hn => q4 n (List.mem_of_mem_take hn), ?_⟩
      rcases q5 with q5 | ⟨d, o, q6, q7⟩
      · subst q5; simp at hl
      · refine .inr ⟨d, o, q6, fun j v hv => q7 j v ?_⟩
        rw [List.map_take, List.getElem?_take] at hv
        split at hv
        · exact hv
        · cases hv
    simp (maxSteps := 1000000) (disch := first | assumption | omega | (simp only [World.size_alloc, size_setRow, dw_size]; done) | (simp only [World.size_alloc, size_setRow, dw_size] <;> omega) | (simp only [List.length_set, Array.length_toList, List.length_cons, List.length_nil, List.length_append, bts_size] <;> omega) | (simp only [List.all_cons, List.all_nil, Value.oneCell', Bool.and_self, Bool.and_true]; done)) [-Option.bind_some, hp_alloc_lt, hp_alloc_eq, hp_set_ne, wrap_small, ups_ap_cons, ups_ap_nil, upd_same, upd_other, env0_ap0, env0_aps, xt_a, xt_b, xt_c, -splice_eq, -stR_cells, stR_box, stR_boxA, stR_row, stR_row0, stR_row1, stR_rowA, stR_rowA0, splice_rowv, splice_rowv0, splice_rowv1, splice_z, splice_n, splice_s, nth_rowv, nth_rowv0, nth_rowv1, rowv_len, show (2000 : Int) < ns.length by omega, sl_h (P := P) el_32, show (2000 : Int) ≤ c by omega, hlt]
    refine Ret.mono (fin _ (.slice a 2000 c) (ns.take 2000) rfl hts (by rw [List.length_take]; omega) ?_) hQ
    intro x hx
    refine hlt x ?_
    cases ns with
    | nil => simp at hl
    | cons n ns =>
      cases a with
      | none => simp [rowB, blkOf] at hx
      | some _ => simpa [rowB, blkOf] using hx
  · simp (maxSteps := 1000000) (disch := first | assumption | omega | (simp only [World.size_alloc, size_setRow, dw_size]; done) | (simp only [World.size_alloc, size_setRow, dw_size] <;> omega) | (simp only [List.length_set, Array.length_toList, List.length_cons, List.length_nil, List.length_append, bts_size] <;> omega) | (simp only [List.all_cons, List.all_nil, Value.oneCell', Bool.and_self, Bool.and_true]; done)) [-Option.bind_some, hp_alloc_lt, hp_alloc_eq, hp_set_ne, wrap_small, ups_ap_cons, ups_ap_nil, upd_same, upd_other, env0_ap0, env0_aps, xt_a, xt_b, xt_c, -splice_eq, -stR_cells, stR_box, stR_boxA, stR_row, stR_row0, stR_row1, stR_rowA, stR_rowA0, splice_rowv, splice_rowv0, splice_rowv1, splice_z, splice_n, splice_s, nth_rowv, nth_rowv0, nth_rowv1, rowv_len, show ¬ (2000 : Int) < ns.length by omega, hlt]
    exact Ret.mono (fin _ _ ns rfl hs' hn hlt) hQ
theorem spec_l20Rd_one_m {B g p b k c : Nat} {ints : List Int} (hk : 1 ≤ k) (hk2 : k ≤ 1000000) (hp0 : p ≤ 1000000000000) {w : World} (hl : ints.length = k) (hA : At w b 0 (ints.map fun n => i64 n)) (hbg : b ≠ g) (hr : R w B g p) :
    Ret (EV P 36 #[pt g 0, .slice (some ⟨b, 0, none⟩) k c] w) fun r => ∃ n ∈ ints, r.1 = i64 n ∧ R r.2 B g (p + 1) ∧ Mod (fun b => b = g) w r.2 := by
  refine Ret.post fun Q hQ => ?_
  refine Ret.enter plain mixed (spec_l20Rd_one_fn _ _ _) (by kernel_rfl) (n := 2) (by kernel_rfl) rfl ?_
  simp (maxSteps := 1000000) (disch := first | assumption | omega | (simp only [World.size_alloc, size_setRow, dw_size]; done) | (simp only [World.size_alloc, size_setRow, dw_size] <;> omega) | (simp only [List.length_set, Array.length_toList, List.length_cons, List.length_nil, List.length_append, bts_size] <;> omega) | (simp only [List.all_cons, List.all_nil, Value.oneCell', Bool.and_self, Bool.and_true]; done)) [-Option.bind_some, hp_alloc_lt, hp_alloc_eq, hp_set_ne, wrap_small, ups_ap_cons, ups_ap_nil, upd_same, upd_other, env0_ap0, env0_aps, xt_a, xt_b, xt_c, -splice_eq, -stR_cells, stR_box, stR_boxA, stR_row, stR_row0, stR_row1, stR_rowA, stR_rowA0, splice_rowv, splice_rowv0, splice_rowv1, splice_z, splice_n, splice_s, nth_rowv, nth_rowv0, nth_rowv1, rowv_len]
  refine Ret.bind (spec_l20Rd_pick_m hk hk2 hp0 hr) ?_
  rintro ⟨_, w1⟩ ⟨m, rfl, hm, R1, M1⟩
  have zM1 := M1.size
  try simp only [World.size_alloc, size_setRow, dw_size] at zM1
  try dsimp only at R1 M1
  obtain ⟨n, hn, _⟩ := drop_at (l := ints) (k := m) (by omega)
  have hA1 := hA m (i64 n) (by rw [List.getElem?_map, hn]; rfl)
  have hbl : b < w.heap.size := by
    rcases Nat.lt_or_ge b w.heap.size with h | h
    · exact h
    · rw [hp, Array.getElem?_eq_none h] at hA1; simp [cellO] at hA1
  rw [Nat.zero_add] at hA1
  simp (maxSteps := 1000000) (disch := first | assumption | omega | (simp only [World.size_alloc, size_setRow, dw_size]; done) | (simp only [World.size_alloc, size_setRow, dw_size] <;> omega) | (simp only [List.length_set, Array.length_toList, List.length_cons, List.length_nil, List.length_append, bts_size] <;> omega) | (simp only [List.all_cons, List.all_nil, Value.oneCell', Bool.and_self, Bool.and_true]; done)) [-Option.bind_some, hp_alloc_lt, hp_alloc_eq, hp_set_ne, wrap_small, ups_ap_cons, ups_ap_nil, upd_same, upd_other, env0_ap0, env0_aps, xt_a, xt_b, xt_c, -splice_eq, -stR_cells, stR_box, stR_boxA, stR_row, stR_row0, stR_row1, stR_rowA, stR_rowA0, splice_rowv, splice_rowv0, splice_rowv1, splice_z, splice_n, splice_s, nth_rowv, nth_rowv0, nth_rowv1, rowv_len, ia_57, show (m : Int) < k by omega, hA1, M1.blk]
  exact hQ _ ⟨n, List.mem_of_getElem? hn, rfl, R1, M1⟩
end Go.Proofs.YtobejpplmjfkpaaDoor.X
set_option linter.unusedVariables false
set_option linter.unusedSimpArgs false
set_option maxRecDepth 100000
set_option maxHeartbeats 1000000
namespace Go.Proofs.YtobejpplmjfkpaaDoor.X
open Go Go.Ev Go.RowKit
theorem spec_l20Tag_m {B g p : Nat} (hp0 : p ≤ 950000000000) {w : World} (hr : R w B g p) :
    Ret (EV P 37 #[pt g 0] w) fun r => ∃ (t : Tag) (p' : Nat), r.1 = t.v ∧ 0 ≤ t.t ∧ t.t ≤ 9 ∧ p' ≤ p + 3 ∧ R r.2 B g p' ∧ Mod (fun b => b = g) w r.2 := by
  have hl := hr.lt
  refine Ret.post fun Q hQ => ?_
  refine Ret.enter plain mixed (spec_l20Tag_fn _ _) (by kernel_rfl) (n := 1) (by kernel_rfl) rfl ?_
  simp (maxSteps := 1000000) (disch := first | assumption | omega | (simp only [World.size_alloc, size_setRow, dw_size]; done) | (simp only [World.size_alloc, size_setRow, dw_size] <;> omega) | (simp only [List.length_set, Array.length_toList, List.length_cons, List.length_nil, List.length_append, bts_size] <;> omega) | (simp only [List.all_cons, List.all_nil, Value.oneCell', Bool.and_self, Bool.and_true]; done)) [-Option.bind_some, hp_alloc_lt, hp_alloc_eq, hp_set_ne, wrap_small, ups_ap_cons, ups_ap_nil, upd_same, upd_other, env0_ap0, env0_aps, xt_a, xt_b, xt_c, -splice_eq, -stR_cells, stR_box, stR_boxA, stR_row, stR_row0, stR_row1, stR_rowA, stR_rowA0, splice_rowv, splice_rowv0, splice_rowv1, splice_z, splice_n, splice_s, nth_rowv, nth_rowv0, nth_rowv1, rowv_len]
  refine Ret.bind (spec_l20Rd_pick_m (k := 3) (by omega) (by omega) (by omega) (hr.ext (by (repeat (first | exact Ext.rfl | assumption | (refine Ext.al ?_ _) | (refine Ext.dw ?_) | (refine Ext.set ?_ (by first | omega | (simp only [World.size_alloc, size_setRow, dw_size]; omega)) _) | (refine Ext.tr ?_ (by assumption))))))) ?_
  rintro ⟨_, w1⟩ ⟨m, rfl, hm, R1, M1⟩
  have zM1 := M1.size
  try simp only [World.size_alloc, size_setRow, dw_size] at zM1
  try dsimp only at R1 M1
  have zM1 := M1.size
  simp only [World.size_alloc, dw_size] at zM1
  have X1 : hp w1 w.heap.size = some (.cells #[i64 0, i64 0] 25 (0, 0)) := (M1.blk w.heap.size (by (try simp only [In, World.size_alloc, size_setRow, dw_size] at *); omega) (by omega)).trans (by first | assumption | rfl | (simp (maxSteps := 1000000) (disch := first | assumption | omega | (simp only [World.size_alloc, size_setRow, dw_size]; done) | (simp only [World.size_alloc, size_setRow, dw_size] <;> omega) | (simp only [List.length_set, Array.length_toList, List.length_cons, List.length_nil, List.length_append, bts_size] <;> omega) | (simp only [List.all_cons, List.all_nil, Value.oneCell', Bool.and_self, Bool.and_true]; done)) [-Option.bind_some, hp_alloc_lt, hp_alloc_eq, hp_set_ne, wrap_small, ups_ap_cons, ups_ap_nil, upd_same, upd_other, env0_ap0, env0_aps, xt_a, xt_b, xt_c, -splice_eq, -stR_cells, stR_box, stR_boxA, stR_row, stR_row0, stR_row1, stR_rowA, stR_rowA0, splice_rowv, splice_rowv0, splice_rowv1, splice_z, splice_n, splice_s, nth_rowv, nth_rowv0, nth_rowv1, rowv_len, M1.blk]; done))
  have N1 : Mod (fun b => b = g) w w1 := (Mod.of (by (repeat (first | exact Ext.rfl | assumption | (refine Ext.al ?_ _) | (refine Ext.dw ?_) | (refine Ext.set ?_ (by first | omega | (simp only [World.size_alloc, size_setRow, dw_size]; omega)) _) | (refine Ext.tr ?_ (by assumption))))) _).tr M1
  cases hz : ((m : Int) == 0)
  · simp (maxSteps := 1000000) (disch := first | assumption | omega | (simp only [World.size_alloc, size_setRow, dw_size]; done) | (simp only [World.size_alloc, size_setRow, dw_size] <;> omega) | (simp only [List.length_set, Array.length_toList, List.length_cons, List.length_nil, List.length_append, bts_size] <;> omega) | (simp only [List.all_cons, List.all_nil, Value.oneCell', Bool.and_self, Bool.and_true]; done)) [-Option.bind_some, hp_alloc_lt, hp_alloc_eq, hp_set_ne, wrap_small, ups_ap_cons, ups_ap_nil, upd_same, upd_other, env0_ap0, env0_aps, xt_a, xt_b, xt_c, -splice_eq, -stR_cells, stR_box, stR_boxA, stR_row, stR_row0, stR_row1, stR_rowA, stR_rowA0, splice_rowv, splice_rowv0, splice_rowv1, splice_z, splice_n, splice_s, nth_rowv, nth_rowv0, nth_rowv1, rowv_len, hz, M1.blk, X1]
    refine Ret.bind (spec_l20Rd_pick_m (k := 9) (by omega) (by omega) (by omega) (R1.ext (by (repeat (first | exact Ext.rfl | assumption | (refine Ext.al ?_ _) | (refine Ext.dw ?_) | (refine Ext.set ?_ (by first | omega | (simp only [World.size_alloc, size_setRow, dw_size]; omega)) _) | (refine Ext.tr ?_ (by assumption))))))) ?_
    rintro ⟨_, w2⟩ ⟨m2, rfl, hm2, R2, M2⟩
    have zM2 := M2.size
    try simp only [World.size_alloc, size_setRow, dw_size] at zM2
    try dsimp only at R2 M2
    have zM2 := M2.size
    simp (maxSteps := 1000000) (disch := first | assumption | omega | (simp only [World.size_alloc, size_setRow, dw_size]; done) | (simp only [World.size_alloc, size_setRow, dw_size] <;> omega) | (simp only [List.length_set, Array.length_toList, List.length_cons, List.length_nil, List.length_append, bts_size] <;> omega) | (simp only [List.all_cons, List.all_nil, Value.oneCell', Bool.and_self, Bool.and_true]; done)) [-Option.bind_some, hp_alloc_lt, hp_alloc_eq, hp_set_ne, wrap_small, ups_ap_cons, ups_ap_nil, upd_same, upd_other, env0_ap0, env0_aps, xt_a, xt_b, xt_c, -splice_eq, -stR_cells, stR_box, stR_boxA, stR_row, stR_row0, stR_row1, stR_rowA, stR_rowA0, splice_rowv, splice_rowv0, splice_rowv1, splice_z, splice_n, splice_s, nth_rowv, nth_rowv0, nth_rowv1, rowv_len, M1.blk, X1, M2.blk]
    refine Ret.bind (spec_l20Rd_pick_m (k := 3) (by omega) (by omega) (by omega) (R2.ext (by (repeat (first | exact Ext.rfl | assumption | (refine Ext.al ?_ _) | (refine Ext.dw ?_) | (refine Ext.set ?_ (by first | omega | (simp only [World.size_alloc, size_setRow, dw_size]; omega)) _) | (refine Ext.tr ?_ (by assumption))))))) ?_
    rintro ⟨_, w3⟩ ⟨m3, rfl, hm3, R3, M3⟩
    have zM3 := M3.size
    try simp only [World.size_alloc, size_setRow, dw_size] at zM3
    try dsimp only at R3 M3
    have zM3 := M3.size
    have X3 : hp w3 w.heap.size = some (.cells #[i64 0, i64 0] 25 (0, 0)) := (M3.blk w.heap.size (by (try simp only [In, World.size_alloc, size_setRow, dw_size] at *); omega) (by omega)).trans ((M2.blk w.heap.size (by (try simp only [In, World.size_alloc, size_setRow, dw_size] at *); omega) (by omega)).trans X1)
    have hw : IntKind.i64.wrap (1 + (m2 : Int)) = 1 + (m2 : Int) := w64 (by omega) (by omega)
    simp (maxSteps := 1000000) (disch := first | assumption | omega | (simp only [World.size_alloc, size_setRow, dw_size]; done) | (simp only [World.size_alloc, size_setRow, dw_size] <;> omega) | (simp only [List.length_set, Array.length_toList, List.length_cons, List.length_nil, List.length_append, bts_size] <;> omega) | (simp only [List.all_cons, List.all_nil, Value.oneCell', Bool.and_self, Bool.and_true]; done)) [-Option.bind_some, hp_alloc_lt, hp_alloc_eq, hp_set_ne, wrap_small, ups_ap_cons, ups_ap_nil, upd_same, upd_other, env0_ap0, env0_aps, xt_a, xt_b, xt_c, -splice_eq, -stR_cells, stR_box, stR_boxA, stR_row, stR_row0, stR_row1, stR_rowA, stR_rowA0, splice_rowv, splice_rowv0, splice_rowv1, splice_z, splice_n, splice_s, nth_rowv, nth_rowv0, nth_rowv1, rowv_len, X3, hw, M1.blk, X1, M2.blk, M3.blk, X3]
    have N3 := (N1.tr M2).tr M3
    refine hQ _ ⟨⟨1 + m2, m3⟩, p + 1 + 1 + 1, rfl, ?_, ?_, by omega, R3.keep (fun b h hb => hp_set_ne (by omega)), N3.set' (.inl (by omega)) _⟩
    · show (0 : Int) ≤ 1 + m2
      omega
    · show (1 : Int) + m2 ≤ 9
      omega
  · simp (maxSteps := 1000000) (disch := first | assumption | omega | (simp only [World.size_alloc, size_setRow, dw_size]; done) | (simp only [World.size_alloc, size_setRow, dw_size] <;> omega) | (simp only [List.length_set, Array.length_toList, List.length_cons, List.length_nil, List.length_append, bts_size] <;> omega) | (simp only [List.all_cons, List.all_nil, Value.oneCell', Bool.and_self, Bool.and_true]; done)) [-Option.bind_some, hp_alloc_lt, hp_alloc_eq, hp_set_ne, wrap_small, ups_ap_cons, ups_ap_nil, upd_same, upd_other, env0_ap0, env0_aps, xt_a, xt_b, xt_c, -splice_eq, -stR_cells, stR_box, stR_boxA, stR_row, stR_row0, stR_row1, stR_rowA, stR_rowA0, splice_rowv, splice_rowv0, splice_rowv1, splice_z, splice_n, splice_s, nth_rowv, nth_rowv0, nth_rowv1, rowv_len, hz, X1, M1.blk, X1]
    exact hQ _ ⟨⟨0, 0⟩, p + 1, rfl, by decide, by decide, by omega, R1.keep (fun b h hb => hp_set_ne (by omega)), N1.set' (.inl (by omega)) _⟩
theorem spec_l20Rd_of_m {B g p b k c : Nat} {strs : List ByteArray} (hk : 1 ≤ k) (hk2 : k ≤ 1000000) (hp0 : p ≤ 1000000000000) {w : World} (hl : strs.length = k) (hA : At w b 0 (strs.map Value.string)) (hbg : b ≠ g) (hr : R w B g p) :
    Ret (EV P 38 #[pt g 0, .slice (some ⟨b, 0, none⟩) k c] w) fun r => ∃ n ∈ strs, r.1 = .string n ∧ R r.2 B g (p + 1) ∧ Mod (fun b => b = g) w r.2 := by
  refine Ret.post fun Q hQ => ?_
  refine Ret.enter plain mixed (spec_l20Rd_of_fn _ _ _) (by kernel_rfl) (n := 2) (by kernel_rfl) rfl ?_
  simp (maxSteps := 1000000) (disch := first | assumption | omega | (simp only [World.size_alloc, size_setRow, dw_size]; done) | (simp only [World.size_alloc, size_setRow, dw_size] <;> omega) | (simp only [List.length_set, Array.length_toList, List.length_cons, List.length_nil, List.length_append, bts_size] <;> omega) | (simp only [List.all_cons, List.all_nil, Value.oneCell', Bool.and_self, Bool.and_true]; done)) [-Option.bind_some, hp_alloc_lt, hp_alloc_eq, hp_set_ne, wrap_small, ups_ap_cons, ups_ap_nil, upd_same, upd_other, env0_ap0, env0_aps, xt_a, xt_b, xt_c, -splice_eq, -stR_cells, stR_box, stR_boxA, stR_row, stR_row0, stR_row1, stR_rowA, stR_rowA0, splice_rowv, splice_rowv0, splice_rowv1, splice_z, splice_n, splice_s, nth_rowv, nth_rowv0, nth_rowv1, rowv_len]
  refine Ret.bind (spec_l20Rd_pick_m hk hk2 hp0 hr) ?_
  rintro ⟨_, w1⟩ ⟨m, rfl, hm, R1, M1⟩
  have zM1 := M1.size
  try simp only [World.size_alloc, size_setRow, dw_size] at zM1
  try dsimp only at R1 M1
  obtain ⟨n, hn, _⟩ := drop_at (l := strs) (k := m) (by omega)
  have hA1 := hA m (.string n) (by rw [List.getElem?_map, hn]; rfl)
  have hbl : b < w.heap.size := by
    rcases Nat.lt_or_ge b w.heap.size with h | h
    · exact h
    · rw [hp, Array.getElem?_eq_none h] at hA1; simp [cellO] at hA1
  rw [Nat.zero_add] at hA1
  simp (maxSteps := 1000000) (disch := first | assumption | omega | (simp only [World.size_alloc, size_setRow, dw_size]; done) | (simp only [World.size_alloc, size_setRow, dw_size] <;> omega) | (simp only [List.length_set, Array.length_toList, List.length_cons, List.length_nil, List.length_append, bts_size] <;> omega) | (simp only [List.all_cons, List.all_nil, Value.oneCell', Bool.and_self, Bool.and_true]; done)) [-Option.bind_some, hp_alloc_lt, hp_alloc_eq, hp_set_ne, wrap_small, ups_ap_cons, ups_ap_nil, upd_same, upd_other, env0_ap0, env0_aps, xt_a, xt_b, xt_c, -splice_eq, -stR_cells, stR_box, stR_boxA, stR_row, stR_row0, stR_row1, stR_rowA, stR_rowA0, splice_rowv, splice_rowv0, splice_rowv1, splice_z, splice_n, splice_s, nth_rowv, nth_rowv0, nth_rowv1, rowv_len, ia_38, show (m : Int) < k by omega, hA1, M1.blk]
  exact hQ _ ⟨n, List.mem_of_getElem? hn, rfl, R1, M1⟩
theorem spec_l20AnyTag_m {B g p : Nat} (hp0 : p ≤ 900000000000) {w : World} (hr : R w B g p) :
    Ret (EV P 24 #[pt g 0] w) fun r => ∃ (t : Tag) (p' : Nat), r.1 = t.v ∧ p' ≤ p + 4 ∧ R r.2 B g p' ∧ Mod (fun b => b = g) w r.2 := by
  have hl := hr.lt
  refine Ret.post fun Q hQ => ?_
  refine Ret.enter plain mixed (spec_l20AnyTag_fn _ _) (by kernel_rfl) (n := 1) (by kernel_rfl) rfl ?_
  simp (maxSteps := 1000000) (disch := first | assumption | omega | (simp only [World.size_alloc, size_setRow, dw_size]; done) | (simp only [World.size_alloc, size_setRow, dw_size] <;> omega) | (simp only [List.length_set, Array.length_toList, List.length_cons, List.length_nil, List.length_append, bts_size] <;> omega) | (simp only [List.all_cons, List.all_nil, Value.oneCell', Bool.and_self, Bool.and_true]; done)) [-Option.bind_some, hp_alloc_lt, hp_alloc_eq, hp_set_ne, wrap_small, ups_ap_cons, ups_ap_nil, upd_same, upd_other, env0_ap0, env0_aps, xt_a, xt_b, xt_c, -splice_eq, -stR_cells, stR_box, stR_boxA, stR_row, stR_row0, stR_row1, stR_rowA, stR_rowA0, splice_rowv, splice_rowv0, splice_rowv1, splice_z, splice_n, splice_s, nth_rowv, nth_rowv0, nth_rowv1, rowv_len]
  refine Ret.bind (spec_l20Rd_pick_m (k := 8) (by omega) (by omega) (by omega) (hr.ext (by (repeat (first | exact Ext.rfl | assumption | (refine Ext.al ?_ _) | (refine Ext.dw ?_) | (refine Ext.set ?_ (by first | omega | (simp only [World.size_alloc, size_setRow, dw_size]; omega)) _) | (refine Ext.tr ?_ (by assumption))))))) ?_
  rintro ⟨_, w1⟩ ⟨m, rfl, hm, R1, M1⟩
  have zM1 := M1.size
  try simp only [World.size_alloc, size_setRow, dw_size] at zM1
  try dsimp only at R1 M1
  have zM1 := M1.size
  simp only [World.size_alloc, dw_size] at zM1
  have X1 : hp w1 w.heap.size = some (.cells #[i64 0, i64 0] 25 (0, 0)) := (M1.blk w.heap.size (by (try simp only [In, World.size_alloc, size_setRow, dw_size] at *); omega) (by omega)).trans (by first | assumption | rfl | (simp (maxSteps := 1000000) (disch := first | assumption | omega | (simp only [World.size_alloc, size_setRow, dw_size]; done) | (simp only [World.size_alloc, size_setRow, dw_size] <;> omega) | (simp only [List.length_set, Array.length_toList, List.length_cons, List.length_nil, List.length_append, bts_size] <;> omega) | (simp only [List.all_cons, List.all_nil, Value.oneCell', Bool.and_self, Bool.and_true]; done)) [-Option.bind_some, hp_alloc_lt, hp_alloc_eq, hp_set_ne, wrap_small, ups_ap_cons, ups_ap_nil, upd_same, upd_other, env0_ap0, env0_aps, xt_a, xt_b, xt_c, -splice_eq, -stR_cells, stR_box, stR_boxA, stR_row, stR_row0, stR_row1, stR_rowA, stR_rowA0, splice_rowv, splice_rowv0, splice_rowv1, splice_z, splice_n, splice_s, nth_rowv, nth_rowv0, nth_rowv1, rowv_len, M1.blk]; done))
  have N1 : Mod (fun b => b = g) w w1 := (Mod.of (by (repeat (first | exact Ext.rfl | assumption | (refine Ext.al ?_ _) | (refine Ext.dw ?_) | (refine Ext.set ?_ (by first | omega | (simp only [World.size_alloc, size_setRow, dw_size]; omega)) _) | (refine Ext.tr ?_ (by assumption))))) _).tr M1
  have y1 := R1.lt
  cases hz : ((m : Int) == 0)
  · simp (maxSteps := 1000000) (disch := first | assumption | omega | (simp only [World.size_alloc, size_setRow, dw_size]; done) | (simp only [World.size_alloc, size_setRow, dw_size] <;> omega) | (simp only [List.length_set, Array.length_toList, List.length_cons, List.length_nil, List.length_append, bts_size] <;> omega) | (simp only [List.all_cons, List.all_nil, Value.oneCell', Bool.and_self, Bool.and_true]; done)) [-Option.bind_some, hp_alloc_lt, hp_alloc_eq, hp_set_ne, wrap_small, ups_ap_cons, ups_ap_nil, upd_same, upd_other, env0_ap0, env0_aps, xt_a, xt_b, xt_c, -splice_eq, -stR_cells, stR_box, stR_boxA, stR_row, stR_row0, stR_row1, stR_rowA, stR_rowA0, splice_rowv, splice_rowv0, splice_rowv1, splice_z, splice_n, splice_s, nth_rowv, nth_rowv0, nth_rowv1, rowv_len, hz, M1.blk, X1]
    refine Ret.bind (spec_l20Tag_m (by omega) (R1.ext (by (repeat (first | exact Ext.rfl | assumption | (refine Ext.al ?_ _) | (refine Ext.dw ?_) | (refine Ext.set ?_ (by first | omega | (simp only [World.size_alloc, size_setRow, dw_size]; omega)) _) | (refine Ext.tr ?_ (by assumption))))))) ?_
    rintro ⟨_, w2⟩ ⟨t, p2, rfl, _, _, hp2, R2, M2⟩
    have zM2 := M2.size
    try simp only [World.size_alloc, size_setRow, dw_size] at zM2
    try dsimp only at R2 M2
    have zM2 := M2.size
    have X2 : hp w2 w.heap.size = some (.cells #[i64 0, i64 0] 25 (0, 0)) := (M2.blk w.heap.size (by (try simp only [In, World.size_alloc, size_setRow, dw_size] at *); omega) (by omega)).trans X1
    simp (maxSteps := 1000000) (disch := first | assumption | omega | (simp only [World.size_alloc, size_setRow, dw_size]; done) | (simp only [World.size_alloc, size_setRow, dw_size] <;> omega) | (simp only [List.length_set, Array.length_toList, List.length_cons, List.length_nil, List.length_append, bts_size] <;> omega) | (simp only [List.all_cons, List.all_nil, Value.oneCell', Bool.and_self, Bool.and_true]; done)) [-Option.bind_some, hp_alloc_lt, hp_alloc_eq, hp_set_ne, wrap_small, ups_ap_cons, ups_ap_nil, upd_same, upd_other, env0_ap0, env0_aps, xt_a, xt_b, xt_c, -splice_eq, -stR_cells, stR_box, stR_boxA, stR_row, stR_row0, stR_row1, stR_rowA, stR_rowA0, splice_rowv, splice_rowv0, splice_rowv1, splice_z, splice_n, splice_s, nth_rowv, nth_rowv0, nth_rowv1, rowv_len, X2, M1.blk, X1, M2.blk, X2]
    refine hQ _ ⟨t, p2, rfl, by omega, R2.keep (fun b h hb => hp_set_ne (by omega)), (N1.tr M2).set' (.inl (by omega)) _⟩
  · simp (maxSteps := 1000000) (disch := first | assumption | omega | (simp only [World.size_alloc, size_setRow, dw_size]; done) | (simp only [World.size_alloc, size_setRow, dw_size] <;> omega) | (simp only [List.length_set, Array.length_toList, List.length_cons, List.length_nil, List.length_append, bts_size] <;> omega) | (simp only [List.all_cons, List.all_nil, Value.oneCell', Bool.and_self, Bool.and_true]; done)) [-Option.bind_some, hp_alloc_lt, hp_alloc_eq, hp_set_ne, wrap_small, ups_ap_cons, ups_ap_nil, upd_same, upd_other, env0_ap0, env0_aps, xt_a, xt_b, xt_c, -splice_eq, -stR_cells, stR_box, stR_boxA, stR_row, stR_row0, stR_row1, stR_rowA, stR_rowA0, splice_rowv, splice_rowv0, splice_rowv1, splice_z, splice_n, splice_s, nth_rowv, nth_rowv0, nth_rowv1, rowv_len, hz, M1.blk, X1]
    refine Ret.bind (spec_l20Rd_one_m (ints := [0, -1, 1000, 999]) (k := 4) (by omega) (by omega) (by omega) rfl (At.new (cs := [i64 0, i64 (-1), i64 1000, i64 999])) (by omega) (R1.ext (by (repeat (first | exact Ext.rfl | assumption | (refine Ext.al ?_ _) | (refine Ext.dw ?_) | (refine Ext.set ?_ (by first | omega | (simp only [World.size_alloc, size_setRow, dw_size]; omega)) _) | (refine Ext.tr ?_ (by assumption))))))) ?_
    rintro ⟨_, w2⟩ ⟨n1, _, rfl, R2, M2⟩
    have zM2 := M2.size
    try simp only [World.size_alloc, size_setRow, dw_size] at zM2
    try dsimp only at R2 M2
    have zM2 := M2.size
    simp only [World.size_alloc, dw_size] at zM2
    simp (maxSteps := 1000000) (disch := first | assumption | omega | (simp only [World.size_alloc, size_setRow, dw_size]; done) | (simp only [World.size_alloc, size_setRow, dw_size] <;> omega) | (simp only [List.length_set, Array.length_toList, List.length_cons, List.length_nil, List.length_append, bts_size] <;> omega) | (simp only [List.all_cons, List.all_nil, Value.oneCell', Bool.and_self, Bool.and_true]; done)) [-Option.bind_some, hp_alloc_lt, hp_alloc_eq, hp_set_ne, wrap_small, ups_ap_cons, ups_ap_nil, upd_same, upd_other, env0_ap0, env0_aps, xt_a, xt_b, xt_c, -splice_eq, -stR_cells, stR_box, stR_boxA, stR_row, stR_row0, stR_row1, stR_rowA, stR_rowA0, splice_rowv, splice_rowv0, splice_rowv1, splice_z, splice_n, splice_s, nth_rowv, nth_rowv0, nth_rowv1, rowv_len, M1.blk, X1, M2.blk]
    have N2 := (N1.al _).tr M2
    refine Ret.bind (spec_l20Rd_one_m (ints := [0, 1, 3, -1]) (k := 4) (by omega) (by omega) (by omega) rfl (At.new (cs := [i64 0, i64 1, i64 3, i64 (-1)])) (by omega) (R2.ext (by (repeat (first | exact Ext.rfl | assumption | (refine Ext.al ?_ _) | (refine Ext.dw ?_) | (refine Ext.set ?_ (by first | omega | (simp only [World.size_alloc, size_setRow, dw_size]; omega)) _) | (refine Ext.tr ?_ (by assumption))))))) ?_
    rintro ⟨_, w3⟩ ⟨n2, _, rfl, R3, M3⟩
    have zM3 := M3.size
    try simp only [World.size_alloc, size_setRow, dw_size] at zM3
    try dsimp only at R3 M3
    have zM3 := M3.size
    simp only [World.size_alloc, dw_size] at zM3
    have N3 := (N2.al _).tr M3
    have X3 : hp w3 w.heap.size = some (.cells #[i64 0, i64 0] 25 (0, 0)) := (M3.blk w.heap.size (by (try simp only [In, World.size_alloc, size_setRow, dw_size] at *); omega) (by omega)).trans ((hp_alloc_lt (by omega)).trans ((M2.blk w.heap.size (by (try simp only [In, World.size_alloc, size_setRow, dw_size] at *); omega) (by omega)).trans ((hp_alloc_lt (by omega)).trans X1)))
    simp (maxSteps := 1000000) (disch := first | assumption | omega | (simp only [World.size_alloc, size_setRow, dw_size]; done) | (simp only [World.size_alloc, size_setRow, dw_size] <;> omega) | (simp only [List.length_set, Array.length_toList, List.length_cons, List.length_nil, List.length_append, bts_size] <;> omega) | (simp only [List.all_cons, List.all_nil, Value.oneCell', Bool.and_self, Bool.and_true]; done)) [-Option.bind_some, hp_alloc_lt, hp_alloc_eq, hp_set_ne, wrap_small, ups_ap_cons, ups_ap_nil, upd_same, upd_other, env0_ap0, env0_aps, xt_a, xt_b, xt_c, -splice_eq, -stR_cells, stR_box, stR_boxA, stR_row, stR_row0, stR_row1, stR_rowA, stR_rowA0, splice_rowv, splice_rowv0, splice_rowv1, splice_z, splice_n, splice_s, nth_rowv, nth_rowv0, nth_rowv1, rowv_len, X3, M1.blk, X1, M2.blk, M3.blk, X3]
    refine hQ _ ⟨⟨n1, n2⟩, p + 1 + 1 + 1, rfl, by omega, R3.keep (fun b h hb => hp_set_ne (by omega)), N3.set' (.inl (by omega)) _⟩
end Go.Proofs.YtobejpplmjfkpaaDoor.X
