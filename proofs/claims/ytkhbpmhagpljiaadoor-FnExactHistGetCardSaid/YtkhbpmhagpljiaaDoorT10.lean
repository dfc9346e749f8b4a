/- A part of the proof: an evaluator of the model, its laws, and contracts of functions; no condition. -/
import Derived.Test.YtkhbpmhagpljiaaDoorT9
set_option linter.unusedVariables false
set_option linter.unusedSimpArgs false
set_option maxRecDepth 100000
set_option maxHeartbeats 1000000
namespace Go.Proofs.YtkhbpmhagpljiaaDoor.X
open Go Go.Ev Go.RowKit
/-- The tables, and what the two errors are. -/
structure GlobE (W : World) : Prop where
  g : Glob W
  r : ∃ v, cellO (hp W 3) 0 = some v ∧ ∃ t x, v = .iface t x
  s : ∃ v, cellO (hp W 2) 0 = some v ∧ ∃ t x, v = .iface t x
theorem cellO_ext {w w' : World} (k : Ext w w') {b i : Nat} {v : Value} (h : cellO (hp w b) i = some v) : cellO (hp w' b) i = some v := by
  have : b < w.heap.size := by
    cases hh : hp w b with
    | none => rw [hh] at h; cases h
    | some o => exact hp_lt hh
  rw [k.blk this]
  exact h
theorem GlobE.ext {w w' : World} (h : GlobE w) (k : Ext w w') : GlobE w' := ⟨h.g.ext k, h.r.imp fun v hv => ⟨cellO_ext k hv.1, hv.2⟩, h.s.imp fun v hv => ⟨cellO_ext k hv.1, hv.2⟩⟩
theorem bd_num (a b : ByteArray) (t : TypeId) (x : Value) (w : World) : bd P 112 #[(0, .string a), (1, .string b), (2, .iface t x)] w = some (.agg #[.string a, .string b, .iface t x], w) := bd_of (by kernel_rfl)
theorem syntaxError_m {f l : List UInt8} (hl : l.length ≤ 281474976710656) {w : World} (G : GlobE w) : Ret (EV P 70 #[.string (bts f), .string (bts l)] w) fun r => ∃ b, r.1 = pt b 0 ∧ Ext w r.2 := by
  obtain ⟨v, hv, t, x, rfl⟩ := G.s
  refine Ret.post fun Q hQ => ?_
  refine Ret.enter plain mixed (strconv_syntaxError_fn _ _ _) (by kernel_rfl) (n := 2) (by kernel_rfl) rfl ?_
  simp (maxSteps := 1000000) (disch := first | assumption | omega | (simp only [World.size_alloc, size_setRow, dw_size]; done) | (simp only [World.size_alloc, size_setRow, dw_size] <;> omega) | (simp only [List.length_set, Array.length_toList, List.length_cons, List.length_nil, List.length_append, bts_size] <;> omega) | (simp only [List.all_cons, List.all_nil, Value.oneCell', Bool.and_self, Bool.and_true]; done)) [-Option.bind_some, hp_alloc_lt, hp_alloc_eq, hp_set_ne, wrap_small, ups_ap_cons, ups_ap_nil, upd_same, upd_other, env0_ap0, env0_aps, xt_a, xt_b, xt_c, nk_ptr, -splice_eq, -stR_cells, stR_box, stR_boxA, stR_row, stR_row0, stR_row1, stR_rowA, stR_rowA0, splice_rowv, splice_rowv0, splice_rowv1, splice_z, splice_n, splice_s, nth_rowv, nth_rowv0, nth_rowv1, rowv_len, hv]
  refine Ret.bind (clone_m hl _) ?_
  rintro ⟨_, w1⟩ ⟨rfl, E1⟩
  try dsimp only at E1
  have zE1 := E1.size
  try simp only [World.size_alloc, size_setRow, dw_size] at zE1
  have hv1 := cellO_ext ((dw_ext w).tr E1) hv
  simp (maxSteps := 1000000) (disch := first | assumption | omega | (simp only [World.size_alloc, size_setRow, dw_size]; done) | (simp only [World.size_alloc, size_setRow, dw_size] <;> omega) | (simp only [List.length_set, Array.length_toList, List.length_cons, List.length_nil, List.length_append, bts_size] <;> omega) | (simp only [List.all_cons, List.all_nil, Value.oneCell', Bool.and_self, Bool.and_true]; done)) [-Option.bind_some, hp_alloc_lt, hp_alloc_eq, hp_set_ne, wrap_small, ups_ap_cons, ups_ap_nil, upd_same, upd_other, env0_ap0, env0_aps, xt_a, xt_b, xt_c, nk_ptr, -splice_eq, -stR_cells, stR_box, stR_boxA, stR_row, stR_row0, stR_row1, stR_rowA, stR_rowA0, splice_rowv, splice_rowv0, splice_rowv1, splice_z, splice_n, splice_s, nth_rowv, nth_rowv0, nth_rowv1, rowv_len, hv1, bd_num, E1.blk]
  exact hQ _ ⟨_, rfl, by (repeat (first | exact Ext.rfl | assumption | (refine Ext.al ?_ _) | (refine Ext.dw ?_) | (refine Ext.set ?_ (by first | omega | (simp only [World.size_alloc, size_setRow, dw_size]; omega)) _) | (refine Ext.tr ?_ (by assumption))))⟩
theorem rangeError_m {f l : List UInt8} (hl : l.length ≤ 281474976710656) {w : World} (G : GlobE w) : Ret (EV P 71 #[.string (bts f), .string (bts l)] w) fun r => ∃ b, r.1 = pt b 0 ∧ Ext w r.2 := by
  obtain ⟨v, hv, t, x, rfl⟩ := G.r
  refine Ret.post fun Q hQ => ?_
  refine Ret.enter plain mixed (strconv_rangeError_fn _ _ _) (by kernel_rfl) (n := 2) (by kernel_rfl) rfl ?_
  simp (maxSteps := 1000000) (disch := first | assumption | omega | (simp only [World.size_alloc, size_setRow, dw_size]; done) | (simp only [World.size_alloc, size_setRow, dw_size] <;> omega) | (simp only [List.length_set, Array.length_toList, List.length_cons, List.length_nil, List.length_append, bts_size] <;> omega) | (simp only [List.all_cons, List.all_nil, Value.oneCell', Bool.and_self, Bool.and_true]; done)) [-Option.bind_some, hp_alloc_lt, hp_alloc_eq, hp_set_ne, wrap_small, ups_ap_cons, ups_ap_nil, upd_same, upd_other, env0_ap0, env0_aps, xt_a, xt_b, xt_c, nk_ptr, -splice_eq, -stR_cells, stR_box, stR_boxA, stR_row, stR_row0, stR_row1, stR_rowA, stR_rowA0, splice_rowv, splice_rowv0, splice_rowv1, splice_z, splice_n, splice_s, nth_rowv, nth_rowv0, nth_rowv1, rowv_len, hv]
  refine Ret.bind (clone_m hl _) ?_
  rintro ⟨_, w1⟩ ⟨rfl, E1⟩
  try dsimp only at E1
  have zE1 := E1.size
  try simp only [World.size_alloc, size_setRow, dw_size] at zE1
  have hv1 := cellO_ext ((dw_ext w).tr E1) hv
  simp (maxSteps := 1000000) (disch := first | assumption | omega | (simp only [World.size_alloc, size_setRow, dw_size]; done) | (simp only [World.size_alloc, size_setRow, dw_size] <;> omega) | (simp only [List.length_set, Array.length_toList, List.length_cons, List.length_nil, List.length_append, bts_size] <;> omega) | (simp only [List.all_cons, List.all_nil, Value.oneCell', Bool.and_self, Bool.and_true]; done)) [-Option.bind_some, hp_alloc_lt, hp_alloc_eq, hp_set_ne, wrap_small, ups_ap_cons, ups_ap_nil, upd_same, upd_other, env0_ap0, env0_aps, xt_a, xt_b, xt_c, nk_ptr, -splice_eq, -stR_cells, stR_box, stR_boxA, stR_row, stR_row0, stR_row1, stR_rowA, stR_rowA0, splice_rowv, splice_rowv0, splice_rowv1, splice_z, splice_n, splice_s, nth_rowv, nth_rowv0, nth_rowv1, rowv_len, hv1, bd_num, E1.blk]
  exact hQ _ ⟨_, rfl, by (repeat (first | exact Ext.rfl | assumption | (refine Ext.al ?_ _) | (refine Ext.dw ?_) | (refine Ext.set ?_ (by first | omega | (simp only [World.size_alloc, size_setRow, dw_size]; omega)) _) | (refine Ext.tr ?_ (by assumption))))⟩
theorem mi_num (v : Value) (w : World) : mi P 96 v w = some (.iface 96 v, w) := mi_eq (by kernel_rfl) v w
theorem toError_m {f l : List UInt8} {q : Int} (hq : q = 1 ∨ q = 2) (hl : l.length ≤ 281474976710656) {w : World} (G : GlobE w) : Ret (EV P 57 #[.string (bts f), .string (bts l), i64 0, i64 0, errv q] w) fun r => ∃ u v, r.1 = .iface u v ∧ Ext w r.2 := by
  refine Ret.post fun Q hQ => ?_
  refine Ret.enter plain mixed (strconv_toError_fn _ _ _ _ _ _) (by kernel_rfl) (n := 5) (by kernel_rfl) rfl ?_
  rcases hq with rfl | rfl
  · simp (maxSteps := 1000000) (disch := first | assumption | omega | (simp only [World.size_alloc, size_setRow, dw_size]; done) | (simp only [World.size_alloc, size_setRow, dw_size] <;> omega) | (simp only [List.length_set, Array.length_toList, List.length_cons, List.length_nil, List.length_append, bts_size] <;> omega) | (simp only [List.all_cons, List.all_nil, Value.oneCell', Bool.and_self, Bool.and_true]; done)) [-Option.bind_some, hp_alloc_lt, hp_alloc_eq, hp_set_ne, wrap_small, ups_ap_cons, ups_ap_nil, upd_same, upd_other, env0_ap0, env0_aps, xt_a, xt_b, xt_c, nk_ptr, -splice_eq, -stR_cells, stR_box, stR_boxA, stR_row, stR_row0, stR_row1, stR_rowA, stR_rowA0, splice_rowv, splice_rowv0, splice_rowv1, splice_z, splice_n, splice_s, nth_rowv, nth_rowv0, nth_rowv1, rowv_len, errv1, mi_err, nqe]
    refine Ret.bind (rangeError_m hl G) ?_
    rintro ⟨_, w1⟩ ⟨b, rfl, E1⟩
    try dsimp only at b E1
    have zE1 := E1.size
    try simp only [World.size_alloc, size_setRow, dw_size] at zE1
    simp (maxSteps := 1000000) (disch := first | assumption | omega | (simp only [World.size_alloc, size_setRow, dw_size]; done) | (simp only [World.size_alloc, size_setRow, dw_size] <;> omega) | (simp only [List.length_set, Array.length_toList, List.length_cons, List.length_nil, List.length_append, bts_size] <;> omega) | (simp only [List.all_cons, List.all_nil, Value.oneCell', Bool.and_self, Bool.and_true]; done)) [-Option.bind_some, hp_alloc_lt, hp_alloc_eq, hp_set_ne, wrap_small, ups_ap_cons, ups_ap_nil, upd_same, upd_other, env0_ap0, env0_aps, xt_a, xt_b, xt_c, nk_ptr, -splice_eq, -stR_cells, stR_box, stR_boxA, stR_row, stR_row0, stR_row1, stR_rowA, stR_rowA0, splice_rowv, splice_rowv0, splice_rowv1, splice_z, splice_n, splice_s, nth_rowv, nth_rowv0, nth_rowv1, rowv_len, mi_num, E1.blk]
    exact hQ _ ⟨_, _, rfl, by (repeat (first | exact Ext.rfl | assumption | (refine Ext.al ?_ _) | (refine Ext.dw ?_) | (refine Ext.set ?_ (by first | omega | (simp only [World.size_alloc, size_setRow, dw_size]; omega)) _) | (refine Ext.tr ?_ (by assumption))))⟩
  · simp (maxSteps := 1000000) (disch := first | assumption | omega | (simp only [World.size_alloc, size_setRow, dw_size]; done) | (simp only [World.size_alloc, size_setRow, dw_size] <;> omega) | (simp only [List.length_set, Array.length_toList, List.length_cons, List.length_nil, List.length_append, bts_size] <;> omega) | (simp only [List.all_cons, List.all_nil, Value.oneCell', Bool.and_self, Bool.and_true]; done)) [-Option.bind_some, hp_alloc_lt, hp_alloc_eq, hp_set_ne, wrap_small, ups_ap_cons, ups_ap_nil, upd_same, upd_other, env0_ap0, env0_aps, xt_a, xt_b, xt_c, nk_ptr, -splice_eq, -stR_cells, stR_box, stR_boxA, stR_row, stR_row0, stR_row1, stR_rowA, stR_rowA0, splice_rowv, splice_rowv0, splice_rowv1, splice_z, splice_n, splice_s, nth_rowv, nth_rowv0, nth_rowv1, rowv_len, errv2, mi_err, nqe]
    refine Ret.bind (syntaxError_m hl G) ?_
    rintro ⟨_, w1⟩ ⟨b, rfl, E1⟩
    try dsimp only at b E1
    have zE1 := E1.size
    try simp only [World.size_alloc, size_setRow, dw_size] at zE1
    simp (maxSteps := 1000000) (disch := first | assumption | omega | (simp only [World.size_alloc, size_setRow, dw_size]; done) | (simp only [World.size_alloc, size_setRow, dw_size] <;> omega) | (simp only [List.length_set, Array.length_toList, List.length_cons, List.length_nil, List.length_append, bts_size] <;> omega) | (simp only [List.all_cons, List.all_nil, Value.oneCell', Bool.and_self, Bool.and_true]; done)) [-Option.bind_some, hp_alloc_lt, hp_alloc_eq, hp_set_ne, wrap_small, ups_ap_cons, ups_ap_nil, upd_same, upd_other, env0_ap0, env0_aps, xt_a, xt_b, xt_c, nk_ptr, -splice_eq, -stR_cells, stR_box, stR_boxA, stR_row, stR_row0, stR_row1, stR_rowA, stR_rowA0, splice_rowv, splice_rowv0, splice_rowv1, splice_z, splice_n, splice_s, nth_rowv, nth_rowv0, nth_rowv1, rowv_len, mi_num, E1.blk]
    exact hQ _ ⟨_, _, rfl, by (repeat (first | exact Ext.rfl | assumption | (refine Ext.al ?_ _) | (refine Ext.dw ?_) | (refine Ext.set ?_ (by first | omega | (simp only [World.size_alloc, size_setRow, dw_size]; omega)) _) | (refine Ext.tr ?_ (by assumption))))⟩
theorem atoi0_m {l : List UInt8} (hl : l.length ≤ 281474976710656) (w : World) : Ret (EV P 56 #[.string (bts l)] w) fun r => Ext w r.2 ∧ ∃ m q, r.1 = .tuple #[i64 m, errv q] ∧ (q = 0 ∨ q = 1 ∨ q = 2) ∧ ∀ v : Nat, v ≤ 99999999 → l = decL v → q = 0 ∧ m = v := by
  have hdig : ∀ v : Nat, v ≤ 99999999 → l = decL v → 0 < l.length ∧ l.length < 19 := by
    rintro v hv rfl
    have := decL_pow 7 v (by omega)
    have := decL_len v
    omega
  refine Ret.post fun Q hQ => ?_
  refine Ret.enter plain mixed (internal_strconv_Atoi_fn _ _) (by kernel_rfl) (n := 1) (by kernel_rfl) rfl ?_
  by_cases hf : 0 < l.length ∧ l.length < 19
  · obtain ⟨x, s0, rfl⟩ : ∃ x s0, l = x :: s0 := by
      cases l with
      | nil => simp at hf
      | cons x s0 => exact ⟨x, s0, rfl⟩
    have hix := fun w => ix_bts (P := P) (t := 9) (by kernel_rfl) (x :: s0) (k := .i64) (i := 0) (by decide) (b := x) rfl w
    have hsl := fun w => sl_str_from (P := P) (t := 9) (by kernel_rfl) (x :: s0) (i := 1) (by decide) (by rw [List.length_cons]; omega) w
    rw [show (x :: s0).drop (1 : Int).toNat = s0 from rfl] at hsl
    have hlen : ((x :: s0).length : Int) = (s0.length : Int) + 1 := by rw [List.length_cons]; omega
    rw [List.length_cons] at hf
    have hnd : ∀ v : Nat, v ≤ 99999999 → x :: s0 = decL v → 48 ≤ x.toNat ∧ x.toNat ≤ 57 := by
      intro v hv he
      obtain ⟨c, l, h1, h2, h3⟩ := decL_head v
      rw [h1] at he
      rw [(List.cons.inj he).1]
      exact ⟨h2, h3⟩
    by_cases hsg : x.toNat = 45 ∨ x.toNat = 43
    · have hno : ∀ v : Nat, v ≤ 99999999 → x :: s0 = decL v → False := fun v hv he => by have := hnd v hv he; omega
      have hj : ∀ (e : Env) (w' : World), e 0 = .string (bts s0) → e 5 = .string (bts (x :: s0)) → Ext w w' → Ret (internal_strconv_Atoi_j1 e w') Q := by
        intro e w' e0 e5 E0
        have zE0 := E0.size
        try simp only [World.size_alloc, size_setRow, dw_size] at zE0
        refine Ret.mono (atoi_j (l := s0) (by omega) e0 e5) ?_
        rintro ⟨_, w2⟩ ⟨E2, m, q, rfl, h3, h4⟩
        have zE2 := E2.size
        try simp only [World.size_alloc, size_setRow, dw_size] at zE2
        exact hQ _ ⟨E0.tr E2, m, q, rfl, by omega, fun v hv he => (hno v hv he).elim⟩
      have hs0 : s0.length < 1 ∨ ¬ s0.length < 1 := by omega
      rcases hs0 with hs0 | hs0
      · rcases hsg with h45 | h43
        · have h45' : ((x.toNat : Int) == 45) = true := beq_iff_eq.2 (by omega)
          simp (maxSteps := 1000000) (disch := first | assumption | omega | (simp only [World.size_alloc, size_setRow, dw_size]; done) | (simp only [World.size_alloc, size_setRow, dw_size] <;> omega) | (simp only [List.length_set, Array.length_toList, List.length_cons, List.length_nil, List.length_append, bts_size] <;> omega) | (simp only [List.all_cons, List.all_nil, Value.oneCell', Bool.and_self, Bool.and_true]; done)) [-Option.bind_some, hp_alloc_lt, hp_alloc_eq, hp_set_ne, wrap_small, ups_ap_cons, ups_ap_nil, upd_same, upd_other, env0_ap0, env0_aps, xt_a, xt_b, xt_c, nk_ptr, -splice_eq, -stR_cells, stR_box, stR_boxA, stR_row, stR_row0, stR_row1, stR_rowA, stR_rowA0, splice_rowv, splice_rowv0, splice_rowv1, splice_z, splice_n, splice_s, nth_rowv, nth_rowv0, nth_rowv1, rowv_len, bts_size, hlen, show (s0.length : Int) + 1 < 19 by omega, hix, h45', hsl, show (s0.length : Int) < 1 by omega, mi_err]
          exact hQ _ ⟨by (repeat (first | exact Ext.rfl | assumption | (refine Ext.al ?_ _) | (refine Ext.dw ?_) | (refine Ext.set ?_ (by first | omega | (simp only [World.size_alloc, size_setRow, dw_size]; omega)) _) | (refine Ext.tr ?_ (by assumption)))), 0, 2, rfl, by omega, fun v hv he => (hno v hv he).elim⟩
        · have h45' : ((x.toNat : Int) == 45) = false := beq_eq_false_iff_ne.2 (by omega)
          have h43' : ((x.toNat : Int) == 43) = true := beq_iff_eq.2 (by omega)
          simp (maxSteps := 1000000) (disch := first | assumption | omega | (simp only [World.size_alloc, size_setRow, dw_size]; done) | (simp only [World.size_alloc, size_setRow, dw_size] <;> omega) | (simp only [List.length_set, Array.length_toList, List.length_cons, List.length_nil, List.length_append, bts_size] <;> omega) | (simp only [List.all_cons, List.all_nil, Value.oneCell', Bool.and_self, Bool.and_true]; done)) [-Option.bind_some, hp_alloc_lt, hp_alloc_eq, hp_set_ne, wrap_small, ups_ap_cons, ups_ap_nil, upd_same, upd_other, env0_ap0, env0_aps, xt_a, xt_b, xt_c, nk_ptr, -splice_eq, -stR_cells, stR_box, stR_boxA, stR_row, stR_row0, stR_row1, stR_rowA, stR_rowA0, splice_rowv, splice_rowv0, splice_rowv1, splice_z, splice_n, splice_s, nth_rowv, nth_rowv0, nth_rowv1, rowv_len, bts_size, hlen, show (s0.length : Int) + 1 < 19 by omega, hix, h45', h43', hsl, show (s0.length : Int) < 1 by omega, mi_err]
          exact hQ _ ⟨by (repeat (first | exact Ext.rfl | assumption | (refine Ext.al ?_ _) | (refine Ext.dw ?_) | (refine Ext.set ?_ (by first | omega | (simp only [World.size_alloc, size_setRow, dw_size]; omega)) _) | (refine Ext.tr ?_ (by assumption)))), 0, 2, rfl, by omega, fun v hv he => (hno v hv he).elim⟩
      · rcases hsg with h45 | h43
        · have h45' : ((x.toNat : Int) == 45) = true := beq_iff_eq.2 (by omega)
          simp (maxSteps := 1000000) (disch := first | assumption | omega | (simp only [World.size_alloc, size_setRow, dw_size]; done) | (simp only [World.size_alloc, size_setRow, dw_size] <;> omega) | (simp only [List.length_set, Array.length_toList, List.length_cons, List.length_nil, List.length_append, bts_size] <;> omega) | (simp only [List.all_cons, List.all_nil, Value.oneCell', Bool.and_self, Bool.and_true]; done)) [-Option.bind_some, hp_alloc_lt, hp_alloc_eq, hp_set_ne, wrap_small, ups_ap_cons, ups_ap_nil, upd_same, upd_other, env0_ap0, env0_aps, xt_a, xt_b, xt_c, nk_ptr, -splice_eq, -stR_cells, stR_box, stR_boxA, stR_row, stR_row0, stR_row1, stR_rowA, stR_rowA0, splice_rowv, splice_rowv0, splice_rowv1, splice_z, splice_n, splice_s, nth_rowv, nth_rowv0, nth_rowv1, rowv_len, bts_size, hlen, show (s0.length : Int) + 1 < 19 by omega, hix, h45', hsl, show ¬ (s0.length : Int) < 1 by omega, mi_err]
          exact hj _ _ (by first | omega | assumption | rfl | exact congrArg i64 (by omega) | (simp; done) | (simp; omega)) (by first | omega | assumption | rfl | exact congrArg i64 (by omega) | (simp; done) | (simp; omega)) (by (repeat (first | exact Ext.rfl | assumption | (refine Ext.al ?_ _) | (refine Ext.dw ?_) | (refine Ext.set ?_ (by first | omega | (simp only [World.size_alloc, size_setRow, dw_size]; omega)) _) | (refine Ext.tr ?_ (by assumption)))))
        · have h45' : ((x.toNat : Int) == 45) = false := beq_eq_false_iff_ne.2 (by omega)
          have h43' : ((x.toNat : Int) == 43) = true := beq_iff_eq.2 (by omega)
          simp (maxSteps := 1000000) (disch := first | assumption | omega | (simp only [World.size_alloc, size_setRow, dw_size]; done) | (simp only [World.size_alloc, size_setRow, dw_size] <;> omega) | (simp only [List.length_set, Array.length_toList, List.length_cons, List.length_nil, List.length_append, bts_size] <;> omega) | (simp only [List.all_cons, List.all_nil, Value.oneCell', Bool.and_self, Bool.and_true]; done)) [-Option.bind_some, hp_alloc_lt, hp_alloc_eq, hp_set_ne, wrap_small, ups_ap_cons, ups_ap_nil, upd_same, upd_other, env0_ap0, env0_aps, xt_a, xt_b, xt_c, nk_ptr, -splice_eq, -stR_cells, stR_box, stR_boxA, stR_row, stR_row0, stR_row1, stR_rowA, stR_rowA0, splice_rowv, splice_rowv0, splice_rowv1, splice_z, splice_n, splice_s, nth_rowv, nth_rowv0, nth_rowv1, rowv_len, bts_size, hlen, show (s0.length : Int) + 1 < 19 by omega, hix, h45', h43', hsl, show ¬ (s0.length : Int) < 1 by omega, mi_err]
          exact hj _ _ (by first | omega | assumption | rfl | exact congrArg i64 (by omega) | (simp; done) | (simp; omega)) (by first | omega | assumption | rfl | exact congrArg i64 (by omega) | (simp; done) | (simp; omega)) (by (repeat (first | exact Ext.rfl | assumption | (refine Ext.al ?_ _) | (refine Ext.dw ?_) | (refine Ext.set ?_ (by first | omega | (simp only [World.size_alloc, size_setRow, dw_size]; omega)) _) | (refine Ext.tr ?_ (by assumption)))))
    · have h45' : ((x.toNat : Int) == 45) = false := beq_eq_false_iff_ne.2 (by omega)
      have h43' : ((x.toNat : Int) == 43) = false := beq_eq_false_iff_ne.2 (by omega)
      simp (maxSteps := 1000000) (disch := first | assumption | omega | (simp only [World.size_alloc, size_setRow, dw_size]; done) | (simp only [World.size_alloc, size_setRow, dw_size] <;> omega) | (simp only [List.length_set, Array.length_toList, List.length_cons, List.length_nil, List.length_append, bts_size] <;> omega) | (simp only [List.all_cons, List.all_nil, Value.oneCell', Bool.and_self, Bool.and_true]; done)) [-Option.bind_some, hp_alloc_lt, hp_alloc_eq, hp_set_ne, wrap_small, ups_ap_cons, ups_ap_nil, upd_same, upd_other, env0_ap0, env0_aps, xt_a, xt_b, xt_c, nk_ptr, -splice_eq, -stR_cells, stR_box, stR_boxA, stR_row, stR_row0, stR_row1, stR_rowA, stR_rowA0, splice_rowv, splice_rowv0, splice_rowv1, splice_z, splice_n, splice_s, nth_rowv, nth_rowv0, nth_rowv1, rowv_len, bts_size, hlen, show (s0.length : Int) + 1 < 19 by omega, hix, h45', h43']
      refine Ret.mono (atoi_j (l := x :: s0) (x := x) (s0 := s0) hl (by first | omega | assumption | rfl | exact congrArg i64 (by omega) | (simp; done) | (simp; omega)) (by first | omega | assumption | rfl | exact congrArg i64 (by omega) | (simp; done) | (simp; omega))) ?_
      rintro ⟨_, w2⟩ ⟨E2, m, q, rfl, h3, h4⟩
      have zE2 := E2.size
      try simp only [World.size_alloc, size_setRow, dw_size] at zE2
      refine hQ _ ⟨E2, m, q, rfl, by omega, fun v hv he => ?_⟩
      exact h4 v (by rw [he]; exact atoiL_dec v (by omega)) (fun hx => by rw [hx] at hsg; exact hsg (Or.inl rfl))
  · have hno : ∀ v : Nat, v ≤ 99999999 → l = decL v → False := fun v hv he => hf (hdig v hv he)
    have hf' : ¬ (0 < l.length) ∨ (0 < l.length ∧ ¬ (l.length : Int) < 19) := by omega
    rcases hf' with h0 | ⟨h0, h19⟩
    · simp (maxSteps := 1000000) (disch := first | assumption | omega | (simp only [World.size_alloc, size_setRow, dw_size]; done) | (simp only [World.size_alloc, size_setRow, dw_size] <;> omega) | (simp only [List.length_set, Array.length_toList, List.length_cons, List.length_nil, List.length_append, bts_size] <;> omega) | (simp only [List.all_cons, List.all_nil, Value.oneCell', Bool.and_self, Bool.and_true]; done)) [-Option.bind_some, hp_alloc_lt, hp_alloc_eq, hp_set_ne, wrap_small, ups_ap_cons, ups_ap_nil, upd_same, upd_other, env0_ap0, env0_aps, xt_a, xt_b, xt_c, nk_ptr, -splice_eq, -stR_cells, stR_box, stR_boxA, stR_row, stR_row0, stR_row1, stR_rowA, stR_rowA0, splice_rowv, splice_rowv0, splice_rowv1, splice_z, splice_n, splice_s, nth_rowv, nth_rowv0, nth_rowv1, rowv_len, bts_size, h0]
      refine Ret.bind (parseInt_m hl _) ?_
      rintro ⟨_, w1⟩ ⟨E1, m, q, rfl, h3⟩
      try dsimp only at E1 m q h3
      have zE1 := E1.size
      try simp only [World.size_alloc, size_setRow, dw_size] at zE1
      simp (maxSteps := 1000000) (disch := first | assumption | omega | (simp only [World.size_alloc, size_setRow, dw_size]; done) | (simp only [World.size_alloc, size_setRow, dw_size] <;> omega) | (simp only [List.length_set, Array.length_toList, List.length_cons, List.length_nil, List.length_append, bts_size] <;> omega) | (simp only [List.all_cons, List.all_nil, Value.oneCell', Bool.and_self, Bool.and_true]; done)) [-Option.bind_some, hp_alloc_lt, hp_alloc_eq, hp_set_ne, wrap_small, ups_ap_cons, ups_ap_nil, upd_same, upd_other, env0_ap0, env0_aps, xt_a, xt_b, xt_c, nk_ptr, -splice_eq, -stR_cells, stR_box, stR_boxA, stR_row, stR_row0, stR_row1, stR_rowA, stR_rowA0, splice_rowv, splice_rowv0, splice_rowv1, splice_z, splice_n, splice_s, nth_rowv, nth_rowv0, nth_rowv1, rowv_len, E1.blk]
      exact hQ _ ⟨by (repeat (first | exact Ext.rfl | assumption | (refine Ext.al ?_ _) | (refine Ext.dw ?_) | (refine Ext.set ?_ (by first | omega | (simp only [World.size_alloc, size_setRow, dw_size]; omega)) _) | (refine Ext.tr ?_ (by assumption)))), m, q, rfl, h3, fun v hv he => (hno v hv he).elim⟩
    · simp (maxSteps := 1000000) (disch := first | assumption | omega | (simp only [World.size_alloc, size_setRow, dw_size]; done) | (simp only [World.size_alloc, size_setRow, dw_size] <;> omega) | (simp only [List.length_set, Array.length_toList, List.length_cons, List.length_nil, List.length_append, bts_size] <;> omega) | (simp only [List.all_cons, List.all_nil, Value.oneCell', Bool.and_self, Bool.and_true]; done)) [-Option.bind_some, hp_alloc_lt, hp_alloc_eq, hp_set_ne, wrap_small, ups_ap_cons, ups_ap_nil, upd_same, upd_other, env0_ap0, env0_aps, xt_a, xt_b, xt_c, nk_ptr, -splice_eq, -stR_cells, stR_box, stR_boxA, stR_row, stR_row0, stR_row1, stR_rowA, stR_rowA0, splice_rowv, splice_rowv0, splice_rowv1, splice_z, splice_n, splice_s, nth_rowv, nth_rowv0, nth_rowv1, rowv_len, bts_size, h0, h19]
      refine Ret.bind (parseInt_m hl _) ?_
      rintro ⟨_, w1⟩ ⟨E1, m, q, rfl, h3⟩
      try dsimp only at E1 m q h3
      have zE1 := E1.size
      try simp only [World.size_alloc, size_setRow, dw_size] at zE1
      simp (maxSteps := 1000000) (disch := first | assumption | omega | (simp only [World.size_alloc, size_setRow, dw_size]; done) | (simp only [World.size_alloc, size_setRow, dw_size] <;> omega) | (simp only [List.length_set, Array.length_toList, List.length_cons, List.length_nil, List.length_append, bts_size] <;> omega) | (simp only [List.all_cons, List.all_nil, Value.oneCell', Bool.and_self, Bool.and_true]; done)) [-Option.bind_some, hp_alloc_lt, hp_alloc_eq, hp_set_ne, wrap_small, ups_ap_cons, ups_ap_nil, upd_same, upd_other, env0_ap0, env0_aps, xt_a, xt_b, xt_c, nk_ptr, -splice_eq, -stR_cells, stR_box, stR_boxA, stR_row, stR_row0, stR_row1, stR_rowA, stR_rowA0, splice_rowv, splice_rowv0, splice_rowv1, splice_z, splice_n, splice_s, nth_rowv, nth_rowv0, nth_rowv1, rowv_len, E1.blk]
      exact hQ _ ⟨by (repeat (first | exact Ext.rfl | assumption | (refine Ext.al ?_ _) | (refine Ext.dw ?_) | (refine Ext.set ?_ (by first | omega | (simp only [World.size_alloc, size_setRow, dw_size]; omega)) _) | (refine Ext.tr ?_ (by assumption)))), m, q, rfl, h3, fun v hv he => (hno v hv he).elim⟩
theorem atoi_m {l : List UInt8} (hl : l.length ≤ 281474976710656) {w : World} (G : GlobE w) : Ret (EV P 47 #[.string (bts l)] w) fun r => Ext w r.2 ∧ ∃ m er, r.1 = .tuple #[i64 m, er] ∧ (er = .nilIface ∨ ∃ u v, er = .iface u v) ∧ ∀ v : Nat, v ≤ 99999999 → l = decL v → er = .nilIface ∧ m = v := by
  refine Ret.post fun Q hQ => ?_
  refine Ret.enter plain mixed (strconv_Atoi_fn _ _) (by kernel_rfl) (n := 1) (by kernel_rfl) rfl ?_
  simp (maxSteps := 1000000) (disch := first | assumption | omega | (simp only [World.size_alloc, size_setRow, dw_size]; done) | (simp only [World.size_alloc, size_setRow, dw_size] <;> omega) | (simp only [List.length_set, Array.length_toList, List.length_cons, List.length_nil, List.length_append, bts_size] <;> omega) | (simp only [List.all_cons, List.all_nil, Value.oneCell', Bool.and_self, Bool.and_true]; done)) [-Option.bind_some, hp_alloc_lt, hp_alloc_eq, hp_set_ne, wrap_small, ups_ap_cons, ups_ap_nil, upd_same, upd_other, env0_ap0, env0_aps, xt_a, xt_b, xt_c, nk_ptr, -splice_eq, -stR_cells, stR_box, stR_boxA, stR_row, stR_row0, stR_row1, stR_rowA, stR_rowA0, splice_rowv, splice_rowv0, splice_rowv1, splice_z, splice_n, splice_s, nth_rowv, nth_rowv0, nth_rowv1, rowv_len]
  refine Ret.bind (atoi0_m hl _) ?_
  rintro ⟨_, w1⟩ ⟨E1, m, q, rfl, h3, h4⟩
  try dsimp only at E1 m q h3 h4
  have zE1 := E1.size
  try simp only [World.size_alloc, size_setRow, dw_size] at zE1
  by_cases hq0 : q = 0
  · subst hq0
    simp (maxSteps := 1000000) (disch := first | assumption | omega | (simp only [World.size_alloc, size_setRow, dw_size]; done) | (simp only [World.size_alloc, size_setRow, dw_size] <;> omega) | (simp only [List.length_set, Array.length_toList, List.length_cons, List.length_nil, List.length_append, bts_size] <;> omega) | (simp only [List.all_cons, List.all_nil, Value.oneCell', Bool.and_self, Bool.and_true]; done)) [-Option.bind_some, hp_alloc_lt, hp_alloc_eq, hp_set_ne, wrap_small, ups_ap_cons, ups_ap_nil, upd_same, upd_other, env0_ap0, env0_aps, xt_a, xt_b, xt_c, nk_ptr, -splice_eq, -stR_cells, stR_box, stR_boxA, stR_row, stR_row0, stR_row1, stR_rowA, stR_rowA0, splice_rowv, splice_rowv0, splice_rowv1, splice_z, splice_n, splice_s, nth_rowv, nth_rowv0, nth_rowv1, rowv_len, errv0, nn0, E1.blk]
    exact hQ _ ⟨by (repeat (first | exact Ext.rfl | assumption | (refine Ext.al ?_ _) | (refine Ext.dw ?_) | (refine Ext.set ?_ (by first | omega | (simp only [World.size_alloc, size_setRow, dw_size]; omega)) _) | (refine Ext.tr ?_ (by assumption)))), m, _, rfl, Or.inl rfl, fun v hv he => ⟨rfl, (h4 v hv he).2⟩⟩
  · have hne : ∀ n w, bo P .neq 48 (.tmp n) (.const .nilIface) (errv q) .nilIface w = some (.bool true, w) := fun n w => by
      unfold errv
      rw [if_neg hq0]
      exact nn1 n _ _ w
    simp (maxSteps := 1000000) (disch := first | assumption | omega | (simp only [World.size_alloc, size_setRow, dw_size]; done) | (simp only [World.size_alloc, size_setRow, dw_size] <;> omega) | (simp only [List.length_set, Array.length_toList, List.length_cons, List.length_nil, List.length_append, bts_size] <;> omega) | (simp only [List.all_cons, List.all_nil, Value.oneCell', Bool.and_self, Bool.and_true]; done)) [-Option.bind_some, hp_alloc_lt, hp_alloc_eq, hp_set_ne, wrap_small, ups_ap_cons, ups_ap_nil, upd_same, upd_other, env0_ap0, env0_aps, xt_a, xt_b, xt_c, nk_ptr, -splice_eq, -stR_cells, stR_box, stR_boxA, stR_row, stR_row0, stR_row1, stR_rowA, stR_rowA0, splice_rowv, splice_rowv0, splice_rowv1, splice_z, splice_n, splice_s, nth_rowv, nth_rowv0, nth_rowv1, rowv_len, hne, E1.blk]
    refine Ret.bind (toError_m (q := q) (by omega) hl (G.ext (by (repeat (first | exact Ext.rfl | assumption | (refine Ext.al ?_ _) | (refine Ext.dw ?_) | (refine Ext.set ?_ (by first | omega | (simp only [World.size_alloc, size_setRow, dw_size]; omega)) _) | (refine Ext.tr ?_ (by assumption))))))) ?_
    rintro ⟨_, w2⟩ ⟨u, v, rfl, E2⟩
    try dsimp only at u v E2
    have zE2 := E2.size
    try simp only [World.size_alloc, size_setRow, dw_size] at zE2
    simp (maxSteps := 1000000) (disch := first | assumption | omega | (simp only [World.size_alloc, size_setRow, dw_size]; done) | (simp only [World.size_alloc, size_setRow, dw_size] <;> omega) | (simp only [List.length_set, Array.length_toList, List.length_cons, List.length_nil, List.length_append, bts_size] <;> omega) | (simp only [List.all_cons, List.all_nil, Value.oneCell', Bool.and_self, Bool.and_true]; done)) [-Option.bind_some, hp_alloc_lt, hp_alloc_eq, hp_set_ne, wrap_small, ups_ap_cons, ups_ap_nil, upd_same, upd_other, env0_ap0, env0_aps, xt_a, xt_b, xt_c, nk_ptr, -splice_eq, -stR_cells, stR_box, stR_boxA, stR_row, stR_row0, stR_row1, stR_rowA, stR_rowA0, splice_rowv, splice_rowv0, splice_rowv1, splice_z, splice_n, splice_s, nth_rowv, nth_rowv0, nth_rowv1, rowv_len, E1.blk, E2.blk]
    exact hQ _ ⟨by (repeat (first | exact Ext.rfl | assumption | (refine Ext.al ?_ _) | (refine Ext.dw ?_) | (refine Ext.set ?_ (by first | omega | (simp only [World.size_alloc, size_setRow, dw_size]; omega)) _) | (refine Ext.tr ?_ (by assumption)))), m, _, rfl, Or.inr ⟨u, v, rfl⟩, fun v hv he => absurd (h4 v hv he).1 hq0⟩
end Go.Proofs.YtkhbpmhagpljiaaDoor.X
