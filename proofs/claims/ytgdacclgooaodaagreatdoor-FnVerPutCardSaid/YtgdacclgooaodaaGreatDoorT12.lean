/- A part of the proof: an evaluator of the model, its laws, and contracts of functions; no condition. -/
import Derived.Test.YtgdacclgooaodaaGreatDoorEvLv
import Derived.Test.YtgdacclgooaodaaGreatDoorT10
set_option linter.unusedVariables false
set_option linter.unusedSimpArgs false
set_option maxRecDepth 100000
set_option maxHeartbeats 1000000
namespace Go.Proofs.YtgdacclgooaodaaGreatDoor.X
open Go Go.Ev Go.RowKit
abbrev tStrs : Lay (List ByteArray) := LList 9 8796093021952 LStr
end Go.Proofs.YtgdacclgooaodaaGreatDoor.X
set_option linter.unusedVariables false
set_option linter.unusedSimpArgs false
set_option maxRecDepth 100000
set_option maxHeartbeats 1000000
namespace Go.Proofs.YtgdacclgooaodaaGreatDoor.X
open Go Go.Ev Go.RowKit
def TagGot (l : List UInt8) (t : Tag) (ok : Bool) : Prop := (ok = true → tagOk t = true ∧ tagL t = l) ∧ (ok = false → t = ⟨0, 0⟩ ∧ ∀ t', tagOk t' = true → tagL t' ≠ l)
theorem TagGot.eq {l : List UInt8} {t t' : Tag} {ok ok' : Bool} (h : TagGot l t ok) (h' : TagGot l t' ok') : t = t' ∧ ok = ok' := by
  cases ok <;> cases ok'
  · exact ⟨(h.2 rfl).1.trans (h'.2 rfl).1.symm, rfl⟩
  · exact absurd (h'.1 rfl).2 ((h.2 rfl).2 _ (h'.1 rfl).1)
  · exact absurd (h.1 rfl).2 ((h'.2 rfl).2 _ (h.1 rfl).1)
  · exact ⟨tagL_inj (h.1 rfl).1 (h'.1 rfl).1 ((h.1 rfl).2.trans (h'.1 rfl).2.symm), rfl⟩
theorem tag_cut {t : Tag} {l : List UInt8} (h : tagL t = l) : cutL 46 l = some (decL t.t.toNat, decL t.p.toNat) := by
  rw [← h, tagL]
  exact cutL_app (dec_noc (by decide) _)
theorem cutV_some (l : List UInt8) : ∃ a b f, cutV 46 l = .tuple #[.string (bts a), .string (bts b), .bool f] ∧ a.length ≤ l.length ∧ b.length ≤ l.length ∧ ∀ t', tagL t' = l → a = decL t'.t.toNat ∧ b = decL t'.p.toNat := by
  unfold cutV
  cases hc : cutL 46 l with
  | none => exact ⟨l, [], false, rfl, Nat.le_refl _, Nat.zero_le _, fun t' h => by rw [tag_cut h] at hc; cases hc⟩
  | some p =>
    have h1 := (cutL_eq hc).1
    have hlen : l.length = p.1.length + (p.2.length + 1) := by conv => lhs; rw [h1]; simp
    refine ⟨p.1, p.2, true, rfl, by omega, by omega, fun t' h => ?_⟩
    rw [tag_cut h] at hc
    obtain rfl := Option.some.inj hc
    exact ⟨rfl, rfl⟩
theorem impl_TagGet_m {l : List UInt8} (hl : l.length ≤ 140737488351232) {w : World} (G : GlobE w) : Ret (EV P 25 #[.string (bts l)] w) fun r => ∃ t ok, r.1 = .tuple #[t.v, .bool ok] ∧ TagGot l t ok ∧ Ext w r.2 := by
  obtain ⟨a, b, f, hV, ha, hb, hu⟩ := cutV_some l
  refine Ret.post fun Q hQ => ?_
  refine Ret.enter plain mixed (impl_TagGet_fn _ _) (by kernel_rfl) (n := 1) (by kernel_rfl) rfl ?_
  simp (maxSteps := 1000000) (disch := first | assumption | omega | (simp only [World.size_alloc, size_setRow, dw_size]; done) | (simp only [World.size_alloc, size_setRow, dw_size] <;> omega) | (simp only [List.length_set, Array.length_toList, List.length_cons, List.length_nil, List.length_append, bts_size] <;> omega) | (simp only [List.all_cons, List.all_nil, Value.oneCell', Bool.and_self, Bool.and_true]; done)) [-Option.bind_some, hp_alloc_lt, hp_alloc_eq, hp_set_ne, wrap_small, ups_ap_cons, ups_ap_nil, upd_same, upd_other, env0_ap0, env0_aps, xt_a, xt_b, xt_c, -splice_eq, -stR_cells, stR_box, stR_boxA, stR_row, stR_row0, stR_row1, stR_rowA, stR_rowA0, splice_rowv, splice_rowv0, splice_rowv1, splice_z, splice_n, splice_s, nth_rowv, nth_rowv0, nth_rowv1, rowv_len, mk_bts]
  refine Ret.bind (cut_m (by omega) 46 _) ?_
  rintro ⟨_, w1⟩ ⟨rfl, E1⟩
  try dsimp only at E1
  have zE1 := E1.size
  try simp only [World.size_alloc, size_setRow, dw_size] at zE1
  rw [hV]
  simp (maxSteps := 1000000) (disch := first | assumption | omega | (simp only [World.size_alloc, size_setRow, dw_size]; done) | (simp only [World.size_alloc, size_setRow, dw_size] <;> omega) | (simp only [List.length_set, Array.length_toList, List.length_cons, List.length_nil, List.length_append, bts_size] <;> omega) | (simp only [List.all_cons, List.all_nil, Value.oneCell', Bool.and_self, Bool.and_true]; done)) [-Option.bind_some, hp_alloc_lt, hp_alloc_eq, hp_set_ne, wrap_small, ups_ap_cons, ups_ap_nil, upd_same, upd_other, env0_ap0, env0_aps, xt_a, xt_b, xt_c, -splice_eq, -stR_cells, stR_box, stR_boxA, stR_row, stR_row0, stR_row1, stR_rowA, stR_rowA0, splice_rowv, splice_rowv0, splice_rowv1, splice_z, splice_n, splice_s, nth_rowv, nth_rowv0, nth_rowv1, rowv_len, E1.blk]
  refine Ret.bind (atoi_m (by omega) (G.ext (by (repeat (first | exact Ext.rfl | assumption | (refine Ext.al ?_ _) | (refine Ext.dw ?_) | (refine Ext.set ?_ (by first | omega | (simp only [World.size_alloc, size_setRow, dw_size]; omega)) _) | (refine Ext.tr ?_ (by assumption))))))) ?_
  rintro ⟨_, w2⟩ ⟨E2, m1, er1, rfl, he1, hv1⟩
  try dsimp only at E2 m1 er1 he1 hv1
  have zE2 := E2.size
  try simp only [World.size_alloc, size_setRow, dw_size] at zE2
  simp (maxSteps := 1000000) (disch := first | assumption | omega | (simp only [World.size_alloc, size_setRow, dw_size]; done) | (simp only [World.size_alloc, size_setRow, dw_size] <;> omega) | (simp only [List.length_set, Array.length_toList, List.length_cons, List.length_nil, List.length_append, bts_size] <;> omega) | (simp only [List.all_cons, List.all_nil, Value.oneCell', Bool.and_self, Bool.and_true]; done)) [-Option.bind_some, hp_alloc_lt, hp_alloc_eq, hp_set_ne, wrap_small, ups_ap_cons, ups_ap_nil, upd_same, upd_other, env0_ap0, env0_aps, xt_a, xt_b, xt_c, -splice_eq, -stR_cells, stR_box, stR_boxA, stR_row, stR_row0, stR_row1, stR_rowA, stR_rowA0, splice_rowv, splice_rowv0, splice_rowv1, splice_z, splice_n, splice_s, nth_rowv, nth_rowv0, nth_rowv1, rowv_len, E1.blk, E2.blk]
  refine Ret.bind (atoi_m (by omega) (G.ext (by (repeat (first | exact Ext.rfl | assumption | (refine Ext.al ?_ _) | (refine Ext.dw ?_) | (refine Ext.set ?_ (by first | omega | (simp only [World.size_alloc, size_setRow, dw_size]; omega)) _) | (refine Ext.tr ?_ (by assumption))))))) ?_
  rintro ⟨_, w3⟩ ⟨E3, m2, er2, rfl, he2, hv2⟩
  try dsimp only at E3 m2 er2 he2 hv2
  have zE3 := E3.size
  try simp only [World.size_alloc, size_setRow, dw_size] at zE3
  have hno : ∀ t', tagOk t' = true → tagL t' = l → er1 = .nilIface ∧ er2 = .nilIface ∧ t' = ⟨m1, m2⟩ := by
    intro t' h1 h2
    obtain ⟨h3, h4⟩ := hu t' h2
    have hr := tagOk_rng h1
    have h5 := hv1 t'.t.toNat (by omega) h3
    have h6 := hv2 t'.p.toNat (by omega) h4
    refine ⟨h5.1, h6.1, ?_⟩
    have q5 : t'.t = m1 := by omega
    have q6 : t'.p = m2 := by omega
    rw [← q5, ← q6]
  have X0 : hp w3 w.heap.size = some (.cells #[i64 0, i64 0] 23 (0, 0)) := (by first | assumption | rfl | (simp (maxSteps := 1000000) (disch := first | assumption | omega | (simp only [World.size_alloc, size_setRow, dw_size]; done) | (simp only [World.size_alloc, size_setRow, dw_size] <;> omega) | (simp only [List.length_set, Array.length_toList, List.length_cons, List.length_nil, List.length_append, bts_size] <;> omega) | (simp only [List.all_cons, List.all_nil, Value.oneCell', Bool.and_self, Bool.and_true]; done)) [-Option.bind_some, hp_alloc_lt, hp_alloc_eq, hp_set_ne, wrap_small, ups_ap_cons, ups_ap_nil, upd_same, upd_other, env0_ap0, env0_aps, xt_a, xt_b, xt_c, -splice_eq, -stR_cells, stR_box, stR_boxA, stR_row, stR_row0, stR_row1, stR_rowA, stR_rowA0, splice_rowv, splice_rowv0, splice_rowv1, splice_z, splice_n, splice_s, nth_rowv, nth_rowv0, nth_rowv1, rowv_len, E1.blk, E2.blk, E3.blk]; done))
  rcases he1 with rfl | ⟨u1, x1, rfl⟩
  · rcases he2 with rfl | ⟨u2, x2, rfl⟩
    · simp (maxSteps := 1000000) (disch := first | assumption | omega | (simp only [World.size_alloc, size_setRow, dw_size]; done) | (simp only [World.size_alloc, size_setRow, dw_size] <;> omega) | (simp only [List.length_set, Array.length_toList, List.length_cons, List.length_nil, List.length_append, bts_size] <;> omega) | (simp only [List.all_cons, List.all_nil, Value.oneCell', Bool.and_self, Bool.and_true]; done)) [-Option.bind_some, hp_alloc_lt, hp_alloc_eq, hp_set_ne, wrap_small, ups_ap_cons, ups_ap_nil, upd_same, upd_other, env0_ap0, env0_aps, xt_a, xt_b, xt_c, -splice_eq, -stR_cells, stR_box, stR_boxA, stR_row, stR_row0, stR_row1, stR_rowA, stR_rowA0, splice_rowv, splice_rowv0, splice_rowv1, splice_z, splice_n, splice_s, nth_rowv, nth_rowv0, nth_rowv1, rowv_len, nn0, E1.blk, E2.blk, E3.blk, X0]
      refine Ret.bind (impl_TagOk_c ⟨m1, m2⟩ _) ?_
      rintro ⟨_, w4⟩ ⟨rfl, E4⟩
      try dsimp only at E4
      have zE4 := E4.size
      try simp only [World.size_alloc, size_setRow, dw_size] at zE4
      cases hok : tagOk ⟨m1, m2⟩
      · simp (maxSteps := 1000000) (disch := first | assumption | omega | (simp only [World.size_alloc, size_setRow, dw_size]; done) | (simp only [World.size_alloc, size_setRow, dw_size] <;> omega) | (simp only [List.length_set, Array.length_toList, List.length_cons, List.length_nil, List.length_append, bts_size] <;> omega) | (simp only [List.all_cons, List.all_nil, Value.oneCell', Bool.and_self, Bool.and_true]; done)) [-Option.bind_some, hp_alloc_lt, hp_alloc_eq, hp_set_ne, wrap_small, ups_ap_cons, ups_ap_nil, upd_same, upd_other, env0_ap0, env0_aps, xt_a, xt_b, xt_c, X0, E1.blk, E2.blk, E3.blk, X0, E4.blk]
        exact hQ _ ⟨⟨0, 0⟩, false, rfl, ⟨by simp, fun _ => ⟨rfl, fun t' h1 h2 => by rw [(hno t' h1 h2).2.2, hok] at h1; cases h1⟩⟩, by (repeat (first | exact Ext.rfl | assumption | (refine Ext.al ?_ _) | (refine Ext.dw ?_) | (refine Ext.set ?_ (by first | omega | (simp only [World.size_alloc, size_setRow, dw_size]; omega)) _) | (refine Ext.tr ?_ (by assumption))))⟩
      · simp (maxSteps := 1000000) (disch := first | assumption | omega | (simp only [World.size_alloc, size_setRow, dw_size]; done) | (simp only [World.size_alloc, size_setRow, dw_size] <;> omega) | (simp only [List.length_set, Array.length_toList, List.length_cons, List.length_nil, List.length_append, bts_size] <;> omega) | (simp only [List.all_cons, List.all_nil, Value.oneCell', Bool.and_self, Bool.and_true]; done)) [-Option.bind_some, hp_alloc_lt, hp_alloc_eq, hp_set_ne, wrap_small, ups_ap_cons, ups_ap_nil, upd_same, upd_other, env0_ap0, env0_aps, xt_a, xt_b, xt_c, -splice_eq, -stR_cells, stR_box, stR_boxA, stR_row, stR_row0, stR_row1, stR_rowA, stR_rowA0, splice_rowv, splice_rowv0, splice_rowv1, splice_z, splice_n, splice_s, nth_rowv, nth_rowv0, nth_rowv1, rowv_len, E1.blk, E2.blk, E3.blk, X0, E4.blk]
        refine Ret.bind (impl_Tag_text_m hok (G.g.ext (by (repeat (first | exact Ext.rfl | assumption | (refine Ext.al ?_ _) | (refine Ext.dw ?_) | (refine Ext.set ?_ (by first | omega | (simp only [World.size_alloc, size_setRow, dw_size]; omega)) _) | (refine Ext.tr ?_ (by assumption))))))) ?_
        rintro ⟨_, w5⟩ ⟨rfl, E5⟩
        try dsimp only at E5
        have zE5 := E5.size
        try simp only [World.size_alloc, size_setRow, dw_size] at zE5
        by_cases hte : tagL ⟨m1, m2⟩ = l
        · simp (maxSteps := 1000000) (disch := first | assumption | omega | (simp only [World.size_alloc, size_setRow, dw_size]; done) | (simp only [World.size_alloc, size_setRow, dw_size] <;> omega) | (simp only [List.length_set, Array.length_toList, List.length_cons, List.length_nil, List.length_append, bts_size] <;> omega) | (simp only [List.all_cons, List.all_nil, Value.oneCell', Bool.and_self, Bool.and_true]; done)) [-Option.bind_some, hp_alloc_lt, hp_alloc_eq, hp_set_ne, wrap_small, ups_ap_cons, ups_ap_nil, upd_same, upd_other, env0_ap0, env0_aps, xt_a, xt_b, xt_c, bo_neq_str, bts_list, hte, X0, E1.blk, E2.blk, E3.blk, X0, E4.blk, E5.blk]
          exact hQ _ ⟨⟨m1, m2⟩, true, rfl, ⟨fun _ => ⟨hok, hte⟩, by simp⟩, by (repeat (first | exact Ext.rfl | assumption | (refine Ext.al ?_ _) | (refine Ext.dw ?_) | (refine Ext.set ?_ (by first | omega | (simp only [World.size_alloc, size_setRow, dw_size]; omega)) _) | (refine Ext.tr ?_ (by assumption))))⟩
        · have hte' : (tagL ⟨m1, m2⟩ == l) = false := beq_eq_false_iff_ne.2 hte
          simp (maxSteps := 1000000) (disch := first | assumption | omega | (simp only [World.size_alloc, size_setRow, dw_size]; done) | (simp only [World.size_alloc, size_setRow, dw_size] <;> omega) | (simp only [List.length_set, Array.length_toList, List.length_cons, List.length_nil, List.length_append, bts_size] <;> omega) | (simp only [List.all_cons, List.all_nil, Value.oneCell', Bool.and_self, Bool.and_true]; done)) [-Option.bind_some, hp_alloc_lt, hp_alloc_eq, hp_set_ne, wrap_small, ups_ap_cons, ups_ap_nil, upd_same, upd_other, env0_ap0, env0_aps, xt_a, xt_b, xt_c, bo_neq_str, bts_list, hte', X0, E1.blk, E2.blk, E3.blk, X0, E4.blk, E5.blk]
          exact hQ _ ⟨⟨0, 0⟩, false, rfl, ⟨by simp, fun _ => ⟨rfl, fun t' h1 h2 => hte (by rw [← (hno t' h1 h2).2.2]; exact h2)⟩⟩, by (repeat (first | exact Ext.rfl | assumption | (refine Ext.al ?_ _) | (refine Ext.dw ?_) | (refine Ext.set ?_ (by first | omega | (simp only [World.size_alloc, size_setRow, dw_size]; omega)) _) | (refine Ext.tr ?_ (by assumption))))⟩
    · simp (maxSteps := 1000000) (disch := first | assumption | omega | (simp only [World.size_alloc, size_setRow, dw_size]; done) | (simp only [World.size_alloc, size_setRow, dw_size] <;> omega) | (simp only [List.length_set, Array.length_toList, List.length_cons, List.length_nil, List.length_append, bts_size] <;> omega) | (simp only [List.all_cons, List.all_nil, Value.oneCell', Bool.and_self, Bool.and_true]; done)) [-Option.bind_some, hp_alloc_lt, hp_alloc_eq, hp_set_ne, wrap_small, ups_ap_cons, ups_ap_nil, upd_same, upd_other, env0_ap0, env0_aps, xt_a, xt_b, xt_c, nn0, nn1, X0, E1.blk, E2.blk, E3.blk, X0]
      exact hQ _ ⟨⟨0, 0⟩, false, rfl, ⟨by simp, fun _ => ⟨rfl, fun t' h1 h2 => by have := (hno t' h1 h2).2.1; cases this⟩⟩, by (repeat (first | exact Ext.rfl | assumption | (refine Ext.al ?_ _) | (refine Ext.dw ?_) | (refine Ext.set ?_ (by first | omega | (simp only [World.size_alloc, size_setRow, dw_size]; omega)) _) | (refine Ext.tr ?_ (by assumption))))⟩
  · simp (maxSteps := 1000000) (disch := first | assumption | omega | (simp only [World.size_alloc, size_setRow, dw_size]; done) | (simp only [World.size_alloc, size_setRow, dw_size] <;> omega) | (simp only [List.length_set, Array.length_toList, List.length_cons, List.length_nil, List.length_append, bts_size] <;> omega) | (simp only [List.all_cons, List.all_nil, Value.oneCell', Bool.and_self, Bool.and_true]; done)) [-Option.bind_some, hp_alloc_lt, hp_alloc_eq, hp_set_ne, wrap_small, ups_ap_cons, ups_ap_nil, upd_same, upd_other, env0_ap0, env0_aps, xt_a, xt_b, xt_c, nn0, nn1, X0, E1.blk, E2.blk, E3.blk, X0]
    exact hQ _ ⟨⟨0, 0⟩, false, rfl, ⟨by simp, fun _ => ⟨rfl, fun t' h1 h2 => by have := (hno t' h1 h2).1; cases this⟩⟩, by (repeat (first | exact Ext.rfl | assumption | (refine Ext.al ?_ _) | (refine Ext.dw ?_) | (refine Ext.set ?_ (by first | omega | (simp only [World.size_alloc, size_setRow, dw_size]; omega)) _) | (refine Ext.tr ?_ (by assumption))))⟩
theorem rdS {a : Option Addr} {q n i : Nat} {xs : List ByteArray} {x : ByteArray} {S : Nat → Prop} {w w' : World} (ho : O tStrs S w [.slice a n q] xs) (hx : xs[i]? = some x) (E : Ext w w') : ∃ b o, a = some ⟨b, o, none⟩ ∧ cellO (hp w' b) (o + i) = some (.string x) := by
  obtain ⟨b1, o1, cs1, rfl, A1, D1, _, l1⟩ := (ho.d.ext E).at (by decide) hx
  obtain ⟨rfl, hxs⟩ := D.str.1 D1
  exact ⟨b1, o1, rfl, by have := A1 0 _ rfl; simpa only [show LStr.n = 1 from rfl, Nat.mul_one, Nat.add_zero] using this⟩
end Go.Proofs.YtgdacclgooaodaaGreatDoor.X
