/- A part of the proof: an evaluator of the model, its laws, and contracts of functions; no condition. -/
import Derived.Test.YtcafhepclddcaaaH9
set_option linter.unusedVariables false
set_option linter.unusedSimpArgs false
set_option maxRecDepth 100000
set_option maxHeartbeats 1000000
namespace Go.Proofs.Ytcafhepclddcaaa.X
open Go Go.Ev Go.RowKit
section
variable {Q : Value × World → Prop} {w0 : World} {xs : List Done} {a : Option Addr} {c g c4 N : Nat} {T : List (List Tag)} {Sx : Nat → Prop}
theorem walk_l2 (HE : WEnd Q w0 T N) (hx0 : D tDones Sx w0 [.slice a xs.length c] xs) (hcap : xs.length ≤ c) (hf : formP xs = true) : ∀ (dd k : Nat), k + dd = xs.length → WNext Q w0 xs a c g c4 T N k := by
  obtain ⟨hall, hl80⟩ := formP_all hf
  have hn := hx0.n
  intro dd
  induction dd with
  | zero =>
    intro k hd e w S cur b a6 n6 c6 sn e0 e4 e6 e7 hn6 hw hok hs hr hT hN
    subst hn6
    rw [spec_l6Walk_l2_eq]
    obtain rfl : k = xs.length := by omega
    rw [List.drop_eq_nil_of_le (by omega)] at hT hN
    have hT' : sn = T := by rw [← hT]; simp [hseen]
    have hN' : xs.length = N := by rw [← hN]; rfl
    subst hT'
    have := HE _ _ _ _ _ _ _ hw
    rw [← hN'] at this
    simp (maxSteps := 1000000) (disch := first | assumption | omega | (simp only [World.size_alloc, size_setRow, dw_size]; done) | (simp only [World.size_alloc, size_setRow, dw_size] <;> omega) | (simp only [List.length_set, Array.length_toList, List.length_cons, List.length_nil, List.length_append, bts_size] <;> omega) | (simp only [List.all_cons, List.all_nil, Value.oneCell', Bool.and_self, Bool.and_true]; done)) [-Option.bind_some, hp_alloc_lt, hp_alloc_eq, hp_set_ne, wrap_small, ups_ap_cons, ups_ap_nil, upd_same, upd_other, env0_ap0, env0_aps, xt_a, xt_b, xt_c, -splice_eq, -stR_cells, stR_box, stR_boxA, stR_row, stR_row0, stR_row1, stR_rowA, stR_rowA0, splice_rowv, splice_rowv0, splice_rowv1, splice_z, splice_n, splice_s, nth_rowv, nth_rowv0, nth_rowv1, rowv_len, e0, e4, e6, e7, e0, e4, e6, e7]
    exact this
  | succ dd ih =>
    intro k hd e w S cur b a6 n6 c6 sn e0 e4 e6 e7 hn6 hw hok hs hr hT hN
    subst hn6
    have IH := ih (k + 1) (by omega)
    rw [spec_l6Walk_l2_eq]
    have hlt : k < xs.length := by omega
    obtain ⟨x, hx, hdx⟩ := drop_at hlt
    have hxo : opOk x = true := List.all_eq_true.1 hall x (List.mem_of_getElem? hx)
    have hw' := hw
    obtain ⟨⟨X1, hc4, hvs⟩, hown, hSg, hbg, hg0', hgl, hSl, E0⟩ := hw
    have zE0 := E0.size
    try simp only [World.size_alloc, size_setRow, dw_size] at zE0
    obtain ⟨b1, o1, cs1, rfl, A1, D1, _, l1⟩ := (hx0.ext E0).at (by decide) hx
    obtain rfl := D.done.1 D1
    have p0 := A1 0 _ rfl
    have p1 := A1 1 _ rfl
    have p2 := A1 2 _ rfl
    have p3 := A1 3 _ rfl
    have p4 := A1 4 _ rfl
    simp only [LVer_n, LTag_n, LNode_n, Nat.add_zero] at p0 p1 p2 p3 p4
    simp only [LDone_n] at p0 p1 p2 p3 p4
    obtain ⟨⟨hs0, hs3⟩, _, ⟨hy0, hy3⟩, _⟩ := opOk_iff.1 hxo
    have hs4 : x.sess < 4 := by omega
    have hy4 : x.key < 4 := by omega
    have hvl := view_len hok hxo
    obtain ⟨av, cv, hcell, hD⟩ := hvs _ _ (view_get hok hxo)
    rw [hvl] at hcell hD
    have q0 : nth cur x.sess.toNat = some (.slice av 4 cv) := by rw [← nth_eq]; exact hcell
    cases hk1 : (x.kind == 1)
    · have hk1' : ¬ x.kind = 1 := by simpa using hk1
      have hlt2 : x.key.toNat < (view b x).length := by omega
      obtain ⟨y, hy, _⟩ := drop_at hlt2
      have hgd : (view b x).getD x.key.toNat ⟨0, 0⟩ = y := by rw [List.getD_eq_getElem?_getD, hy]; rfl
      obtain ⟨b2, o2, cs2, rfl, A2, D2, hSb2, l2⟩ := hD.at (by decide) hy
      obtain rfl := D.tag.1 D2
      have u0 := A2 0 _ rfl
      have u1 := A2 1 _ rfl
      simp only [LVer_n, LTag_n, LNode_n, Nat.add_zero] at u0 u1
      have hst : hstep b x = if tagLess x.tag y then none else if decide (0 < x.tag.t) then (match wfind b.wr x.tag with
        | none => none
        | some (s, k, past) => if k != x.key || ((x.kind == 3) && (s != x.sess)) then none else some ⟨b.vs.set x.sess.toNat (withT (joinT (view b x) past) x.key.toNat x.tag), b.wr⟩) else some b := by
        unfold hstep
        rw [hk1, hgd]
        rfl
      simp (maxSteps := 1000000) (disch := first | assumption | omega | (simp only [World.size_alloc, size_setRow, dw_size]; done) | (simp only [World.size_alloc, size_setRow, dw_size] <;> omega) | (simp only [List.length_set, Array.length_toList, List.length_cons, List.length_nil, List.length_append, bts_size] <;> omega) | (simp only [List.all_cons, List.all_nil, Value.oneCell', Bool.and_self, Bool.and_true]; done)) [-Option.bind_some, hp_alloc_lt, hp_alloc_eq, hp_set_ne, wrap_small, ups_ap_cons, ups_ap_nil, upd_same, upd_other, env0_ap0, env0_aps, xt_a, xt_b, xt_c, -splice_eq, -stR_cells, stR_box, stR_boxA, stR_row, stR_row0, stR_row1, stR_rowA, stR_rowA0, splice_rowv, splice_rowv0, splice_rowv1, splice_z, splice_n, splice_s, nth_rowv, nth_rowv0, nth_rowv1, rowv_len, e0, e4, e6, e7, hlt, ia_25, ia_62, ia_30, X1, hs0, hs4, hy0, hy4, q0, hk1, e0, e4, e6, e7, hlt, X1, E0.blk, p0, p1, p2, p3, p4, hlt2, u0, u1]
      refine Ret.bind (spec_l1Less_c x.tag y _) ?_
      rintro ⟨_, w1⟩ ⟨rfl, E1⟩
      try dsimp only at E1
      have zE1 := E1.size
      try simp only [World.size_alloc, size_setRow, dw_size] at zE1
      have F1 : Ext w w1 := by (repeat (first | exact Ext.rfl | assumption | (refine Ext.al ?_ _) | (refine Ext.dw ?_) | (refine Ext.set ?_ (by first | omega | (simp only [World.size_alloc, size_setRow, dw_size]; omega)) _) | (refine Ext.tr ?_ (by assumption))))
      cases hless : tagLess x.tag y
      · rw [hless] at hst
        simp (maxSteps := 1000000) (disch := first | assumption | omega | (simp only [World.size_alloc, size_setRow, dw_size]; done) | (simp only [World.size_alloc, size_setRow, dw_size] <;> omega) | (simp only [List.length_set, Array.length_toList, List.length_cons, List.length_nil, List.length_append, bts_size] <;> omega) | (simp only [List.all_cons, List.all_nil, Value.oneCell', Bool.and_self, Bool.and_true]; done)) [-Option.bind_some, hp_alloc_lt, hp_alloc_eq, hp_set_ne, wrap_small, ups_ap_cons, ups_ap_nil, upd_same, upd_other, env0_ap0, env0_aps, xt_a, xt_b, xt_c, -splice_eq, -stR_cells, stR_box, stR_boxA, stR_row, stR_row0, stR_row1, stR_rowA, stR_rowA0, splice_rowv, splice_rowv0, splice_rowv1, splice_z, splice_n, splice_s, nth_rowv, nth_rowv0, nth_rowv1, rowv_len, e0, e4, e6, e7, hless, e0, e4, e6, e7, hlt, X1, E0.blk, p0, p1, p2, p3, p4, hlt2, u0, u1, E1.blk]
        by_cases hpos : 0 < x.tag.t
        · simp (maxSteps := 1000000) (disch := first | assumption | omega | (simp only [World.size_alloc, size_setRow, dw_size]; done) | (simp only [World.size_alloc, size_setRow, dw_size] <;> omega) | (simp only [List.length_set, Array.length_toList, List.length_cons, List.length_nil, List.length_append, bts_size] <;> omega) | (simp only [List.all_cons, List.all_nil, Value.oneCell', Bool.and_self, Bool.and_true]; done)) [-Option.bind_some, hp_alloc_lt, hp_alloc_eq, hp_set_ne, wrap_small, ups_ap_cons, ups_ap_nil, upd_same, upd_other, env0_ap0, env0_aps, xt_a, xt_b, xt_c, -splice_eq, -stR_cells, stR_box, stR_boxA, stR_row, stR_row0, stR_row1, stR_rowA, stR_rowA0, splice_rowv, splice_rowv0, splice_rowv1, splice_z, splice_n, splice_s, nth_rowv, nth_rowv0, nth_rowv1, rowv_len, e0, e4, e6, e7, hless, hpos, e0, e4, e6, e7, hlt, X1, E0.blk, p0, p1, p2, p3, p4, hlt2, u0, u1, E1.blk]
          refine walk_a2 (am := some ⟨b2, o2, none⟩) (cm := cv) (g8 := w.heap.size) (g9 := w.heap.size + 1) (d := x) IH HE hx0 hcap (by exact e0) (by exact e4) (by exact e6) (by exact e7) (by exact rfl) (by exact rfl) (by omega) hw' (by (repeat (first | exact Ext.rfl | assumption | (refine Ext.al ?_ _) | (refine Ext.dw ?_) | (refine Ext.set ?_ (by first | omega | (simp only [World.size_alloc, size_setRow, dw_size]; omega)) _) | (refine Ext.tr ?_ (by assumption))))) (by omega) (by omega) (by omega) (by first | assumption | rfl | (simp (maxSteps := 1000000) (disch := first | assumption | omega | (simp only [World.size_alloc, size_setRow, dw_size]; done) | (simp only [World.size_alloc, size_setRow, dw_size] <;> omega) | (simp only [List.length_set, Array.length_toList, List.length_cons, List.length_nil, List.length_append, bts_size] <;> omega) | (simp only [List.all_cons, List.all_nil, Value.oneCell', Bool.and_self, Bool.and_true]; done)) [-Option.bind_some, hp_alloc_lt, hp_alloc_eq, hp_set_ne, wrap_small, ups_ap_cons, ups_ap_nil, upd_same, upd_other, env0_ap0, env0_aps, xt_a, xt_b, xt_c, -splice_eq, -stR_cells, stR_box, stR_boxA, stR_row, stR_row0, stR_row1, stR_rowA, stR_rowA0, splice_rowv, splice_rowv0, splice_rowv1, splice_z, splice_n, splice_s, nth_rowv, nth_rowv0, nth_rowv1, rowv_len, e0, e4, e6, e7, hlt, X1, E0.blk, p0, p1, p2, p3, p4, hlt2, u0, u1, E1.blk]; done)) (by first | assumption | rfl | (simp (maxSteps := 1000000) (disch := first | assumption | omega | (simp only [World.size_alloc, size_setRow, dw_size]; done) | (simp only [World.size_alloc, size_setRow, dw_size] <;> omega) | (simp only [List.length_set, Array.length_toList, List.length_cons, List.length_nil, List.length_append, bts_size] <;> omega) | (simp only [List.all_cons, List.all_nil, Value.oneCell', Bool.and_self, Bool.and_true]; done)) [-Option.bind_some, hp_alloc_lt, hp_alloc_eq, hp_set_ne, wrap_small, ups_ap_cons, ups_ap_nil, upd_same, upd_other, env0_ap0, env0_aps, xt_a, xt_b, xt_c, -splice_eq, -stR_cells, stR_box, stR_boxA, stR_row, stR_row0, stR_row1, stR_rowA, stR_rowA0, splice_rowv, splice_rowv0, splice_rowv1, splice_z, splice_n, splice_s, nth_rowv, nth_rowv0, nth_rowv1, rowv_len, e0, e4, e6, e7, hlt, X1, E0.blk, p0, p1, p2, p3, p4, hlt2, u0, u1, E1.blk]; done)) hD hxo hok hx hs hr hk1' (by rw [hgd]; exact hless) hpos hT hN
        · have hpos' : decide (0 < x.tag.t) = false := by simpa using hpos
          have hst' : hstep b x = some b := by
            rw [hst, hpos']
            rfl
          have hset : b.vs.set x.sess.toNat (view b x) = b.vs := by
            have := view_get hok hxo
            apply List.ext_getElem?
            intro i
            by_cases hi : i = x.sess.toNat
            · subst hi
              rw [this, List.getElem?_set_self (List.getElem?_eq_some_iff.1 this).1]
            · rw [List.getElem?_set_ne (Ne.symm hi)]
          simp (maxSteps := 1000000) (disch := first | assumption | omega | (simp only [World.size_alloc, size_setRow, dw_size]; done) | (simp only [World.size_alloc, size_setRow, dw_size] <;> omega) | (simp only [List.length_set, Array.length_toList, List.length_cons, List.length_nil, List.length_append, bts_size] <;> omega) | (simp only [List.all_cons, List.all_nil, Value.oneCell', Bool.and_self, Bool.and_true]; done)) [-Option.bind_some, hp_alloc_lt, hp_alloc_eq, hp_set_ne, wrap_small, ups_ap_cons, ups_ap_nil, upd_same, upd_other, env0_ap0, env0_aps, xt_a, xt_b, xt_c, -splice_eq, -stR_cells, stR_box, stR_boxA, stR_row, stR_row0, stR_row1, stR_rowA, stR_rowA0, splice_rowv, splice_rowv0, splice_rowv1, splice_z, splice_n, splice_s, nth_rowv, nth_rowv0, nth_rowv1, rowv_len, e0, e4, e6, e7, hless, hpos, hpos', e0, e4, e6, e7, hlt, X1, E0.blk, p0, p1, p2, p3, p4, hlt2, u0, u1, E1.blk]
          have hvD : D tTags S w [.slice (some ⟨b2, o2, none⟩) (view b x).length cv] (view b x) := by rw [hvl]; exact hD
          refine walk_j1 (cur := cur) (S := S) (g8 := w.heap.size) (g9 := w.heap.size + 1) (m := view b x) (am := some ⟨b2, o2, none⟩) (cm := cv) (d := x) (b' := b) IH (by exact e0) (by exact e4) (by exact e6) (by exact e7) (by exact rfl) (by exact rfl) (by omega) (hw'.ext (by (repeat (first | exact Ext.rfl | assumption | (refine Ext.al ?_ _) | (refine Ext.dw ?_) | (refine Ext.set ?_ (by first | omega | (simp only [World.size_alloc, size_setRow, dw_size]; omega)) _) | (refine Ext.tr ?_ (by assumption)))))) (by first | assumption | rfl | (simp (maxSteps := 1000000) (disch := first | assumption | omega | (simp only [World.size_alloc, size_setRow, dw_size]; done) | (simp only [World.size_alloc, size_setRow, dw_size] <;> omega) | (simp only [List.length_set, Array.length_toList, List.length_cons, List.length_nil, List.length_append, bts_size] <;> omega) | (simp only [List.all_cons, List.all_nil, Value.oneCell', Bool.and_self, Bool.and_true]; done)) [-Option.bind_some, hp_alloc_lt, hp_alloc_eq, hp_set_ne, wrap_small, ups_ap_cons, ups_ap_nil, upd_same, upd_other, env0_ap0, env0_aps, xt_a, xt_b, xt_c, -splice_eq, -stR_cells, stR_box, stR_boxA, stR_row, stR_row0, stR_row1, stR_rowA, stR_rowA0, splice_rowv, splice_rowv0, splice_rowv1, splice_z, splice_n, splice_s, nth_rowv, nth_rowv0, nth_rowv1, rowv_len, e0, e4, e6, e7, hlt, X1, E0.blk, p0, p1, p2, p3, p4, hlt2, u0, u1, E1.blk]; done)) (by rw [hvl]; exact (by first | assumption | rfl | (simp (maxSteps := 1000000) (disch := first | assumption | omega | (simp only [World.size_alloc, size_setRow, dw_size]; done) | (simp only [World.size_alloc, size_setRow, dw_size] <;> omega) | (simp only [List.length_set, Array.length_toList, List.length_cons, List.length_nil, List.length_append, bts_size] <;> omega) | (simp only [List.all_cons, List.all_nil, Value.oneCell', Bool.and_self, Bool.and_true]; done)) [-Option.bind_some, hp_alloc_lt, hp_alloc_eq, hp_set_ne, wrap_small, ups_ap_cons, ups_ap_nil, upd_same, upd_other, env0_ap0, env0_aps, xt_a, xt_b, xt_c, -splice_eq, -stR_cells, stR_box, stR_boxA, stR_row, stR_row0, stR_row1, stR_rowA, stR_rowA0, splice_rowv, splice_rowv0, splice_rowv1, splice_z, splice_n, splice_s, nth_rowv, nth_rowv0, nth_rowv1, rowv_len, e0, e4, e6, e7, hlt, X1, E0.blk, p0, p1, p2, p3, p4, hlt2, u0, u1, E1.blk]; done))) (hvD.ext (by (repeat (first | exact Ext.rfl | assumption | (refine Ext.al ?_ _) | (refine Ext.dw ?_) | (refine Ext.set ?_ (by first | omega | (simp only [World.size_alloc, size_setRow, dw_size]; omega)) _) | (refine Ext.tr ?_ (by assumption)))))) hxo hok hx hs hr (by rw [hset]) hst' hk1' ⟨by omega, by omega⟩ hT hN
      · rw [hless] at hst
        simp (maxSteps := 1000000) (disch := first | assumption | omega | (simp only [World.size_alloc, size_setRow, dw_size]; done) | (simp only [World.size_alloc, size_setRow, dw_size] <;> omega) | (simp only [List.length_set, Array.length_toList, List.length_cons, List.length_nil, List.length_append, bts_size] <;> omega) | (simp only [List.all_cons, List.all_nil, Value.oneCell', Bool.and_self, Bool.and_true]; done)) [-Option.bind_some, hp_alloc_lt, hp_alloc_eq, hp_set_ne, wrap_small, ups_ap_cons, ups_ap_nil, upd_same, upd_other, env0_ap0, env0_aps, xt_a, xt_b, xt_c, -splice_eq, -stR_cells, stR_box, stR_boxA, stR_row, stR_row0, stR_row1, stR_rowA, stR_rowA0, splice_rowv, splice_rowv0, splice_rowv1, splice_z, splice_n, splice_s, nth_rowv, nth_rowv0, nth_rowv1, rowv_len, e0, e4, e6, e7, hless, e0, e4, e6, e7, hlt, X1, E0.blk, p0, p1, p2, p3, p4, hlt2, u0, u1, E1.blk]
        exact walk_stop HE (hw'.ext (by (repeat (first | exact Ext.rfl | assumption | (refine Ext.al ?_ _) | (refine Ext.dw ?_) | (refine Ext.set ?_ (by first | omega | (simp only [World.size_alloc, size_setRow, dw_size]; omega)) _) | (refine Ext.tr ?_ (by assumption)))))) hs hx hst hT hN
    · have hk1' : x.kind = 1 := by simpa using hk1
      simp (maxSteps := 1000000) (disch := first | assumption | omega | (simp only [World.size_alloc, size_setRow, dw_size]; done) | (simp only [World.size_alloc, size_setRow, dw_size] <;> omega) | (simp only [List.length_set, Array.length_toList, List.length_cons, List.length_nil, List.length_append, bts_size] <;> omega) | (simp only [List.all_cons, List.all_nil, Value.oneCell', Bool.and_self, Bool.and_true]; done)) [-Option.bind_some, hp_alloc_lt, hp_alloc_eq, hp_set_ne, wrap_small, ups_ap_cons, ups_ap_nil, upd_same, upd_other, env0_ap0, env0_aps, xt_a, xt_b, xt_c, -splice_eq, -stR_cells, stR_box, stR_boxA, stR_row, stR_row0, stR_row1, stR_rowA, stR_rowA0, splice_rowv, splice_rowv0, splice_rowv1, splice_z, splice_n, splice_s, nth_rowv, nth_rowv0, nth_rowv1, rowv_len, e0, e4, e6, e7, hlt, ia_25, ia_62, X1, hs0, hs4, q0, hk1, e0, e4, e6, e7, hlt, X1, E0.blk, p0, p1, p2, p3, p4]
      refine walk_a1 (am := av) (cm := cv) (g8 := w.heap.size) (g9 := w.heap.size + 1) (d := x) IH HE hx0 hcap (by exact e0) (by exact e4) (by exact e6) (by exact e7) (by exact rfl) (by exact rfl) (by omega) (hw'.ext (by (repeat (first | exact Ext.rfl | assumption | (refine Ext.al ?_ _) | (refine Ext.dw ?_) | (refine Ext.set ?_ (by first | omega | (simp only [World.size_alloc, size_setRow, dw_size]; omega)) _) | (refine Ext.tr ?_ (by assumption)))))) (by first | assumption | rfl | (simp (maxSteps := 1000000) (disch := first | assumption | omega | (simp only [World.size_alloc, size_setRow, dw_size]; done) | (simp only [World.size_alloc, size_setRow, dw_size] <;> omega) | (simp only [List.length_set, Array.length_toList, List.length_cons, List.length_nil, List.length_append, bts_size] <;> omega) | (simp only [List.all_cons, List.all_nil, Value.oneCell', Bool.and_self, Bool.and_true]; done)) [-Option.bind_some, hp_alloc_lt, hp_alloc_eq, hp_set_ne, wrap_small, ups_ap_cons, ups_ap_nil, upd_same, upd_other, env0_ap0, env0_aps, xt_a, xt_b, xt_c, -splice_eq, -stR_cells, stR_box, stR_boxA, stR_row, stR_row0, stR_row1, stR_rowA, stR_rowA0, splice_rowv, splice_rowv0, splice_rowv1, splice_z, splice_n, splice_s, nth_rowv, nth_rowv0, nth_rowv1, rowv_len, e0, e4, e6, e7, hlt, X1, E0.blk, p0, p1, p2, p3, p4]; done)) (by first | assumption | rfl | (simp (maxSteps := 1000000) (disch := first | assumption | omega | (simp only [World.size_alloc, size_setRow, dw_size]; done) | (simp only [World.size_alloc, size_setRow, dw_size] <;> omega) | (simp only [List.length_set, Array.length_toList, List.length_cons, List.length_nil, List.length_append, bts_size] <;> omega) | (simp only [List.all_cons, List.all_nil, Value.oneCell', Bool.and_self, Bool.and_true]; done)) [-Option.bind_some, hp_alloc_lt, hp_alloc_eq, hp_set_ne, wrap_small, ups_ap_cons, ups_ap_nil, upd_same, upd_other, env0_ap0, env0_aps, xt_a, xt_b, xt_c, -splice_eq, -stR_cells, stR_box, stR_boxA, stR_row, stR_row0, stR_row1, stR_rowA, stR_rowA0, splice_rowv, splice_rowv0, splice_rowv1, splice_z, splice_n, splice_s, nth_rowv, nth_rowv0, nth_rowv1, rowv_len, e0, e4, e6, e7, hlt, X1, E0.blk, p0, p1, p2, p3, p4]; done)) (hD.ext (by (repeat (first | exact Ext.rfl | assumption | (refine Ext.al ?_ _) | (refine Ext.dw ?_) | (refine Ext.set ?_ (by first | omega | (simp only [World.size_alloc, size_setRow, dw_size]; omega)) _) | (refine Ext.tr ?_ (by assumption)))))) hxo hok hx hs hr hk1' hT hN
end
section
variable {Q : Value × World → Prop} {w0 : World} {xs : List Done} {a : Option Addr} {c : Nat} {Sx : Nat → Prop}
theorem walk_l1 (HE : WEnd Q w0 (hseen book0 xs) (hgo book0 xs).2) (hx0 : D tDones Sx w0 [.slice a xs.length c] xs) (hcap : xs.length ≤ c) (hf : formP xs = true) : ∀ (dd k : Nat) (e : Env) (w : World) (S : Nat → Prop) (a4 : Option Addr) (c4 : Nat), k + dd = 4 → e 0 = .slice a xs.length c → e 4 = .slice a4 k c4 → e 5 = i64 k → OwnD tTags 32 S w0.heap.size w (.slice a4 k c4) (List.replicate k (List.replicate 4 ⟨0, 0⟩)) → (∀ x, S x → w0.heap.size ≤ x ∧ x < w.heap.size) → Ext w0 w →
    Ret (spec_l6Walk_l1 e w) Q := by
  intro dd
  induction dd with
  | zero =>
    intro k e w S a4 c4 hd e0 e4 e5 ho hS E0
    have zE0 := E0.size
    try simp only [World.size_alloc, size_setRow, dw_size] at zE0
    obtain rfl : k = 4 := by omega
    rw [spec_l6Walk_l1_eq]
    obtain ⟨g, c4', cur, hsl, V, hg0, hSg, hgl⟩ := ho.vw rfl (fun _ _ _ h => h.sl') (by simp)
    simp only [List.length_replicate, Value.slice.injEq, true_and] at hsl
    obtain ⟨rfl, rfl⟩ := hsl
    simp (maxSteps := 1000000) (disch := first | assumption | omega | (simp only [World.size_alloc, size_setRow, dw_size]; done) | (simp only [World.size_alloc, size_setRow, dw_size] <;> omega) | (simp only [List.length_set, Array.length_toList, List.length_cons, List.length_nil, List.length_append, bts_size] <;> omega) | (simp only [List.all_cons, List.all_nil, Value.oneCell', Bool.and_self, Bool.and_true]; done)) [-Option.bind_some, hp_alloc_lt, hp_alloc_eq, hp_set_ne, wrap_small, ups_ap_cons, ups_ap_nil, upd_same, upd_other, env0_ap0, env0_aps, xt_a, xt_b, xt_c, -splice_eq, -stR_cells, stR_box, stR_boxA, stR_row, stR_row0, stR_row1, stR_rowA, stR_rowA0, splice_rowv, splice_rowv0, splice_rowv1, splice_z, splice_n, splice_s, nth_rowv, nth_rowv0, nth_rowv1, rowv_len, e0, e4, e5, e0, e4, e5, E0.blk, hg0]
    have hw : WkP w0 (w.alloc (.cells #[] 32 (0, 0))) S g cur book0 (.slice (some ⟨w.heap.size, 0, none⟩) 0 0) [] := by
      refine ⟨V.keep (hp_alloc_lt hgl) (fun b hb hl => hp_alloc_lt hl) (fun b hb _ => hb), OwnD.nilE (by first | assumption | rfl | (simp (maxSteps := 1000000) (disch := first | assumption | omega | (simp only [World.size_alloc, size_setRow, dw_size]; done) | (simp only [World.size_alloc, size_setRow, dw_size] <;> omega) | (simp only [List.length_set, Array.length_toList, List.length_cons, List.length_nil, List.length_append, bts_size] <;> omega) | (simp only [List.all_cons, List.all_nil, Value.oneCell', Bool.and_self, Bool.and_true]; done)) [-Option.bind_some, hp_alloc_lt, hp_alloc_eq, hp_set_ne, wrap_small, ups_ap_cons, ups_ap_nil, upd_same, upd_other, env0_ap0, env0_aps, xt_a, xt_b, xt_c, -splice_eq, -stR_cells, stR_box, stR_boxA, stR_row, stR_row0, stR_row1, stR_rowA, stR_rowA0, splice_rowv, splice_rowv0, splice_rowv1, splice_z, splice_n, splice_s, nth_rowv, nth_rowv0, nth_rowv1, rowv_len, e0, e4, e5, E0.blk, hg0]; done)) (fun h => by have := (hS _ h).2; omega) E0.size, hSg, ?_, hg0, by simp; omega, fun x hx => by have := hS x hx; simp; omega, by (repeat (first | exact Ext.rfl | assumption | (refine Ext.al ?_ _) | (refine Ext.dw ?_) | (refine Ext.set ?_ (by first | omega | (simp only [World.size_alloc, size_setRow, dw_size]; omega)) _) | (refine Ext.tr ?_ (by assumption))))⟩
      intro x hx
      simp only [blkOf, Option.toList_some, List.mem_singleton] at hx
      omega
    refine walk_l2 (g := g) (c4 := c4) (N := (hgo book0 xs).2) HE hx0 hcap hf xs.length 0 (by omega) _ _ S cur book0 (some ⟨w.heap.size, 0, none⟩) 0 0 [] (by exact e0) (by exact e4) (by exact rfl) (by exact rfl) rfl hw book0_ok rfl (by simp [book0, swr]) rfl (by simp)
  | succ dd ih =>
    intro k e w S a4 c4 hd e0 e4 e5 ho hS E0
    have zE0 := E0.size
    try simp only [World.size_alloc, size_setRow, dw_size] at zE0
    rw [spec_l6Walk_l1_eq]
    have hk : k < 4 := by omega
    have hk0 : (k : Int) < 4 := by omega
    have zE0' := E0.size
    simp (maxSteps := 1000000) (disch := first | assumption | omega | (simp only [World.size_alloc, size_setRow, dw_size]; done) | (simp only [World.size_alloc, size_setRow, dw_size] <;> omega) | (simp only [List.length_set, Array.length_toList, List.length_cons, List.length_nil, List.length_append, bts_size] <;> omega) | (simp only [List.all_cons, List.all_nil, Value.oneCell', Bool.and_self, Bool.and_true]; done)) [-Option.bind_some, hp_alloc_lt, hp_alloc_eq, hp_set_ne, wrap_small, ups_ap_cons, ups_ap_nil, upd_same, upd_other, env0_ap0, env0_aps, xt_a, xt_b, xt_c, -splice_eq, -stR_cells, stR_box, stR_boxA, stR_row, stR_row0, stR_row1, stR_rowA, stR_rowA0, splice_rowv, splice_rowv0, splice_rowv1, splice_z, splice_n, splice_s, nth_rowv, nth_rowv0, nth_rowv1, rowv_len, e0, e4, e5, hk, hk0, e0, e4, e5, E0.blk]
    refine Ret.bind (spec_l1None_m) ?_
    rintro ⟨_, w1⟩ ⟨a1, c1, rfl, o1, E1⟩
    try dsimp only at a1 c1 o1 E1
    have zE1 := E1.size
    try simp only [World.size_alloc, size_setRow, dw_size] at zE1
    have F1 : Ext w w1 := by (repeat (first | exact Ext.rfl | assumption | (refine Ext.al ?_ _) | (refine Ext.dw ?_) | (refine Ext.set ?_ (by first | omega | (simp only [World.size_alloc, size_setRow, dw_size]; omega)) _) | (refine Ext.tr ?_ (by assumption))))
    have o1d := o1.d
    simp (maxSteps := 1000000) (disch := first | assumption | omega | (simp only [World.size_alloc, size_setRow, dw_size]; done) | (simp only [World.size_alloc, size_setRow, dw_size] <;> omega) | (simp only [List.length_set, Array.length_toList, List.length_cons, List.length_nil, List.length_append, bts_size] <;> omega) | (simp only [List.all_cons, List.all_nil, Value.oneCell', Bool.and_self, Bool.and_true]; done)) [-Option.bind_some, hp_alloc_lt, hp_alloc_eq, hp_set_ne, wrap_small, ups_ap_cons, ups_ap_nil, upd_same, upd_other, env0_ap0, env0_aps, xt_a, xt_b, xt_c, -splice_eq, -stR_cells, stR_box, stR_boxA, stR_row, stR_row0, stR_row1, stR_rowA, stR_rowA0, splice_rowv, splice_rowv0, splice_rowv1, splice_z, splice_n, splice_s, nth_rowv, nth_rowv0, nth_rowv1, rowv_len, e0, e4, e5, hk, hk0, e0, e4, e5, E0.blk, E1.blk]
    have hSb : ∀ x, (S x ∨ In w.heap.size w1.heap.size x) → w0.heap.size ≤ x ∧ x < w1.heap.size := by
      rintro x (h | h)
      · have := hS x h
        omega
      · simp only [In] at h
        omega
    have h2 : OwnD tTags 32 (fun x => S x ∨ In w.heap.size w1.heap.size x) w0.heap.size (w1.alloc (.cells #[.slice a1 4 c1] 32 (0, 0))) (.slice a4 k c4) (List.replicate k (List.replicate 4 ⟨0, 0⟩)) := by
      have hb := ho
      obtain ⟨_, _, _, hh⟩ := hb
      refine (ho.keep (fun b _ hl => (hp_alloc_lt (by omega)).trans (F1.blk hl)) (by simp; omega)).wide (fun x h => .inl h) ?_
      rintro b hb (h | h)
      · exact (hh b hb).1 h
      · have := (hh b hb).2
        simp only [In] at h
        omega
    refine Ret.bind (OwnD.app1 (P := P) (mx := 5864062014805) (ty := 62) el_62 zz_32 rfl (by decide) h2 (E' := 32) (cs := [.slice a1 4 c1]) (x := List.replicate 4 ⟨0, 0⟩) ((o1d.wide (fun b hb _ => .inr (by simpa [In] using hb))).ext (by (repeat (first | exact Ext.rfl | assumption | (refine Ext.al ?_ _) | (refine Ext.dw ?_) | (refine Ext.set ?_ (by first | omega | (simp only [World.size_alloc, size_setRow, dw_size]; omega)) _) | (refine Ext.tr ?_ (by assumption)))))) (by first | assumption | rfl | (simp (maxSteps := 1000000) (disch := first | assumption | omega | (simp only [World.size_alloc, size_setRow, dw_size]; done) | (simp only [World.size_alloc, size_setRow, dw_size] <;> omega) | (simp only [List.length_set, Array.length_toList, List.length_cons, List.length_nil, List.length_append, bts_size] <;> omega) | (simp only [List.all_cons, List.all_nil, Value.oneCell', Bool.and_self, Bool.and_true]; done)) [-Option.bind_some, hp_alloc_lt, hp_alloc_eq, hp_set_ne, wrap_small, ups_ap_cons, ups_ap_nil, upd_same, upd_other, env0_ap0, env0_aps, xt_a, xt_b, xt_c, -splice_eq, -stR_cells, stR_box, stR_boxA, stR_row, stR_row0, stR_row1, stR_rowA, stR_rowA0, splice_rowv, splice_rowv0, splice_rowv1, splice_z, splice_n, splice_s, nth_rowv, nth_rowv0, nth_rowv1, rowv_len, e0, e4, e5, E0.blk, E1.blk]; done)) (fun b hb => by have := (hSb b hb).2; simp; omega) (by simp; omega) (by simp; omega) (by decide) (by decide)) ?_
    rintro ⟨_, w2⟩ ⟨a2, c2, rfl, h3, h4, h5⟩
    dsimp only at h3 h4
    have zh4 := h4.size
    simp only [World.size_alloc] at zh4
    simp only [List.length_replicate] at h3
    simp (maxSteps := 1000000) (disch := first | assumption | omega | (simp only [World.size_alloc, size_setRow, dw_size]; done) | (simp only [World.size_alloc, size_setRow, dw_size] <;> omega) | (simp only [List.length_set, Array.length_toList, List.length_cons, List.length_nil, List.length_append, bts_size] <;> omega) | (simp only [List.all_cons, List.all_nil, Value.oneCell', Bool.and_self, Bool.and_true]; done)) [-Option.bind_some, hp_alloc_lt, hp_alloc_eq, hp_set_ne, wrap_small, ups_ap_cons, ups_ap_nil, upd_same, upd_other, env0_ap0, env0_aps, xt_a, xt_b, xt_c, -splice_eq, -stR_cells, stR_box, stR_boxA, stR_row, stR_row0, stR_row1, stR_rowA, stR_rowA0, splice_rowv, splice_rowv0, splice_rowv1, splice_z, splice_n, splice_s, nth_rowv, nth_rowv0, nth_rowv1, rowv_len, e0, e4, e5, e0, e4, e5, E0.blk, E1.blk]
    refine ih (k + 1) _ w2 _ a2 c2 (by omega) (by exact e0) (by exact rfl) (by exact (congrArg i64 (by omega) : i64 ((k : Int) + 1) = i64 ((k + 1 : Nat) : Int))) (by rw [List.replicate_succ']; exact h3) (fun x hx => by have := hSb x hx; omega) ?_
    exact Ext.but (E0.tr (F1.al _)) h4 (fun x hx => ho.blk x (by simp [hx]))
end
theorem spec_l6Walk_m {a : Option Addr} {n c : Nat} {Sx : Nat → Prop} {xs : List Done} {w : World} (ha : D tDones Sx w [.slice a n c] xs) (hc : n ≤ c) (hf : formP xs = true) :
    Ret (EV P 47 #[.slice a n c] w) fun r => ∃ a2 c2 S, r.1 = .tuple #[.slice a2 (hseen book0 xs).length c2, i64 (hgo book0 xs).2] ∧ D tPasts S r.2 [.slice a2 (hseen book0 xs).length c2] (hseen book0 xs) ∧ (∀ x, S x → w.heap.size ≤ x ∧ x < r.2.heap.size) ∧ Ext w r.2 := by
  obtain ⟨rfl, hm, _⟩ := ha.n
  refine Ret.post fun Q hQ => ?_
  refine Ret.enter plain mixed (spec_l6Walk_fn _ _) (by kernel_rfl) (n := 1) (by kernel_rfl) rfl ?_
  simp (maxSteps := 1000000) (disch := first | assumption | omega | (simp only [World.size_alloc, size_setRow, dw_size]; done) | (simp only [World.size_alloc, size_setRow, dw_size] <;> omega) | (simp only [List.length_set, Array.length_toList, List.length_cons, List.length_nil, List.length_append, bts_size] <;> omega) | (simp only [List.all_cons, List.all_nil, Value.oneCell', Bool.and_self, Bool.and_true]; done)) [-Option.bind_some, hp_alloc_lt, hp_alloc_eq, hp_set_ne, wrap_small, ups_ap_cons, ups_ap_nil, upd_same, upd_other, env0_ap0, env0_aps, xt_a, xt_b, xt_c, -splice_eq, -stR_cells, stR_box, stR_boxA, stR_row, stR_row0, stR_row1, stR_rowA, stR_rowA0, splice_rowv, splice_rowv0, splice_rowv1, splice_z, splice_n, splice_s, nth_rowv, nth_rowv0, nth_rowv1, rowv_len]
  refine walk_l1 (w0 := w) (c := c) ?_ ha hc hf 4 0 _ _ (fun _ => False) (some ⟨w.heap.size, 0, none⟩) 0 (by omega) (by exact rfl) (by exact rfl) (by exact rfl) (OwnD.nilE (by first | assumption | rfl | (simp (maxSteps := 1000000) (disch := first | assumption | omega | (simp only [World.size_alloc, size_setRow, dw_size]; done) | (simp only [World.size_alloc, size_setRow, dw_size] <;> omega) | (simp only [List.length_set, Array.length_toList, List.length_cons, List.length_nil, List.length_append, bts_size] <;> omega) | (simp only [List.all_cons, List.all_nil, Value.oneCell', Bool.and_self, Bool.and_true]; done)) [-Option.bind_some, hp_alloc_lt, hp_alloc_eq, hp_set_ne, wrap_small, ups_ap_cons, ups_ap_nil, upd_same, upd_other, env0_ap0, env0_aps, xt_a, xt_b, xt_c, -splice_eq, -stR_cells, stR_box, stR_boxA, stR_row, stR_row0, stR_row1, stR_rowA, stR_rowA0, splice_rowv, splice_rowv0, splice_rowv1, splice_z, splice_n, splice_s, nth_rowv, nth_rowv0, nth_rowv1, rowv_len]; done)) id (Nat.le_refl _)) (fun _ h => h.elim) (by (repeat (first | exact Ext.rfl | assumption | (refine Ext.al ?_ _) | (refine Ext.dw ?_) | (refine Ext.set ?_ (by first | omega | (simp only [World.size_alloc, size_setRow, dw_size]; omega)) _) | (refine Ext.tr ?_ (by assumption)))))
  intro w' S g cur b a6 c6 hw
  obtain ⟨V, ho, hSg, hbg, hg0, hgl, hSl, E0⟩ := hw
  have zE0 := E0.size
  try simp only [World.size_alloc, size_setRow, dw_size] at zE0
  have hle := hseen_le xs book0
  refine hQ _ ⟨a6, c6, _, rfl, ho.d (by have := (formP_all hf).2; omega), ?_, E0⟩
  rintro x (h | h)
  · exact hSl x h
  · exact ⟨ho.blk x h, by obtain ⟨_, _, _, hh⟩ := ho; exact (hh x h).2⟩
end Go.Proofs.Ytcafhepclddcaaa.X
set_option linter.unusedVariables false
set_option linter.unusedSimpArgs false
set_option maxRecDepth 100000
set_option maxHeartbeats 1000000
namespace Go.Proofs.Ytcafhepclddcaaa.X
open Go Go.Ev Go.RowKit
theorem okP_iff {xs : List Done} : okP xs = true ↔ formP xs = true ∧ (hgo book0 xs).2 = xs.length := by simp [okP]
theorem spec_l6Ok_m {a : Option Addr} {n c : Nat} {Sx : Nat → Prop} {xs : List Done} {w : World} (ha : D tDones Sx w [.slice a n c] xs) (hc : n ≤ c) :
    Ret (EV P 52 #[.slice a n c] w) fun r => r.1 = .bool (okP xs) ∧ Ext w r.2 := by
  have hn := ha.n
  refine Ret.post fun Q hQ => ?_
  refine Ret.enter plain mixed (spec_l6Ok_fn _ _) (by kernel_rfl) (n := 1) (by kernel_rfl) rfl ?_
  simp (maxSteps := 1000000) (disch := first | assumption | omega | (simp only [World.size_alloc, size_setRow, dw_size]; done) | (simp only [World.size_alloc, size_setRow, dw_size] <;> omega) | (simp only [List.length_set, Array.length_toList, List.length_cons, List.length_nil, List.length_append, bts_size] <;> omega) | (simp only [List.all_cons, List.all_nil, Value.oneCell', Bool.and_self, Bool.and_true]; done)) [-Option.bind_some, hp_alloc_lt, hp_alloc_eq, hp_set_ne, wrap_small, ups_ap_cons, ups_ap_nil, upd_same, upd_other, env0_ap0, env0_aps, xt_a, xt_b, xt_c, -splice_eq, -stR_cells, stR_box, stR_boxA, stR_row, stR_row0, stR_row1, stR_rowA, stR_rowA0, splice_rowv, splice_rowv0, splice_rowv1, splice_z, splice_n, splice_s, nth_rowv, nth_rowv0, nth_rowv1, rowv_len]
  refine Ret.bind (spec_l6Form_m ha) ?_
  rintro ⟨_, w1⟩ ⟨rfl, E1⟩
  try dsimp only at E1
  have zE1 := E1.size
  try simp only [World.size_alloc, size_setRow, dw_size] at zE1
  cases hf : formP xs
  · simp (maxSteps := 1000000) (disch := first | assumption | omega | (simp only [World.size_alloc, size_setRow, dw_size]; done) | (simp only [World.size_alloc, size_setRow, dw_size] <;> omega) | (simp only [List.length_set, Array.length_toList, List.length_cons, List.length_nil, List.length_append, bts_size] <;> omega) | (simp only [List.all_cons, List.all_nil, Value.oneCell', Bool.and_self, Bool.and_true]; done)) [-Option.bind_some, hp_alloc_lt, hp_alloc_eq, hp_set_ne, wrap_small, ups_ap_cons, ups_ap_nil, upd_same, upd_other, env0_ap0, env0_aps, xt_a, xt_b, xt_c, -splice_eq, -stR_cells, stR_box, stR_boxA, stR_row, stR_row0, stR_row1, stR_rowA, stR_rowA0, splice_rowv, splice_rowv0, splice_rowv1, splice_z, splice_n, splice_s, nth_rowv, nth_rowv0, nth_rowv1, rowv_len, hf, E1.blk]
    exact hQ _ ⟨by simp [okP, hf], by (repeat (first | exact Ext.rfl | assumption | (refine Ext.al ?_ _) | (refine Ext.dw ?_) | (refine Ext.set ?_ (by first | omega | (simp only [World.size_alloc, size_setRow, dw_size]; omega)) _) | (refine Ext.tr ?_ (by assumption))))⟩
  · simp (maxSteps := 1000000) (disch := first | assumption | omega | (simp only [World.size_alloc, size_setRow, dw_size]; done) | (simp only [World.size_alloc, size_setRow, dw_size] <;> omega) | (simp only [List.length_set, Array.length_toList, List.length_cons, List.length_nil, List.length_append, bts_size] <;> omega) | (simp only [List.all_cons, List.all_nil, Value.oneCell', Bool.and_self, Bool.and_true]; done)) [-Option.bind_some, hp_alloc_lt, hp_alloc_eq, hp_set_ne, wrap_small, ups_ap_cons, ups_ap_nil, upd_same, upd_other, env0_ap0, env0_aps, xt_a, xt_b, xt_c, -splice_eq, -stR_cells, stR_box, stR_boxA, stR_row, stR_row0, stR_row1, stR_rowA, stR_rowA0, splice_rowv, splice_rowv0, splice_rowv1, splice_z, splice_n, splice_s, nth_rowv, nth_rowv0, nth_rowv1, rowv_len, hf, E1.blk]
    refine Ret.bind (spec_l6Walk_m (ha.ext (by (repeat (first | exact Ext.rfl | assumption | (refine Ext.al ?_ _) | (refine Ext.dw ?_) | (refine Ext.set ?_ (by first | omega | (simp only [World.size_alloc, size_setRow, dw_size]; omega)) _) | (refine Ext.tr ?_ (by assumption)))))) hc hf) ?_
    rintro ⟨_, w2⟩ ⟨a2, c2, S, rfl, h2, h3, E2⟩
    try dsimp only at a2 c2 S h2 h3 E2
    have zE2 := E2.size
    try simp only [World.size_alloc, size_setRow, dw_size] at zE2
    have hq : (((hgo book0 xs).2 : Int) == (n : Int)) = decide ((hgo book0 xs).2 = xs.length) := by rw [Bool.eq_iff_iff]; simp only [beq_iff_eq, decide_eq_true_eq]; omega
    simp (maxSteps := 1000000) (disch := first | assumption | omega | (simp only [World.size_alloc, size_setRow, dw_size]; done) | (simp only [World.size_alloc, size_setRow, dw_size] <;> omega) | (simp only [List.length_set, Array.length_toList, List.length_cons, List.length_nil, List.length_append, bts_size] <;> omega) | (simp only [List.all_cons, List.all_nil, Value.oneCell', Bool.and_self, Bool.and_true]; done)) [-Option.bind_some, hp_alloc_lt, hp_alloc_eq, hp_set_ne, wrap_small, ups_ap_cons, ups_ap_nil, upd_same, upd_other, env0_ap0, env0_aps, xt_a, xt_b, xt_c, -splice_eq, -stR_cells, stR_box, stR_boxA, stR_row, stR_row0, stR_row1, stR_rowA, stR_rowA0, splice_rowv, splice_rowv0, splice_rowv1, splice_z, splice_n, splice_s, nth_rowv, nth_rowv0, nth_rowv1, rowv_len, hq, E1.blk, E2.blk]
    exact hQ _ ⟨by simp only [okP, hf, Bool.true_and], by (repeat (first | exact Ext.rfl | assumption | (refine Ext.al ?_ _) | (refine Ext.dw ?_) | (refine Ext.set ?_ (by first | omega | (simp only [World.size_alloc, size_setRow, dw_size]; omega)) _) | (refine Ext.tr ?_ (by assumption))))⟩
end Go.Proofs.Ytcafhepclddcaaa.X
