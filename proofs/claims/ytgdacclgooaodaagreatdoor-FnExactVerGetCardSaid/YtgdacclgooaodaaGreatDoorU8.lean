/- A part of the proof: an evaluator of the model, its laws, and contracts of functions; no condition. -/
import Derived.Test.YtgdacclgooaodaaGreatDoorU6
import Derived.Test.YtgdacclgooaodaaGreatDoorU7
set_option linter.unusedVariables false
set_option linter.unusedSimpArgs false
set_option maxRecDepth 100000
set_option maxHeartbeats 1000000
namespace Go.Proofs.YtgdacclgooaodaaGreatDoor.X
open Go Go.Ev Go.RowKit
theorem VerGot.len {l : List UInt8} {v : Ver} {ok : Bool} (h : VerGot l v ok) : v.past.length ≤ 4 := by
  cases ok
  · rw [(h.2 rfl).1]; simp [verZ]
  · have := (ver_parts (h.1 rfl).1).2.2.2.2.2.1; omega
theorem VerGot.wt {l : List UInt8} {v : Ver} {ok : Bool} (h : VerGot l v ok) : MVerP.wt v ≤ 100 := by
  show MTag.wtL v.past ≤ 100
  have := h.len
  rw [wtTag]
  omega
theorem laws_FnExactVerGet_c {w : World} (G : GlobE w) {x0 : ByteArray} (hz : x0.size ≤ 140737488351232) : Ret (EV P 3 #[.string x0] w) fun r => r.1 = .bool true ∧ Ext w r.2 := by
  obtain ⟨l, rfl⟩ : ∃ l, x0 = bts l := ⟨_, (bts_of x0).symm⟩
  have hbn := bo_neq_bool (P := P) (t := 4) (by kernel_rfl)
  refine Ret.post fun Q hQ => ?_
  refine Ret.enter plain mixed (laws_FnExactVerGet_fn _ _) (by kernel_rfl) (n := 1) (by kernel_rfl) rfl ?_
  by_cases hlen : (1048576 : Int) < l.length
  · simp (maxSteps := 1000000) (disch := first | assumption | omega | (simp only [World.size_alloc, size_setRow, dw_size]; done) | (simp only [World.size_alloc, size_setRow, dw_size] <;> omega) | (simp only [List.length_set, Array.length_toList, List.length_cons, List.length_nil, List.length_append, bts_size] <;> omega) | (simp only [List.all_cons, List.all_nil, Value.oneCell', Bool.and_self, Bool.and_true]; done)) [-Option.bind_some, hp_alloc_lt, hp_alloc_eq, hp_set_ne, wrap_small, ups_ap_cons, ups_ap_nil, upd_same, upd_other, env0_ap0, env0_aps, xt_a, xt_b, xt_c, nk_ptr, -splice_eq, -stR_cells, stR_box, stR_boxA, stR_row, stR_row0, stR_row1, stR_rowA, stR_rowA0, splice_rowv, splice_rowv0, splice_rowv1, splice_z, splice_n, splice_s, nth_rowv, nth_rowv0, nth_rowv1, rowv_len, bts_size, hlen]
    exact hQ _ ⟨rfl, by (repeat (first | exact Ext.rfl | assumption | (refine Ext.al ?_ _) | (refine Ext.dw ?_) | (refine Ext.set ?_ (by first | omega | (simp only [World.size_alloc, size_setRow, dw_size]; omega)) _) | (refine Ext.tr ?_ (by assumption))))⟩
  simp (maxSteps := 1000000) (disch := first | assumption | omega | (simp only [World.size_alloc, size_setRow, dw_size]; done) | (simp only [World.size_alloc, size_setRow, dw_size] <;> omega) | (simp only [List.length_set, Array.length_toList, List.length_cons, List.length_nil, List.length_append, bts_size] <;> omega) | (simp only [List.all_cons, List.all_nil, Value.oneCell', Bool.and_self, Bool.and_true]; done)) [-Option.bind_some, hp_alloc_lt, hp_alloc_eq, hp_set_ne, wrap_small, ups_ap_cons, ups_ap_nil, upd_same, upd_other, env0_ap0, env0_aps, xt_a, xt_b, xt_c, nk_ptr, -splice_eq, -stR_cells, stR_box, stR_boxA, stR_row, stR_row0, stR_row1, stR_rowA, stR_rowA0, splice_rowv, splice_rowv0, splice_rowv1, splice_z, splice_n, splice_s, nth_rowv, nth_rowv0, nth_rowv1, rowv_len, bts_size, hlen]
  refine Ret.bind (spec_VerGet_m (l := l) (by omega) _) ?_
  rintro ⟨_, w1⟩ ⟨v, ok, d1, rfl, hg1, o1, E1⟩
  try dsimp only at v ok d1 hg1 o1 E1
  have zE1 := E1.size
  try simp only [World.size_alloc, size_setRow, dw_size] at zE1
  have zo1 := O.ver.1 o1
  obtain ⟨a1, c1, rfl, _, _⟩ := zo1
  have bR := MVerP_le 1 v
  have hR := hg1.wt
  simp (maxSteps := 1000000) (disch := first | assumption | omega | (simp only [World.size_alloc, size_setRow, dw_size]; done) | (simp only [World.size_alloc, size_setRow, dw_size] <;> omega) | (simp only [List.length_set, Array.length_toList, List.length_cons, List.length_nil, List.length_append, bts_size] <;> omega) | (simp only [List.all_cons, List.all_nil, Value.oneCell', Bool.and_self, Bool.and_true]; done)) [-Option.bind_some, hp_alloc_lt, hp_alloc_eq, hp_set_ne, wrap_small, ups_ap_cons, ups_ap_nil, upd_same, upd_other, env0_ap0, env0_aps, xt_a, xt_b, xt_c, nk_ptr, -splice_eq, -stR_cells, stR_box, stR_boxA, stR_row, stR_row0, stR_row1, stR_rowA, stR_rowA0, splice_rowv, splice_rowv0, splice_rowv1, splice_z, splice_n, splice_s, nth_rowv, nth_rowv0, nth_rowv1, rowv_len, xt_a, xt_b, E1.blk]
  refine Ret.bind (impl_VerGet_m (l := l) (by omega) (G.ext (by (repeat (first | exact Ext.rfl | assumption | (refine Ext.al ?_ _) | (refine Ext.dw ?_) | (refine Ext.set ?_ (by first | omega | (simp only [World.size_alloc, size_setRow, dw_size]; omega)) _) | (refine Ext.tr ?_ (by assumption))))))) ?_
  rintro ⟨_, w2⟩ ⟨v2, ok2, d2, rfl, hg2, o2, E2⟩
  try dsimp only at v2 ok2 d2 hg2 o2 E2
  have zE2 := E2.size
  try simp only [World.size_alloc, size_setRow, dw_size] at zE2
  obtain ⟨rfl, rfl⟩ := hg2.eq hg1
  have zo2 := O.ver.1 o2
  obtain ⟨a2, c2, rfl, _, _⟩ := zo2
  simp (maxSteps := 1000000) (disch := first | assumption | omega | (simp only [World.size_alloc, size_setRow, dw_size]; done) | (simp only [World.size_alloc, size_setRow, dw_size] <;> omega) | (simp only [List.length_set, Array.length_toList, List.length_cons, List.length_nil, List.length_append, bts_size] <;> omega) | (simp only [List.all_cons, List.all_nil, Value.oneCell', Bool.and_self, Bool.and_true]; done)) [-Option.bind_some, hp_alloc_lt, hp_alloc_eq, hp_set_ne, wrap_small, ups_ap_cons, ups_ap_nil, upd_same, upd_other, env0_ap0, env0_aps, xt_a, xt_b, xt_c, nk_ptr, -splice_eq, -stR_cells, stR_box, stR_boxA, stR_row, stR_row0, stR_row1, stR_rowA, stR_rowA0, splice_rowv, splice_rowv0, splice_rowv1, splice_z, splice_n, splice_s, nth_rowv, nth_rowv0, nth_rowv1, rowv_len, xt_a, xt_b, E1.blk, E2.blk]
  refine Ret.bind (laws_eqVerR_m (o2.keep (by intro b hS hb; (try dsimp only at hS); (try simp only [In, World.size_alloc, size_setRow, dw_size] at hS hb); first | rfl | (simp (disch := first | assumption | omega | (simp only [World.size_alloc, size_setRow, dw_size]; omega) | (simp only [World.size_alloc, size_setRow, dw_size, In]; omega)) only [E1.blk, E2.blk, hp_alloc_lt, hp_set_ne, hp_dw]; done))).d (o1.keep (by intro b hS hb; (try dsimp only at hS); (try simp only [In, World.size_alloc, size_setRow, dw_size] at hS hb); first | rfl | (simp (disch := first | assumption | omega | (simp only [World.size_alloc, size_setRow, dw_size]; omega) | (simp only [World.size_alloc, size_setRow, dw_size, In]; omega)) only [E1.blk, E2.blk, hp_alloc_lt, hp_set_ne, hp_dw]; done))).d) ?_
  rintro ⟨_, w3⟩ ⟨rfl, E3⟩
  try dsimp only at E3
  have zE3 := E3.size
  try simp only [World.size_alloc, size_setRow, dw_size] at zE3
  simp (maxSteps := 1000000) (disch := first | assumption | omega | (simp only [World.size_alloc, size_setRow, dw_size]; done) | (simp only [World.size_alloc, size_setRow, dw_size] <;> omega) | (simp only [List.length_set, Array.length_toList, List.length_cons, List.length_nil, List.length_append, bts_size] <;> omega) | (simp only [List.all_cons, List.all_nil, Value.oneCell', Bool.and_self, Bool.and_true]; done)) [-Option.bind_some, hp_alloc_lt, hp_alloc_eq, hp_set_ne, wrap_small, ups_ap_cons, ups_ap_nil, upd_same, upd_other, env0_ap0, env0_aps, xt_a, xt_b, xt_c, nk_ptr, -splice_eq, -stR_cells, stR_box, stR_boxA, stR_row, stR_row0, stR_row1, stR_rowA, stR_rowA0, splice_rowv, splice_rowv0, splice_rowv1, splice_z, splice_n, splice_s, nth_rowv, nth_rowv0, nth_rowv1, rowv_len, hbn, bne_self_eq_false, E1.blk, E2.blk, E3.blk]
  refine Ret.bind (laws_markVerR_m (k := 1) (by omega) (by omega) (o2.keep (by intro b hS hb; (try dsimp only at hS); (try simp only [In, World.size_alloc, size_setRow, dw_size] at hS hb); first | rfl | (simp (disch := first | assumption | omega | (simp only [World.size_alloc, size_setRow, dw_size]; omega) | (simp only [World.size_alloc, size_setRow, dw_size, In]; omega)) only [E1.blk, E2.blk, E3.blk, hp_alloc_lt, hp_set_ne, hp_dw]; done)))) ?_
  rintro ⟨_, w4⟩ ⟨rfl, o4, M4⟩
  try dsimp only at o4 M4
  have zM4 := M4.size
  try simp only [World.size_alloc, size_setRow, dw_size] at zM4
  have F4 : Ext w w4 := Mod.after (by (repeat (first | exact Ext.rfl | assumption | (refine Ext.al ?_ _) | (refine Ext.dw ?_) | (refine Ext.set ?_ (by first | omega | (simp only [World.size_alloc, size_setRow, dw_size]; omega)) _) | (refine Ext.tr ?_ (by assumption))))) M4 (by intro x hx h; (try dsimp only at h); (try simp only [In, World.size_alloc, size_setRow, dw_size] at *); omega)
  simp (maxSteps := 1000000) (disch := first | assumption | omega | (simp only [World.size_alloc, size_setRow, dw_size]; done) | (simp only [World.size_alloc, size_setRow, dw_size] <;> omega) | (simp only [List.length_set, Array.length_toList, List.length_cons, List.length_nil, List.length_append, bts_size] <;> omega) | (simp only [List.all_cons, List.all_nil, Value.oneCell', Bool.and_self, Bool.and_true]; done)) [-Option.bind_some, hp_alloc_lt, hp_alloc_eq, hp_set_ne, wrap_small, ups_ap_cons, ups_ap_nil, upd_same, upd_other, env0_ap0, env0_aps, xt_a, xt_b, xt_c, nk_ptr, -splice_eq, -stR_cells, stR_box, stR_boxA, stR_row, stR_row0, stR_row1, stR_rowA, stR_rowA0, splice_rowv, splice_rowv0, splice_rowv1, splice_z, splice_n, splice_s, nth_rowv, nth_rowv0, nth_rowv1, rowv_len, E1.blk, E2.blk, E3.blk, M4.blk]
  refine Ret.bind (laws_heldVerR_m (k := 1) (by omega) (by omega) (o4.keep (by intro b hS hb; (try dsimp only at hS); (try simp only [In, World.size_alloc, size_setRow, dw_size] at hS hb); first | rfl | (simp (disch := first | assumption | omega | (simp only [World.size_alloc, size_setRow, dw_size]; omega) | (simp only [World.size_alloc, size_setRow, dw_size, In]; omega)) only [E1.blk, E2.blk, E3.blk, M4.blk, hp_alloc_lt, hp_set_ne, hp_dw]; done))).d) ?_
  rintro ⟨_, w5⟩ ⟨rfl, E5⟩
  try dsimp only at E5
  have zE5 := E5.size
  try simp only [World.size_alloc, size_setRow, dw_size] at zE5
  simp (maxSteps := 1000000) (disch := first | assumption | omega | (simp only [World.size_alloc, size_setRow, dw_size]; done) | (simp only [World.size_alloc, size_setRow, dw_size] <;> omega) | (simp only [List.length_set, Array.length_toList, List.length_cons, List.length_nil, List.length_append, bts_size] <;> omega) | (simp only [List.all_cons, List.all_nil, Value.oneCell', Bool.and_self, Bool.and_true]; done)) [-Option.bind_some, hp_alloc_lt, hp_alloc_eq, hp_set_ne, wrap_small, ups_ap_cons, ups_ap_nil, upd_same, upd_other, env0_ap0, env0_aps, xt_a, xt_b, xt_c, nk_ptr, -splice_eq, -stR_cells, stR_box, stR_boxA, stR_row, stR_row0, stR_row1, stR_rowA, stR_rowA0, splice_rowv, splice_rowv0, splice_rowv1, splice_z, splice_n, splice_s, nth_rowv, nth_rowv0, nth_rowv1, rowv_len, show ¬ MVerP.nx 1 v2 < 0 by omega, bne_self_eq_false, E1.blk, E2.blk, E3.blk, M4.blk, E5.blk]
  refine Ret.bind (impl_VerGet_m (l := l) (by omega) (G.ext (by (repeat (first | exact Ext.rfl | assumption | (refine Ext.al ?_ _) | (refine Ext.dw ?_) | (refine Ext.set ?_ (by first | omega | (simp only [World.size_alloc, size_setRow, dw_size]; omega)) _) | (refine Ext.tr ?_ (by assumption))))))) ?_
  rintro ⟨_, w6⟩ ⟨v3, ok3, d3, rfl, hg3, o6, E6⟩
  try dsimp only at v3 ok3 d3 hg3 o6 E6
  have zE6 := E6.size
  try simp only [World.size_alloc, size_setRow, dw_size] at zE6
  obtain ⟨rfl, rfl⟩ := hg3.eq hg1
  have zo6 := O.ver.1 o6
  obtain ⟨a6, c6, rfl, _, _⟩ := zo6
  simp (maxSteps := 1000000) (disch := first | assumption | omega | (simp only [World.size_alloc, size_setRow, dw_size]; done) | (simp only [World.size_alloc, size_setRow, dw_size] <;> omega) | (simp only [List.length_set, Array.length_toList, List.length_cons, List.length_nil, List.length_append, bts_size] <;> omega) | (simp only [List.all_cons, List.all_nil, Value.oneCell', Bool.and_self, Bool.and_true]; done)) [-Option.bind_some, hp_alloc_lt, hp_alloc_eq, hp_set_ne, wrap_small, ups_ap_cons, ups_ap_nil, upd_same, upd_other, env0_ap0, env0_aps, xt_a, xt_b, xt_c, nk_ptr, -splice_eq, -stR_cells, stR_box, stR_boxA, stR_row, stR_row0, stR_row1, stR_rowA, stR_rowA0, splice_rowv, splice_rowv0, splice_rowv1, splice_z, splice_n, splice_s, nth_rowv, nth_rowv0, nth_rowv1, rowv_len, xt_a, xt_b, E1.blk, E2.blk, E3.blk, M4.blk, E5.blk, E6.blk]
  refine Ret.bind (laws_eqVerR_m (o6.keep (by intro b hS hb; (try dsimp only at hS); (try simp only [In, World.size_alloc, size_setRow, dw_size] at hS hb); first | rfl | (simp (disch := first | assumption | omega | (simp only [World.size_alloc, size_setRow, dw_size]; omega) | (simp only [World.size_alloc, size_setRow, dw_size, In]; omega)) only [E1.blk, E2.blk, E3.blk, M4.blk, E5.blk, E6.blk, hp_alloc_lt, hp_set_ne, hp_dw]; done))).d (o1.keep (by intro b hS hb; (try dsimp only at hS); (try simp only [In, World.size_alloc, size_setRow, dw_size] at hS hb); first | rfl | (simp (disch := first | assumption | omega | (simp only [World.size_alloc, size_setRow, dw_size]; omega) | (simp only [World.size_alloc, size_setRow, dw_size, In]; omega)) only [E1.blk, E2.blk, E3.blk, M4.blk, E5.blk, E6.blk, hp_alloc_lt, hp_set_ne, hp_dw]; done))).d) ?_
  rintro ⟨_, w7⟩ ⟨rfl, E7⟩
  try dsimp only at E7
  have zE7 := E7.size
  try simp only [World.size_alloc, size_setRow, dw_size] at zE7
  simp (maxSteps := 1000000) (disch := first | assumption | omega | (simp only [World.size_alloc, size_setRow, dw_size]; done) | (simp only [World.size_alloc, size_setRow, dw_size] <;> omega) | (simp only [List.length_set, Array.length_toList, List.length_cons, List.length_nil, List.length_append, bts_size] <;> omega) | (simp only [List.all_cons, List.all_nil, Value.oneCell', Bool.and_self, Bool.and_true]; done)) [-Option.bind_some, hp_alloc_lt, hp_alloc_eq, hp_set_ne, wrap_small, ups_ap_cons, ups_ap_nil, upd_same, upd_other, env0_ap0, env0_aps, xt_a, xt_b, xt_c, nk_ptr, -splice_eq, -stR_cells, stR_box, stR_boxA, stR_row, stR_row0, stR_row1, stR_rowA, stR_rowA0, splice_rowv, splice_rowv0, splice_rowv1, splice_z, splice_n, splice_s, nth_rowv, nth_rowv0, nth_rowv1, rowv_len, hbn, bne_self_eq_false, E1.blk, E2.blk, E3.blk, M4.blk, E5.blk, E6.blk, E7.blk]
  refine Ret.bind (laws_heldVerR_m (k := 1) (by omega) (by omega) (o4.keep (by intro b hS hb; (try dsimp only at hS); (try simp only [In, World.size_alloc, size_setRow, dw_size] at hS hb); first | rfl | (simp (disch := first | assumption | omega | (simp only [World.size_alloc, size_setRow, dw_size]; omega) | (simp only [World.size_alloc, size_setRow, dw_size, In]; omega)) only [E1.blk, E2.blk, E3.blk, M4.blk, E5.blk, E6.blk, E7.blk, hp_alloc_lt, hp_set_ne, hp_dw]; done))).d) ?_
  rintro ⟨_, w8⟩ ⟨rfl, E8⟩
  try dsimp only at E8
  have zE8 := E8.size
  try simp only [World.size_alloc, size_setRow, dw_size] at zE8
  simp (maxSteps := 1000000) (disch := first | assumption | omega | (simp only [World.size_alloc, size_setRow, dw_size]; done) | (simp only [World.size_alloc, size_setRow, dw_size] <;> omega) | (simp only [List.length_set, Array.length_toList, List.length_cons, List.length_nil, List.length_append, bts_size] <;> omega) | (simp only [List.all_cons, List.all_nil, Value.oneCell', Bool.and_self, Bool.and_true]; done)) [-Option.bind_some, hp_alloc_lt, hp_alloc_eq, hp_set_ne, wrap_small, ups_ap_cons, ups_ap_nil, upd_same, upd_other, env0_ap0, env0_aps, xt_a, xt_b, xt_c, nk_ptr, -splice_eq, -stR_cells, stR_box, stR_boxA, stR_row, stR_row0, stR_row1, stR_rowA, stR_rowA0, splice_rowv, splice_rowv0, splice_rowv1, splice_z, splice_n, splice_s, nth_rowv, nth_rowv0, nth_rowv1, rowv_len, show ¬ MVerP.nx 1 v3 < 0 by omega, bne_self_eq_false, E1.blk, E2.blk, E3.blk, M4.blk, E5.blk, E6.blk, E7.blk, E8.blk]
  exact hQ _ ⟨rfl, by (repeat (first | exact Ext.rfl | assumption | (refine Ext.al ?_ _) | (refine Ext.dw ?_) | (refine Ext.set ?_ (by first | omega | (simp only [World.size_alloc, size_setRow, dw_size]; omega)) _) | (refine Ext.tr ?_ (by assumption))))⟩
end Go.Proofs.YtgdacclgooaodaaGreatDoor.X
