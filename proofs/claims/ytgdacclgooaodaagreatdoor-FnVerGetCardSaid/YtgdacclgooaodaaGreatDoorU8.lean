/- A part of the proof: an evaluator of the model, its laws, and contracts of functions; no condition. -/
import Derived.Test.YtgdacclgooaodaaGreatDoorU6
import Derived.Test.YtgdacclgooaodaaGreatDoorU7
set_option linter.unusedVariables false
set_option linter.unusedSimpArgs false
set_option maxRecDepth 100000
set_option maxHeartbeats 1000000
namespace Go.Proofs.YtgdacclgooaodaaGreatDoor.X
open Go Go.Ev Go.RowKit
theorem VerGot.len {l : List UInt8} {v : Ver} {ok : Bool} (h : VerGot l v ok) : v.past.length ≤ 4 := by
  cases ok
  · rw [(h.2 rfl).1]; simp [verZ]
  · have := (ver_parts (h.1 rfl).1).2.2.2.2.2.1; omega
theorem verL_bound' {v : Ver} (h : verOk v = true) : (verL v).length ≤ 20008 := by
  have h1 := verL_bound h
  have h2 := (ver_parts h).2.2.1
  simp only [textOk, Bool.and_eq_true, decide_eq_true_eq] at h2
  omega
theorem verPutL_len (v : Ver) : (verPutL v).length ≤ 20008 := by
  unfold verPutL
  split
  · exact verL_bound' ‹_›
  · simp
theorem spec_DrawVerGet_m {s : Value} {ns : List Int} {w : World} (hs : rBytes w s ns) (hn : ns.length ≤ 1000000000000) : Ret (EV P 18 #[s] w) fun r => ∃ l : List UInt8, r.1 = .string (bts l) ∧ l.length ≤ 30000 ∧ Ext w r.2 := by
  refine Ret.post fun Q hQ => ?_
  refine Ret.enter plain mixed (spec_DrawVerGet_fn _ _) (by kernel_rfl) (n := 1) (by kernel_rfl) rfl ?_
  simp (maxSteps := 1000000) (disch := first | assumption | omega | (simp only [World.size_alloc, size_setRow, dw_size]; done) | (simp only [World.size_alloc, size_setRow, dw_size] <;> omega) | (simp only [List.length_set, Array.length_toList, List.length_cons, List.length_nil, List.length_append, bts_size] <;> omega) | (simp only [List.all_cons, List.all_nil, Value.oneCell', Bool.and_self, Bool.and_true]; done)) [-Option.bind_some, hp_alloc_lt, hp_alloc_eq, hp_set_ne, wrap_small, ups_ap_cons, ups_ap_nil, upd_same, upd_other, env0_ap0, env0_aps, xt_a, xt_b, xt_c, nk_ptr, -splice_eq, -stR_cells, stR_box, stR_boxA, stR_row, stR_row0, stR_row1, stR_rowA, stR_rowA0, splice_rowv, splice_rowv0, splice_rowv1, splice_z, splice_n, splice_s, nth_rowv, nth_rowv0, nth_rowv1, rowv_len]
  refine Ret.bind (spec_l20Open_m hs hn) ?_
  rintro ⟨_, w1⟩ ⟨g, rfl, R1, E1⟩
  try dsimp only at g R1 E1
  have zE1 := E1.size
  try simp only [World.size_alloc, size_setRow, dw_size] at zE1
  have hl := R1.lt
  simp (maxSteps := 1000000) (disch := first | assumption | omega | (simp only [World.size_alloc, size_setRow, dw_size]; done) | (simp only [World.size_alloc, size_setRow, dw_size] <;> omega) | (simp only [List.length_set, Array.length_toList, List.length_cons, List.length_nil, List.length_append, bts_size] <;> omega) | (simp only [List.all_cons, List.all_nil, Value.oneCell', Bool.and_self, Bool.and_true]; done)) [-Option.bind_some, hp_alloc_lt, hp_alloc_eq, hp_set_ne, wrap_small, ups_ap_cons, ups_ap_nil, upd_same, upd_other, env0_ap0, env0_aps, xt_a, xt_b, xt_c, nk_ptr, -splice_eq, -stR_cells, stR_box, stR_boxA, stR_row, stR_row0, stR_row1, stR_rowA, stR_rowA0, splice_rowv, splice_rowv0, splice_rowv1, splice_z, splice_n, splice_s, nth_rowv, nth_rowv0, nth_rowv1, rowv_len, E1.blk]
  refine Ret.bind (spec_l20Ver_m (by omega) R1) ?_
  rintro ⟨_, w2⟩ ⟨v, ds, p', rfl, o2, _, _, _, hp2, R2, M2⟩
  have zM2 := M2.size
  try simp only [World.size_alloc, size_setRow, dw_size] at zM2
  try dsimp only at o2 R2 M2
  have hl2 := R2.lt
  have E2 : Ext w w2 := Mod.after (a := w) (by (repeat (first | exact Ext.rfl | assumption | (refine Ext.al ?_ _) | (refine Ext.dw ?_) | (refine Ext.set ?_ (by first | omega | (simp only [World.size_alloc, size_setRow, dw_size]; omega)) _) | (refine Ext.tr ?_ (by assumption))))) M2 (by intro x hx h; omega)
  have zE2 := E2.size
  try simp only [World.size_alloc, size_setRow, dw_size] at zE2
  simp (maxSteps := 1000000) (disch := first | assumption | omega | (simp only [World.size_alloc, size_setRow, dw_size]; done) | (simp only [World.size_alloc, size_setRow, dw_size] <;> omega) | (simp only [List.length_set, Array.length_toList, List.length_cons, List.length_nil, List.length_append, bts_size] <;> omega) | (simp only [List.all_cons, List.all_nil, Value.oneCell', Bool.and_self, Bool.and_true]; done)) [-Option.bind_some, hp_alloc_lt, hp_alloc_eq, hp_set_ne, wrap_small, ups_ap_cons, ups_ap_nil, upd_same, upd_other, env0_ap0, env0_aps, xt_a, xt_b, xt_c, nk_ptr, -splice_eq, -stR_cells, stR_box, stR_boxA, stR_row, stR_row0, stR_row1, stR_rowA, stR_rowA0, splice_rowv, splice_rowv0, splice_rowv1, splice_z, splice_n, splice_s, nth_rowv, nth_rowv0, nth_rowv1, rowv_len, E1.blk, M2.blk, E2.blk]
  refine Ret.bind (spec_VerPut_m (o2.d.ext (by (repeat (first | exact Ext.rfl | assumption | (refine Ext.al ?_ _) | (refine Ext.dw ?_) | (refine Ext.set ?_ (by first | omega | (simp only [World.size_alloc, size_setRow, dw_size]; omega)) _) | (refine Ext.tr ?_ (by assumption))))))) ?_
  rintro ⟨_, w3⟩ ⟨rfl, E3⟩
  try dsimp only at E3
  have zE3 := E3.size
  try simp only [World.size_alloc, size_setRow, dw_size] at zE3
  have R3 := R2.ext E3
  have hl3 := R3.lt
  have htl := verPutL_len v
  simp (maxSteps := 1000000) (disch := first | assumption | omega | (simp only [World.size_alloc, size_setRow, dw_size]; done) | (simp only [World.size_alloc, size_setRow, dw_size] <;> omega) | (simp only [List.length_set, Array.length_toList, List.length_cons, List.length_nil, List.length_append, bts_size] <;> omega) | (simp only [List.all_cons, List.all_nil, Value.oneCell', Bool.and_self, Bool.and_true]; done)) [-Option.bind_some, hp_alloc_lt, hp_alloc_eq, hp_set_ne, wrap_small, ups_ap_cons, ups_ap_nil, upd_same, upd_other, env0_ap0, env0_aps, xt_a, xt_b, xt_c, nk_ptr, -splice_eq, -stR_cells, stR_box, stR_boxA, stR_row, stR_row0, stR_row1, stR_rowA, stR_rowA0, splice_rowv, splice_rowv0, splice_rowv1, splice_z, splice_n, splice_s, nth_rowv, nth_rowv0, nth_rowv1, rowv_len, E1.blk, M2.blk, E2.blk, E3.blk]
  refine Ret.bind (spec_l20Rd_pick_m (k := 2) (by omega) (by omega) (by omega) R3) ?_
  rintro ⟨_, w4⟩ ⟨m, rfl, hm, R4, M4⟩
  have zM4 := M4.size
  try simp only [World.size_alloc, size_setRow, dw_size] at zM4
  try dsimp only at R4 M4
  have hl4 := R4.lt
  have E4 : Ext w w4 := Mod.after (a := w) (E2.tr E3) M4 (by intro x hx h; omega)
  have zE4 := E4.size
  try simp only [World.size_alloc, size_setRow, dw_size] at zE4
  cases h0 : ((m : Int) == 0)
  · simp (maxSteps := 1000000) (disch := first | assumption | omega | (simp only [World.size_alloc, size_setRow, dw_size]; done) | (simp only [World.size_alloc, size_setRow, dw_size] <;> omega) | (simp only [List.length_set, Array.length_toList, List.length_cons, List.length_nil, List.length_append, bts_size] <;> omega) | (simp only [List.all_cons, List.all_nil, Value.oneCell', Bool.and_self, Bool.and_true]; done)) [-Option.bind_some, hp_alloc_lt, hp_alloc_eq, hp_set_ne, wrap_small, ups_ap_cons, ups_ap_nil, upd_same, upd_other, env0_ap0, env0_aps, xt_a, xt_b, xt_c, nk_ptr, -splice_eq, -stR_cells, stR_box, stR_boxA, stR_row, stR_row0, stR_row1, stR_rowA, stR_rowA0, splice_rowv, splice_rowv0, splice_rowv1, splice_z, splice_n, splice_s, nth_rowv, nth_rowv0, nth_rowv1, rowv_len, h0, E1.blk, M2.blk, E2.blk, E3.blk, M4.blk, E4.blk]
    refine Ret.bind (spec_l20Bent_m (by omega) (by omega) R4) ?_
    rintro ⟨_, w5⟩ ⟨l', p5, rfl, hl5, hp5, R5, M5⟩
    have zM5 := M5.size
    try simp only [World.size_alloc, size_setRow, dw_size] at zM5
    try dsimp only at R5 M5
    have E5 : Ext w w5 := Mod.after (a := w) E4 M5 (by intro x hx h; omega)
    have zE5 := E5.size
    try simp only [World.size_alloc, size_setRow, dw_size] at zE5
    simp (maxSteps := 1000000) (disch := first | assumption | omega | (simp only [World.size_alloc, size_setRow, dw_size]; done) | (simp only [World.size_alloc, size_setRow, dw_size] <;> omega) | (simp only [List.length_set, Array.length_toList, List.length_cons, List.length_nil, List.length_append, bts_size] <;> omega) | (simp only [List.all_cons, List.all_nil, Value.oneCell', Bool.and_self, Bool.and_true]; done)) [-Option.bind_some, hp_alloc_lt, hp_alloc_eq, hp_set_ne, wrap_small, ups_ap_cons, ups_ap_nil, upd_same, upd_other, env0_ap0, env0_aps, xt_a, xt_b, xt_c, nk_ptr, -splice_eq, -stR_cells, stR_box, stR_boxA, stR_row, stR_row0, stR_row1, stR_rowA, stR_rowA0, splice_rowv, splice_rowv0, splice_rowv1, splice_z, splice_n, splice_s, nth_rowv, nth_rowv0, nth_rowv1, rowv_len, E1.blk, M2.blk, E2.blk, E3.blk, M4.blk, E4.blk, M5.blk, E5.blk]
    exact hQ _ ⟨l', rfl, by omega, E5⟩
  · simp (maxSteps := 1000000) (disch := first | assumption | omega | (simp only [World.size_alloc, size_setRow, dw_size]; done) | (simp only [World.size_alloc, size_setRow, dw_size] <;> omega) | (simp only [List.length_set, Array.length_toList, List.length_cons, List.length_nil, List.length_append, bts_size] <;> omega) | (simp only [List.all_cons, List.all_nil, Value.oneCell', Bool.and_self, Bool.and_true]; done)) [-Option.bind_some, hp_alloc_lt, hp_alloc_eq, hp_set_ne, wrap_small, ups_ap_cons, ups_ap_nil, upd_same, upd_other, env0_ap0, env0_aps, xt_a, xt_b, xt_c, nk_ptr, -splice_eq, -stR_cells, stR_box, stR_boxA, stR_row, stR_row0, stR_row1, stR_rowA, stR_rowA0, splice_rowv, splice_rowv0, splice_rowv1, splice_z, splice_n, splice_s, nth_rowv, nth_rowv0, nth_rowv1, rowv_len, h0, E1.blk, M2.blk, E2.blk, E3.blk, M4.blk, E4.blk]
    exact hQ _ ⟨_, rfl, by omega, E4⟩
theorem laws_FnVerGet_c {s : Value} {ns : List Int} {w : World} (G : GlobE w) (hs : rBytes w s ns) : Ret (EV P 5 #[s] w) fun r => r.1 = .bool true ∧ Ext w r.2 := by
  have hs' := hs
  obtain ⟨a, c, rfl, q2, q3, q4, q5⟩ := hs
  have hbn := bo_neq_bool (P := P) (t := 4) (by kernel_rfl)
  have hbe := bo_eql_bool (P := P) (t := 4) (by kernel_rfl)
  refine Ret.post fun Q hQ => ?_
  refine Ret.enter plain mixed (laws_FnVerGet_fn _ _) (by kernel_rfl) (n := 1) (by kernel_rfl) rfl ?_
  by_cases hl : 1048576 < ns.length
  · simp (maxSteps := 1000000) (disch := first | assumption | omega | (simp only [World.size_alloc, size_setRow, dw_size]; done) | (simp only [World.size_alloc, size_setRow, dw_size] <;> omega) | (simp only [List.length_set, Array.length_toList, List.length_cons, List.length_nil, List.length_append, bts_size] <;> omega) | (simp only [List.all_cons, List.all_nil, Value.oneCell', Bool.and_self, Bool.and_true]; done)) [-Option.bind_some, hp_alloc_lt, hp_alloc_eq, hp_set_ne, wrap_small, ups_ap_cons, ups_ap_nil, upd_same, upd_other, env0_ap0, env0_aps, xt_a, xt_b, xt_c, nk_ptr, -splice_eq, -stR_cells, stR_box, stR_boxA, stR_row, stR_row0, stR_row1, stR_rowA, stR_rowA0, splice_rowv, splice_rowv0, splice_rowv1, splice_z, splice_n, splice_s, nth_rowv, nth_rowv0, nth_rowv1, rowv_len, show (1048576 : Int) < ns.length by omega]
    exact hQ _ ⟨rfl, by (repeat (first | exact Ext.rfl | assumption | (refine Ext.al ?_ _) | (refine Ext.dw ?_) | (refine Ext.set ?_ (by first | omega | (simp only [World.size_alloc, size_setRow, dw_size]; omega)) _) | (refine Ext.tr ?_ (by assumption))))⟩
  simp (maxSteps := 1000000) (disch := first | assumption | omega | (simp only [World.size_alloc, size_setRow, dw_size]; done) | (simp only [World.size_alloc, size_setRow, dw_size] <;> omega) | (simp only [List.length_set, Array.length_toList, List.length_cons, List.length_nil, List.length_append, bts_size] <;> omega) | (simp only [List.all_cons, List.all_nil, Value.oneCell', Bool.and_self, Bool.and_true]; done)) [-Option.bind_some, hp_alloc_lt, hp_alloc_eq, hp_set_ne, wrap_small, ups_ap_cons, ups_ap_nil, upd_same, upd_other, env0_ap0, env0_aps, xt_a, xt_b, xt_c, nk_ptr, -splice_eq, -stR_cells, stR_box, stR_boxA, stR_row, stR_row0, stR_row1, stR_rowA, stR_rowA0, splice_rowv, splice_rowv0, splice_rowv1, splice_z, splice_n, splice_s, nth_rowv, nth_rowv0, nth_rowv1, rowv_len, show ¬ (1048576 : Int) < ns.length by omega]
  refine Ret.bind (spec_DrawVerGet_m hs' (by omega)) ?_
  rintro ⟨_, w1⟩ ⟨l, rfl, hll, E1⟩
  try dsimp only at l hll E1
  have zE1 := E1.size
  try simp only [World.size_alloc, size_setRow, dw_size] at zE1
  simp (maxSteps := 1000000) (disch := first | assumption | omega | (simp only [World.size_alloc, size_setRow, dw_size]; done) | (simp only [World.size_alloc, size_setRow, dw_size] <;> omega) | (simp only [List.length_set, Array.length_toList, List.length_cons, List.length_nil, List.length_append, bts_size] <;> omega) | (simp only [List.all_cons, List.all_nil, Value.oneCell', Bool.and_self, Bool.and_true]; done)) [-Option.bind_some, hp_alloc_lt, hp_alloc_eq, hp_set_ne, wrap_small, ups_ap_cons, ups_ap_nil, upd_same, upd_other, env0_ap0, env0_aps, xt_a, xt_b, xt_c, nk_ptr, -splice_eq, -stR_cells, stR_box, stR_boxA, stR_row, stR_row0, stR_row1, stR_rowA, stR_rowA0, splice_rowv, splice_rowv0, splice_rowv1, splice_z, splice_n, splice_s, nth_rowv, nth_rowv0, nth_rowv1, rowv_len, E1.blk]
  refine Ret.bind (impl_VerGet_m (l := l) (by omega) (G.ext (by (repeat (first | exact Ext.rfl | assumption | (refine Ext.al ?_ _) | (refine Ext.dw ?_) | (refine Ext.set ?_ (by first | omega | (simp only [World.size_alloc, size_setRow, dw_size]; omega)) _) | (refine Ext.tr ?_ (by assumption))))))) ?_
  rintro ⟨_, w2⟩ ⟨v, ok, d2, rfl, hg, o2, E2⟩
  try dsimp only at v ok d2 hg o2 E2
  have zE2 := E2.size
  try simp only [World.size_alloc, size_setRow, dw_size] at zE2
  have zo2 := O.ver.1 o2
  obtain ⟨a2, c2, rfl, _, _⟩ := zo2
  simp (maxSteps := 1000000) (disch := first | assumption | omega | (simp only [World.size_alloc, size_setRow, dw_size]; done) | (simp only [World.size_alloc, size_setRow, dw_size] <;> omega) | (simp only [List.length_set, Array.length_toList, List.length_cons, List.length_nil, List.length_append, bts_size] <;> omega) | (simp only [List.all_cons, List.all_nil, Value.oneCell', Bool.and_self, Bool.and_true]; done)) [-Option.bind_some, hp_alloc_lt, hp_alloc_eq, hp_set_ne, wrap_small, ups_ap_cons, ups_ap_nil, upd_same, upd_other, env0_ap0, env0_aps, xt_a, xt_b, xt_c, nk_ptr, -splice_eq, -stR_cells, stR_box, stR_boxA, stR_row, stR_row0, stR_row1, stR_rowA, stR_rowA0, splice_rowv, splice_rowv0, splice_rowv1, splice_z, splice_n, splice_s, nth_rowv, nth_rowv0, nth_rowv1, rowv_len, xt_a, xt_b, E1.blk, E2.blk]
  refine Ret.bind (spec_VerGet_m (l := l) (by omega) _) ?_
  rintro ⟨_, w3⟩ ⟨v', ok', d3, rfl, hg', o3, E3⟩
  try dsimp only at v' ok' d3 hg' o3 E3
  have zE3 := E3.size
  try simp only [World.size_alloc, size_setRow, dw_size] at zE3
  obtain ⟨rfl, rfl⟩ := hg.eq hg'
  have zo3 := O.ver.1 o3
  obtain ⟨a3, c3, rfl, _, _⟩ := zo3
  simp (maxSteps := 1000000) (disch := first | assumption | omega | (simp only [World.size_alloc, size_setRow, dw_size]; done) | (simp only [World.size_alloc, size_setRow, dw_size] <;> omega) | (simp only [List.length_set, Array.length_toList, List.length_cons, List.length_nil, List.length_append, bts_size] <;> omega) | (simp only [List.all_cons, List.all_nil, Value.oneCell', Bool.and_self, Bool.and_true]; done)) [-Option.bind_some, hp_alloc_lt, hp_alloc_eq, hp_set_ne, wrap_small, ups_ap_cons, ups_ap_nil, upd_same, upd_other, env0_ap0, env0_aps, xt_a, xt_b, xt_c, nk_ptr, -splice_eq, -stR_cells, stR_box, stR_boxA, stR_row, stR_row0, stR_row1, stR_rowA, stR_rowA0, splice_rowv, splice_rowv0, splice_rowv1, splice_z, splice_n, splice_s, nth_rowv, nth_rowv0, nth_rowv1, rowv_len, xt_a, xt_b, hbn, E1.blk, E2.blk, E3.blk]
  refine Ret.bind (laws_cfVer_m (o2.keep (by intro b hS hb; (try dsimp only at hS); (try simp only [In, World.size_alloc, size_setRow, dw_size] at hS hb); first | rfl | (simp (disch := first | assumption | omega | (simp only [World.size_alloc, size_setRow, dw_size]; omega) | (simp only [World.size_alloc, size_setRow, dw_size, In]; omega)) only [E1.blk, E2.blk, E3.blk, hp_alloc_lt, hp_set_ne, hp_dw]; done))).d (o3.keep (by intro b hS hb; (try dsimp only at hS); (try simp only [In, World.size_alloc, size_setRow, dw_size] at hS hb); first | rfl | (simp (disch := first | assumption | omega | (simp only [World.size_alloc, size_setRow, dw_size]; omega) | (simp only [World.size_alloc, size_setRow, dw_size, In]; omega)) only [E1.blk, E2.blk, E3.blk, hp_alloc_lt, hp_set_ne, hp_dw]; done))).d) ?_
  rintro ⟨_, w4⟩ ⟨rfl, E4⟩
  try dsimp only at E4
  have zE4 := E4.size
  try simp only [World.size_alloc, size_setRow, dw_size] at zE4
  cases ok
  · simp (maxSteps := 1000000) (disch := first | assumption | omega | (simp only [World.size_alloc, size_setRow, dw_size]; done) | (simp only [World.size_alloc, size_setRow, dw_size] <;> omega) | (simp only [List.length_set, Array.length_toList, List.length_cons, List.length_nil, List.length_append, bts_size] <;> omega) | (simp only [List.all_cons, List.all_nil, Value.oneCell', Bool.and_self, Bool.and_true]; done)) [-Option.bind_some, hp_alloc_lt, hp_alloc_eq, hp_set_ne, wrap_small, ups_ap_cons, ups_ap_nil, upd_same, upd_other, env0_ap0, env0_aps, xt_a, xt_b, xt_c, nk_ptr, -splice_eq, -stR_cells, stR_box, stR_boxA, stR_row, stR_row0, stR_row1, stR_rowA, stR_rowA0, splice_rowv, splice_rowv0, splice_rowv1, splice_z, splice_n, splice_s, nth_rowv, nth_rowv0, nth_rowv1, rowv_len, hbn, hbe, E1.blk, E2.blk, E3.blk, E4.blk]
    refine Ret.bind (laws_cfVer_m (o2.keep (by intro b hS hb; (try dsimp only at hS); (try simp only [In, World.size_alloc, size_setRow, dw_size] at hS hb); first | rfl | (simp (disch := first | assumption | omega | (simp only [World.size_alloc, size_setRow, dw_size]; omega) | (simp only [World.size_alloc, size_setRow, dw_size, In]; omega)) only [E1.blk, E2.blk, E3.blk, E4.blk, hp_alloc_lt, hp_set_ne, hp_dw]; done))).d (o3.keep (by intro b hS hb; (try dsimp only at hS); (try simp only [In, World.size_alloc, size_setRow, dw_size] at hS hb); first | rfl | (simp (disch := first | assumption | omega | (simp only [World.size_alloc, size_setRow, dw_size]; omega) | (simp only [World.size_alloc, size_setRow, dw_size, In]; omega)) only [E1.blk, E2.blk, E3.blk, E4.blk, hp_alloc_lt, hp_set_ne, hp_dw]; done))).d) ?_
    rintro ⟨_, w5⟩ ⟨rfl, E5⟩
    try dsimp only at E5
    have zE5 := E5.size
    try simp only [World.size_alloc, size_setRow, dw_size] at zE5
    simp (maxSteps := 1000000) (disch := first | assumption | omega | (simp only [World.size_alloc, size_setRow, dw_size]; done) | (simp only [World.size_alloc, size_setRow, dw_size] <;> omega) | (simp only [List.length_set, Array.length_toList, List.length_cons, List.length_nil, List.length_append, bts_size] <;> omega) | (simp only [List.all_cons, List.all_nil, Value.oneCell', Bool.and_self, Bool.and_true]; done)) [-Option.bind_some, hp_alloc_lt, hp_alloc_eq, hp_set_ne, wrap_small, ups_ap_cons, ups_ap_nil, upd_same, upd_other, env0_ap0, env0_aps, xt_a, xt_b, xt_c, nk_ptr, -splice_eq, -stR_cells, stR_box, stR_boxA, stR_row, stR_row0, stR_row1, stR_rowA, stR_rowA0, splice_rowv, splice_rowv0, splice_rowv1, splice_z, splice_n, splice_s, nth_rowv, nth_rowv0, nth_rowv1, rowv_len, E1.blk, E2.blk, E3.blk, E4.blk, E5.blk]
    exact hQ _ ⟨rfl, by (repeat (first | exact Ext.rfl | assumption | (refine Ext.al ?_ _) | (refine Ext.dw ?_) | (refine Ext.set ?_ (by first | omega | (simp only [World.size_alloc, size_setRow, dw_size]; omega)) _) | (refine Ext.tr ?_ (by assumption))))⟩
  · obtain ⟨h1, h2⟩ := hg.1 rfl
    simp (maxSteps := 1000000) (disch := first | assumption | omega | (simp only [World.size_alloc, size_setRow, dw_size]; done) | (simp only [World.size_alloc, size_setRow, dw_size] <;> omega) | (simp only [List.length_set, Array.length_toList, List.length_cons, List.length_nil, List.length_append, bts_size] <;> omega) | (simp only [List.all_cons, List.all_nil, Value.oneCell', Bool.and_self, Bool.and_true]; done)) [-Option.bind_some, hp_alloc_lt, hp_alloc_eq, hp_set_ne, wrap_small, ups_ap_cons, ups_ap_nil, upd_same, upd_other, env0_ap0, env0_aps, xt_a, xt_b, xt_c, nk_ptr, -splice_eq, -stR_cells, stR_box, stR_boxA, stR_row, stR_row0, stR_row1, stR_rowA, stR_rowA0, splice_rowv, splice_rowv0, splice_rowv1, splice_z, splice_n, splice_s, nth_rowv, nth_rowv0, nth_rowv1, rowv_len, hbn, hbe, E1.blk, E2.blk, E3.blk, E4.blk]
    refine Ret.bind (impl_VerPut_m (G.g.ext (by (repeat (first | exact Ext.rfl | assumption | (refine Ext.al ?_ _) | (refine Ext.dw ?_) | (refine Ext.set ?_ (by first | omega | (simp only [World.size_alloc, size_setRow, dw_size]; omega)) _) | (refine Ext.tr ?_ (by assumption)))))) (o2.keep (by intro b hS hb; (try dsimp only at hS); (try simp only [In, World.size_alloc, size_setRow, dw_size] at hS hb); first | rfl | (simp (disch := first | assumption | omega | (simp only [World.size_alloc, size_setRow, dw_size]; omega) | (simp only [World.size_alloc, size_setRow, dw_size, In]; omega)) only [E1.blk, E2.blk, E3.blk, E4.blk, hp_alloc_lt, hp_set_ne, hp_dw]; done))).d) ?_
    rintro ⟨_, w5⟩ ⟨rfl, E5⟩
    try dsimp only at E5
    have zE5 := E5.size
    try simp only [World.size_alloc, size_setRow, dw_size] at zE5
    have hpu : verPutL v = l := by rw [verPutL, if_pos h1, h2]
    simp (maxSteps := 1000000) (disch := first | assumption | omega | (simp only [World.size_alloc, size_setRow, dw_size]; done) | (simp only [World.size_alloc, size_setRow, dw_size] <;> omega) | (simp only [List.length_set, Array.length_toList, List.length_cons, List.length_nil, List.length_append, bts_size] <;> omega) | (simp only [List.all_cons, List.all_nil, Value.oneCell', Bool.and_self, Bool.and_true]; done)) [-Option.bind_some, hp_alloc_lt, hp_alloc_eq, hp_set_ne, wrap_small, ups_ap_cons, ups_ap_nil, upd_same, upd_other, env0_ap0, env0_aps, xt_a, xt_b, xt_c, nk_ptr, -splice_eq, -stR_cells, stR_box, stR_boxA, stR_row, stR_row0, stR_row1, stR_rowA, stR_rowA0, splice_rowv, splice_rowv0, splice_rowv1, splice_z, splice_n, splice_s, nth_rowv, nth_rowv0, nth_rowv1, rowv_len, hpu, bts_list, E1.blk, E2.blk, E3.blk, E4.blk, E5.blk]
    refine Ret.bind (impl_VerOk_c (o2.keep (by intro b hS hb; (try dsimp only at hS); (try simp only [In, World.size_alloc, size_setRow, dw_size] at hS hb); first | rfl | (simp (disch := first | assumption | omega | (simp only [World.size_alloc, size_setRow, dw_size]; omega) | (simp only [World.size_alloc, size_setRow, dw_size, In]; omega)) only [E1.blk, E2.blk, E3.blk, E4.blk, E5.blk, hp_alloc_lt, hp_set_ne, hp_dw]; done))).d.rVer) ?_
    rintro ⟨_, w6⟩ ⟨rfl, E6⟩
    try dsimp only at E6
    have zE6 := E6.size
    try simp only [World.size_alloc, size_setRow, dw_size] at zE6
    simp (maxSteps := 1000000) (disch := first | assumption | omega | (simp only [World.size_alloc, size_setRow, dw_size]; done) | (simp only [World.size_alloc, size_setRow, dw_size] <;> omega) | (simp only [List.length_set, Array.length_toList, List.length_cons, List.length_nil, List.length_append, bts_size] <;> omega) | (simp only [List.all_cons, List.all_nil, Value.oneCell', Bool.and_self, Bool.and_true]; done)) [-Option.bind_some, hp_alloc_lt, hp_alloc_eq, hp_set_ne, wrap_small, ups_ap_cons, ups_ap_nil, upd_same, upd_other, env0_ap0, env0_aps, xt_a, xt_b, xt_c, nk_ptr, -splice_eq, -stR_cells, stR_box, stR_boxA, stR_row, stR_row0, stR_row1, stR_rowA, stR_rowA0, splice_rowv, splice_rowv0, splice_rowv1, splice_z, splice_n, splice_s, nth_rowv, nth_rowv0, nth_rowv1, rowv_len, h1, E1.blk, E2.blk, E3.blk, E4.blk, E5.blk, E6.blk]
    exact hQ _ ⟨rfl, by (repeat (first | exact Ext.rfl | assumption | (refine Ext.al ?_ _) | (refine Ext.dw ?_) | (refine Ext.set ?_ (by first | omega | (simp only [World.size_alloc, size_setRow, dw_size]; omega)) _) | (refine Ext.tr ?_ (by assumption))))⟩
end Go.Proofs.YtgdacclgooaodaaGreatDoor.X
