/- A part of the proof: an evaluator of the model, its laws, and contracts of functions; no condition. -/
import Derived.Test.YthicfemhpnnaaaaG4
set_option linter.unusedVariables false
set_option linter.unusedSimpArgs false
set_option maxRecDepth 100000
set_option maxHeartbeats 1000000
namespace Go.Proofs.Ythicfemhpnnaaaa.X
open Go Go.Ev Go.RowKit
theorem spec_l2Add_n {a : Option Addr} {n c : Nat} {S S1 : Nat → Prop} {xs : List Ver} {cs : List Value} {v : Ver} {w : World} (ho : O tVers S w [.slice a n c] xs) (hv : D tVer S1 w cs v) (h0 : 0 ≤ v.key) (h1 : v.key.toNat < xs.length) :
    Ret (EV P 120 #[.agg #[.slice a n c], .agg cs.toArray] w) fun r => r.1 = .agg #[.slice a xs.length c] ∧ O tVers (fun b => S b ∨ In w.heap.size r.2.heap.size b) r.2 [.slice a xs.length c] (storeAdd xs v) ∧ Mod S w r.2 := by
  obtain ⟨rfl, hm, _⟩ := ho.n
  obtain ⟨av, cv, rfl, hv1, hv2⟩ := D.ver.1 hv
  obtain ⟨u, hu, _⟩ := drop_at h1
  obtain ⟨g, cur, ds, S2, rfl, hSg, hgl, hg, hle, hx1, hS2, put⟩ := ho.row (by decide) hu
  obtain ⟨au, cu, rfl, hu1, hu2⟩ := O.ver.1 hx1
  simp only [LVer_n] at hg hle put
  have hk : v.key < xs.length := by omega
  refine Ret.enter plain mixed (spec_l2Add_fn _ _ _) (by kernel_rfl) (n := 2) (by kernel_rfl) rfl ?_
  simp (disch := first | assumption | omega | (simp only [World.size_alloc, size_setRow, dw_size]; done) | (simp only [World.size_alloc, size_setRow, dw_size] <;> omega) | (simp only [List.length_set, Array.length_toList, List.length_cons, List.length_nil, List.length_append, bts_size] <;> omega) | (simp only [List.all_cons, List.all_nil, Value.oneCell', Bool.and_self, Bool.and_true]; done)) [-Option.bind_some, hp_alloc_lt, hp_alloc_eq, hp_set_ne, wrap_small, ups_ap_cons, ups_ap_nil, upd_same, upd_other, env0_ap0, env0_aps, xt_a, xt_b, xt_c, -splice_eq, -stR_cells, stR_box, stR_boxA, stR_row, stR_row0, stR_row1, stR_rowA, stR_rowA0, splice_rowv, splice_rowv0, splice_rowv1, splice_z, splice_n, splice_s, nth_rowv, nth_rowv0, nth_rowv1, rowv_len, ia_55, hg]
  refine Ret.bind (spec_l1Less_c u.tag v.tag _) ?_
  rintro ⟨_, w1⟩ ⟨rfl, E1⟩
  try dsimp only at E1
  have zE1 := E1.size
  try simp only [World.size_alloc, size_setRow, dw_size] at zE1
  cases hl : tagLess u.tag v.tag
  · rw [storeAdd_f hu hl]
    simp (disch := first | assumption | omega | (simp only [World.size_alloc, size_setRow, dw_size]; done) | (simp only [World.size_alloc, size_setRow, dw_size] <;> omega) | (simp only [List.length_set, Array.length_toList, List.length_cons, List.length_nil, List.length_append, bts_size] <;> omega) | (simp only [List.all_cons, List.all_nil, Value.oneCell', Bool.and_self, Bool.and_true]; done)) [-Option.bind_some, hp_alloc_lt, hp_alloc_eq, hp_set_ne, wrap_small, ups_ap_cons, ups_ap_nil, upd_same, upd_other, env0_ap0, env0_aps, xt_a, xt_b, xt_c, -splice_eq, -stR_cells, stR_box, stR_boxA, stR_row, stR_row0, stR_row1, stR_rowA, stR_rowA0, splice_rowv, splice_rowv0, splice_rowv1, splice_z, splice_n, splice_s, nth_rowv, nth_rowv0, nth_rowv1, rowv_len, spec_l2Add_j1_eq, hg, E1.blk]
    exact ⟨(ho.keep (by intro b hS hb; (try dsimp only at hS); (try simp only [In, World.size_alloc, size_setRow, dw_size] at hS hb); first | rfl | (simp (disch := first | assumption | omega | (simp only [World.size_alloc, size_setRow, dw_size]; omega) | (simp only [World.size_alloc, size_setRow, dw_size, In]; omega)) only [E1.blk, hp_alloc_lt, hp_set_ne, hp_dw]; done))).wide (fun b h _ => .inl h), by (repeat (first | exact Mod.rfl | assumption | (refine Mod.al ?_ _) | (refine Mod.dw' ?_) | (refine Mod.set' ?_ (by first | (left; omega) | (left; simp only [World.size_alloc, size_setRow, dw_size]; omega) | (right; assumption) | (right; simp; done)) _) | (refine Mod.ex ?_ (by assumption))))⟩
  · rw [storeAdd_t hu hl]
    simp (disch := first | assumption | omega | (simp only [World.size_alloc, size_setRow, dw_size]; done) | (simp only [World.size_alloc, size_setRow, dw_size] <;> omega) | (simp only [List.length_set, Array.length_toList, List.length_cons, List.length_nil, List.length_append, bts_size] <;> omega) | (simp only [List.all_cons, List.all_nil, Value.oneCell', Bool.and_self, Bool.and_true]; done)) [-Option.bind_some, hp_alloc_lt, hp_alloc_eq, hp_set_ne, wrap_small, ups_ap_cons, ups_ap_nil, upd_same, upd_other, env0_ap0, env0_aps, xt_a, xt_b, xt_c, -splice_eq, -stR_cells, stR_box, stR_boxA, stR_row, stR_row0, stR_row1, stR_rowA, stR_rowA0, splice_rowv, splice_rowv0, splice_rowv1, splice_z, splice_n, splice_s, nth_rowv, nth_rowv0, nth_rowv1, rowv_len, ia_55, hg, E1.blk]
    refine Ret.bind (spec_l2Copy_n (hv.ext (by (repeat (first | exact Ext.rfl | assumption | (refine Ext.al ?_ _) | (refine Ext.dw ?_) | (refine Ext.set ?_ (by first | omega | (simp only [World.size_alloc, size_setRow, dw_size]; omega)) _) | (refine Ext.tr ?_ (by assumption))))))) ?_
    rintro ⟨_, w2⟩ ⟨es, rfl, o2, E2⟩
    try dsimp only at es o2 E2
    have zE2 := E2.size
    try simp only [World.size_alloc, size_setRow, dw_size] at zE2
    have zds := O.ver.1 o2
    obtain ⟨ae, ce, rfl, _, _⟩ := zds
    simp (disch := first | assumption | omega | (simp only [World.size_alloc, size_setRow, dw_size]; done) | (simp only [World.size_alloc, size_setRow, dw_size] <;> omega) | (simp only [List.length_set, Array.length_toList, List.length_cons, List.length_nil, List.length_append, bts_size] <;> omega) | (simp only [List.all_cons, List.all_nil, Value.oneCell', Bool.and_self, Bool.and_true]; done)) [-Option.bind_some, hp_alloc_lt, hp_alloc_eq, hp_set_ne, wrap_small, ups_ap_cons, ups_ap_nil, upd_same, upd_other, env0_ap0, env0_aps, xt_a, xt_b, xt_c, -splice_eq, -stR_cells, stR_box, stR_boxA, stR_row, stR_row0, stR_row1, stR_rowA, stR_rowA0, splice_rowv, splice_rowv0, splice_rowv1, splice_z, splice_n, splice_s, nth_rowv, nth_rowv0, nth_rowv1, rowv_len, ia_55, spec_l2Add_j1_eq, hg, E1.blk, E2.blk]
    refine ⟨(put _ _ v _ (o2.keep (by intro b hS hb; (try dsimp only at hS); (try simp only [In, World.size_alloc, size_setRow, dw_size] at hS hb); first | rfl | (simp (disch := first | assumption | omega | (simp only [World.size_alloc, size_setRow, dw_size]; omega) | (simp only [World.size_alloc, size_setRow, dw_size, In]; omega)) only [E1.blk, E2.blk, hp_alloc_lt, hp_set_ne, hp_dw]; done))) (by first | assumption | rfl | (simp (disch := first | assumption | omega | (simp only [World.size_alloc, size_setRow, dw_size]; done) | (simp only [World.size_alloc, size_setRow, dw_size] <;> omega) | (simp only [List.length_set, Array.length_toList, List.length_cons, List.length_nil, List.length_append, bts_size] <;> omega) | (simp only [List.all_cons, List.all_nil, Value.oneCell', Bool.and_self, Bool.and_true]; done)) [-Option.bind_some, hp_alloc_lt, hp_alloc_eq, hp_set_ne, wrap_small, ups_ap_cons, ups_ap_nil, upd_same, upd_other, env0_ap0, env0_aps, xt_a, xt_b, xt_c, -splice_eq, -stR_cells, stR_box, stR_boxA, stR_row, stR_row0, stR_row1, stR_rowA, stR_rowA0, splice_rowv, splice_rowv0, splice_rowv1, splice_z, splice_n, splice_s, nth_rowv, nth_rowv0, nth_rowv1, rowv_len, hg, E1.blk, E2.blk]; done)) (by intro b _ _ _ _; first | rfl | (simp (disch := first | assumption | omega | (simp only [World.size_alloc, size_setRow, dw_size]; omega) | (simp only [World.size_alloc, size_setRow, dw_size, In]; omega)) only [E1.blk, E2.blk, hp_alloc_lt, hp_set_ne, hp_dw]; done)) ?_).wide ?_, by (repeat (first | exact Mod.rfl | assumption | (refine Mod.al ?_ _) | (refine Mod.dw' ?_) | (refine Mod.set' ?_ (by first | (left; omega) | (left; simp only [World.size_alloc, size_setRow, dw_size]; omega) | (right; assumption) | (right; simp; done)) _) | (refine Mod.ex ?_ (by assumption))))⟩
    · intro b h1 h2
      simp only [In, World.size_alloc, size_setRow, dw_size] at *
      right
      omega
    · intro b h1 h2
      simp only [In, World.size_alloc, size_setRow, dw_size] at *
      exact h1.imp id (by omega)
end Go.Proofs.Ythicfemhpnnaaaa.X
