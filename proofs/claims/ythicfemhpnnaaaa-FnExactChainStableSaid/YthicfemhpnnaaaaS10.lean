/- A part of the proof: an evaluator of the model, its laws, and contracts of functions; no condition. -/
import Derived.Test.YthicfemhpnnaaaaS9
set_option linter.unusedVariables false
set_option linter.unusedSimpArgs false
set_option maxRecDepth 100000
set_option maxHeartbeats 1000000
namespace Go.Proofs.Ythicfemhpnnaaaa.X
open Go Go.Ev Go.RowKit
def lastStore (ns : List CNode) : List Ver := match ns[ns.length - 1]? with
  | some n => n.store
  | none => []
def chainStableP (ns : List CNode) : List Tag := if chainOk ns then tagsOf (lastStore ns) else []
theorem chainOk_last {ns : List CNode} (h : chainOk ns = true) : ∃ n, ns[ns.length - 1]? = some n ∧ nodeOk n = true ∧ 0 < ns.length ∧ ns.length ≤ 4 := by
  simp only [chainOk, lenOk, Bool.and_eq_true, decide_eq_true_eq, List.all_eq_true] at h
  obtain ⟨n, hn, _⟩ := drop_at (l := ns) (k := ns.length - 1) (by omega)
  exact ⟨n, hn, h.1.2 n (List.mem_of_getElem? hn), by omega, by omega⟩
theorem wtL_tag : ∀ (l : List Tag), MTag.wtL l = l.length
  | [] => rfl
  | t :: l => by
    have := wtL_tag l
    show 1 + 0 + MTag.wtL l = (t :: l).length
    rw [this, List.length_cons]
    omega
theorem chainStableP_wt (ns : List CNode) (t0 : MChain.wt ns ≤ 1048576) : MPast.wt (chainStableP ns) ≤ 1000000000000 := by
  show MTag.wtL _ ≤ _
  rw [wtL_tag, chainStableP]
  cases h : chainOk ns
  · simp
  · obtain ⟨n, hn, ho, _, _⟩ := chainOk_last h
    have := storeOk_len (nodeOk_parts ho).1
    simp [lastStore, hn, tagsOf, this]
theorem spec_l2Tags_n {a : Option Addr} {n c : Nat} {S : Nat → Prop} {vs : List Ver} {w : World} (h4 : vs.length = 4) (ha : D tVers S w [.slice a n c] vs) :
    Ret (EV P 130 #[.agg #[.slice a n c]] w) fun r => ∃ a' c', r.1 = .agg #[.slice a' (tagsOf vs).length c'] ∧ O tTags (In w.heap.size r.2.heap.size) r.2 [.slice a' (tagsOf vs).length c'] (tagsOf vs) ∧ Ext w r.2 := by
  refine Ret.mono (spec_l2Tags_c  (D.rVers ha)) ?_
  rintro r ⟨s', h1, f2, E2⟩
  have zE2 := E2.size
  try simp only [World.size_alloc, size_setRow, dw_size] at zE2
  obtain ⟨a3, c3, hs', o3⟩ := (tags_o f2).sl'
  obtain rfl := (List.cons.inj hs').1
  exact ⟨a3, c3, h1, o3, E2⟩
theorem impl_Store_tags_n {a : Option Addr} {n c : Nat} {S : Nat → Prop} {vs : List Ver} {w : World} (h4 : vs.length = 4) (ha : D tVers S w [.slice a n c] vs) :
    Ret (EV P 61 #[.agg #[.slice a n c]] w) fun r => ∃ a' c', r.1 = .agg #[.slice a' (tagsOf vs).length c'] ∧ O tTags (In w.heap.size r.2.heap.size) r.2 [.slice a' (tagsOf vs).length c'] (tagsOf vs) ∧ Ext w r.2 := by
  refine Ret.mono (impl_Store_tags_c h4 (D.rVers ha)) ?_
  rintro r ⟨s', h1, f2, E2⟩
  have zE2 := E2.size
  try simp only [World.size_alloc, size_setRow, dw_size] at zE2
  obtain ⟨a3, c3, hs', o3⟩ := (tags_o f2).sl'
  obtain rfl := (List.cons.inj hs').1
  exact ⟨a3, c3, h1, o3, E2⟩
theorem spec_ChainStable_n {a : Option Addr} {n c : Nat} {S : Nat → Prop} {ns : List CNode} {w : World} (ha : D tNodes S w [.slice a n c] ns) :
    Ret (EV P 34 #[.agg #[.slice a n c]] w) fun r => ∃ a' c', r.1 = .agg #[.slice a' (chainStableP ns).length c'] ∧ O tTags (In w.heap.size r.2.heap.size) r.2 [.slice a' (chainStableP ns).length c'] (chainStableP ns) ∧ Ext w r.2 := by
  obtain ⟨rfl, hm, _⟩ := ha.n
  refine Ret.post fun Q hQ => ?_
  refine Ret.enter plain mixed (spec_ChainStable_fn _ _) (by kernel_rfl) (n := 1) (by kernel_rfl) rfl ?_
  simp (disch := first | assumption | omega | (simp only [World.size_alloc, size_setRow, dw_size]; done) | (simp only [World.size_alloc, size_setRow, dw_size] <;> omega) | (simp only [List.length_set, Array.length_toList, List.length_cons, List.length_nil, List.length_append, bts_size] <;> omega) | (simp only [List.all_cons, List.all_nil, Value.oneCell', Bool.and_self, Bool.and_true]; done)) [-Option.bind_some, hp_alloc_lt, hp_alloc_eq, hp_set_ne, wrap_small, ups_ap_cons, ups_ap_nil, upd_same, upd_other, env0_ap0, env0_aps, xt_a, xt_b, xt_c, -splice_eq, -stR_cells, stR_box, stR_boxA, stR_row, stR_row0, stR_row1, stR_rowA, stR_rowA0, splice_rowv, splice_rowv0, splice_rowv1, splice_z, splice_n, splice_s, nth_rowv, nth_rowv0, nth_rowv1, rowv_len]
  refine Ret.bind (spec_l3Ok_m (ha.ext (by (repeat (first | exact Ext.rfl | assumption | (refine Ext.al ?_ _) | (refine Ext.dw ?_) | (refine Ext.set ?_ (by first | omega | (simp only [World.size_alloc, size_setRow, dw_size]; omega)) _) | (refine Ext.tr ?_ (by assumption))))))) ?_
  rintro ⟨_, w1⟩ ⟨rfl, E1⟩
  try dsimp only at E1
  have zE1 := E1.size
  try simp only [World.size_alloc, size_setRow, dw_size] at zE1
  cases h : chainOk ns
  · have e : chainStableP ns = [] := by rw [chainStableP, h]; rfl
    rw [e] at hQ
    simp (disch := first | assumption | omega | (simp only [World.size_alloc, size_setRow, dw_size]; done) | (simp only [World.size_alloc, size_setRow, dw_size] <;> omega) | (simp only [List.length_set, Array.length_toList, List.length_cons, List.length_nil, List.length_append, bts_size] <;> omega) | (simp only [List.all_cons, List.all_nil, Value.oneCell', Bool.and_self, Bool.and_true]; done)) [-Option.bind_some, hp_alloc_lt, hp_alloc_eq, hp_set_ne, wrap_small, ups_ap_cons, ups_ap_nil, upd_same, upd_other, env0_ap0, env0_aps, xt_a, xt_b, xt_c, -splice_eq, -stR_cells, stR_box, stR_boxA, stR_row, stR_row0, stR_row1, stR_rowA, stR_rowA0, splice_rowv, splice_rowv0, splice_rowv1, splice_z, splice_n, splice_s, nth_rowv, nth_rowv0, nth_rowv1, rowv_len, E1.blk]
    exact hQ _ ⟨_, _, rfl, O.nil, by (repeat (first | exact Ext.rfl | assumption | (refine Ext.al ?_ _) | (refine Ext.dw ?_) | (refine Ext.set ?_ (by first | omega | (simp only [World.size_alloc, size_setRow, dw_size]; omega)) _) | (refine Ext.tr ?_ (by assumption))))⟩
  · obtain ⟨x, hx, hno, hl0, hl4⟩ := chainOk_last h
    have e : chainStableP ns = tagsOf x.store := by rw [chainStableP, h, lastStore, hx]; rfl
    rw [e] at hQ
    simp (disch := first | assumption | omega | (simp only [World.size_alloc, size_setRow, dw_size]; done) | (simp only [World.size_alloc, size_setRow, dw_size] <;> omega) | (simp only [List.length_set, Array.length_toList, List.length_cons, List.length_nil, List.length_append, bts_size] <;> omega) | (simp only [List.all_cons, List.all_nil, Value.oneCell', Bool.and_self, Bool.and_true]; done)) [-Option.bind_some, hp_alloc_lt, hp_alloc_eq, hp_set_ne, wrap_small, ups_ap_cons, ups_ap_nil, upd_same, upd_other, env0_ap0, env0_aps, xt_a, xt_b, xt_c, -splice_eq, -stR_cells, stR_box, stR_boxA, stR_row, stR_row0, stR_row1, stR_rowA, stR_rowA0, splice_rowv, splice_rowv0, splice_rowv1, splice_z, splice_n, splice_s, nth_rowv, nth_rowv0, nth_rowv1, rowv_len, E1.blk]
    have h4 := storeOk_len (nodeOk_parts hno).1
    have key : ∀ w1, Ext w w1 → Ret (EV P 85 #[.agg #[.slice a ns.length c]] w1) fun r => ∃ a' c', r.1 = .agg #[.slice a' (tagsOf x.store).length c'] ∧ O tTags (In w1.heap.size r.2.heap.size) r.2 [.slice a' (tagsOf x.store).length c'] (tagsOf x.store) ∧ Ext w1 r.2 := by
      intro w1 E1
      obtain ⟨b1, o1, cs1, rfl, A1, D1, _, l1⟩ := (ha.ext E1).at (by decide) hx
      obtain ⟨a2, c2, a3, c3, rfl, h2, h3⟩ := D.node.1 D1
      refine Ret.post fun Q hQ => ?_
      have p0 := A1 0 _ rfl
      have p1 := A1 1 _ rfl
      simp only [LVer_n, LTag_n, LNode_n, Nat.add_zero] at p0 p1
      refine Ret.enter plain mixed (spec_l3Stable_fn _ _) (by kernel_rfl) (n := 1) (by kernel_rfl) rfl ?_
      simp (disch := first | assumption | omega | (simp only [World.size_alloc, size_setRow, dw_size]; done) | (simp only [World.size_alloc, size_setRow, dw_size] <;> omega) | (simp only [List.length_set, Array.length_toList, List.length_cons, List.length_nil, List.length_append, bts_size] <;> omega) | (simp only [List.all_cons, List.all_nil, Value.oneCell', Bool.and_self, Bool.and_true]; done)) [-Option.bind_some, hp_alloc_lt, hp_alloc_eq, hp_set_ne, wrap_small, ups_ap_cons, ups_ap_nil, upd_same, upd_other, env0_ap0, env0_aps, xt_a, xt_b, xt_c, -splice_eq, -stR_cells, stR_box, stR_boxA, stR_row, stR_row0, stR_row1, stR_rowA, stR_rowA0, splice_rowv, splice_rowv0, splice_rowv1, splice_z, splice_n, splice_s, nth_rowv, nth_rowv0, nth_rowv1, rowv_len, ia_22, show (ns.length : Int) - 1 = ((ns.length - 1 : Nat) : Int) by omega, show ns.length - 1 < ns.length by omega, E1.blk, p0, p1]
      refine Ret.bind (spec_l2Tags_n h4 (h2.ext (by (repeat (first | exact Ext.rfl | assumption | (refine Ext.al ?_ _) | (refine Ext.dw ?_) | (refine Ext.set ?_ (by first | omega | (simp only [World.size_alloc, size_setRow, dw_size]; omega)) _) | (refine Ext.tr ?_ (by assumption))))))) ?_
      rintro ⟨_, w2⟩ ⟨a4, c4, rfl, o2, E2⟩
      try dsimp only at a4 c4 o2 E2
      have zE2 := E2.size
      try simp only [World.size_alloc, size_setRow, dw_size] at zE2
      simp (disch := first | assumption | omega | (simp only [World.size_alloc, size_setRow, dw_size]; done) | (simp only [World.size_alloc, size_setRow, dw_size] <;> omega) | (simp only [List.length_set, Array.length_toList, List.length_cons, List.length_nil, List.length_append, bts_size] <;> omega) | (simp only [List.all_cons, List.all_nil, Value.oneCell', Bool.and_self, Bool.and_true]; done)) [-Option.bind_some, hp_alloc_lt, hp_alloc_eq, hp_set_ne, wrap_small, ups_ap_cons, ups_ap_nil, upd_same, upd_other, env0_ap0, env0_aps, xt_a, xt_b, xt_c, -splice_eq, -stR_cells, stR_box, stR_boxA, stR_row, stR_row0, stR_row1, stR_rowA, stR_rowA0, splice_rowv, splice_rowv0, splice_rowv1, splice_z, splice_n, splice_s, nth_rowv, nth_rowv0, nth_rowv1, rowv_len, E1.blk, p0, p1, E2.blk]
      exact hQ _ ⟨_, _, rfl, (o2.keep (by intro b hS hb; (try dsimp only at hS); (try simp only [In, World.size_alloc, size_setRow, dw_size] at hS hb); first | rfl | (simp (disch := first | assumption | omega | (simp only [World.size_alloc, size_setRow, dw_size]; omega) | (simp only [World.size_alloc, size_setRow, dw_size, In]; omega)) only [E1.blk, E2.blk, hp_alloc_lt, hp_set_ne, hp_dw]; done))).wide (by intro b h1 h2; (try dsimp only at h1); (try simp only [In, World.size_alloc, size_setRow, dw_size] at *); omega), by (repeat (first | exact Ext.rfl | assumption | (refine Ext.al ?_ _) | (refine Ext.dw ?_) | (refine Ext.set ?_ (by first | omega | (simp only [World.size_alloc, size_setRow, dw_size]; omega)) _) | (refine Ext.tr ?_ (by assumption))))⟩
    refine Ret.bind (key _ (by (repeat (first | exact Ext.rfl | assumption | (refine Ext.al ?_ _) | (refine Ext.dw ?_) | (refine Ext.set ?_ (by first | omega | (simp only [World.size_alloc, size_setRow, dw_size]; omega)) _) | (refine Ext.tr ?_ (by assumption)))))) ?_
    rintro ⟨_, w2⟩ ⟨a3, c3, rfl, o3, E2⟩
    try dsimp only at a3 c3 o3 E2
    have zE2 := E2.size
    try simp only [World.size_alloc, size_setRow, dw_size] at zE2
    simp (disch := first | assumption | omega | (simp only [World.size_alloc, size_setRow, dw_size]; done) | (simp only [World.size_alloc, size_setRow, dw_size] <;> omega) | (simp only [List.length_set, Array.length_toList, List.length_cons, List.length_nil, List.length_append, bts_size] <;> omega) | (simp only [List.all_cons, List.all_nil, Value.oneCell', Bool.and_self, Bool.and_true]; done)) [-Option.bind_some, hp_alloc_lt, hp_alloc_eq, hp_set_ne, wrap_small, ups_ap_cons, ups_ap_nil, upd_same, upd_other, env0_ap0, env0_aps, xt_a, xt_b, xt_c, -splice_eq, -stR_cells, stR_box, stR_boxA, stR_row, stR_row0, stR_row1, stR_rowA, stR_rowA0, splice_rowv, splice_rowv0, splice_rowv1, splice_z, splice_n, splice_s, nth_rowv, nth_rowv0, nth_rowv1, rowv_len, E1.blk, E2.blk]
    exact hQ _ ⟨_, _, rfl, (o3.keep (by intro b hS hb; (try dsimp only at hS); (try simp only [In, World.size_alloc, size_setRow, dw_size] at hS hb); first | rfl | (simp (disch := first | assumption | omega | (simp only [World.size_alloc, size_setRow, dw_size]; omega) | (simp only [World.size_alloc, size_setRow, dw_size, In]; omega)) only [E1.blk, E2.blk, hp_alloc_lt, hp_set_ne, hp_dw]; done))).wide (by intro b h1 h2; (try dsimp only at h1); (try simp only [In, World.size_alloc, size_setRow, dw_size] at *); omega), by (repeat (first | exact Ext.rfl | assumption | (refine Ext.al ?_ _) | (refine Ext.dw ?_) | (refine Ext.set ?_ (by first | omega | (simp only [World.size_alloc, size_setRow, dw_size]; omega)) _) | (refine Ext.tr ?_ (by assumption))))⟩
theorem impl_Chain_tail_m {a : Option Addr} {c g1 : Nat} {S : Nat → Prop} {ns : List CNode} {x : CNode} {w : World} (hx : ns[ns.length - 1]? = some x) (h0 : 0 < ns.length) (h4 : ns.length ≤ 4) (ha : D tNodes S w [.slice a ns.length c] ns) (X1 : hp w g1 = some (.cells #[.slice a ns.length c] 24 (0, 0))) :
    Ret (EV P 60 #[pt g1 0] w) fun r => ∃ a' c', r.1 = .agg #[.slice a' x.store.length c'] ∧ D tVers S r.2 [.slice a' x.store.length c'] x.store ∧ Ext w r.2 := by
  obtain ⟨b1, o1, cs1, rfl, A1, D1, _, l1⟩ := ha.at (by decide) hx
  obtain ⟨a2, c2, a3, c3, rfl, h2, h3⟩ := D.node.1 D1
  have y1 := hp_lt X1
  refine Ret.post fun Q hQ => ?_
  have p0 := A1 0 _ rfl
  have p1 := A1 1 _ rfl
  simp only [LVer_n, LTag_n, LNode_n, Nat.add_zero] at p0 p1
  refine Ret.enter plain mixed (impl_Chain_tail_fn _ _) (by kernel_rfl) (n := 1) (by kernel_rfl) rfl ?_
  simp (disch := first | assumption | omega | (simp only [World.size_alloc, size_setRow, dw_size]; done) | (simp only [World.size_alloc, size_setRow, dw_size] <;> omega) | (simp only [List.length_set, Array.length_toList, List.length_cons, List.length_nil, List.length_append, bts_size] <;> omega) | (simp only [List.all_cons, List.all_nil, Value.oneCell', Bool.and_self, Bool.and_true]; done)) [-Option.bind_some, hp_alloc_lt, hp_alloc_eq, hp_set_ne, wrap_small, ups_ap_cons, ups_ap_nil, upd_same, upd_other, env0_ap0, env0_aps, xt_a, xt_b, xt_c, -splice_eq, -stR_cells, stR_box, stR_boxA, stR_row, stR_row0, stR_row1, stR_rowA, stR_rowA0, splice_rowv, splice_rowv0, splice_rowv1, splice_z, splice_n, splice_s, nth_rowv, nth_rowv0, nth_rowv1, rowv_len, nk_ptr, X1, ia_22, show (ns.length : Int) - 1 = ((ns.length - 1 : Nat) : Int) by omega, show ns.length - 1 < ns.length by omega, p0, p1]
  exact hQ _ ⟨_, _, rfl, h2.ext (by (repeat (first | exact Ext.rfl | assumption | (refine Ext.al ?_ _) | (refine Ext.dw ?_) | (refine Ext.set ?_ (by first | omega | (simp only [World.size_alloc, size_setRow, dw_size]; omega)) _) | (refine Ext.tr ?_ (by assumption))))), by (repeat (first | exact Ext.rfl | assumption | (refine Ext.al ?_ _) | (refine Ext.dw ?_) | (refine Ext.set ?_ (by first | omega | (simp only [World.size_alloc, size_setRow, dw_size]; omega)) _) | (refine Ext.tr ?_ (by assumption))))⟩
theorem impl_ChainStable_n {a : Option Addr} {n c : Nat} {S : Nat → Prop} {ns : List CNode} {w : World} (ha : D tNodes S w [.slice a n c] ns) :
    Ret (EV P 20 #[.agg #[.slice a n c]] w) fun r => ∃ a' c', r.1 = .agg #[.slice a' (chainStableP ns).length c'] ∧ O tTags (In w.heap.size r.2.heap.size) r.2 [.slice a' (chainStableP ns).length c'] (chainStableP ns) ∧ Ext w r.2 := by
  obtain ⟨rfl, hm, _⟩ := ha.n
  refine Ret.post fun Q hQ => ?_
  refine Ret.enter plain mixed (impl_ChainStable_fn _ _) (by kernel_rfl) (n := 1) (by kernel_rfl) rfl ?_
  simp (disch := first | assumption | omega | (simp only [World.size_alloc, size_setRow, dw_size]; done) | (simp only [World.size_alloc, size_setRow, dw_size] <;> omega) | (simp only [List.length_set, Array.length_toList, List.length_cons, List.length_nil, List.length_append, bts_size] <;> omega) | (simp only [List.all_cons, List.all_nil, Value.oneCell', Bool.and_self, Bool.and_true]; done)) [-Option.bind_some, hp_alloc_lt, hp_alloc_eq, hp_set_ne, wrap_small, ups_ap_cons, ups_ap_nil, upd_same, upd_other, env0_ap0, env0_aps, xt_a, xt_b, xt_c, -splice_eq, -stR_cells, stR_box, stR_boxA, stR_row, stR_row0, stR_row1, stR_rowA, stR_rowA0, splice_rowv, splice_rowv0, splice_rowv1, splice_z, splice_n, splice_s, nth_rowv, nth_rowv0, nth_rowv1, rowv_len]
  refine Ret.bind (impl_ChainOk_m (ha.ext (by (repeat (first | exact Ext.rfl | assumption | (refine Ext.al ?_ _) | (refine Ext.dw ?_) | (refine Ext.set ?_ (by first | omega | (simp only [World.size_alloc, size_setRow, dw_size]; omega)) _) | (refine Ext.tr ?_ (by assumption))))))) ?_
  rintro ⟨_, w1⟩ ⟨rfl, E1⟩
  try dsimp only at E1
  have zE1 := E1.size
  try simp only [World.size_alloc, size_setRow, dw_size] at zE1
  cases h : chainOk ns
  · have e : chainStableP ns = [] := by rw [chainStableP, h]; rfl
    rw [e] at hQ
    simp (disch := first | assumption | omega | (simp only [World.size_alloc, size_setRow, dw_size]; done) | (simp only [World.size_alloc, size_setRow, dw_size] <;> omega) | (simp only [List.length_set, Array.length_toList, List.length_cons, List.length_nil, List.length_append, bts_size] <;> omega) | (simp only [List.all_cons, List.all_nil, Value.oneCell', Bool.and_self, Bool.and_true]; done)) [-Option.bind_some, hp_alloc_lt, hp_alloc_eq, hp_set_ne, wrap_small, ups_ap_cons, ups_ap_nil, upd_same, upd_other, env0_ap0, env0_aps, xt_a, xt_b, xt_c, -splice_eq, -stR_cells, stR_box, stR_boxA, stR_row, stR_row0, stR_row1, stR_rowA, stR_rowA0, splice_rowv, splice_rowv0, splice_rowv1, splice_z, splice_n, splice_s, nth_rowv, nth_rowv0, nth_rowv1, rowv_len, E1.blk]
    exact hQ _ ⟨_, _, rfl, O.nil, by (repeat (first | exact Ext.rfl | assumption | (refine Ext.al ?_ _) | (refine Ext.dw ?_) | (refine Ext.set ?_ (by first | omega | (simp only [World.size_alloc, size_setRow, dw_size]; omega)) _) | (refine Ext.tr ?_ (by assumption))))⟩
  · obtain ⟨x, hx, hno, hl0, hl4⟩ := chainOk_last h
    have e : chainStableP ns = tagsOf x.store := by rw [chainStableP, h, lastStore, hx]; rfl
    rw [e] at hQ
    simp (disch := first | assumption | omega | (simp only [World.size_alloc, size_setRow, dw_size]; done) | (simp only [World.size_alloc, size_setRow, dw_size] <;> omega) | (simp only [List.length_set, Array.length_toList, List.length_cons, List.length_nil, List.length_append, bts_size] <;> omega) | (simp only [List.all_cons, List.all_nil, Value.oneCell', Bool.and_self, Bool.and_true]; done)) [-Option.bind_some, hp_alloc_lt, hp_alloc_eq, hp_set_ne, wrap_small, ups_ap_cons, ups_ap_nil, upd_same, upd_other, env0_ap0, env0_aps, xt_a, xt_b, xt_c, -splice_eq, -stR_cells, stR_box, stR_boxA, stR_row, stR_row0, stR_row1, stR_rowA, stR_rowA0, splice_rowv, splice_rowv0, splice_rowv1, splice_z, splice_n, splice_s, nth_rowv, nth_rowv0, nth_rowv1, rowv_len, E1.blk]
    have h4 := storeOk_len (nodeOk_parts hno).1
    refine Ret.bind (impl_Chain_tail_m hx hl0 hl4 (ha.ext (by (repeat (first | exact Ext.rfl | assumption | (refine Ext.al ?_ _) | (refine Ext.dw ?_) | (refine Ext.set ?_ (by first | omega | (simp only [World.size_alloc, size_setRow, dw_size]; omega)) _) | (refine Ext.tr ?_ (by assumption)))))) (by first | assumption | rfl | (simp (disch := first | assumption | omega | (simp only [World.size_alloc, size_setRow, dw_size]; done) | (simp only [World.size_alloc, size_setRow, dw_size] <;> omega) | (simp only [List.length_set, Array.length_toList, List.length_cons, List.length_nil, List.length_append, bts_size] <;> omega) | (simp only [List.all_cons, List.all_nil, Value.oneCell', Bool.and_self, Bool.and_true]; done)) [-Option.bind_some, hp_alloc_lt, hp_alloc_eq, hp_set_ne, wrap_small, ups_ap_cons, ups_ap_nil, upd_same, upd_other, env0_ap0, env0_aps, xt_a, xt_b, xt_c, E1.blk]; done))) ?_
    rintro ⟨_, w2⟩ ⟨a2, c2, rfl, h2, E2⟩
    try dsimp only at a2 c2 h2 E2
    have zE2 := E2.size
    try simp only [World.size_alloc, size_setRow, dw_size] at zE2
    simp (disch := first | assumption | omega | (simp only [World.size_alloc, size_setRow, dw_size]; done) | (simp only [World.size_alloc, size_setRow, dw_size] <;> omega) | (simp only [List.length_set, Array.length_toList, List.length_cons, List.length_nil, List.length_append, bts_size] <;> omega) | (simp only [List.all_cons, List.all_nil, Value.oneCell', Bool.and_self, Bool.and_true]; done)) [-Option.bind_some, hp_alloc_lt, hp_alloc_eq, hp_set_ne, wrap_small, ups_ap_cons, ups_ap_nil, upd_same, upd_other, env0_ap0, env0_aps, xt_a, xt_b, xt_c, -splice_eq, -stR_cells, stR_box, stR_boxA, stR_row, stR_row0, stR_row1, stR_rowA, stR_rowA0, splice_rowv, splice_rowv0, splice_rowv1, splice_z, splice_n, splice_s, nth_rowv, nth_rowv0, nth_rowv1, rowv_len, E1.blk, E2.blk]
    refine Ret.bind (impl_Store_tags_n h4 h2) ?_
    rintro ⟨_, w3⟩ ⟨a3, c3, rfl, o3, E3⟩
    try dsimp only at a3 c3 o3 E3
    have zE3 := E3.size
    try simp only [World.size_alloc, size_setRow, dw_size] at zE3
    simp (disch := first | assumption | omega | (simp only [World.size_alloc, size_setRow, dw_size]; done) | (simp only [World.size_alloc, size_setRow, dw_size] <;> omega) | (simp only [List.length_set, Array.length_toList, List.length_cons, List.length_nil, List.length_append, bts_size] <;> omega) | (simp only [List.all_cons, List.all_nil, Value.oneCell', Bool.and_self, Bool.and_true]; done)) [-Option.bind_some, hp_alloc_lt, hp_alloc_eq, hp_set_ne, wrap_small, ups_ap_cons, ups_ap_nil, upd_same, upd_other, env0_ap0, env0_aps, xt_a, xt_b, xt_c, -splice_eq, -stR_cells, stR_box, stR_boxA, stR_row, stR_row0, stR_row1, stR_rowA, stR_rowA0, splice_rowv, splice_rowv0, splice_rowv1, splice_z, splice_n, splice_s, nth_rowv, nth_rowv0, nth_rowv1, rowv_len, E1.blk, E2.blk, E3.blk]
    exact hQ _ ⟨_, _, rfl, (o3.keep (by intro b hS hb; (try dsimp only at hS); (try simp only [In, World.size_alloc, size_setRow, dw_size] at hS hb); first | rfl | (simp (disch := first | assumption | omega | (simp only [World.size_alloc, size_setRow, dw_size]; omega) | (simp only [World.size_alloc, size_setRow, dw_size, In]; omega)) only [E1.blk, E2.blk, E3.blk, hp_alloc_lt, hp_set_ne, hp_dw]; done))).wide (by intro b h1 h2; (try dsimp only at h1); (try simp only [In, World.size_alloc, size_setRow, dw_size] at *); omega), by (repeat (first | exact Ext.rfl | assumption | (refine Ext.al ?_ _) | (refine Ext.dw ?_) | (refine Ext.set ?_ (by first | omega | (simp only [World.size_alloc, size_setRow, dw_size]; omega)) _) | (refine Ext.tr ?_ (by assumption))))⟩
end Go.Proofs.Ythicfemhpnnaaaa.X
