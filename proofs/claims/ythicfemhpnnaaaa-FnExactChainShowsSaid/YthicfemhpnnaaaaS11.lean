/- A part of the proof: an evaluator of the model, its laws, and contracts of functions; no condition. -/
import Derived.Test.YthicfemhpnnaaaaS10
set_option linter.unusedVariables false
set_option linter.unusedSimpArgs false
set_option maxRecDepth 100000
set_option maxHeartbeats 1000000
namespace Go.Proofs.Ythicfemhpnnaaaa.X
open Go Go.Ev Go.RowKit
def MVerP : Mk Ver := ⟨fun k v => { v with past := MTag.mkL k v.past }, fun k v => MTag.nxL k v.past, fun v => MTag.wtL v.past, fun k v => Mk.nxL_le _ _⟩
theorem MVerP_le (k : Int) (x : Ver) : k ≤ MVerP.nx k x ∧ MVerP.nx k x ≤ k + 10 * MVerP.wt x := ⟨Mk.nxL_le _ _, Mk.nxL_small MTag_small _ _⟩
theorem laws_markVerR_m {S : Nat → Prop} {cs : List Value} {x : Ver} {k : Int} (h0 : 0 ≤ k) (hk : k + 10 * MVerP.wt x ≤ 100000000000000) {w : World} (ho : O tVer S w cs x) :
    Ret (EV P 41 #[.agg cs.toArray, i64 k] w) fun r => r.1 = i64 (MVerP.nx k x) ∧ O tVer S r.2 cs (MVerP.mk k x) ∧ Mod S w r.2 := by
  obtain ⟨a, c, rfl, ho, h2⟩ := O.ver.1 ho
  refine Ret.post fun Q hQ => ?_
  refine Ret.enter plain mixed (laws_markVer_fn _ _ _) (by kernel_rfl) (n := 2) (by kernel_rfl) rfl ?_
  simp (disch := first | assumption | omega | (simp only [World.size_alloc, size_setRow, dw_size]; done) | (simp only [World.size_alloc, size_setRow, dw_size] <;> omega) | (simp only [List.length_set, Array.length_toList, List.length_cons, List.length_nil, List.length_append, bts_size] <;> omega) | (simp only [List.all_cons, List.all_nil, Value.oneCell', Bool.and_self, Bool.and_true]; done)) [-Option.bind_some, hp_alloc_lt, hp_alloc_eq, hp_set_ne, wrap_small, ups_ap_cons, ups_ap_nil, upd_same, upd_other, env0_ap0, env0_aps, xt_a, xt_b, xt_c]
  refine Ret.bind (laws_markPast_m h0 hk (ho.ext (by (repeat (first | exact Ext.rfl | assumption | (refine Ext.al ?_ _) | (refine Ext.dw ?_) | (refine Ext.set ?_ (by first | omega | (simp only [World.size_alloc, size_setRow, dw_size]; omega)) _) | (refine Ext.tr ?_ (by assumption))))))) ?_
  rintro ⟨_, w1⟩ ⟨rfl, o1, M1⟩
  try dsimp only at o1 M1
  have zM1 := M1.size
  try simp only [World.size_alloc, size_setRow, dw_size] at zM1
  simp (disch := first | assumption | omega | (simp only [World.size_alloc, size_setRow, dw_size]; done) | (simp only [World.size_alloc, size_setRow, dw_size] <;> omega) | (simp only [List.length_set, Array.length_toList, List.length_cons, List.length_nil, List.length_append, bts_size] <;> omega) | (simp only [List.all_cons, List.all_nil, Value.oneCell', Bool.and_self, Bool.and_true]; done)) [-Option.bind_some, hp_alloc_lt, hp_alloc_eq, hp_set_ne, wrap_small, ups_ap_cons, ups_ap_nil, upd_same, upd_other, env0_ap0, env0_aps, xt_a, xt_b, xt_c, M1.blk]
  refine hQ _ ⟨rfl, O.ver.2 ⟨a, c, ?_, ?_, h2⟩, (Mod.of (S := S) (by (repeat (first | exact Ext.rfl | assumption | (refine Ext.al ?_ _) | (refine Ext.dw ?_) | (refine Ext.set ?_ (by first | omega | (simp only [World.size_alloc, size_setRow, dw_size]; omega)) _) | (refine Ext.tr ?_ (by assumption)))))).tr M1⟩
  · have : (MVerP.mk k x).past.length = x.past.length := Mk.mkL_length k x.past
    rw [this]
    rfl
  · show O _ S w1 [.slice a (MTag.mkL k x.past).length c] (MTag.mkL k x.past)
    rw [Mk.mkL_length]
    exact o1
theorem laws_heldVerR_m {S : Nat → Prop} {cs : List Value} {x : Ver} {k : Int} (h0 : 0 ≤ k) (hk : k + 10 * MVerP.wt x ≤ 100000000000000) {w : World} (ho : D tVer S w cs (MVerP.mk k x)) :
    Ret (EV P 42 #[.agg cs.toArray, i64 k] w) fun r => r.1 = i64 (MVerP.nx k x) ∧ Ext w r.2 := by
  obtain ⟨a, c, rfl, ho, h2⟩ := D.ver.1 ho
  have ho : D tTags S w [.slice a (MTag.mkL k x.past).length c] (MTag.mkL k x.past) := ho
  refine Ret.post fun Q hQ => ?_
  refine Ret.enter plain mixed (laws_heldVer_fn _ _ _) (by kernel_rfl) (n := 2) (by kernel_rfl) rfl ?_
  simp (disch := first | assumption | omega | (simp only [World.size_alloc, size_setRow, dw_size]; done) | (simp only [World.size_alloc, size_setRow, dw_size] <;> omega) | (simp only [List.length_set, Array.length_toList, List.length_cons, List.length_nil, List.length_append, bts_size] <;> omega) | (simp only [List.all_cons, List.all_nil, Value.oneCell', Bool.and_self, Bool.and_true]; done)) [-Option.bind_some, hp_alloc_lt, hp_alloc_eq, hp_set_ne, wrap_small, ups_ap_cons, ups_ap_nil, upd_same, upd_other, env0_ap0, env0_aps, xt_a, xt_b, xt_c]
  refine Ret.bind (laws_heldPast_m h0 hk (ho.ext (by (repeat (first | exact Ext.rfl | assumption | (refine Ext.al ?_ _) | (refine Ext.dw ?_) | (refine Ext.set ?_ (by first | omega | (simp only [World.size_alloc, size_setRow, dw_size]; omega)) _) | (refine Ext.tr ?_ (by assumption))))))) ?_
  rintro ⟨_, w1⟩ ⟨rfl, E1⟩
  try dsimp only at E1
  have zE1 := E1.size
  try simp only [World.size_alloc, size_setRow, dw_size] at zE1
  have := (MTag_le k x.past).1
  simp (disch := first | assumption | omega | (simp only [World.size_alloc, size_setRow, dw_size]; done) | (simp only [World.size_alloc, size_setRow, dw_size] <;> omega) | (simp only [List.length_set, Array.length_toList, List.length_cons, List.length_nil, List.length_append, bts_size] <;> omega) | (simp only [List.all_cons, List.all_nil, Value.oneCell', Bool.and_self, Bool.and_true]; done)) [-Option.bind_some, hp_alloc_lt, hp_alloc_eq, hp_set_ne, wrap_small, ups_ap_cons, ups_ap_nil, upd_same, upd_other, env0_ap0, env0_aps, xt_a, xt_b, xt_c, show ¬ MTag.nxL k x.past < 0 by omega, show ¬ MPast.nx k x.past < 0 from by show ¬ MTag.nxL k x.past < 0; omega, E1.blk]
  exact hQ _ ⟨rfl, by (repeat (first | exact Ext.rfl | assumption | (refine Ext.al ?_ _) | (refine Ext.dw ?_) | (refine Ext.set ?_ (by first | omega | (simp only [World.size_alloc, size_setRow, dw_size]; omega)) _) | (refine Ext.tr ?_ (by assumption))))⟩
theorem laws_eqVerR_m {S S' : Nat → Prop} {cs ds : List Value} {x : Ver} {w : World} (ha : D tVer S w cs x) (hb : D tVer S' w ds x) : Ret (EV P 40 #[.agg cs.toArray, .agg ds.toArray] w) fun r => r.1 = .bool true ∧ Ext w r.2 := laws_eqVer_m ha hb
theorem b_min_i64 (ts : Array TypeId) (t : TypeId) (a b : Int) (w : World) : b_min P ts t #[i64 a, i64 b] w = some (i64 (if b < a then b else a), w) := by
  simp only [b_min, Builtin.min_, List.foldlM, Builtin.min2, pure_bind]
  rfl
def showsOk (ns : List CNode) (i k : Int) : Bool := chainOk ns && (decide (0 ≤ i) && decide (i ≤ (ns.length : Int) - 1)) && keyOk k
def showsAt (ns : List CNode) (i : Int) : Nat := if i = 0 ∧ 1 < ns.length then 1 else i.toNat
def showsP (ns : List CNode) (i k : Int) : Ver := if showsOk ns i k then (match ns[showsAt ns i]? with
  | some n => (n.store[k.toNat]?).getD verZ
  | none => verZ) else verZ
theorem showsOk_at {ns : List CNode} {i k : Int} (h : showsOk ns i k = true) : ∃ n v, ns[showsAt ns i]? = some n ∧ n.store[k.toNat]? = some v ∧ showsP ns i k = v ∧ nodeOk n = true ∧ 0 ≤ i ∧ i < ns.length ∧ 0 ≤ k ∧ k ≤ 3 ∧ showsAt ns i < ns.length ∧ ns.length ≤ 4 := by
  have h0 := h
  simp only [showsOk, keyOk, Bool.and_eq_true, decide_eq_true_eq] at h
  obtain ⟨⟨hc, h1, h2⟩, h3, h4⟩ := h
  obtain ⟨_, _, _, hl, hl4⟩ := chainOk_last hc
  have ha : showsAt ns i < ns.length := by
    unfold showsAt
    split <;> omega
  obtain ⟨n, hn, _⟩ := drop_at ha
  have hno : nodeOk n = true := by
    simp only [chainOk, Bool.and_eq_true, List.all_eq_true] at hc
    exact hc.1.2 n (List.mem_of_getElem? hn)
  have h4' := storeOk_len (nodeOk_parts hno).1
  obtain ⟨v, hv, _⟩ := drop_at (l := n.store) (k := k.toNat) (by omega)
  exact ⟨n, v, hn, hv, by rw [showsP, h0, if_pos rfl, hn]; simp [hv], hno, h1, by omega, h3, h4, ha, hl4⟩
theorem zero_Ver_o {S : Nat → Prop} (w : World) : O tVer S w [i64 0, i64 0, i64 0, .slice none 0 0, .string ⟨#[]⟩, .bool false] verZ := (zero_Ver w).wide fun b h _ => h.elim
theorem spec_ChainShows_n {a : Option Addr} {n c : Nat} {i k : Int} {S : Nat → Prop} {ns : List CNode} {w : World} (ha : D tNodes S w [.slice a n c] ns) :
    Ret (EV P 38 #[.agg #[.slice a n c], i64 i, i64 k] w) fun r => ∃ ds, r.1 = .tuple #[.agg ds.toArray, .bool (showsOk ns i k)] ∧ O tVer (In w.heap.size r.2.heap.size) r.2 ds (showsP ns i k) ∧ Ext w r.2 := by
  obtain ⟨rfl, hm, _⟩ := ha.n
  refine Ret.post fun Q hQ => ?_
  have bad : showsOk ns i k = false → showsP ns i k = verZ := fun h => by rw [showsP, h]; rfl
  refine Ret.enter plain mixed (spec_ChainShows_fn _ _ _ _) (by kernel_rfl) (n := 3) (by kernel_rfl) rfl ?_
  simp (disch := first | assumption | omega | (simp only [World.size_alloc, size_setRow, dw_size]; done) | (simp only [World.size_alloc, size_setRow, dw_size] <;> omega) | (simp only [List.length_set, Array.length_toList, List.length_cons, List.length_nil, List.length_append, bts_size] <;> omega) | (simp only [List.all_cons, List.all_nil, Value.oneCell', Bool.and_self, Bool.and_true]; done)) [-Option.bind_some, hp_alloc_lt, hp_alloc_eq, hp_set_ne, wrap_small, ups_ap_cons, ups_ap_nil, upd_same, upd_other, env0_ap0, env0_aps, xt_a, xt_b, xt_c, -splice_eq, -stR_cells, stR_box, stR_boxA, stR_row, stR_row0, stR_row1, stR_rowA, stR_rowA0, splice_rowv, splice_rowv0, splice_rowv1, splice_z, splice_n, splice_s, nth_rowv, nth_rowv0, nth_rowv1, rowv_len]
  refine Ret.bind (spec_l3Ok_m (ha.ext (by (repeat (first | exact Ext.rfl | assumption | (refine Ext.al ?_ _) | (refine Ext.dw ?_) | (refine Ext.set ?_ (by first | omega | (simp only [World.size_alloc, size_setRow, dw_size]; omega)) _) | (refine Ext.tr ?_ (by assumption))))))) ?_
  rintro ⟨_, w1⟩ ⟨rfl, E1⟩
  try dsimp only at E1
  have zE1 := E1.size
  try simp only [World.size_alloc, size_setRow, dw_size] at zE1
  cases h : chainOk ns
  · have h1 : showsOk ns i k = false := by simp [showsOk, h]
    rw [bad h1, h1] at hQ
    simp (disch := first | assumption | omega | (simp only [World.size_alloc, size_setRow, dw_size]; done) | (simp only [World.size_alloc, size_setRow, dw_size] <;> omega) | (simp only [List.length_set, Array.length_toList, List.length_cons, List.length_nil, List.length_append, bts_size] <;> omega) | (simp only [List.all_cons, List.all_nil, Value.oneCell', Bool.and_self, Bool.and_true]; done)) [-Option.bind_some, hp_alloc_lt, hp_alloc_eq, hp_set_ne, wrap_small, ups_ap_cons, ups_ap_nil, upd_same, upd_other, env0_ap0, env0_aps, xt_a, xt_b, xt_c, -splice_eq, -stR_cells, stR_box, stR_boxA, stR_row, stR_row0, stR_row1, stR_rowA, stR_rowA0, splice_rowv, splice_rowv0, splice_rowv1, splice_z, splice_n, splice_s, nth_rowv, nth_rowv0, nth_rowv1, rowv_len, E1.blk]
    exact hQ _ ⟨[_, _, _, _, _, _], rfl, zero_Ver_o _, by (repeat (first | exact Ext.rfl | assumption | (refine Ext.al ?_ _) | (refine Ext.dw ?_) | (refine Ext.set ?_ (by first | omega | (simp only [World.size_alloc, size_setRow, dw_size]; omega)) _) | (refine Ext.tr ?_ (by assumption))))⟩
  have hw : IntKind.i64.wrap ((ns.length : Int) - 1) = (ns.length : Int) - 1 := w64 (by omega) (by omega)
  simp (disch := first | assumption | omega | (simp only [World.size_alloc, size_setRow, dw_size]; done) | (simp only [World.size_alloc, size_setRow, dw_size] <;> omega) | (simp only [List.length_set, Array.length_toList, List.length_cons, List.length_nil, List.length_append, bts_size] <;> omega) | (simp only [List.all_cons, List.all_nil, Value.oneCell', Bool.and_self, Bool.and_true]; done)) [-Option.bind_some, hp_alloc_lt, hp_alloc_eq, hp_set_ne, wrap_small, ups_ap_cons, ups_ap_nil, upd_same, upd_other, env0_ap0, env0_aps, xt_a, xt_b, xt_c, -splice_eq, -stR_cells, stR_box, stR_boxA, stR_row, stR_row0, stR_row1, stR_rowA, stR_rowA0, splice_rowv, splice_rowv0, splice_rowv1, splice_z, splice_n, splice_s, nth_rowv, nth_rowv0, nth_rowv1, rowv_len, hw, E1.blk]
  refine Ret.bind (spec_l1In_c _ _ _ _) ?_
  rintro _ rfl
  cases hi : (decide (0 ≤ i) && decide (i ≤ (ns.length : Int) - 1))
  · have h1 : showsOk ns i k = false := by simp [showsOk, hi]
    rw [bad h1, h1] at hQ
    simp (disch := first | assumption | omega | (simp only [World.size_alloc, size_setRow, dw_size]; done) | (simp only [World.size_alloc, size_setRow, dw_size] <;> omega) | (simp only [List.length_set, Array.length_toList, List.length_cons, List.length_nil, List.length_append, bts_size] <;> omega) | (simp only [List.all_cons, List.all_nil, Value.oneCell', Bool.and_self, Bool.and_true]; done)) [-Option.bind_some, hp_alloc_lt, hp_alloc_eq, hp_set_ne, wrap_small, ups_ap_cons, ups_ap_nil, upd_same, upd_other, env0_ap0, env0_aps, xt_a, xt_b, xt_c, -splice_eq, -stR_cells, stR_box, stR_boxA, stR_row, stR_row0, stR_row1, stR_rowA, stR_rowA0, splice_rowv, splice_rowv0, splice_rowv1, splice_z, splice_n, splice_s, nth_rowv, nth_rowv0, nth_rowv1, rowv_len, hi, E1.blk]
    exact hQ _ ⟨[_, _, _, _, _, _], rfl, zero_Ver_o _, by (repeat (first | exact Ext.rfl | assumption | (refine Ext.al ?_ _) | (refine Ext.dw ?_) | (refine Ext.set ?_ (by first | omega | (simp only [World.size_alloc, size_setRow, dw_size]; omega)) _) | (refine Ext.tr ?_ (by assumption))))⟩
  simp (disch := first | assumption | omega | (simp only [World.size_alloc, size_setRow, dw_size]; done) | (simp only [World.size_alloc, size_setRow, dw_size] <;> omega) | (simp only [List.length_set, Array.length_toList, List.length_cons, List.length_nil, List.length_append, bts_size] <;> omega) | (simp only [List.all_cons, List.all_nil, Value.oneCell', Bool.and_self, Bool.and_true]; done)) [-Option.bind_some, hp_alloc_lt, hp_alloc_eq, hp_set_ne, wrap_small, ups_ap_cons, ups_ap_nil, upd_same, upd_other, env0_ap0, env0_aps, xt_a, xt_b, xt_c, -splice_eq, -stR_cells, stR_box, stR_boxA, stR_row, stR_row0, stR_row1, stR_rowA, stR_rowA0, splice_rowv, splice_rowv0, splice_rowv1, splice_z, splice_n, splice_s, nth_rowv, nth_rowv0, nth_rowv1, rowv_len, hi, E1.blk]
  refine Ret.bind (spec_l1In_c _ _ _ _) ?_
  rintro _ rfl
  cases hk : (decide (0 ≤ k) && decide (k ≤ 3))
  · have h1 : showsOk ns i k = false := by simp [showsOk, keyOk, hk]
    rw [bad h1, h1] at hQ
    simp (disch := first | assumption | omega | (simp only [World.size_alloc, size_setRow, dw_size]; done) | (simp only [World.size_alloc, size_setRow, dw_size] <;> omega) | (simp only [List.length_set, Array.length_toList, List.length_cons, List.length_nil, List.length_append, bts_size] <;> omega) | (simp only [List.all_cons, List.all_nil, Value.oneCell', Bool.and_self, Bool.and_true]; done)) [-Option.bind_some, hp_alloc_lt, hp_alloc_eq, hp_set_ne, wrap_small, ups_ap_cons, ups_ap_nil, upd_same, upd_other, env0_ap0, env0_aps, xt_a, xt_b, xt_c, -splice_eq, -stR_cells, stR_box, stR_boxA, stR_row, stR_row0, stR_row1, stR_rowA, stR_rowA0, splice_rowv, splice_rowv0, splice_rowv1, splice_z, splice_n, splice_s, nth_rowv, nth_rowv0, nth_rowv1, rowv_len, hk, E1.blk]
    exact hQ _ ⟨[_, _, _, _, _, _], rfl, zero_Ver_o _, by (repeat (first | exact Ext.rfl | assumption | (refine Ext.al ?_ _) | (refine Ext.dw ?_) | (refine Ext.set ?_ (by first | omega | (simp only [World.size_alloc, size_setRow, dw_size]; omega)) _) | (refine Ext.tr ?_ (by assumption))))⟩
  have hs : showsOk ns i k = true := by simp [showsOk, keyOk, hk, hi, h]
  obtain ⟨x, v, hx, hv, he, hno, q0, q1, q2, q3, q4, q5⟩ := showsOk_at hs
  have h4 := storeOk_len (nodeOk_parts hno).1
  rw [he, hs] at hQ
  simp (disch := first | assumption | omega | (simp only [World.size_alloc, size_setRow, dw_size]; done) | (simp only [World.size_alloc, size_setRow, dw_size] <;> omega) | (simp only [List.length_set, Array.length_toList, List.length_cons, List.length_nil, List.length_append, bts_size] <;> omega) | (simp only [List.all_cons, List.all_nil, Value.oneCell', Bool.and_self, Bool.and_true]; done)) [-Option.bind_some, hp_alloc_lt, hp_alloc_eq, hp_set_ne, wrap_small, ups_ap_cons, ups_ap_nil, upd_same, upd_other, env0_ap0, env0_aps, xt_a, xt_b, xt_c, -splice_eq, -stR_cells, stR_box, stR_boxA, stR_row, stR_row0, stR_row1, stR_rowA, stR_rowA0, splice_rowv, splice_rowv0, splice_rowv1, splice_z, splice_n, splice_s, nth_rowv, nth_rowv0, nth_rowv1, rowv_len, hk, E1.blk]
  have key : ∀ w1, Ext w w1 → Ret (EV P 89 #[.agg #[.slice a ns.length c], i64 i, i64 k] w1) fun r => ∃ ds, r.1 = .agg ds.toArray ∧ O tVer (In w1.heap.size r.2.heap.size) r.2 ds v ∧ Ext w1 r.2 := by
    intro w1 E1
    obtain ⟨b1, o1, cs1, rfl, A1, D1, _, l1⟩ := (ha.ext E1).at (by decide) hx
    obtain ⟨a2, c2, a3, c3, rfl, h2, h3⟩ := D.node.1 D1
    obtain ⟨b2, o2, cs2, rfl, A2, D2, _, l2⟩ := h2.at (by decide) hv
    have D2' := D2
    obtain ⟨av, cv, rfl, hq1, ht1⟩ := D.ver.1 D2
    have p0 := A1 0 _ rfl
    have p1 := A1 1 _ rfl
    simp only [LVer_n, LTag_n, LNode_n, Nat.add_zero] at p0 p1
    have q0 := A2 0 _ rfl
    have q1 := A2 1 _ rfl
    have q2 := A2 2 _ rfl
    have q3 := A2 3 _ rfl
    have q4 := A2 4 _ rfl
    have q5 := A2 5 _ rfl
    simp only [LVer_n, LTag_n, LNode_n, Nat.add_zero] at q0 q1 q2 q3 q4 q5
    have tail : ∀ e : Env, e 1 = i64 (showsAt ns i) → e 2 = i64 k → e 3 = pt w1.heap.size 0 → e 6 = pt (w1.heap.size + 1) 0 → Ret (spec_l3Shows_j1 e ((w1.alloc (.cells #[.slice (some ⟨b1, o1, none⟩) ns.length c] 24)).alloc (.cells #[i64 0, i64 0, i64 0, .slice none 0 0, .string ⟨#[]⟩, .bool false] 48))) fun r => ∃ ds, r.1 = .agg ds.toArray ∧ O tVer (In w1.heap.size r.2.heap.size) r.2 ds v ∧ Ext w1 r.2 := by
      intro e e1 e2 e3 e6
      refine Ret.post fun Q hQ => ?_
      rw [spec_l3Shows_j1_eq]
      simp (disch := first | assumption | omega | (simp only [World.size_alloc, size_setRow, dw_size]; done) | (simp only [World.size_alloc, size_setRow, dw_size] <;> omega) | (simp only [List.length_set, Array.length_toList, List.length_cons, List.length_nil, List.length_append, bts_size] <;> omega) | (simp only [List.all_cons, List.all_nil, Value.oneCell', Bool.and_self, Bool.and_true]; done)) [-Option.bind_some, hp_alloc_lt, hp_alloc_eq, hp_set_ne, wrap_small, ups_ap_cons, ups_ap_nil, upd_same, upd_other, env0_ap0, env0_aps, xt_a, xt_b, xt_c, -splice_eq, -stR_cells, stR_box, stR_boxA, stR_row, stR_row0, stR_row1, stR_rowA, stR_rowA0, splice_rowv, splice_rowv0, splice_rowv1, splice_z, splice_n, splice_s, nth_rowv, nth_rowv0, nth_rowv1, rowv_len, e1, e2, e3, e6, ia_22, ia_55, show k < x.store.length by omega, E1.blk, p0, p1, q0, q1, q2, q3, q4, q5, e1, e2, e3, e6]
      refine Ret.bind (spec_l2Copy_n (D2'.ext (by (repeat (first | exact Ext.rfl | assumption | (refine Ext.al ?_ _) | (refine Ext.dw ?_) | (refine Ext.set ?_ (by first | omega | (simp only [World.size_alloc, size_setRow, dw_size]; omega)) _) | (refine Ext.tr ?_ (by assumption))))))) ?_
      rintro ⟨_, w2⟩ ⟨ds, rfl, o2, E2⟩
      try dsimp only at ds o2 E2
      have zE2 := E2.size
      try simp only [World.size_alloc, size_setRow, dw_size] at zE2
      have zo := O.ver.1 o2
      obtain ⟨a4, c4, rfl, _, _⟩ := zo
      simp (disch := first | assumption | omega | (simp only [World.size_alloc, size_setRow, dw_size]; done) | (simp only [World.size_alloc, size_setRow, dw_size] <;> omega) | (simp only [List.length_set, Array.length_toList, List.length_cons, List.length_nil, List.length_append, bts_size] <;> omega) | (simp only [List.all_cons, List.all_nil, Value.oneCell', Bool.and_self, Bool.and_true]; done)) [-Option.bind_some, hp_alloc_lt, hp_alloc_eq, hp_set_ne, wrap_small, ups_ap_cons, ups_ap_nil, upd_same, upd_other, env0_ap0, env0_aps, xt_a, xt_b, xt_c, -splice_eq, -stR_cells, stR_box, stR_boxA, stR_row, stR_row0, stR_row1, stR_rowA, stR_rowA0, splice_rowv, splice_rowv0, splice_rowv1, splice_z, splice_n, splice_s, nth_rowv, nth_rowv0, nth_rowv1, rowv_len, e6, E1.blk, p0, p1, q0, q1, q2, q3, q4, q5, e1, e2, e3, e6, E2.blk]
      exact hQ _ ⟨[_, _, _, _, _, _], rfl, (o2.keep (by intro b hS hb; (try dsimp only at hS); (try simp only [In, World.size_alloc, size_setRow, dw_size] at hS hb); first | rfl | (simp (disch := first | assumption | omega | (simp only [World.size_alloc, size_setRow, dw_size]; omega) | (simp only [World.size_alloc, size_setRow, dw_size, In]; omega)) only [E1.blk, E2.blk, hp_alloc_lt, hp_set_ne, hp_dw]; done))).wide (by intro b h1 h2; (try dsimp only at h1); (try simp only [In, World.size_alloc, size_setRow, dw_size] at *); omega), by (repeat (first | exact Ext.rfl | assumption | (refine Ext.al ?_ _) | (refine Ext.dw ?_) | (refine Ext.set ?_ (by first | omega | (simp only [World.size_alloc, size_setRow, dw_size]; omega)) _) | (refine Ext.tr ?_ (by assumption))))⟩
    refine Ret.post fun Q hQ => ?_
    refine Ret.enter plain mixed (spec_l3Shows_fn _ _ _ _) (by kernel_rfl) (n := 3) (by kernel_rfl) rfl ?_
    by_cases hz : i = 0
    · subst hz
      by_cases hl : 1 < ns.length
      · have hsa : showsAt ns 0 = 1 := by simp [showsAt, hl]
        simp (disch := first | assumption | omega | (simp only [World.size_alloc, size_setRow, dw_size]; done) | (simp only [World.size_alloc, size_setRow, dw_size] <;> omega) | (simp only [List.length_set, Array.length_toList, List.length_cons, List.length_nil, List.length_append, bts_size] <;> omega) | (simp only [List.all_cons, List.all_nil, Value.oneCell', Bool.and_self, Bool.and_true]; done)) [-Option.bind_some, hp_alloc_lt, hp_alloc_eq, hp_set_ne, wrap_small, ups_ap_cons, ups_ap_nil, upd_same, upd_other, env0_ap0, env0_aps, xt_a, xt_b, xt_c, -splice_eq, -stR_cells, stR_box, stR_boxA, stR_row, stR_row0, stR_row1, stR_rowA, stR_rowA0, splice_rowv, splice_rowv0, splice_rowv1, splice_z, splice_n, splice_s, nth_rowv, nth_rowv0, nth_rowv1, rowv_len, show (1 : Int) < ns.length by omega, E1.blk, p0, p1, q0, q1, q2, q3, q4, q5]
        refine Ret.mono (tail _ ?_ (by first | omega | assumption | rfl | exact congrArg i64 (by omega) | (simp; done) | (simp; omega)) (by first | omega | assumption | rfl | exact congrArg i64 (by omega) | (simp; done) | (simp; omega)) (by first | omega | assumption | rfl | exact congrArg i64 (by omega) | (simp; done) | (simp; omega))) hQ
        rw [hsa]
        exact (by first | omega | assumption | rfl | exact congrArg i64 (by omega) | (simp; done) | (simp; omega))
      · have hsa : showsAt ns 0 = 0 := by simp [showsAt, hl]
        simp (disch := first | assumption | omega | (simp only [World.size_alloc, size_setRow, dw_size]; done) | (simp only [World.size_alloc, size_setRow, dw_size] <;> omega) | (simp only [List.length_set, Array.length_toList, List.length_cons, List.length_nil, List.length_append, bts_size] <;> omega) | (simp only [List.all_cons, List.all_nil, Value.oneCell', Bool.and_self, Bool.and_true]; done)) [-Option.bind_some, hp_alloc_lt, hp_alloc_eq, hp_set_ne, wrap_small, ups_ap_cons, ups_ap_nil, upd_same, upd_other, env0_ap0, env0_aps, xt_a, xt_b, xt_c, -splice_eq, -stR_cells, stR_box, stR_boxA, stR_row, stR_row0, stR_row1, stR_rowA, stR_rowA0, splice_rowv, splice_rowv0, splice_rowv1, splice_z, splice_n, splice_s, nth_rowv, nth_rowv0, nth_rowv1, rowv_len, show ¬ (1 : Int) < ns.length by omega, E1.blk, p0, p1, q0, q1, q2, q3, q4, q5]
        refine Ret.mono (tail _ ?_ (by first | omega | assumption | rfl | exact congrArg i64 (by omega) | (simp; done) | (simp; omega)) (by first | omega | assumption | rfl | exact congrArg i64 (by omega) | (simp; done) | (simp; omega)) (by first | omega | assumption | rfl | exact congrArg i64 (by omega) | (simp; done) | (simp; omega))) hQ
        rw [hsa]
        exact (by first | omega | assumption | rfl | exact congrArg i64 (by omega) | (simp; done) | (simp; omega))
    · have hsa : (showsAt ns i : Int) = i := by simp [showsAt, hz]; omega
      have hz0 : (i == 0) = false := by simp [hz]
      simp (disch := first | assumption | omega | (simp only [World.size_alloc, size_setRow, dw_size]; done) | (simp only [World.size_alloc, size_setRow, dw_size] <;> omega) | (simp only [List.length_set, Array.length_toList, List.length_cons, List.length_nil, List.length_append, bts_size] <;> omega) | (simp only [List.all_cons, List.all_nil, Value.oneCell', Bool.and_self, Bool.and_true]; done)) [-Option.bind_some, hp_alloc_lt, hp_alloc_eq, hp_set_ne, wrap_small, ups_ap_cons, ups_ap_nil, upd_same, upd_other, env0_ap0, env0_aps, xt_a, xt_b, xt_c, -splice_eq, -stR_cells, stR_box, stR_boxA, stR_row, stR_row0, stR_row1, stR_rowA, stR_rowA0, splice_rowv, splice_rowv0, splice_rowv1, splice_z, splice_n, splice_s, nth_rowv, nth_rowv0, nth_rowv1, rowv_len, hz0, E1.blk, p0, p1, q0, q1, q2, q3, q4, q5]
      refine Ret.mono (tail _ ?_ (by first | omega | assumption | rfl | exact congrArg i64 (by omega) | (simp; done) | (simp; omega)) (by first | omega | assumption | rfl | exact congrArg i64 (by omega) | (simp; done) | (simp; omega)) (by first | omega | assumption | rfl | exact congrArg i64 (by omega) | (simp; done) | (simp; omega))) hQ
      rw [hsa]
      exact (by first | omega | assumption | rfl | exact congrArg i64 (by omega) | (simp; done) | (simp; omega))
  refine Ret.bind (key _ (by (repeat (first | exact Ext.rfl | assumption | (refine Ext.al ?_ _) | (refine Ext.dw ?_) | (refine Ext.set ?_ (by first | omega | (simp only [World.size_alloc, size_setRow, dw_size]; omega)) _) | (refine Ext.tr ?_ (by assumption)))))) ?_
  rintro ⟨_, w2⟩ ⟨ds, rfl, o2, E2⟩
  try dsimp only at ds o2 E2
  have zE2 := E2.size
  try simp only [World.size_alloc, size_setRow, dw_size] at zE2
  have zo := O.ver.1 o2
  obtain ⟨a4, c4, rfl, _, _⟩ := zo
  simp (disch := first | assumption | omega | (simp only [World.size_alloc, size_setRow, dw_size]; done) | (simp only [World.size_alloc, size_setRow, dw_size] <;> omega) | (simp only [List.length_set, Array.length_toList, List.length_cons, List.length_nil, List.length_append, bts_size] <;> omega) | (simp only [List.all_cons, List.all_nil, Value.oneCell', Bool.and_self, Bool.and_true]; done)) [-Option.bind_some, hp_alloc_lt, hp_alloc_eq, hp_set_ne, wrap_small, ups_ap_cons, ups_ap_nil, upd_same, upd_other, env0_ap0, env0_aps, xt_a, xt_b, xt_c, -splice_eq, -stR_cells, stR_box, stR_boxA, stR_row, stR_row0, stR_row1, stR_rowA, stR_rowA0, splice_rowv, splice_rowv0, splice_rowv1, splice_z, splice_n, splice_s, nth_rowv, nth_rowv0, nth_rowv1, rowv_len, E1.blk, E2.blk]
  exact hQ _ ⟨[_, _, _, _, _, _], rfl, (o2.keep (by intro b hS hb; (try dsimp only at hS); (try simp only [In, World.size_alloc, size_setRow, dw_size] at hS hb); first | rfl | (simp (disch := first | assumption | omega | (simp only [World.size_alloc, size_setRow, dw_size]; omega) | (simp only [World.size_alloc, size_setRow, dw_size, In]; omega)) only [E1.blk, E2.blk, hp_alloc_lt, hp_set_ne, hp_dw]; done))).wide (by intro b h1 h2; (try dsimp only at h1); (try simp only [In, World.size_alloc, size_setRow, dw_size] at *); omega), by (repeat (first | exact Ext.rfl | assumption | (refine Ext.al ?_ _) | (refine Ext.dw ?_) | (refine Ext.set ?_ (by first | omega | (simp only [World.size_alloc, size_setRow, dw_size]; omega)) _) | (refine Ext.tr ?_ (by assumption))))⟩
theorem impl_Chain_shows_n {a : Option Addr} {c g1 : Nat} {i k : Int} {S : Nat → Prop} {ns : List CNode} {w : World} (h : chainOk ns = true) (ha : D tNodes S w [.slice a ns.length c] ns) (X1 : hp w g1 = some (.cells #[.slice a ns.length c] 24 (0, 0))) :
    Ret (EV P 90 #[pt g1 0, i64 i, i64 k] w) fun r => ∃ ds, r.1 = .tuple #[.agg ds.toArray, .bool (showsOk ns i k)] ∧ O tVer (In w.heap.size r.2.heap.size) r.2 ds (showsP ns i k) ∧ Ext w r.2 := by
  have hm := ha.n
  have y1 := hp_lt X1
  refine Ret.post fun Q hQ => ?_
  have bad : showsOk ns i k = false → showsP ns i k = verZ := fun h => by rw [showsP, h]; rfl
  have hw : IntKind.i64.wrap ((ns.length : Int) - 1) = (ns.length : Int) - 1 := w64 (by omega) (by omega)
  refine Ret.enter plain mixed (impl_Chain_shows_fn _ _ _ _) (by kernel_rfl) (n := 3) (by kernel_rfl) rfl ?_
  simp (disch := first | assumption | omega | (simp only [World.size_alloc, size_setRow, dw_size]; done) | (simp only [World.size_alloc, size_setRow, dw_size] <;> omega) | (simp only [List.length_set, Array.length_toList, List.length_cons, List.length_nil, List.length_append, bts_size] <;> omega) | (simp only [List.all_cons, List.all_nil, Value.oneCell', Bool.and_self, Bool.and_true]; done)) [-Option.bind_some, hp_alloc_lt, hp_alloc_eq, hp_set_ne, wrap_small, ups_ap_cons, ups_ap_nil, upd_same, upd_other, env0_ap0, env0_aps, xt_a, xt_b, xt_c, -splice_eq, -stR_cells, stR_box, stR_boxA, stR_row, stR_row0, stR_row1, stR_rowA, stR_rowA0, splice_rowv, splice_rowv0, splice_rowv1, splice_z, splice_n, splice_s, nth_rowv, nth_rowv0, nth_rowv1, rowv_len, nk_ptr, X1, hw]
  refine Ret.bind (impl_within_c _ _ _ _) ?_
  rintro _ rfl
  cases hi : (decide (0 ≤ i) && decide (i ≤ (ns.length : Int) - 1))
  · have h1 : showsOk ns i k = false := by simp [showsOk, hi]
    rw [bad h1, h1] at hQ
    simp (disch := first | assumption | omega | (simp only [World.size_alloc, size_setRow, dw_size]; done) | (simp only [World.size_alloc, size_setRow, dw_size] <;> omega) | (simp only [List.length_set, Array.length_toList, List.length_cons, List.length_nil, List.length_append, bts_size] <;> omega) | (simp only [List.all_cons, List.all_nil, Value.oneCell', Bool.and_self, Bool.and_true]; done)) [-Option.bind_some, hp_alloc_lt, hp_alloc_eq, hp_set_ne, wrap_small, ups_ap_cons, ups_ap_nil, upd_same, upd_other, env0_ap0, env0_aps, xt_a, xt_b, xt_c, -splice_eq, -stR_cells, stR_box, stR_boxA, stR_row, stR_row0, stR_row1, stR_rowA, stR_rowA0, splice_rowv, splice_rowv0, splice_rowv1, splice_z, splice_n, splice_s, nth_rowv, nth_rowv0, nth_rowv1, rowv_len, hi]
    exact hQ _ ⟨[_, _, _, _, _, _], rfl, zero_Ver_o _, by (repeat (first | exact Ext.rfl | assumption | (refine Ext.al ?_ _) | (refine Ext.dw ?_) | (refine Ext.set ?_ (by first | omega | (simp only [World.size_alloc, size_setRow, dw_size]; omega)) _) | (refine Ext.tr ?_ (by assumption))))⟩
  simp (disch := first | assumption | omega | (simp only [World.size_alloc, size_setRow, dw_size]; done) | (simp only [World.size_alloc, size_setRow, dw_size] <;> omega) | (simp only [List.length_set, Array.length_toList, List.length_cons, List.length_nil, List.length_append, bts_size] <;> omega) | (simp only [List.all_cons, List.all_nil, Value.oneCell', Bool.and_self, Bool.and_true]; done)) [-Option.bind_some, hp_alloc_lt, hp_alloc_eq, hp_set_ne, wrap_small, ups_ap_cons, ups_ap_nil, upd_same, upd_other, env0_ap0, env0_aps, xt_a, xt_b, xt_c, -splice_eq, -stR_cells, stR_box, stR_boxA, stR_row, stR_row0, stR_row1, stR_rowA, stR_rowA0, splice_rowv, splice_rowv0, splice_rowv1, splice_z, splice_n, splice_s, nth_rowv, nth_rowv0, nth_rowv1, rowv_len, hi]
  refine Ret.bind (impl_keyOk_c _ _) ?_
  rintro _ rfl
  cases hk : keyOk k
  · have h1 : showsOk ns i k = false := by simp [showsOk, hk]
    rw [bad h1, h1] at hQ
    simp (disch := first | assumption | omega | (simp only [World.size_alloc, size_setRow, dw_size]; done) | (simp only [World.size_alloc, size_setRow, dw_size] <;> omega) | (simp only [List.length_set, Array.length_toList, List.length_cons, List.length_nil, List.length_append, bts_size] <;> omega) | (simp only [List.all_cons, List.all_nil, Value.oneCell', Bool.and_self, Bool.and_true]; done)) [-Option.bind_some, hp_alloc_lt, hp_alloc_eq, hp_set_ne, wrap_small, ups_ap_cons, ups_ap_nil, upd_same, upd_other, env0_ap0, env0_aps, xt_a, xt_b, xt_c, -splice_eq, -stR_cells, stR_box, stR_boxA, stR_row, stR_row0, stR_row1, stR_rowA, stR_rowA0, splice_rowv, splice_rowv0, splice_rowv1, splice_z, splice_n, splice_s, nth_rowv, nth_rowv0, nth_rowv1, rowv_len, hk]
    exact hQ _ ⟨[_, _, _, _, _, _], rfl, zero_Ver_o _, by (repeat (first | exact Ext.rfl | assumption | (refine Ext.al ?_ _) | (refine Ext.dw ?_) | (refine Ext.set ?_ (by first | omega | (simp only [World.size_alloc, size_setRow, dw_size]; omega)) _) | (refine Ext.tr ?_ (by assumption))))⟩
  have hs : showsOk ns i k = true := by simp [showsOk, hk, hi, h]
  obtain ⟨x, v, hx, hv, he, hno, q0, q1, q2, q3, q4, q5⟩ := showsOk_at hs
  have h4 := storeOk_len (nodeOk_parts hno).1
  rw [he, hs] at hQ
  obtain ⟨b1, o1, cs1, rfl, A1, D1, _, l1⟩ := ha.at (by decide) hx
  obtain ⟨a2, c2, a3, c3, rfl, h2, h3⟩ := D.node.1 D1
  obtain ⟨b2, o2, cs2, rfl, A2, D2, _, l2⟩ := h2.at (by decide) hv
  have D2' := D2
  obtain ⟨av, cv, rfl, hq1, ht1⟩ := D.ver.1 D2
  have p0 := A1 0 _ rfl
  have p1 := A1 1 _ rfl
  simp only [LVer_n, LTag_n, LNode_n, Nat.add_zero] at p0 p1
  have q0 := A2 0 _ rfl
  have q1 := A2 1 _ rfl
  have q2 := A2 2 _ rfl
  have q3 := A2 3 _ rfl
  have q4 := A2 4 _ rfl
  have q5 := A2 5 _ rfl
  simp only [LVer_n, LTag_n, LNode_n, Nat.add_zero] at q0 q1 q2 q3 q4 q5
  have tail : ∀ (e : Env) (w1 : World), w1 = w.alloc (.cells #[i64 0, i64 0, i64 0, .slice none 0 0, .string ⟨#[]⟩, .bool false] 48) → e 0 = pt g1 0 → e 1 = i64 (showsAt ns i) → e 2 = i64 k → e 6 = pt w.heap.size 0 → Ret (impl_Chain_shows_j1 e w1) fun r => ∃ ds, r.1 = .tuple #[.agg ds.toArray, .bool true] ∧ O tVer (In w.heap.size r.2.heap.size) r.2 ds v ∧ Ext w r.2 := by
    rintro e w1 rfl e0 e1 e2 e6
    refine Ret.post fun Q hQ => ?_
    rw [impl_Chain_shows_j1_eq]
    simp (disch := first | assumption | omega | (simp only [World.size_alloc, size_setRow, dw_size]; done) | (simp only [World.size_alloc, size_setRow, dw_size] <;> omega) | (simp only [List.length_set, Array.length_toList, List.length_cons, List.length_nil, List.length_append, bts_size] <;> omega) | (simp only [List.all_cons, List.all_nil, Value.oneCell', Bool.and_self, Bool.and_true]; done)) [-Option.bind_some, hp_alloc_lt, hp_alloc_eq, hp_set_ne, wrap_small, ups_ap_cons, ups_ap_nil, upd_same, upd_other, env0_ap0, env0_aps, xt_a, xt_b, xt_c, -splice_eq, -stR_cells, stR_box, stR_boxA, stR_row, stR_row0, stR_row1, stR_rowA, stR_rowA0, splice_rowv, splice_rowv0, splice_rowv1, splice_z, splice_n, splice_s, nth_rowv, nth_rowv0, nth_rowv1, rowv_len, e0, e1, e2, e6, nk_ptr, X1, ia_22, ia_55, show k < x.store.length by omega, p0, p1, q0, q1, q2, q3, q4, q5, e0, e1, e2, e6]
    refine Ret.bind (impl_Ver_copied_n (D2'.ext (by (repeat (first | exact Ext.rfl | assumption | (refine Ext.al ?_ _) | (refine Ext.dw ?_) | (refine Ext.set ?_ (by first | omega | (simp only [World.size_alloc, size_setRow, dw_size]; omega)) _) | (refine Ext.tr ?_ (by assumption))))))) ?_
    rintro ⟨_, w2⟩ ⟨ds, rfl, o2, E2⟩
    try dsimp only at ds o2 E2
    have zE2 := E2.size
    try simp only [World.size_alloc, size_setRow, dw_size] at zE2
    have zo := O.ver.1 o2
    obtain ⟨a4, c4, rfl, _, _⟩ := zo
    simp (disch := first | assumption | omega | (simp only [World.size_alloc, size_setRow, dw_size]; done) | (simp only [World.size_alloc, size_setRow, dw_size] <;> omega) | (simp only [List.length_set, Array.length_toList, List.length_cons, List.length_nil, List.length_append, bts_size] <;> omega) | (simp only [List.all_cons, List.all_nil, Value.oneCell', Bool.and_self, Bool.and_true]; done)) [-Option.bind_some, hp_alloc_lt, hp_alloc_eq, hp_set_ne, wrap_small, ups_ap_cons, ups_ap_nil, upd_same, upd_other, env0_ap0, env0_aps, xt_a, xt_b, xt_c, -splice_eq, -stR_cells, stR_box, stR_boxA, stR_row, stR_row0, stR_row1, stR_rowA, stR_rowA0, splice_rowv, splice_rowv0, splice_rowv1, splice_z, splice_n, splice_s, nth_rowv, nth_rowv0, nth_rowv1, rowv_len, e6, p0, p1, q0, q1, q2, q3, q4, q5, e0, e1, e2, e6, E2.blk]
    exact hQ _ ⟨[_, _, _, _, _, _], rfl, (o2.keep (by intro b hS hb; (try dsimp only at hS); (try simp only [In, World.size_alloc, size_setRow, dw_size] at hS hb); first | rfl | (simp (disch := first | assumption | omega | (simp only [World.size_alloc, size_setRow, dw_size]; omega) | (simp only [World.size_alloc, size_setRow, dw_size, In]; omega)) only [E2.blk, hp_alloc_lt, hp_set_ne, hp_dw]; done))).wide (by intro b h1 h2; (try dsimp only at h1); (try simp only [In, World.size_alloc, size_setRow, dw_size] at *); omega), by (repeat (first | exact Ext.rfl | assumption | (refine Ext.al ?_ _) | (refine Ext.dw ?_) | (refine Ext.set ?_ (by first | omega | (simp only [World.size_alloc, size_setRow, dw_size]; omega)) _) | (refine Ext.tr ?_ (by assumption))))⟩
  by_cases hz : i = 0
  · subst hz
    by_cases hl : 1 < ns.length
    · have hsa : showsAt ns 0 = 1 := by simp [showsAt, hl]
      simp (disch := first | assumption | omega | (simp only [World.size_alloc, size_setRow, dw_size]; done) | (simp only [World.size_alloc, size_setRow, dw_size] <;> omega) | (simp only [List.length_set, Array.length_toList, List.length_cons, List.length_nil, List.length_append, bts_size] <;> omega) | (simp only [List.all_cons, List.all_nil, Value.oneCell', Bool.and_self, Bool.and_true]; done)) [-Option.bind_some, hp_alloc_lt, hp_alloc_eq, hp_set_ne, wrap_small, ups_ap_cons, ups_ap_nil, upd_same, upd_other, env0_ap0, env0_aps, xt_a, xt_b, xt_c, -splice_eq, -stR_cells, stR_box, stR_boxA, stR_row, stR_row0, stR_row1, stR_rowA, stR_rowA0, splice_rowv, splice_rowv0, splice_rowv1, splice_z, splice_n, splice_s, nth_rowv, nth_rowv0, nth_rowv1, rowv_len, nk_ptr, X1, hw, hk, b_min_i64, show ¬ (ns.length : Int) - 1 < 1 by omega, p0, p1, q0, q1, q2, q3, q4, q5]
      refine Ret.mono (tail _ _ rfl (by first | omega | assumption | rfl | exact congrArg i64 (by omega) | (simp; done) | (simp; omega)) ?_ (by first | omega | assumption | rfl | exact congrArg i64 (by omega) | (simp; done) | (simp; omega)) (by first | omega | assumption | rfl | exact congrArg i64 (by omega) | (simp; done) | (simp; omega))) hQ
      rw [hsa]
      exact (by first | omega | assumption | rfl | exact congrArg i64 (by omega) | (simp; done) | (simp; omega))
    · have hsa : showsAt ns 0 = 0 := by simp [showsAt, hl]
      have hl1 : ns.length = 1 := by omega
      simp (disch := first | assumption | omega | (simp only [World.size_alloc, size_setRow, dw_size]; done) | (simp only [World.size_alloc, size_setRow, dw_size] <;> omega) | (simp only [List.length_set, Array.length_toList, List.length_cons, List.length_nil, List.length_append, bts_size] <;> omega) | (simp only [List.all_cons, List.all_nil, Value.oneCell', Bool.and_self, Bool.and_true]; done)) [-Option.bind_some, hp_alloc_lt, hp_alloc_eq, hp_set_ne, wrap_small, ups_ap_cons, ups_ap_nil, upd_same, upd_other, env0_ap0, env0_aps, xt_a, xt_b, xt_c, -splice_eq, -stR_cells, stR_box, stR_boxA, stR_row, stR_row0, stR_row1, stR_rowA, stR_rowA0, splice_rowv, splice_rowv0, splice_rowv1, splice_z, splice_n, splice_s, nth_rowv, nth_rowv0, nth_rowv1, rowv_len, nk_ptr, X1, hw, hk, b_min_i64, show (ns.length : Int) - 1 < 1 by omega, show (ns.length : Int) - 1 = 0 by omega, p0, p1, q0, q1, q2, q3, q4, q5]
      refine Ret.mono (tail _ _ rfl (by first | omega | assumption | rfl | exact congrArg i64 (by omega) | (simp; done) | (simp; omega)) ?_ (by first | omega | assumption | rfl | exact congrArg i64 (by omega) | (simp; done) | (simp; omega)) (by first | omega | assumption | rfl | exact congrArg i64 (by omega) | (simp; done) | (simp; omega))) hQ
      rw [hsa]
      exact (by first | omega | assumption | rfl | exact congrArg i64 (by omega) | (simp; done) | (simp; omega))
  · have hsa : (showsAt ns i : Int) = i := by simp [showsAt, hz]; omega
    have hz0 : (i == 0) = false := by simp [hz]
    simp (disch := first | assumption | omega | (simp only [World.size_alloc, size_setRow, dw_size]; done) | (simp only [World.size_alloc, size_setRow, dw_size] <;> omega) | (simp only [List.length_set, Array.length_toList, List.length_cons, List.length_nil, List.length_append, bts_size] <;> omega) | (simp only [List.all_cons, List.all_nil, Value.oneCell', Bool.and_self, Bool.and_true]; done)) [-Option.bind_some, hp_alloc_lt, hp_alloc_eq, hp_set_ne, wrap_small, ups_ap_cons, ups_ap_nil, upd_same, upd_other, env0_ap0, env0_aps, xt_a, xt_b, xt_c, -splice_eq, -stR_cells, stR_box, stR_boxA, stR_row, stR_row0, stR_row1, stR_rowA, stR_rowA0, splice_rowv, splice_rowv0, splice_rowv1, splice_z, splice_n, splice_s, nth_rowv, nth_rowv0, nth_rowv1, rowv_len, hz0, hk, p0, p1, q0, q1, q2, q3, q4, q5]
    refine Ret.mono (tail _ _ rfl (by first | omega | assumption | rfl | exact congrArg i64 (by omega) | (simp; done) | (simp; omega)) ?_ (by first | omega | assumption | rfl | exact congrArg i64 (by omega) | (simp; done) | (simp; omega)) (by first | omega | assumption | rfl | exact congrArg i64 (by omega) | (simp; done) | (simp; omega))) hQ
    rw [hsa]
    exact (by first | omega | assumption | rfl | exact congrArg i64 (by omega) | (simp; done) | (simp; omega))
theorem impl_ChainShows_n {a : Option Addr} {n c : Nat} {i k : Int} {S : Nat → Prop} {ns : List CNode} {w : World} (ha : D tNodes S w [.slice a n c] ns) :
    Ret (EV P 39 #[.agg #[.slice a n c], i64 i, i64 k] w) fun r => ∃ ds, r.1 = .tuple #[.agg ds.toArray, .bool (showsOk ns i k)] ∧ O tVer (In w.heap.size r.2.heap.size) r.2 ds (showsP ns i k) ∧ Ext w r.2 := by
  obtain ⟨rfl, hm, _⟩ := ha.n
  refine Ret.post fun Q hQ => ?_
  refine Ret.enter plain mixed (impl_ChainShows_fn _ _ _ _) (by kernel_rfl) (n := 3) (by kernel_rfl) rfl ?_
  simp (disch := first | assumption | omega | (simp only [World.size_alloc, size_setRow, dw_size]; done) | (simp only [World.size_alloc, size_setRow, dw_size] <;> omega) | (simp only [List.length_set, Array.length_toList, List.length_cons, List.length_nil, List.length_append, bts_size] <;> omega) | (simp only [List.all_cons, List.all_nil, Value.oneCell', Bool.and_self, Bool.and_true]; done)) [-Option.bind_some, hp_alloc_lt, hp_alloc_eq, hp_set_ne, wrap_small, ups_ap_cons, ups_ap_nil, upd_same, upd_other, env0_ap0, env0_aps, xt_a, xt_b, xt_c, -splice_eq, -stR_cells, stR_box, stR_boxA, stR_row, stR_row0, stR_row1, stR_rowA, stR_rowA0, splice_rowv, splice_rowv0, splice_rowv1, splice_z, splice_n, splice_s, nth_rowv, nth_rowv0, nth_rowv1, rowv_len]
  refine Ret.bind (impl_ChainOk_m (ha.ext (by (repeat (first | exact Ext.rfl | assumption | (refine Ext.al ?_ _) | (refine Ext.dw ?_) | (refine Ext.set ?_ (by first | omega | (simp only [World.size_alloc, size_setRow, dw_size]; omega)) _) | (refine Ext.tr ?_ (by assumption))))))) ?_
  rintro ⟨_, w1⟩ ⟨rfl, E1⟩
  try dsimp only at E1
  have zE1 := E1.size
  try simp only [World.size_alloc, size_setRow, dw_size] at zE1
  cases h : chainOk ns
  · have h1 : showsOk ns i k = false := by simp [showsOk, h]
    have h2 : showsP ns i k = verZ := by rw [showsP, h1]; rfl
    rw [h2, h1] at hQ
    simp (disch := first | assumption | omega | (simp only [World.size_alloc, size_setRow, dw_size]; done) | (simp only [World.size_alloc, size_setRow, dw_size] <;> omega) | (simp only [List.length_set, Array.length_toList, List.length_cons, List.length_nil, List.length_append, bts_size] <;> omega) | (simp only [List.all_cons, List.all_nil, Value.oneCell', Bool.and_self, Bool.and_true]; done)) [-Option.bind_some, hp_alloc_lt, hp_alloc_eq, hp_set_ne, wrap_small, ups_ap_cons, ups_ap_nil, upd_same, upd_other, env0_ap0, env0_aps, xt_a, xt_b, xt_c, -splice_eq, -stR_cells, stR_box, stR_boxA, stR_row, stR_row0, stR_row1, stR_rowA, stR_rowA0, splice_rowv, splice_rowv0, splice_rowv1, splice_z, splice_n, splice_s, nth_rowv, nth_rowv0, nth_rowv1, rowv_len, E1.blk]
    exact hQ _ ⟨[_, _, _, _, _, _], rfl, zero_Ver_o _, by (repeat (first | exact Ext.rfl | assumption | (refine Ext.al ?_ _) | (refine Ext.dw ?_) | (refine Ext.set ?_ (by first | omega | (simp only [World.size_alloc, size_setRow, dw_size]; omega)) _) | (refine Ext.tr ?_ (by assumption))))⟩
  simp (disch := first | assumption | omega | (simp only [World.size_alloc, size_setRow, dw_size]; done) | (simp only [World.size_alloc, size_setRow, dw_size] <;> omega) | (simp only [List.length_set, Array.length_toList, List.length_cons, List.length_nil, List.length_append, bts_size] <;> omega) | (simp only [List.all_cons, List.all_nil, Value.oneCell', Bool.and_self, Bool.and_true]; done)) [-Option.bind_some, hp_alloc_lt, hp_alloc_eq, hp_set_ne, wrap_small, ups_ap_cons, ups_ap_nil, upd_same, upd_other, env0_ap0, env0_aps, xt_a, xt_b, xt_c, -splice_eq, -stR_cells, stR_box, stR_boxA, stR_row, stR_row0, stR_row1, stR_rowA, stR_rowA0, splice_rowv, splice_rowv0, splice_rowv1, splice_z, splice_n, splice_s, nth_rowv, nth_rowv0, nth_rowv1, rowv_len, E1.blk]
  refine Ret.bind (impl_Chain_shows_n h (ha.ext (by (repeat (first | exact Ext.rfl | assumption | (refine Ext.al ?_ _) | (refine Ext.dw ?_) | (refine Ext.set ?_ (by first | omega | (simp only [World.size_alloc, size_setRow, dw_size]; omega)) _) | (refine Ext.tr ?_ (by assumption)))))) (by first | assumption | rfl | (simp (disch := first | assumption | omega | (simp only [World.size_alloc, size_setRow, dw_size]; done) | (simp only [World.size_alloc, size_setRow, dw_size] <;> omega) | (simp only [List.length_set, Array.length_toList, List.length_cons, List.length_nil, List.length_append, bts_size] <;> omega) | (simp only [List.all_cons, List.all_nil, Value.oneCell', Bool.and_self, Bool.and_true]; done)) [-Option.bind_some, hp_alloc_lt, hp_alloc_eq, hp_set_ne, wrap_small, ups_ap_cons, ups_ap_nil, upd_same, upd_other, env0_ap0, env0_aps, xt_a, xt_b, xt_c, E1.blk]; done))) ?_
  rintro ⟨_, w2⟩ ⟨ds, rfl, o2, E2⟩
  try dsimp only at ds o2 E2
  have zE2 := E2.size
  try simp only [World.size_alloc, size_setRow, dw_size] at zE2
  have zo := O.ver.1 o2
  obtain ⟨a4, c4, rfl, _, _⟩ := zo
  simp (disch := first | assumption | omega | (simp only [World.size_alloc, size_setRow, dw_size]; done) | (simp only [World.size_alloc, size_setRow, dw_size] <;> omega) | (simp only [List.length_set, Array.length_toList, List.length_cons, List.length_nil, List.length_append, bts_size] <;> omega) | (simp only [List.all_cons, List.all_nil, Value.oneCell', Bool.and_self, Bool.and_true]; done)) [-Option.bind_some, hp_alloc_lt, hp_alloc_eq, hp_set_ne, wrap_small, ups_ap_cons, ups_ap_nil, upd_same, upd_other, env0_ap0, env0_aps, xt_a, xt_b, xt_c, -splice_eq, -stR_cells, stR_box, stR_boxA, stR_row, stR_row0, stR_row1, stR_rowA, stR_rowA0, splice_rowv, splice_rowv0, splice_rowv1, splice_z, splice_n, splice_s, nth_rowv, nth_rowv0, nth_rowv1, rowv_len, xt_a, xt_b, E1.blk, E2.blk]
  exact hQ _ ⟨[_, _, _, _, _, _], rfl, (o2.keep (by intro b hS hb; (try dsimp only at hS); (try simp only [In, World.size_alloc, size_setRow, dw_size] at hS hb); first | rfl | (simp (disch := first | assumption | omega | (simp only [World.size_alloc, size_setRow, dw_size]; omega) | (simp only [World.size_alloc, size_setRow, dw_size, In]; omega)) only [E1.blk, E2.blk, hp_alloc_lt, hp_set_ne, hp_dw]; done))).wide (by intro b h1 h2; (try dsimp only at h1); (try simp only [In, World.size_alloc, size_setRow, dw_size] at *); omega), by (repeat (first | exact Ext.rfl | assumption | (refine Ext.al ?_ _) | (refine Ext.dw ?_) | (refine Ext.set ?_ (by first | omega | (simp only [World.size_alloc, size_setRow, dw_size]; omega)) _) | (refine Ext.tr ?_ (by assumption))))⟩
theorem showsP_wt (ns : List CNode) (i k : Int) (t0 : MChain.wt ns ≤ 1048576) : MVerP.wt (showsP ns i k) ≤ 1000000000000 := by
  cases h : showsOk ns i k
  · rw [showsP, h]; show MTag.wtL [] ≤ _; simp [Mk.wtL]
  · obtain ⟨x, v, hx, hv, he, _⟩ := showsOk_at h
    rw [he]
    have h1 := Mk.wtL_at (M := MNode) hx
    have h2 := Mk.wtL_at (M := MVer) hv
    have h3 : MNode.wt x = MVer.wtL x.store + MVer.wtL x.wait := rfl
    have h4 : MVer.wt v = MTag.wtL v.past := rfl
    have h5 : MVerP.wt v = MTag.wtL v.past := rfl
    have h6 : MChain.wt ns = MNode.wtL ns := rfl
    omega
end Go.Proofs.Ythicfemhpnnaaaa.X
