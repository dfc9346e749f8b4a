/- A part of the proof: an evaluator of the model, its laws, and contracts of functions; no condition. -/
import Derived.Test.YthicfemhpnnaaaaGreatG10
set_option linter.unusedVariables false
set_option linter.unusedSimpArgs false
set_option maxRecDepth 100000
set_option maxHeartbeats 1000000
namespace Go.Proofs.YthicfemhpnnaaaaGreat.X
open Go Go.Ev Go.RowKit
abbrev tNode : Lay CNode := LNode 40 45
abbrev tNodes : Lay (List CNode) := LNodes 40 45 36
noncomputable def MNode : Mk CNode := ⟨fun k n => ⟨MVer.mkL k n.store, MVer.mkL (MVer.nxL k n.store) n.wait⟩, fun k n => MVer.nxL (MVer.nxL k n.store) n.wait, fun n => MVer.wtL n.store + MVer.wtL n.wait,
  fun k n => Int.le_trans (Mk.nxL_le n.store k) (Mk.nxL_le n.wait _)⟩
theorem MNode_small : MNode.Small := fun k n => by
  have h1 := Mk.nxL_small MVer_small n.store k
  have h2 := Mk.nxL_small MVer_small n.wait (MVer.nxL k n.store)
  show MVer.nxL (MVer.nxL k n.store) n.wait ≤ k + 10 * (1 + ((MVer.wtL n.store + MVer.wtL n.wait : Nat) : Int))
  omega
theorem MNode_mk (k : Int) (n : CNode) : MNode.mk k n = ⟨MVer.mkL k n.store, MVer.mkL (MVer.nxL k n.store) n.wait⟩ := rfl
noncomputable def MChain : Mk (List CNode) := MNode.list
theorem MChain_le (k : Int) (x : List CNode) : k ≤ MChain.nx k x ∧ MChain.nx k x ≤ k + 10 * MChain.wt x := ⟨Mk.nxL_le _ _, Mk.nxL_small MNode_small _ _⟩
theorem zero_Node (w : World) : O tNode (fun _ => False) w [.slice none 0 0, .slice none 0 0] ⟨[], []⟩ :=
  (O.node_mk (v := ⟨[], []⟩) (S1 := fun _ => False) (S2 := fun _ => False) O.nil O.nil (fun _ _ h => h.elim)).wide fun b h _ => h.elim id id
theorem laws_szNode_m {n : Int} (h0 : -1 ≤ n) (h1 : n ≤ 1048576) {S : Nat → Prop} {cs : List Value} {x : CNode} {w : World} (ha : D tNode S w cs x) :
    Ret (EV P 96 #[.agg cs.toArray, i64 n] w) fun r => ∃ m, r.1 = i64 m ∧ -1 ≤ m ∧ m ≤ 1048576 ∧ (0 ≤ m → m + MNode.wt x ≤ n) ∧ Ext w r.2 := by
  obtain ⟨a, c, a', c', rfl, h2, h3⟩ := D.node.1 ha
  refine Ret.post fun Q hQ => ?_
  refine Ret.enter plain mixed (laws_szNode_fn _ _ _) (by kernel_rfl) (n := 2) (by kernel_rfl) rfl ?_
  simp (maxSteps := 1000000) (disch := first | assumption | omega | (simp only [World.size_alloc, size_setRow, dw_size]; done) | (simp only [World.size_alloc, size_setRow, dw_size] <;> omega) | (simp only [List.length_set, Array.length_toList, List.length_cons, List.length_nil, List.length_append, bts_size] <;> omega) | (simp only [List.all_cons, List.all_nil, Value.oneCell', Bool.and_self, Bool.and_true]; done)) [-Option.bind_some, hp_alloc_lt, hp_alloc_eq, hp_set_ne, wrap_small, ups_ap_cons, ups_ap_nil, upd_same, upd_other, env0_ap0, env0_aps, xt_a, xt_b, xt_c]
  refine Ret.bind (laws_szStore_m h0 h1 (h2.ext (by (repeat (first | exact Ext.rfl | assumption | (refine Ext.al ?_ _) | (refine Ext.dw ?_) | (refine Ext.set ?_ (by first | omega | (simp only [World.size_alloc, size_setRow, dw_size]; omega)) _) | (refine Ext.tr ?_ (by assumption))))))) ?_
  rintro ⟨_, w1⟩ ⟨m1, rfl, b1, b2, b3, E1⟩
  try dsimp only at m1 b1 b2 b3 E1
  have zE1 := E1.size
  try simp only [World.size_alloc, size_setRow, dw_size] at zE1
  by_cases g1 : m1 < 0
  · simp (maxSteps := 1000000) (disch := first | assumption | omega | (simp only [World.size_alloc, size_setRow, dw_size]; done) | (simp only [World.size_alloc, size_setRow, dw_size] <;> omega) | (simp only [List.length_set, Array.length_toList, List.length_cons, List.length_nil, List.length_append, bts_size] <;> omega) | (simp only [List.all_cons, List.all_nil, Value.oneCell', Bool.and_self, Bool.and_true]; done)) [-Option.bind_some, hp_alloc_lt, hp_alloc_eq, hp_set_ne, wrap_small, ups_ap_cons, ups_ap_nil, upd_same, upd_other, env0_ap0, env0_aps, xt_a, xt_b, xt_c, g1, E1.blk]
    exact hQ _ ⟨-1, rfl, by omega, by omega, by omega, by (repeat (first | exact Ext.rfl | assumption | (refine Ext.al ?_ _) | (refine Ext.dw ?_) | (refine Ext.set ?_ (by first | omega | (simp only [World.size_alloc, size_setRow, dw_size]; omega)) _) | (refine Ext.tr ?_ (by assumption))))⟩
  simp (maxSteps := 1000000) (disch := first | assumption | omega | (simp only [World.size_alloc, size_setRow, dw_size]; done) | (simp only [World.size_alloc, size_setRow, dw_size] <;> omega) | (simp only [List.length_set, Array.length_toList, List.length_cons, List.length_nil, List.length_append, bts_size] <;> omega) | (simp only [List.all_cons, List.all_nil, Value.oneCell', Bool.and_self, Bool.and_true]; done)) [-Option.bind_some, hp_alloc_lt, hp_alloc_eq, hp_set_ne, wrap_small, ups_ap_cons, ups_ap_nil, upd_same, upd_other, env0_ap0, env0_aps, xt_a, xt_b, xt_c, g1, E1.blk]
  refine Ret.bind (laws_szVerS_m b1 b2 (h3.ext (by (repeat (first | exact Ext.rfl | assumption | (refine Ext.al ?_ _) | (refine Ext.dw ?_) | (refine Ext.set ?_ (by first | omega | (simp only [World.size_alloc, size_setRow, dw_size]; omega)) _) | (refine Ext.tr ?_ (by assumption))))))) ?_
  rintro ⟨_, w2⟩ ⟨m2, rfl, b4, b5, b6, E2⟩
  try dsimp only at m2 b4 b5 b6 E2
  have zE2 := E2.size
  try simp only [World.size_alloc, size_setRow, dw_size] at zE2
  by_cases g2 : m2 < 0
  · simp (maxSteps := 1000000) (disch := first | assumption | omega | (simp only [World.size_alloc, size_setRow, dw_size]; done) | (simp only [World.size_alloc, size_setRow, dw_size] <;> omega) | (simp only [List.length_set, Array.length_toList, List.length_cons, List.length_nil, List.length_append, bts_size] <;> omega) | (simp only [List.all_cons, List.all_nil, Value.oneCell', Bool.and_self, Bool.and_true]; done)) [-Option.bind_some, hp_alloc_lt, hp_alloc_eq, hp_set_ne, wrap_small, ups_ap_cons, ups_ap_nil, upd_same, upd_other, env0_ap0, env0_aps, xt_a, xt_b, xt_c, g2, E1.blk, E2.blk]
    exact hQ _ ⟨-1, rfl, by omega, by omega, by omega, by (repeat (first | exact Ext.rfl | assumption | (refine Ext.al ?_ _) | (refine Ext.dw ?_) | (refine Ext.set ?_ (by first | omega | (simp only [World.size_alloc, size_setRow, dw_size]; omega)) _) | (refine Ext.tr ?_ (by assumption))))⟩
  simp (maxSteps := 1000000) (disch := first | assumption | omega | (simp only [World.size_alloc, size_setRow, dw_size]; done) | (simp only [World.size_alloc, size_setRow, dw_size] <;> omega) | (simp only [List.length_set, Array.length_toList, List.length_cons, List.length_nil, List.length_append, bts_size] <;> omega) | (simp only [List.all_cons, List.all_nil, Value.oneCell', Bool.and_self, Bool.and_true]; done)) [-Option.bind_some, hp_alloc_lt, hp_alloc_eq, hp_set_ne, wrap_small, ups_ap_cons, ups_ap_nil, upd_same, upd_other, env0_ap0, env0_aps, xt_a, xt_b, xt_c, g2, E1.blk, E2.blk]
  have k1 := b3 (by omega)
  have k2 := b6 (by omega)
  exact hQ _ ⟨m2, rfl, by omega, by omega, fun _ => by show m2 + ((MStore.wt x.store + MStore.wt x.wait : Nat) : Int) ≤ n; omega, by (repeat (first | exact Ext.rfl | assumption | (refine Ext.al ?_ _) | (refine Ext.dw ?_) | (refine Ext.set ?_ (by first | omega | (simp only [World.size_alloc, size_setRow, dw_size]; omega)) _) | (refine Ext.tr ?_ (by assumption))))⟩
theorem laws_toNode_m {S : Nat → Prop} {cs : List Value} {x : CNode} {w : World} (ha : D tNode S w cs x) :
    Ret (EV P 103 #[.agg cs.toArray] w) fun r => ∃ ds, r.1 = .agg ds.toArray ∧ O tNode (In w.heap.size r.2.heap.size) r.2 ds x ∧ Ext w r.2 := by
  obtain ⟨a, c, a', c', rfl, h2, h3⟩ := D.node.1 ha
  refine Ret.post fun Q hQ => ?_
  refine Ret.enter plain mixed (laws_toNode_fn _ _) (by kernel_rfl) (n := 1) (by kernel_rfl) rfl ?_
  simp (maxSteps := 1000000) (disch := first | assumption | omega | (simp only [World.size_alloc, size_setRow, dw_size]; done) | (simp only [World.size_alloc, size_setRow, dw_size] <;> omega) | (simp only [List.length_set, Array.length_toList, List.length_cons, List.length_nil, List.length_append, bts_size] <;> omega) | (simp only [List.all_cons, List.all_nil, Value.oneCell', Bool.and_self, Bool.and_true]; done)) [-Option.bind_some, hp_alloc_lt, hp_alloc_eq, hp_set_ne, wrap_small, ups_ap_cons, ups_ap_nil, upd_same, upd_other, env0_ap0, env0_aps, xt_a, xt_b, xt_c, -splice_eq, -stR_cells, stR_box, stR_boxA, stR_row, stR_row0, stR_row1, stR_rowA, stR_rowA0, splice_rowv, splice_rowv0, splice_rowv1, splice_z, splice_n, splice_s, nth_rowv, nth_rowv0, nth_rowv1, rowv_len]
  refine Ret.bind (laws_toStore_m (h2.ext (by (repeat (first | exact Ext.rfl | assumption | (refine Ext.al ?_ _) | (refine Ext.dw ?_) | (refine Ext.set ?_ (by first | omega | (simp only [World.size_alloc, size_setRow, dw_size]; omega)) _) | (refine Ext.tr ?_ (by assumption))))))) ?_
  rintro ⟨_, w1⟩ ⟨d1, rfl, o1, E1⟩
  try dsimp only at d1 o1 E1
  have zE1 := E1.size
  try simp only [World.size_alloc, size_setRow, dw_size] at zE1
  obtain ⟨a1, c1, rfl, o1⟩ := o1.sl'
  simp (maxSteps := 1000000) (disch := first | assumption | omega | (simp only [World.size_alloc, size_setRow, dw_size]; done) | (simp only [World.size_alloc, size_setRow, dw_size] <;> omega) | (simp only [List.length_set, Array.length_toList, List.length_cons, List.length_nil, List.length_append, bts_size] <;> omega) | (simp only [List.all_cons, List.all_nil, Value.oneCell', Bool.and_self, Bool.and_true]; done)) [-Option.bind_some, hp_alloc_lt, hp_alloc_eq, hp_set_ne, wrap_small, ups_ap_cons, ups_ap_nil, upd_same, upd_other, env0_ap0, env0_aps, xt_a, xt_b, xt_c, -splice_eq, -stR_cells, stR_box, stR_boxA, stR_row, stR_row0, stR_row1, stR_rowA, stR_rowA0, splice_rowv, splice_rowv0, splice_rowv1, splice_z, splice_n, splice_s, nth_rowv, nth_rowv0, nth_rowv1, rowv_len, E1.blk]
  refine Ret.bind (laws_toVerS_m (h3.ext (by (repeat (first | exact Ext.rfl | assumption | (refine Ext.al ?_ _) | (refine Ext.dw ?_) | (refine Ext.set ?_ (by first | omega | (simp only [World.size_alloc, size_setRow, dw_size]; omega)) _) | (refine Ext.tr ?_ (by assumption))))))) ?_
  rintro ⟨_, w2⟩ ⟨a2, c2, rfl, o2, E2⟩
  try dsimp only at a2 c2 o2 E2
  have zE2 := E2.size
  try simp only [World.size_alloc, size_setRow, dw_size] at zE2
  simp (maxSteps := 1000000) (disch := first | assumption | omega | (simp only [World.size_alloc, size_setRow, dw_size]; done) | (simp only [World.size_alloc, size_setRow, dw_size] <;> omega) | (simp only [List.length_set, Array.length_toList, List.length_cons, List.length_nil, List.length_append, bts_size] <;> omega) | (simp only [List.all_cons, List.all_nil, Value.oneCell', Bool.and_self, Bool.and_true]; done)) [-Option.bind_some, hp_alloc_lt, hp_alloc_eq, hp_set_ne, wrap_small, ups_ap_cons, ups_ap_nil, upd_same, upd_other, env0_ap0, env0_aps, xt_a, xt_b, xt_c, -splice_eq, -stR_cells, stR_box, stR_boxA, stR_row, stR_row0, stR_row1, stR_rowA, stR_rowA0, splice_rowv, splice_rowv0, splice_rowv1, splice_z, splice_n, splice_s, nth_rowv, nth_rowv0, nth_rowv1, rowv_len, E1.blk, E2.blk]
  refine hQ _ ⟨_, rfl, (O.node_mk (v := x) (o1.keep (by intro b hS hb; (try dsimp only at hS); (try simp only [In, World.size_alloc, size_setRow, dw_size] at hS hb); first | rfl | (simp (disch := first | assumption | omega | (simp only [World.size_alloc, size_setRow, dw_size]; omega) | (simp only [World.size_alloc, size_setRow, dw_size, In]; omega)) only [E1.blk, E2.blk, hp_alloc_lt, hp_set_ne, hp_dw]; done))) (o2.keep (by intro b hS hb; (try dsimp only at hS); (try simp only [In, World.size_alloc, size_setRow, dw_size] at hS hb); first | rfl | (simp (disch := first | assumption | omega | (simp only [World.size_alloc, size_setRow, dw_size]; omega) | (simp only [World.size_alloc, size_setRow, dw_size, In]; omega)) only [E1.blk, E2.blk, hp_alloc_lt, hp_set_ne, hp_dw]; done))) (by intro x hx h; (try dsimp only at h); (try simp only [In, World.size_alloc, size_setRow, dw_size] at *); omega)).wide (by intro b h1 h2; (try dsimp only at h1); (try simp only [In, World.size_alloc, size_setRow, dw_size] at *); omega), by (repeat (first | exact Ext.rfl | assumption | (refine Ext.al ?_ _) | (refine Ext.dw ?_) | (refine Ext.set ?_ (by first | omega | (simp only [World.size_alloc, size_setRow, dw_size]; omega)) _) | (refine Ext.tr ?_ (by assumption))))⟩
theorem laws_eqNode_m {S S' : Nat → Prop} {cs ds : List Value} {x : CNode} {w : World} (ha : D tNode S w cs x) (hb : D tNode S' w ds x) : Ret (EV P 105 #[.agg cs.toArray, .agg ds.toArray] w) fun r => r.1 = .bool true ∧ Ext w r.2 := by
  obtain ⟨a, c, a', c', rfl, h2, h3⟩ := D.node.1 ha
  obtain ⟨b, d, b', d', rfl, h4, h5⟩ := D.node.1 hb
  refine Ret.post fun Q hQ => ?_
  refine Ret.enter plain mixed (laws_eqNode_fn _ _ _) (by kernel_rfl) (n := 2) (by kernel_rfl) rfl ?_
  simp (maxSteps := 1000000) (disch := first | assumption | omega | (simp only [World.size_alloc, size_setRow, dw_size]; done) | (simp only [World.size_alloc, size_setRow, dw_size] <;> omega) | (simp only [List.length_set, Array.length_toList, List.length_cons, List.length_nil, List.length_append, bts_size] <;> omega) | (simp only [List.all_cons, List.all_nil, Value.oneCell', Bool.and_self, Bool.and_true]; done)) [-Option.bind_some, hp_alloc_lt, hp_alloc_eq, hp_set_ne, wrap_small, ups_ap_cons, ups_ap_nil, upd_same, upd_other, env0_ap0, env0_aps, xt_a, xt_b, xt_c]
  refine Ret.bind (laws_eqStore_m (h2.ext (by (repeat (first | exact Ext.rfl | assumption | (refine Ext.al ?_ _) | (refine Ext.dw ?_) | (refine Ext.set ?_ (by first | omega | (simp only [World.size_alloc, size_setRow, dw_size]; omega)) _) | (refine Ext.tr ?_ (by assumption)))))) (h4.ext (by (repeat (first | exact Ext.rfl | assumption | (refine Ext.al ?_ _) | (refine Ext.dw ?_) | (refine Ext.set ?_ (by first | omega | (simp only [World.size_alloc, size_setRow, dw_size]; omega)) _) | (refine Ext.tr ?_ (by assumption))))))) ?_
  rintro ⟨_, w1⟩ ⟨rfl, E1⟩
  try dsimp only at E1
  have zE1 := E1.size
  try simp only [World.size_alloc, size_setRow, dw_size] at zE1
  simp (maxSteps := 1000000) (disch := first | assumption | omega | (simp only [World.size_alloc, size_setRow, dw_size]; done) | (simp only [World.size_alloc, size_setRow, dw_size] <;> omega) | (simp only [List.length_set, Array.length_toList, List.length_cons, List.length_nil, List.length_append, bts_size] <;> omega) | (simp only [List.all_cons, List.all_nil, Value.oneCell', Bool.and_self, Bool.and_true]; done)) [-Option.bind_some, hp_alloc_lt, hp_alloc_eq, hp_set_ne, wrap_small, ups_ap_cons, ups_ap_nil, upd_same, upd_other, env0_ap0, env0_aps, xt_a, xt_b, xt_c, E1.blk]
  refine Ret.bind (laws_eqVerS_m (h3.ext (by (repeat (first | exact Ext.rfl | assumption | (refine Ext.al ?_ _) | (refine Ext.dw ?_) | (refine Ext.set ?_ (by first | omega | (simp only [World.size_alloc, size_setRow, dw_size]; omega)) _) | (refine Ext.tr ?_ (by assumption)))))) (h5.ext (by (repeat (first | exact Ext.rfl | assumption | (refine Ext.al ?_ _) | (refine Ext.dw ?_) | (refine Ext.set ?_ (by first | omega | (simp only [World.size_alloc, size_setRow, dw_size]; omega)) _) | (refine Ext.tr ?_ (by assumption))))))) ?_
  rintro ⟨_, w2⟩ ⟨rfl, E2⟩
  try dsimp only at E2
  have zE2 := E2.size
  try simp only [World.size_alloc, size_setRow, dw_size] at zE2
  simp (maxSteps := 1000000) (disch := first | assumption | omega | (simp only [World.size_alloc, size_setRow, dw_size]; done) | (simp only [World.size_alloc, size_setRow, dw_size] <;> omega) | (simp only [List.length_set, Array.length_toList, List.length_cons, List.length_nil, List.length_append, bts_size] <;> omega) | (simp only [List.all_cons, List.all_nil, Value.oneCell', Bool.and_self, Bool.and_true]; done)) [-Option.bind_some, hp_alloc_lt, hp_alloc_eq, hp_set_ne, wrap_small, ups_ap_cons, ups_ap_nil, upd_same, upd_other, env0_ap0, env0_aps, xt_a, xt_b, xt_c, E1.blk, E2.blk]
  exact hQ _ ⟨rfl, by (repeat (first | exact Ext.rfl | assumption | (refine Ext.al ?_ _) | (refine Ext.dw ?_) | (refine Ext.set ?_ (by first | omega | (simp only [World.size_alloc, size_setRow, dw_size]; omega)) _) | (refine Ext.tr ?_ (by assumption))))⟩
theorem laws_markNodeS_n {a : Option Addr} {c : Nat} {S : Nat → Prop} {xs : List CNode} {k0 : Int} (h0 : 0 ≤ k0) (hk : k0 + 10 * MNode.wtL xs ≤ 100000000000000) :
    ∀ (d j : Nat) (e : Env) (w : World), j + d = xs.length → e 0 = .slice a xs.length c → e 1 = i64 (MNode.at k0 xs j) → e 5 = i64 j → O tNodes S w [.slice a xs.length c] (MNode.part k0 xs j) →
    Ret (laws_markNodeS_l1 e w) fun r => r.1 = i64 (MNode.nxL k0 xs) ∧ O tNodes S r.2 [.slice a xs.length c] (MNode.mkL k0 xs) ∧ Mod S w r.2 := by
  intro d
  induction d with
  | zero =>
    intro j e w hd e0 e1 e5 ho
    rw [laws_markNodeS_l1_eq]
    obtain rfl : j = xs.length := by omega
    rw [Mk.part_end (Nat.le_refl _)] at ho
    rw [Mk.at_end (Nat.le_refl _)] at e1
    simp (maxSteps := 1000000) (disch := first | assumption | omega | (simp only [World.size_alloc, size_setRow, dw_size]; done) | (simp only [World.size_alloc, size_setRow, dw_size] <;> omega) | (simp only [List.length_set, Array.length_toList, List.length_cons, List.length_nil, List.length_append, bts_size] <;> omega) | (simp only [List.all_cons, List.all_nil, Value.oneCell', Bool.and_self, Bool.and_true]; done)) [-Option.bind_some, hp_alloc_lt, hp_alloc_eq, hp_set_ne, wrap_small, ups_ap_cons, ups_ap_nil, upd_same, upd_other, env0_ap0, env0_aps, xt_a, xt_b, xt_c, e0, e1, e5, e0, e1, e5]
    exact ⟨ho, Mod.rfl⟩
  | succ d ih =>
    intro j e w hd e0 e1 e5 ho
    rw [laws_markNodeS_l1_eq]
    have hlt : j < xs.length := by omega
    obtain ⟨x, hx, _⟩ := drop_at hlt
    have hq := Mk.at_small MNode_small xs k0 j
    have hq1 := Mk.at_small MNode_small xs k0 (j + 1)
    have hr : MNode.at k0 xs j + 10 * (1 + ((MVer.wtL x.store + MVer.wtL x.wait : Nat) : Int)) ≤ k0 + 10 * MNode.wtL xs := Mk.at_room MNode_small hx k0
    have hs : MNode.at k0 xs (j + 1) = MVer.nxL (MVer.nxL (MNode.at k0 xs j) x.store) x.wait := Mk.at_succ hx
    have hp := Mk.part_set (M := MNode) (k := k0) hx
    have hn := ho.n
    obtain ⟨g, cur, cs, S1, rfl, hSg, hgl, hg, hle, hx1, hS1, put⟩ := ho.row (by decide) (Mk.part_get hx)
    obtain ⟨a2, c2, a3, c3, S2, S3, rfl, hp2, hp3, hS2, hS3⟩ := O.node_un hx1
    simp only [LNode_n] at hg hle put
    have hng2 : ¬ S2 g := fun h => (hS1 g (hS2 g h).1).2.1 rfl
    have hng3 : ¬ S3 g := fun h => (hS1 g (hS3 g h).1).2.1 rfl
    generalize MNode.at k0 xs j = q at *
    have hm := MStore_le q x.store
    have hm2 := MStore_le (MVer.nxL q x.store) x.wait
    have ew1 : MStore.wt x.store = MVer.wtL x.store := rfl
    have ew2 : MStore.wt x.wait = MVer.wtL x.wait := rfl
    have en1 : MStore.nx q x.store = MVer.nxL q x.store := rfl
    have en2 : MStore.nx (MVer.nxL q x.store) x.wait = MVer.nxL (MVer.nxL q x.store) x.wait := rfl
    have hmk := MNode_mk q x
    simp (maxSteps := 1000000) (disch := first | assumption | omega | (simp only [World.size_alloc, size_setRow, dw_size]; done) | (simp only [World.size_alloc, size_setRow, dw_size] <;> omega) | (simp only [List.length_set, Array.length_toList, List.length_cons, List.length_nil, List.length_append, bts_size] <;> omega) | (simp only [List.all_cons, List.all_nil, Value.oneCell', Bool.and_self, Bool.and_true]; done)) [-Option.bind_some, hp_alloc_lt, hp_alloc_eq, hp_set_ne, wrap_small, ups_ap_cons, ups_ap_nil, upd_same, upd_other, env0_ap0, env0_aps, xt_a, xt_b, xt_c, -splice_eq, -stR_cells, stR_box, stR_boxA, stR_row, stR_row0, stR_row1, stR_rowA, stR_rowA0, splice_rowv, splice_rowv0, splice_rowv1, splice_z, splice_n, splice_s, nth_rowv, nth_rowv0, nth_rowv1, rowv_len, e0, e1, e5, hlt, ia_23, hg, e0, e1, e5, hlt, hg]
    refine Ret.bind (laws_markVerS_m (by omega) (by omega) hp2) ?_
    rintro ⟨_, w1⟩ ⟨rfl, o1, M1⟩
    try dsimp only at o1 M1
    have zM1 := M1.size
    try simp only [World.size_alloc, size_setRow, dw_size] at zM1
    simp (maxSteps := 1000000) (disch := first | assumption | omega | (simp only [World.size_alloc, size_setRow, dw_size]; done) | (simp only [World.size_alloc, size_setRow, dw_size] <;> omega) | (simp only [List.length_set, Array.length_toList, List.length_cons, List.length_nil, List.length_append, bts_size] <;> omega) | (simp only [List.all_cons, List.all_nil, Value.oneCell', Bool.and_self, Bool.and_true]; done)) [-Option.bind_some, hp_alloc_lt, hp_alloc_eq, hp_set_ne, wrap_small, ups_ap_cons, ups_ap_nil, upd_same, upd_other, env0_ap0, env0_aps, xt_a, xt_b, xt_c, -splice_eq, -stR_cells, stR_box, stR_boxA, stR_row, stR_row0, stR_row1, stR_rowA, stR_rowA0, splice_rowv, splice_rowv0, splice_rowv1, splice_z, splice_n, splice_s, nth_rowv, nth_rowv0, nth_rowv1, rowv_len, e0, e1, e5, hlt, ia_23, hg, e0, e1, e5, hlt, hg, M1.blk]
    have h23 : O tVers S3 w1 [.slice a3 x.wait.length c3] x.wait := hp3.mod M1 fun b _ h h' => (hS3 b h).2.1 h'
    refine Ret.bind (laws_markVerS_m (by omega) (by omega) h23) ?_
    rintro ⟨_, w2⟩ ⟨rfl, o2, M2⟩
    try dsimp only at o2 M2
    have zM2 := M2.size
    try simp only [World.size_alloc, size_setRow, dw_size] at zM2
    simp (maxSteps := 1000000) (disch := first | assumption | omega | (simp only [World.size_alloc, size_setRow, dw_size]; done) | (simp only [World.size_alloc, size_setRow, dw_size] <;> omega) | (simp only [List.length_set, Array.length_toList, List.length_cons, List.length_nil, List.length_append, bts_size] <;> omega) | (simp only [List.all_cons, List.all_nil, Value.oneCell', Bool.and_self, Bool.and_true]; done)) [-Option.bind_some, hp_alloc_lt, hp_alloc_eq, hp_set_ne, wrap_small, ups_ap_cons, ups_ap_nil, upd_same, upd_other, env0_ap0, env0_aps, xt_a, xt_b, xt_c, -splice_eq, -stR_cells, stR_box, stR_boxA, stR_row, stR_row0, stR_row1, stR_rowA, stR_rowA0, splice_rowv, splice_rowv0, splice_rowv1, splice_z, splice_n, splice_s, nth_rowv, nth_rowv0, nth_rowv1, rowv_len, e0, e1, e5, hlt, ia_23, hg, e0, e1, e5, hlt, hg, M1.blk, M2.blk]
    have o1' : O tVers S2 w2 [.slice a2 x.store.length c2] (MVer.mkL q x.store) := o1.mod M2 fun b _ h h' => (hS2 b h).2.1 h'
    refine Ret.mono (ih (j + 1) _ _ (by omega) (by first | omega | assumption | rfl | exact congrArg i64 (by omega) | (simp; done) | (simp; omega)) (by exact congrArg i64 hs.symm) (by first | omega | assumption | rfl | exact congrArg i64 (by omega) | (simp; done) | (simp; omega)) ?_) ?_
    · rw [← hp]
      have e1 : (MVer.mkL q x.store).length = x.store.length := Mk.mkL_length _ _
      have e2 : (MVer.mkL (MVer.nxL q x.store) x.wait).length = x.wait.length := Mk.mkL_length _ _
      refine (put w2 _ (MNode.mk q x) _ (O.node_mk (v := MNode.mk q x) o1' o2 ?_) ?_ ?_ ?_).wide ?_
      · exact fun b _ h h' => (hS2 b h).2.1 h'
      · rw [M2.blk g (by have := M1.size; omega) hng3, M1.blk g hgl hng2, hg]
      · intro b h1 h2 h3 h4
        by_cases k2 : S2 b
        · exact absurd (hS2 b k2).1 h4
        by_cases k3 : S3 b
        · exact absurd (hS3 b k3).1 h4
        rw [M2.blk b (by have := M1.size; omega) k3, M1.blk b h1 k2]
      · rintro b _ (h | h)
        · exact .inl (hS2 b h).1
        · exact .inl (hS3 b h).1
      · rintro b (h | h | h) _
        · exact h
        · exact (hS1 b (hS2 b h).1).1
        · exact (hS1 b (hS3 b h).1).1
    · rintro r ⟨h1, h2, h3⟩
      exact ⟨h1, h2, Mod.tr (Mod.after' (Mod.weak M1 fun b _ h => (hS1 b (hS2 b h).1).1) M2 fun b _ h => (hS1 b (hS3 b h).1).1) h3⟩
theorem laws_markNodeS_m {a : Option Addr} {n c : Nat} {S : Nat → Prop} {xs : List CNode} {k : Int} (h0 : 0 ≤ k) (hk : k + 10 * MNode.wtL xs ≤ 100000000000000) {w : World} (ho : O tNodes S w [.slice a n c] xs) :
    Ret (EV P 65 #[.slice a n c, i64 k] w) fun r => r.1 = i64 (MNode.nxL k xs) ∧ O tNodes S r.2 [.slice a n c] (MNode.mkL k xs) ∧ Mod S w r.2 := by
  obtain ⟨rfl, _⟩ := ho.n
  refine Ret.enter plain mixed (laws_markNodeS_fn _ _ _) (by kernel_rfl) (n := 2) (by kernel_rfl) rfl ?_
  simp (maxSteps := 1000000) (disch := first | assumption | omega | (simp only [World.size_alloc, size_setRow, dw_size]; done) | (simp only [World.size_alloc, size_setRow, dw_size] <;> omega) | (simp only [List.length_set, Array.length_toList, List.length_cons, List.length_nil, List.length_append, bts_size] <;> omega) | (simp only [List.all_cons, List.all_nil, Value.oneCell', Bool.and_self, Bool.and_true]; done)) [-Option.bind_some, hp_alloc_lt, hp_alloc_eq, hp_set_ne, wrap_small, ups_ap_cons, ups_ap_nil, upd_same, upd_other, env0_ap0, env0_aps, xt_a, xt_b, xt_c]
  exact laws_markNodeS_n h0 hk xs.length 0 _ w (by omega) rfl (by rw [Mk.at_zero]; rfl) rfl (by rw [Mk.part_zero]; exact ho)
theorem laws_heldNodeS_n {a : Option Addr} {c : Nat} {S : Nat → Prop} {xs : List CNode} {k0 : Int} (h0 : 0 ≤ k0) (hk : k0 + 10 * MNode.wtL xs ≤ 100000000000000) :
    ∀ (d j : Nat) (e : Env) (w : World), j + d = xs.length → e 0 = .slice a xs.length c → e 1 = i64 (MNode.at k0 xs j) → e 5 = i64 j → D tNodes S w [.slice a xs.length c] (MNode.mkL k0 xs) →
    Ret (laws_heldNodeS_l1 e w) fun r => r.1 = i64 (MNode.nxL k0 xs) ∧ Ext w r.2 := by
  intro d
  induction d with
  | zero =>
    intro j e w hd e0 e1 e5 ho
    rw [laws_heldNodeS_l1_eq]
    obtain rfl : j = xs.length := by omega
    rw [Mk.at_end (Nat.le_refl _)] at e1
    simp (maxSteps := 1000000) (disch := first | assumption | omega | (simp only [World.size_alloc, size_setRow, dw_size]; done) | (simp only [World.size_alloc, size_setRow, dw_size] <;> omega) | (simp only [List.length_set, Array.length_toList, List.length_cons, List.length_nil, List.length_append, bts_size] <;> omega) | (simp only [List.all_cons, List.all_nil, Value.oneCell', Bool.and_self, Bool.and_true]; done)) [-Option.bind_some, hp_alloc_lt, hp_alloc_eq, hp_set_ne, wrap_small, ups_ap_cons, ups_ap_nil, upd_same, upd_other, env0_ap0, env0_aps, xt_a, xt_b, xt_c, e0, e1, e5, e0, e1, e5]
    (repeat (first | exact Ext.rfl | assumption | (refine Ext.al ?_ _) | (refine Ext.dw ?_) | (refine Ext.set ?_ (by first | omega | (simp only [World.size_alloc, size_setRow, dw_size]; omega)) _) | (refine Ext.tr ?_ (by assumption))))
  | succ d ih =>
    intro j e w hd e0 e1 e5 ho
    rw [laws_heldNodeS_l1_eq]
    have hlt : j < xs.length := by omega
    obtain ⟨x, hx, _⟩ := drop_at hlt
    have hq := Mk.at_small MNode_small xs k0 j
    have hq1 := Mk.at_small MNode_small xs k0 (j + 1)
    have hr : MNode.at k0 xs j + 10 * (1 + ((MVer.wtL x.store + MVer.wtL x.wait : Nat) : Int)) ≤ k0 + 10 * MNode.wtL xs := Mk.at_room MNode_small hx k0
    have hs : MNode.at k0 xs (j + 1) = MVer.nxL (MVer.nxL (MNode.at k0 xs j) x.store) x.wait := Mk.at_succ hx
    have hn := ho.n
    have hx2 := Mk.mkL_get (M := MNode) xs k0 j hx
    generalize MNode.at k0 xs j = q at *
    have hm := MStore_le q x.store
    have hm2 := MStore_le (MVer.nxL q x.store) x.wait
    have ew1 : MStore.wt x.store = MVer.wtL x.store := rfl
    have ew2 : MStore.wt x.wait = MVer.wtL x.wait := rfl
    have en1 : MStore.nx q x.store = MVer.nxL q x.store := rfl
    have en2 : MStore.nx (MVer.nxL q x.store) x.wait = MVer.nxL (MVer.nxL q x.store) x.wait := rfl
    rw [MNode_mk] at hx2
    obtain ⟨b1, o1, cs1, rfl, A1, D1, _, l1⟩ := ho.at (by decide) hx2
    obtain ⟨a2, c2, a3, c3, rfl, hp2, hp3⟩ := D.node.1 D1
    have p0 := A1 0 _ rfl
    have p1 := A1 1 _ rfl
    simp only [LVer_n, LTag_n, LNode_n, Nat.add_zero] at p0 p1
    simp (maxSteps := 1000000) (disch := first | assumption | omega | (simp only [World.size_alloc, size_setRow, dw_size]; done) | (simp only [World.size_alloc, size_setRow, dw_size] <;> omega) | (simp only [List.length_set, Array.length_toList, List.length_cons, List.length_nil, List.length_append, bts_size] <;> omega) | (simp only [List.all_cons, List.all_nil, Value.oneCell', Bool.and_self, Bool.and_true]; done)) [-Option.bind_some, hp_alloc_lt, hp_alloc_eq, hp_set_ne, wrap_small, ups_ap_cons, ups_ap_nil, upd_same, upd_other, env0_ap0, env0_aps, xt_a, xt_b, xt_c, e0, e1, e5, hlt, ia_23, e0, e1, e5, hlt, p0, p1]
    refine Ret.bind (laws_heldVerS_m (by omega) (by omega) hp2) ?_
    rintro ⟨_, w1⟩ ⟨rfl, E1⟩
    try dsimp only at E1
    have zE1 := E1.size
    try simp only [World.size_alloc, size_setRow, dw_size] at zE1
    simp (maxSteps := 1000000) (disch := first | assumption | omega | (simp only [World.size_alloc, size_setRow, dw_size]; done) | (simp only [World.size_alloc, size_setRow, dw_size] <;> omega) | (simp only [List.length_set, Array.length_toList, List.length_cons, List.length_nil, List.length_append, bts_size] <;> omega) | (simp only [List.all_cons, List.all_nil, Value.oneCell', Bool.and_self, Bool.and_true]; done)) [-Option.bind_some, hp_alloc_lt, hp_alloc_eq, hp_set_ne, wrap_small, ups_ap_cons, ups_ap_nil, upd_same, upd_other, env0_ap0, env0_aps, xt_a, xt_b, xt_c, e0, e1, e5, hlt, ia_23, show ¬ MVer.nxL q x.store < 0 by omega, e0, e1, e5, hlt, p0, p1, E1.blk]
    refine Ret.bind (laws_heldVerS_m (by omega) (by omega) (hp3.ext (by (repeat (first | exact Ext.rfl | assumption | (refine Ext.al ?_ _) | (refine Ext.dw ?_) | (refine Ext.set ?_ (by first | omega | (simp only [World.size_alloc, size_setRow, dw_size]; omega)) _) | (refine Ext.tr ?_ (by assumption))))))) ?_
    rintro ⟨_, w2⟩ ⟨rfl, E2⟩
    try dsimp only at E2
    have zE2 := E2.size
    try simp only [World.size_alloc, size_setRow, dw_size] at zE2
    simp (maxSteps := 1000000) (disch := first | assumption | omega | (simp only [World.size_alloc, size_setRow, dw_size]; done) | (simp only [World.size_alloc, size_setRow, dw_size] <;> omega) | (simp only [List.length_set, Array.length_toList, List.length_cons, List.length_nil, List.length_append, bts_size] <;> omega) | (simp only [List.all_cons, List.all_nil, Value.oneCell', Bool.and_self, Bool.and_true]; done)) [-Option.bind_some, hp_alloc_lt, hp_alloc_eq, hp_set_ne, wrap_small, ups_ap_cons, ups_ap_nil, upd_same, upd_other, env0_ap0, env0_aps, xt_a, xt_b, xt_c, e0, e1, e5, hlt, ia_23, show ¬ MVer.nxL (MVer.nxL q x.store) x.wait < 0 by omega, e0, e1, e5, hlt, p0, p1, E1.blk, E2.blk]
    refine Ret.mono (ih (j + 1) _ _ (by omega) (by first | omega | assumption | rfl | exact congrArg i64 (by omega) | (simp; done) | (simp; omega)) (by exact congrArg i64 hs.symm) (by first | omega | assumption | rfl | exact congrArg i64 (by omega) | (simp; done) | (simp; omega)) (ho.ext (by (repeat (first | exact Ext.rfl | assumption | (refine Ext.al ?_ _) | (refine Ext.dw ?_) | (refine Ext.set ?_ (by first | omega | (simp only [World.size_alloc, size_setRow, dw_size]; omega)) _) | (refine Ext.tr ?_ (by assumption))))))) ?_
    rintro r ⟨h1, h2⟩
    exact ⟨h1, Ext.tr (by (repeat (first | exact Ext.rfl | assumption | (refine Ext.al ?_ _) | (refine Ext.dw ?_) | (refine Ext.set ?_ (by first | omega | (simp only [World.size_alloc, size_setRow, dw_size]; omega)) _) | (refine Ext.tr ?_ (by assumption))))) h2⟩
theorem laws_heldNodeS_m {a : Option Addr} {n c : Nat} {S : Nat → Prop} {xs : List CNode} {k : Int} (h0 : 0 ≤ k) (hk : k + 10 * MNode.wtL xs ≤ 100000000000000) {w : World} (ho : D tNodes S w [.slice a n c] (MNode.mkL k xs)) :
    Ret (EV P 67 #[.slice a n c, i64 k] w) fun r => r.1 = i64 (MNode.nxL k xs) ∧ Ext w r.2 := by
  obtain ⟨rfl, _⟩ := ho.n
  rw [Mk.mkL_length] at *
  refine Ret.enter plain mixed (laws_heldNodeS_fn _ _ _) (by kernel_rfl) (n := 2) (by kernel_rfl) rfl ?_
  simp (maxSteps := 1000000) (disch := first | assumption | omega | (simp only [World.size_alloc, size_setRow, dw_size]; done) | (simp only [World.size_alloc, size_setRow, dw_size] <;> omega) | (simp only [List.length_set, Array.length_toList, List.length_cons, List.length_nil, List.length_append, bts_size] <;> omega) | (simp only [List.all_cons, List.all_nil, Value.oneCell', Bool.and_self, Bool.and_true]; done)) [-Option.bind_some, hp_alloc_lt, hp_alloc_eq, hp_set_ne, wrap_small, ups_ap_cons, ups_ap_nil, upd_same, upd_other, env0_ap0, env0_aps, xt_a, xt_b, xt_c]
  exact laws_heldNodeS_n h0 hk xs.length 0 _ w (by omega) rfl (by rw [Mk.at_zero]; rfl) rfl ho
end Go.Proofs.YthicfemhpnnaaaaGreat.X
set_option linter.unusedVariables false
set_option linter.unusedSimpArgs false
set_option maxRecDepth 100000
set_option maxHeartbeats 1000000
namespace Go.Proofs.YthicfemhpnnaaaaGreat.X
open Go Go.Ev Go.RowKit
theorem laws_szNodeS_n {a : Option Addr} {c : Nat} {S : Nat → Prop} {xs : List CNode} {w0 : World} {n0 : Int} : ∀ (d k : Nat) (e : Env) (w : World) (m : Int), k + d = xs.length → e 0 = .slice a xs.length c → e 1 = i64 m → e 5 = i64 k → D tNodes S w0 [.slice a xs.length c] xs → Ext w0 w → 0 ≤ m → m ≤ 1048576 → m + (MNode.wtL (xs.take k) : Int) + (xs.length : Int) ≤ n0 + k →
    Ret (laws_szNodeS_l1 e w) fun r => ∃ m', r.1 = i64 m' ∧ -1 ≤ m' ∧ m' ≤ 1048576 ∧ (0 ≤ m' → m' + (MNode.wtL xs : Int) ≤ n0) ∧ Ext w0 r.2 := by
  intro d
  induction d with
  | zero =>
    intro k e w m hd e0 e1 e5 ha E0 h0 h1 h2
    have zE0 := E0.size
    try simp only [World.size_alloc, size_setRow, dw_size] at zE0
    rw [laws_szNodeS_l1_eq]
    obtain rfl : k = xs.length := by omega
    rw [List.take_length] at h2
    refine Ret.post fun Q hQ => ?_
    simp (maxSteps := 1000000) (disch := first | assumption | omega | (simp only [World.size_alloc, size_setRow, dw_size]; done) | (simp only [World.size_alloc, size_setRow, dw_size] <;> omega) | (simp only [List.length_set, Array.length_toList, List.length_cons, List.length_nil, List.length_append, bts_size] <;> omega) | (simp only [List.all_cons, List.all_nil, Value.oneCell', Bool.and_self, Bool.and_true]; done)) [-Option.bind_some, hp_alloc_lt, hp_alloc_eq, hp_set_ne, wrap_small, ups_ap_cons, ups_ap_nil, upd_same, upd_other, env0_ap0, env0_aps, xt_a, xt_b, xt_c, e0, e1, e5, e0, e1, e5, E0.blk]
    exact hQ _ ⟨m, rfl, by omega, h1, fun _ => by omega, E0⟩
  | succ d ih =>
    intro k e w m hd e0 e1 e5 ha E0 h0 h1 h2
    have zE0 := E0.size
    try simp only [World.size_alloc, size_setRow, dw_size] at zE0
    rw [laws_szNodeS_l1_eq]
    have hlt : k < xs.length := by omega
    obtain ⟨x, hx, _⟩ := drop_at hlt
    have hn := ha.n
    obtain ⟨b1, o1, cs1, rfl, A1, D1, _, l1⟩ := (ha.ext E0).at (by decide) hx
    obtain ⟨v0, v1, rfl⟩ := len2 D1.len
    have p0 := A1 0 _ rfl
    have p1 := A1 1 _ rfl
    simp only [LVer_n, LTag_n, LNode_n, Nat.add_zero] at p0 p1
    refine Ret.post fun Q hQ => ?_
    simp (maxSteps := 1000000) (disch := first | assumption | omega | (simp only [World.size_alloc, size_setRow, dw_size]; done) | (simp only [World.size_alloc, size_setRow, dw_size] <;> omega) | (simp only [List.length_set, Array.length_toList, List.length_cons, List.length_nil, List.length_append, bts_size] <;> omega) | (simp only [List.all_cons, List.all_nil, Value.oneCell', Bool.and_self, Bool.and_true]; done)) [-Option.bind_some, hp_alloc_lt, hp_alloc_eq, hp_set_ne, wrap_small, ups_ap_cons, ups_ap_nil, upd_same, upd_other, env0_ap0, env0_aps, xt_a, xt_b, xt_c, e0, e1, e5, hlt, ia_49, e0, e1, e5, E0.blk, hlt, p0, p1]
    refine Ret.bind (laws_szNode_m (n := m) (by omega) (by omega) (D1.ext (by (repeat (first | exact Ext.rfl | assumption | (refine Ext.al ?_ _) | (refine Ext.dw ?_) | (refine Ext.set ?_ (by first | omega | (simp only [World.size_alloc, size_setRow, dw_size]; omega)) _) | (refine Ext.tr ?_ (by assumption))))))) ?_
    rintro ⟨_, w1⟩ ⟨m1, rfl, b1, b2, b3, E1⟩
    try dsimp only at m1 b1 b2 b3 E1
    have zE1 := E1.size
    try simp only [World.size_alloc, size_setRow, dw_size] at zE1
    by_cases g1 : m1 < 0
    · simp (maxSteps := 1000000) (disch := first | assumption | omega | (simp only [World.size_alloc, size_setRow, dw_size]; done) | (simp only [World.size_alloc, size_setRow, dw_size] <;> omega) | (simp only [List.length_set, Array.length_toList, List.length_cons, List.length_nil, List.length_append, bts_size] <;> omega) | (simp only [List.all_cons, List.all_nil, Value.oneCell', Bool.and_self, Bool.and_true]; done)) [-Option.bind_some, hp_alloc_lt, hp_alloc_eq, hp_set_ne, wrap_small, ups_ap_cons, ups_ap_nil, upd_same, upd_other, env0_ap0, env0_aps, xt_a, xt_b, xt_c, g1, e0, e1, e5, E0.blk, hlt, p0, p1, E1.blk]
      exact hQ _ ⟨-1, rfl, by omega, by omega, by omega, by (repeat (first | exact Ext.rfl | assumption | (refine Ext.al ?_ _) | (refine Ext.dw ?_) | (refine Ext.set ?_ (by first | omega | (simp only [World.size_alloc, size_setRow, dw_size]; omega)) _) | (refine Ext.tr ?_ (by assumption))))⟩
    have k1 := b3 (by omega)
    have k2 : (MNode.wtL (xs.take (k + 1)) : Int) = MNode.wtL (xs.take k) + 1 + MNode.wt x := by
      rw [take_at hx]
      have : ∀ l : List CNode, MNode.wtL (l ++ [x]) = MNode.wtL l + 1 + MNode.wt x := by
        intro l
        induction l with
        | nil => simp only [List.nil_append, Mk.wtL]; omega
        | cons a l ih => simp only [List.cons_append, Mk.wtL, ih]; omega
      rw [this]; omega
    simp (maxSteps := 1000000) (disch := first | assumption | omega | (simp only [World.size_alloc, size_setRow, dw_size]; done) | (simp only [World.size_alloc, size_setRow, dw_size] <;> omega) | (simp only [List.length_set, Array.length_toList, List.length_cons, List.length_nil, List.length_append, bts_size] <;> omega) | (simp only [List.all_cons, List.all_nil, Value.oneCell', Bool.and_self, Bool.and_true]; done)) [-Option.bind_some, hp_alloc_lt, hp_alloc_eq, hp_set_ne, wrap_small, ups_ap_cons, ups_ap_nil, upd_same, upd_other, env0_ap0, env0_aps, xt_a, xt_b, xt_c, g1, e0, e1, e5, hlt, e0, e1, e5, E0.blk, hlt, p0, p1, E1.blk]
    refine Ret.mono (ih (k + 1) _ _ m1 (by omega) (by first | omega | assumption | rfl | exact congrArg i64 (by omega) | (simp; done) | (simp; omega)) (by first | omega | assumption | rfl | exact congrArg i64 (by omega) | (simp; done) | (simp; omega)) (by first | omega | assumption | rfl | exact congrArg i64 (by omega) | (simp; done) | (simp; omega)) ha (by (repeat (first | exact Ext.rfl | assumption | (refine Ext.al ?_ _) | (refine Ext.dw ?_) | (refine Ext.set ?_ (by first | omega | (simp only [World.size_alloc, size_setRow, dw_size]; omega)) _) | (refine Ext.tr ?_ (by assumption))))) (by omega) (by omega) (by omega)) hQ
theorem laws_szNodeS_m {n0 : Int} (h0 : -1 ≤ n0) (h1 : n0 ≤ 1048576) {S : Nat → Prop} {a : Option Addr} {n c : Nat} {xs : List CNode} {w : World} (ha : D tNodes S w [.slice a n c] xs) :
    Ret (EV P 52 #[.slice a n c, i64 n0] w) fun r => ∃ m, r.1 = i64 m ∧ -1 ≤ m ∧ m ≤ 1048576 ∧ (0 ≤ m → m + (MNode.wtL xs : Int) ≤ n0) ∧ Ext w r.2 := by
  obtain ⟨rfl, hm, _⟩ := ha.n
  refine Ret.post fun Q hQ => ?_
  refine Ret.enter plain mixed (laws_szNodeS_fn _ _ _) (by kernel_rfl) (n := 2) (by kernel_rfl) rfl ?_
  have hwr : IntKind.i64.wrap (n0 - xs.length) = n0 - xs.length := w64 (by omega) (by omega)
  by_cases g1 : n0 - (xs.length : Int) < 0
  · simp (maxSteps := 1000000) (disch := first | assumption | omega | (simp only [World.size_alloc, size_setRow, dw_size]; done) | (simp only [World.size_alloc, size_setRow, dw_size] <;> omega) | (simp only [List.length_set, Array.length_toList, List.length_cons, List.length_nil, List.length_append, bts_size] <;> omega) | (simp only [List.all_cons, List.all_nil, Value.oneCell', Bool.and_self, Bool.and_true]; done)) [-Option.bind_some, hp_alloc_lt, hp_alloc_eq, hp_set_ne, wrap_small, ups_ap_cons, ups_ap_nil, upd_same, upd_other, env0_ap0, env0_aps, xt_a, xt_b, xt_c, hwr, g1]
    exact hQ _ ⟨-1, rfl, by omega, by omega, by omega, by (repeat (first | exact Ext.rfl | assumption | (refine Ext.al ?_ _) | (refine Ext.dw ?_) | (refine Ext.set ?_ (by first | omega | (simp only [World.size_alloc, size_setRow, dw_size]; omega)) _) | (refine Ext.tr ?_ (by assumption))))⟩
  simp (maxSteps := 1000000) (disch := first | assumption | omega | (simp only [World.size_alloc, size_setRow, dw_size]; done) | (simp only [World.size_alloc, size_setRow, dw_size] <;> omega) | (simp only [List.length_set, Array.length_toList, List.length_cons, List.length_nil, List.length_append, bts_size] <;> omega) | (simp only [List.all_cons, List.all_nil, Value.oneCell', Bool.and_self, Bool.and_true]; done)) [-Option.bind_some, hp_alloc_lt, hp_alloc_eq, hp_set_ne, wrap_small, ups_ap_cons, ups_ap_nil, upd_same, upd_other, env0_ap0, env0_aps, xt_a, xt_b, xt_c, hwr, g1]
  refine Ret.mono (laws_szNodeS_n (n0 := n0) xs.length 0 _ w (n0 - xs.length) (by omega) rfl rfl rfl ha Ext.rfl (by omega) (by omega) ?_) hQ
  rw [List.take_zero]
  simp only [Mk.wtL]
  omega
theorem laws_toNodeS_n {a : Option Addr} {c g : Nat} {S : Nat → Prop} {xs : List CNode} {w0 : World} : ∀ (d k : Nat) (e : Env) (w : World), k + d = xs.length → e 0 = .slice a xs.length c → e 3 = .slice (some ⟨g, 0, none⟩) xs.length xs.length → e 4 = i64 k → D tNodes S w0 [.slice a xs.length c] xs → Ext w0 w →
    O tNodes (In w0.heap.size w.heap.size) w [.slice (some ⟨g, 0, none⟩) xs.length xs.length] (fillP xs ⟨[], []⟩ k) →
    Ret (laws_toNodeS_l1 e w) fun r => r.1 = .slice (some ⟨g, 0, none⟩) xs.length xs.length ∧ O tNodes (In w0.heap.size r.2.heap.size) r.2 [.slice (some ⟨g, 0, none⟩) xs.length xs.length] xs ∧ Ext w0 r.2 := by
  intro d
  induction d with
  | zero =>
    intro k e w hd e0 e3 e4 ha E0 ho
    have zE0 := E0.size
    try simp only [World.size_alloc, size_setRow, dw_size] at zE0
    rw [laws_toNodeS_l1_eq]
    obtain rfl : k = xs.length := by omega
    rw [fillP_end] at ho
    refine Ret.post fun Q hQ => ?_
    simp (maxSteps := 1000000) (disch := first | assumption | omega | (simp only [World.size_alloc, size_setRow, dw_size]; done) | (simp only [World.size_alloc, size_setRow, dw_size] <;> omega) | (simp only [List.length_set, Array.length_toList, List.length_cons, List.length_nil, List.length_append, bts_size] <;> omega) | (simp only [List.all_cons, List.all_nil, Value.oneCell', Bool.and_self, Bool.and_true]; done)) [-Option.bind_some, hp_alloc_lt, hp_alloc_eq, hp_set_ne, wrap_small, ups_ap_cons, ups_ap_nil, upd_same, upd_other, env0_ap0, env0_aps, xt_a, xt_b, xt_c, e0, e3, e4, e0, e3, e4, E0.blk]
    exact hQ _ ⟨rfl, ho, E0⟩
  | succ d ih =>
    intro k e w hd e0 e3 e4 ha E0 ho
    have zE0 := E0.size
    try simp only [World.size_alloc, size_setRow, dw_size] at zE0
    rw [laws_toNodeS_l1_eq]
    have hlt : k < xs.length := by omega
    obtain ⟨x, hx, _⟩ := drop_at hlt
    have hn := ha.n
    obtain ⟨b1, o1, cs1, rfl, A1, D1, _, l1⟩ := (ha.ext E0).at (by decide) hx
    obtain ⟨v0, v1, rfl⟩ := len2 D1.len
    have p0 := A1 0 _ rfl
    have p1 := A1 1 _ rfl
    simp only [LVer_n, LTag_n, LNode_n, Nat.add_zero] at p0 p1
    obtain ⟨g', cur, ds, S2, hgg, hSg, hgl, hg, hle, hx1, hS2, put⟩ := ho.row (by decide) (fillP_get hlt)
    simp only [Option.some.injEq, Addr.mk.injEq, and_true] at hgg
    subst hgg
    obtain ⟨u0, u1, rfl⟩ := len2 hx1.len
    simp only [LNode_n] at hg hle put
    simp only [In] at hSg
    refine Ret.post fun Q hQ => ?_
    simp (maxSteps := 1000000) (disch := first | assumption | omega | (simp only [World.size_alloc, size_setRow, dw_size]; done) | (simp only [World.size_alloc, size_setRow, dw_size] <;> omega) | (simp only [List.length_set, Array.length_toList, List.length_cons, List.length_nil, List.length_append, bts_size] <;> omega) | (simp only [List.all_cons, List.all_nil, Value.oneCell', Bool.and_self, Bool.and_true]; done)) [-Option.bind_some, hp_alloc_lt, hp_alloc_eq, hp_set_ne, wrap_small, ups_ap_cons, ups_ap_nil, upd_same, upd_other, env0_ap0, env0_aps, xt_a, xt_b, xt_c, -splice_eq, -stR_cells, stR_box, stR_boxA, stR_row, stR_row0, stR_row1, stR_rowA, stR_rowA0, splice_rowv, splice_rowv0, splice_rowv1, splice_z, splice_n, splice_s, nth_rowv, nth_rowv0, nth_rowv1, rowv_len, e0, e3, e4, hlt, ia_49, ia_23, e0, e3, e4, E0.blk, hlt, p0, p1, hg]
    refine Ret.bind (laws_toNode_m (D1.ext (by (repeat (first | exact Ext.rfl | assumption | (refine Ext.al ?_ _) | (refine Ext.dw ?_) | (refine Ext.set ?_ (by first | omega | (simp only [World.size_alloc, size_setRow, dw_size]; omega)) _) | (refine Ext.tr ?_ (by assumption))))))) ?_
    rintro ⟨_, w1⟩ ⟨es, rfl, o2, E1⟩
    try dsimp only at es o2 E1
    have zE1 := E1.size
    try simp only [World.size_alloc, size_setRow, dw_size] at zE1
    have hone := o2.one
    obtain ⟨v0, v1, rfl⟩ := len2 o2.len
    simp (maxSteps := 1000000) (disch := first | assumption | omega | (simp only [World.size_alloc, size_setRow, dw_size]; done) | (simp only [World.size_alloc, size_setRow, dw_size] <;> omega) | (simp only [List.length_set, Array.length_toList, List.length_cons, List.length_nil, List.length_append, bts_size] <;> omega) | (simp only [List.all_cons, List.all_nil, Value.oneCell', Bool.and_self, Bool.and_true]; done)) [-Option.bind_some, hp_alloc_lt, hp_alloc_eq, hp_set_ne, wrap_small, ups_ap_cons, ups_ap_nil, upd_same, upd_other, env0_ap0, env0_aps, xt_a, xt_b, xt_c, -splice_eq, -stR_cells, stR_box, stR_boxA, stR_row, stR_row0, stR_row1, stR_rowA, stR_rowA0, splice_rowv, splice_rowv0, splice_rowv1, splice_z, splice_n, splice_s, nth_rowv, nth_rowv0, nth_rowv1, rowv_len, e0, e3, e4, hlt, ia_49, ia_23, e0, e3, e4, E0.blk, hlt, p0, p1, hg, E1.blk]
    refine Ret.mono (ih (k + 1) _ _ (by omega) (by first | omega | assumption | rfl | exact congrArg i64 (by omega) | (simp; done) | (simp; omega)) (by first | omega | assumption | rfl | exact congrArg i64 (by omega) | (simp; done) | (simp; omega)) (by first | omega | assumption | rfl | exact congrArg i64 (by omega) | (simp; done) | (simp; omega)) ha (by (repeat (first | exact Ext.rfl | assumption | (refine Ext.al ?_ _) | (refine Ext.dw ?_) | (refine Ext.set ?_ (by first | omega | (simp only [World.size_alloc, size_setRow, dw_size]; omega)) _) | (refine Ext.tr ?_ (by assumption))))) ?_) hQ
    rw [← fillP_set hx]
    exact (put _ _ x _ (o2.keep (by intro b hS hb; (try dsimp only at hS); (try simp only [In, World.size_alloc, size_setRow, dw_size] at hS hb); first | rfl | (simp (disch := first | assumption | omega | (simp only [World.size_alloc, size_setRow, dw_size]; omega) | (simp only [World.size_alloc, size_setRow, dw_size, In]; omega)) only [E0.blk, E1.blk, hp_alloc_lt, hp_set_ne, hp_dw]; done))) (by first | assumption | rfl | (simp (maxSteps := 1000000) (disch := first | assumption | omega | (simp only [World.size_alloc, size_setRow, dw_size]; done) | (simp only [World.size_alloc, size_setRow, dw_size] <;> omega) | (simp only [List.length_set, Array.length_toList, List.length_cons, List.length_nil, List.length_append, bts_size] <;> omega) | (simp only [List.all_cons, List.all_nil, Value.oneCell', Bool.and_self, Bool.and_true]; done)) [-Option.bind_some, hp_alloc_lt, hp_alloc_eq, hp_set_ne, wrap_small, ups_ap_cons, ups_ap_nil, upd_same, upd_other, env0_ap0, env0_aps, xt_a, xt_b, xt_c, -splice_eq, -stR_cells, stR_box, stR_boxA, stR_row, stR_row0, stR_row1, stR_rowA, stR_rowA0, splice_rowv, splice_rowv0, splice_rowv1, splice_z, splice_n, splice_s, nth_rowv, nth_rowv0, nth_rowv1, rowv_len, e0, e3, e4, E0.blk, hlt, p0, p1, hg, E1.blk]; done)) (by intro b _ _ _ _; first | rfl | (simp (disch := first | assumption | omega | (simp only [World.size_alloc, size_setRow, dw_size]; omega) | (simp only [World.size_alloc, size_setRow, dw_size, In]; omega)) only [E0.blk, E1.blk, hp_alloc_lt, hp_set_ne, hp_dw]; done)) (by intro b h1 h2; (try simp only [In, World.size_alloc, size_setRow, dw_size] at *); right; omega)).wide (by intro b h1 h2; (try dsimp only at h1); (try simp only [In, World.size_alloc, size_setRow, dw_size] at *); omega)
theorem laws_toNodeS_m {S : Nat → Prop} {a : Option Addr} {n c : Nat} {xs : List CNode} {w : World} (ha : D tNodes S w [.slice a n c] xs) :
    Ret (EV P 57 #[.slice a n c] w) fun r => ∃ a' c', r.1 = .slice a' xs.length c' ∧ O tNodes (In w.heap.size r.2.heap.size) r.2 [.slice a' xs.length c'] xs ∧ Ext w r.2 := by
  obtain ⟨rfl, hm, _⟩ := ha.n
  refine Ret.post fun Q hQ => ?_
  refine Ret.enter plain mixed (laws_toNodeS_fn _ _) (by kernel_rfl) (n := 1) (by kernel_rfl) rfl ?_
  simp (maxSteps := 1000000) (disch := first | assumption | omega | (simp only [World.size_alloc, size_setRow, dw_size]; done) | (simp only [World.size_alloc, size_setRow, dw_size] <;> omega) | (simp only [List.length_set, Array.length_toList, List.length_cons, List.length_nil, List.length_append, bts_size] <;> omega) | (simp only [List.all_cons, List.all_nil, Value.oneCell', Bool.and_self, Bool.and_true]; done)) [-Option.bind_some, hp_alloc_lt, hp_alloc_eq, hp_set_ne, wrap_small, ups_ap_cons, ups_ap_nil, upd_same, upd_other, env0_ap0, env0_aps, xt_a, xt_b, xt_c]
  refine Ret.bind (O.make el_23 zz_36 rfl (by decide) zero_Node hm (by decide) (by decide)) ?_
  rintro ⟨_, w1⟩ ⟨rfl, o1, z1, E1⟩
  have zE1 := E1.size
  try simp only [World.size_alloc, size_setRow, dw_size] at zE1
  try dsimp only at o1 z1 E1
  simp (maxSteps := 1000000) (disch := first | assumption | omega | (simp only [World.size_alloc, size_setRow, dw_size]; done) | (simp only [World.size_alloc, size_setRow, dw_size] <;> omega) | (simp only [List.length_set, Array.length_toList, List.length_cons, List.length_nil, List.length_append, bts_size] <;> omega) | (simp only [List.all_cons, List.all_nil, Value.oneCell', Bool.and_self, Bool.and_true]; done)) [-Option.bind_some, hp_alloc_lt, hp_alloc_eq, hp_set_ne, wrap_small, ups_ap_cons, ups_ap_nil, upd_same, upd_other, env0_ap0, env0_aps, xt_a, xt_b, xt_c, E1.blk]
  refine Ret.mono (laws_toNodeS_n xs.length 0 _ w1 (by omega) rfl rfl rfl ha E1 ?_) ?_
  · rw [fillP_zero]
    exact o1.wide (by intro b h1 h2; (try dsimp only at h1); (try simp only [In, World.size_alloc, size_setRow, dw_size] at *); omega)
  · rintro r ⟨h1, h2, h3⟩
    exact hQ _ ⟨_, _, h1, h2, h3⟩
theorem laws_eqNodeS_n {a b : Option Addr} {c d' : Nat} {S S' : Nat → Prop} {xs : List CNode} {w0 : World} : ∀ (d k : Nat) (e : Env) (w : World), k + d = xs.length → e 0 = .slice a xs.length c → e 1 = .slice b xs.length d' → e 5 = i64 k → D tNodes S w0 [.slice a xs.length c] xs → D tNodes S' w0 [.slice b xs.length d'] xs → Ext w0 w →
    Ret (laws_eqNodeS_l1 e w) fun r => r.1 = .bool true ∧ Ext w0 r.2 := by
  intro d
  induction d with
  | zero =>
    intro k e w hd e0 e1 e5 ha hb E0
    have zE0 := E0.size
    try simp only [World.size_alloc, size_setRow, dw_size] at zE0
    rw [laws_eqNodeS_l1_eq]
    obtain rfl : k = xs.length := by omega
    refine Ret.post fun Q hQ => ?_
    simp (maxSteps := 1000000) (disch := first | assumption | omega | (simp only [World.size_alloc, size_setRow, dw_size]; done) | (simp only [World.size_alloc, size_setRow, dw_size] <;> omega) | (simp only [List.length_set, Array.length_toList, List.length_cons, List.length_nil, List.length_append, bts_size] <;> omega) | (simp only [List.all_cons, List.all_nil, Value.oneCell', Bool.and_self, Bool.and_true]; done)) [-Option.bind_some, hp_alloc_lt, hp_alloc_eq, hp_set_ne, wrap_small, ups_ap_cons, ups_ap_nil, upd_same, upd_other, env0_ap0, env0_aps, xt_a, xt_b, xt_c, e0, e1, e5, e0, e1, e5, E0.blk]
    exact hQ _ ⟨rfl, E0⟩
  | succ d ih =>
    intro k e w hd e0 e1 e5 ha hb E0
    have zE0 := E0.size
    try simp only [World.size_alloc, size_setRow, dw_size] at zE0
    rw [laws_eqNodeS_l1_eq]
    have hlt : k < xs.length := by omega
    obtain ⟨x, hx, _⟩ := drop_at hlt
    have hn := ha.n
    obtain ⟨b1, o1, cs1, rfl, A1, D1, _, l1⟩ := (ha.ext E0).at (by decide) hx
    obtain ⟨v0, v1, rfl⟩ := len2 D1.len
    have p0 := A1 0 _ rfl
    have p1 := A1 1 _ rfl
    simp only [LVer_n, LTag_n, LNode_n, Nat.add_zero] at p0 p1
    obtain ⟨b2, o2, cs2, rfl, A2, D2, _, l2⟩ := (hb.ext E0).at (by decide) hx
    obtain ⟨u0, u1, rfl⟩ := len2 D2.len
    have q0 := A2 0 _ rfl
    have q1 := A2 1 _ rfl
    simp only [LVer_n, LTag_n, LNode_n, Nat.add_zero] at q0 q1
    refine Ret.post fun Q hQ => ?_
    simp (maxSteps := 1000000) (disch := first | assumption | omega | (simp only [World.size_alloc, size_setRow, dw_size]; done) | (simp only [World.size_alloc, size_setRow, dw_size] <;> omega) | (simp only [List.length_set, Array.length_toList, List.length_cons, List.length_nil, List.length_append, bts_size] <;> omega) | (simp only [List.all_cons, List.all_nil, Value.oneCell', Bool.and_self, Bool.and_true]; done)) [-Option.bind_some, hp_alloc_lt, hp_alloc_eq, hp_set_ne, wrap_small, ups_ap_cons, ups_ap_nil, upd_same, upd_other, env0_ap0, env0_aps, xt_a, xt_b, xt_c, e0, e1, e5, hlt, ia_23, e0, e1, e5, E0.blk, hlt, p0, p1, q0, q1]
    refine Ret.bind (laws_eqNode_m (D1.ext (by (repeat (first | exact Ext.rfl | assumption | (refine Ext.al ?_ _) | (refine Ext.dw ?_) | (refine Ext.set ?_ (by first | omega | (simp only [World.size_alloc, size_setRow, dw_size]; omega)) _) | (refine Ext.tr ?_ (by assumption)))))) (D2.ext (by (repeat (first | exact Ext.rfl | assumption | (refine Ext.al ?_ _) | (refine Ext.dw ?_) | (refine Ext.set ?_ (by first | omega | (simp only [World.size_alloc, size_setRow, dw_size]; omega)) _) | (refine Ext.tr ?_ (by assumption))))))) ?_
    rintro ⟨_, w1⟩ ⟨rfl, E1⟩
    try dsimp only at E1
    have zE1 := E1.size
    try simp only [World.size_alloc, size_setRow, dw_size] at zE1
    simp (maxSteps := 1000000) (disch := first | assumption | omega | (simp only [World.size_alloc, size_setRow, dw_size]; done) | (simp only [World.size_alloc, size_setRow, dw_size] <;> omega) | (simp only [List.length_set, Array.length_toList, List.length_cons, List.length_nil, List.length_append, bts_size] <;> omega) | (simp only [List.all_cons, List.all_nil, Value.oneCell', Bool.and_self, Bool.and_true]; done)) [-Option.bind_some, hp_alloc_lt, hp_alloc_eq, hp_set_ne, wrap_small, ups_ap_cons, ups_ap_nil, upd_same, upd_other, env0_ap0, env0_aps, xt_a, xt_b, xt_c, e0, e1, e5, hlt, e0, e1, e5, E0.blk, hlt, p0, p1, q0, q1, E1.blk]
    exact Ret.mono (ih (k + 1) _ _ (by omega) (by first | omega | assumption | rfl | exact congrArg i64 (by omega) | (simp; done) | (simp; omega)) (by first | omega | assumption | rfl | exact congrArg i64 (by omega) | (simp; done) | (simp; omega)) (by first | omega | assumption | rfl | exact congrArg i64 (by omega) | (simp; done) | (simp; omega)) ha hb (by (repeat (first | exact Ext.rfl | assumption | (refine Ext.al ?_ _) | (refine Ext.dw ?_) | (refine Ext.set ?_ (by first | omega | (simp only [World.size_alloc, size_setRow, dw_size]; omega)) _) | (refine Ext.tr ?_ (by assumption)))))) hQ
theorem laws_eqNodeS_m {S S' : Nat → Prop} {a b : Option Addr} {n m c d : Nat} {xs : List CNode} {w : World} (ha : D tNodes S w [.slice a n c] xs) (hb : D tNodes S' w [.slice b m d] xs) : Ret (EV P 62 #[.slice a n c, .slice b m d] w) fun r => r.1 = .bool true ∧ Ext w r.2 := by
  obtain ⟨rfl, hm, _⟩ := ha.n
  obtain ⟨rfl, hm, _⟩ := hb.n
  refine Ret.post fun Q hQ => ?_
  refine Ret.enter plain mixed (laws_eqNodeS_fn _ _ _) (by kernel_rfl) (n := 2) (by kernel_rfl) rfl ?_
  simp (maxSteps := 1000000) (disch := first | assumption | omega | (simp only [World.size_alloc, size_setRow, dw_size]; done) | (simp only [World.size_alloc, size_setRow, dw_size] <;> omega) | (simp only [List.length_set, Array.length_toList, List.length_cons, List.length_nil, List.length_append, bts_size] <;> omega) | (simp only [List.all_cons, List.all_nil, Value.oneCell', Bool.and_self, Bool.and_true]; done)) [-Option.bind_some, hp_alloc_lt, hp_alloc_eq, hp_set_ne, wrap_small, ups_ap_cons, ups_ap_nil, upd_same, upd_other, env0_ap0, env0_aps, xt_a, xt_b, xt_c, bne_self_eq_false]
  exact Ret.mono (laws_eqNodeS_n xs.length 0 _ w (by omega) rfl rfl rfl ha hb Ext.rfl) hQ
theorem laws_szChain_m {n : Int} (h0 : -1 ≤ n) (h1 : n ≤ 1048576) {S : Nat → Prop} {cs : List Value} {x : List CNode} {w : World} (ha : D tNodes S w cs x) :
    Ret (EV P 15 #[.agg cs.toArray, i64 n] w) fun r => ∃ m, r.1 = i64 m ∧ -1 ≤ m ∧ m ≤ 1048576 ∧ (0 ≤ m → m + MChain.wt x ≤ n) ∧ Ext w r.2 := by
  obtain ⟨a, c, rfl, ha⟩ := ha.sl'
  refine Ret.post fun Q hQ => ?_
  refine Ret.enter plain mixed (laws_szChain_fn _ _ _) (by kernel_rfl) (n := 2) (by kernel_rfl) rfl ?_
  simp (maxSteps := 1000000) (disch := first | assumption | omega | (simp only [World.size_alloc, size_setRow, dw_size]; done) | (simp only [World.size_alloc, size_setRow, dw_size] <;> omega) | (simp only [List.length_set, Array.length_toList, List.length_cons, List.length_nil, List.length_append, bts_size] <;> omega) | (simp only [List.all_cons, List.all_nil, Value.oneCell', Bool.and_self, Bool.and_true]; done)) [-Option.bind_some, hp_alloc_lt, hp_alloc_eq, hp_set_ne, wrap_small, ups_ap_cons, ups_ap_nil, upd_same, upd_other, env0_ap0, env0_aps, xt_a, xt_b, xt_c]
  refine Ret.bind (laws_szNodeS_m h0 h1 (ha.ext (by (repeat (first | exact Ext.rfl | assumption | (refine Ext.al ?_ _) | (refine Ext.dw ?_) | (refine Ext.set ?_ (by first | omega | (simp only [World.size_alloc, size_setRow, dw_size]; omega)) _) | (refine Ext.tr ?_ (by assumption))))))) ?_
  rintro ⟨_, w1⟩ ⟨m1, rfl, b1, b2, b3, E1⟩
  try dsimp only at m1 b1 b2 b3 E1
  have zE1 := E1.size
  try simp only [World.size_alloc, size_setRow, dw_size] at zE1
  by_cases g1 : m1 < 0
  · simp (maxSteps := 1000000) (disch := first | assumption | omega | (simp only [World.size_alloc, size_setRow, dw_size]; done) | (simp only [World.size_alloc, size_setRow, dw_size] <;> omega) | (simp only [List.length_set, Array.length_toList, List.length_cons, List.length_nil, List.length_append, bts_size] <;> omega) | (simp only [List.all_cons, List.all_nil, Value.oneCell', Bool.and_self, Bool.and_true]; done)) [-Option.bind_some, hp_alloc_lt, hp_alloc_eq, hp_set_ne, wrap_small, ups_ap_cons, ups_ap_nil, upd_same, upd_other, env0_ap0, env0_aps, xt_a, xt_b, xt_c, g1, E1.blk]
    exact hQ _ ⟨-1, rfl, by omega, by omega, by omega, by (repeat (first | exact Ext.rfl | assumption | (refine Ext.al ?_ _) | (refine Ext.dw ?_) | (refine Ext.set ?_ (by first | omega | (simp only [World.size_alloc, size_setRow, dw_size]; omega)) _) | (refine Ext.tr ?_ (by assumption))))⟩
  simp (maxSteps := 1000000) (disch := first | assumption | omega | (simp only [World.size_alloc, size_setRow, dw_size]; done) | (simp only [World.size_alloc, size_setRow, dw_size] <;> omega) | (simp only [List.length_set, Array.length_toList, List.length_cons, List.length_nil, List.length_append, bts_size] <;> omega) | (simp only [List.all_cons, List.all_nil, Value.oneCell', Bool.and_self, Bool.and_true]; done)) [-Option.bind_some, hp_alloc_lt, hp_alloc_eq, hp_set_ne, wrap_small, ups_ap_cons, ups_ap_nil, upd_same, upd_other, env0_ap0, env0_aps, xt_a, xt_b, xt_c, g1, E1.blk]
  exact hQ _ ⟨m1, rfl, by omega, by omega, b3, by (repeat (first | exact Ext.rfl | assumption | (refine Ext.al ?_ _) | (refine Ext.dw ?_) | (refine Ext.set ?_ (by first | omega | (simp only [World.size_alloc, size_setRow, dw_size]; omega)) _) | (refine Ext.tr ?_ (by assumption))))⟩
theorem laws_toChain_m {S : Nat → Prop} {cs : List Value} {x : List CNode} {w : World} (ha : D tNodes S w cs x) :
    Ret (EV P 18 #[.agg cs.toArray] w) fun r => ∃ ds, r.1 = .agg ds.toArray ∧ O tNodes (In w.heap.size r.2.heap.size) r.2 ds x ∧ Ext w r.2 := by
  obtain ⟨a, c, rfl, ha⟩ := ha.sl'
  refine Ret.post fun Q hQ => ?_
  refine Ret.enter plain mixed (laws_toChain_fn _ _) (by kernel_rfl) (n := 1) (by kernel_rfl) rfl ?_
  simp (maxSteps := 1000000) (disch := first | assumption | omega | (simp only [World.size_alloc, size_setRow, dw_size]; done) | (simp only [World.size_alloc, size_setRow, dw_size] <;> omega) | (simp only [List.length_set, Array.length_toList, List.length_cons, List.length_nil, List.length_append, bts_size] <;> omega) | (simp only [List.all_cons, List.all_nil, Value.oneCell', Bool.and_self, Bool.and_true]; done)) [-Option.bind_some, hp_alloc_lt, hp_alloc_eq, hp_set_ne, wrap_small, ups_ap_cons, ups_ap_nil, upd_same, upd_other, env0_ap0, env0_aps, xt_a, xt_b, xt_c, -splice_eq, -stR_cells, stR_box, stR_boxA, stR_row, stR_row0, stR_row1, stR_rowA, stR_rowA0, splice_rowv, splice_rowv0, splice_rowv1, splice_z, splice_n, splice_s, nth_rowv, nth_rowv0, nth_rowv1, rowv_len]
  refine Ret.bind (laws_toNodeS_m (ha.ext (by (repeat (first | exact Ext.rfl | assumption | (refine Ext.al ?_ _) | (refine Ext.dw ?_) | (refine Ext.set ?_ (by first | omega | (simp only [World.size_alloc, size_setRow, dw_size]; omega)) _) | (refine Ext.tr ?_ (by assumption))))))) ?_
  rintro ⟨_, w1⟩ ⟨a1, c1, rfl, o1, E1⟩
  try dsimp only at a1 c1 o1 E1
  have zE1 := E1.size
  try simp only [World.size_alloc, size_setRow, dw_size] at zE1
  simp (maxSteps := 1000000) (disch := first | assumption | omega | (simp only [World.size_alloc, size_setRow, dw_size]; done) | (simp only [World.size_alloc, size_setRow, dw_size] <;> omega) | (simp only [List.length_set, Array.length_toList, List.length_cons, List.length_nil, List.length_append, bts_size] <;> omega) | (simp only [List.all_cons, List.all_nil, Value.oneCell', Bool.and_self, Bool.and_true]; done)) [-Option.bind_some, hp_alloc_lt, hp_alloc_eq, hp_set_ne, wrap_small, ups_ap_cons, ups_ap_nil, upd_same, upd_other, env0_ap0, env0_aps, xt_a, xt_b, xt_c, -splice_eq, -stR_cells, stR_box, stR_boxA, stR_row, stR_row0, stR_row1, stR_rowA, stR_rowA0, splice_rowv, splice_rowv0, splice_rowv1, splice_z, splice_n, splice_s, nth_rowv, nth_rowv0, nth_rowv1, rowv_len, E1.blk]
  exact hQ _ ⟨_, rfl, (o1.keep (by intro b hS hb; (try dsimp only at hS); (try simp only [In, World.size_alloc, size_setRow, dw_size] at hS hb); first | rfl | (simp (disch := first | assumption | omega | (simp only [World.size_alloc, size_setRow, dw_size]; omega) | (simp only [World.size_alloc, size_setRow, dw_size, In]; omega)) only [E1.blk, hp_alloc_lt, hp_set_ne, hp_dw]; done))).wide (by intro b h1 h2; (try dsimp only at h1); (try simp only [In, World.size_alloc, size_setRow, dw_size] at *); omega), by (repeat (first | exact Ext.rfl | assumption | (refine Ext.al ?_ _) | (refine Ext.dw ?_) | (refine Ext.set ?_ (by first | omega | (simp only [World.size_alloc, size_setRow, dw_size]; omega)) _) | (refine Ext.tr ?_ (by assumption))))⟩
theorem laws_eqChain_m {S S' : Nat → Prop} {cs ds : List Value} {x : List CNode} {w : World} (ha : D tNodes S w cs x) (hb : D tNodes S' w ds x) : Ret (EV P 21 #[.agg cs.toArray, .agg ds.toArray] w) fun r => r.1 = .bool true ∧ Ext w r.2 := by
  obtain ⟨a, c, rfl, ha⟩ := ha.sl'
  obtain ⟨b, d, rfl, hb⟩ := hb.sl'
  refine Ret.post fun Q hQ => ?_
  refine Ret.enter plain mixed (laws_eqChain_fn _ _ _) (by kernel_rfl) (n := 2) (by kernel_rfl) rfl ?_
  simp (maxSteps := 1000000) (disch := first | assumption | omega | (simp only [World.size_alloc, size_setRow, dw_size]; done) | (simp only [World.size_alloc, size_setRow, dw_size] <;> omega) | (simp only [List.length_set, Array.length_toList, List.length_cons, List.length_nil, List.length_append, bts_size] <;> omega) | (simp only [List.all_cons, List.all_nil, Value.oneCell', Bool.and_self, Bool.and_true]; done)) [-Option.bind_some, hp_alloc_lt, hp_alloc_eq, hp_set_ne, wrap_small, ups_ap_cons, ups_ap_nil, upd_same, upd_other, env0_ap0, env0_aps, xt_a, xt_b, xt_c]
  refine Ret.bind (laws_eqNodeS_m (ha.ext (by (repeat (first | exact Ext.rfl | assumption | (refine Ext.al ?_ _) | (refine Ext.dw ?_) | (refine Ext.set ?_ (by first | omega | (simp only [World.size_alloc, size_setRow, dw_size]; omega)) _) | (refine Ext.tr ?_ (by assumption)))))) (hb.ext (by (repeat (first | exact Ext.rfl | assumption | (refine Ext.al ?_ _) | (refine Ext.dw ?_) | (refine Ext.set ?_ (by first | omega | (simp only [World.size_alloc, size_setRow, dw_size]; omega)) _) | (refine Ext.tr ?_ (by assumption))))))) ?_
  rintro ⟨_, w1⟩ ⟨rfl, E1⟩
  try dsimp only at E1
  have zE1 := E1.size
  try simp only [World.size_alloc, size_setRow, dw_size] at zE1
  simp (maxSteps := 1000000) (disch := first | assumption | omega | (simp only [World.size_alloc, size_setRow, dw_size]; done) | (simp only [World.size_alloc, size_setRow, dw_size] <;> omega) | (simp only [List.length_set, Array.length_toList, List.length_cons, List.length_nil, List.length_append, bts_size] <;> omega) | (simp only [List.all_cons, List.all_nil, Value.oneCell', Bool.and_self, Bool.and_true]; done)) [-Option.bind_some, hp_alloc_lt, hp_alloc_eq, hp_set_ne, wrap_small, ups_ap_cons, ups_ap_nil, upd_same, upd_other, env0_ap0, env0_aps, xt_a, xt_b, xt_c, E1.blk]
  exact hQ _ ⟨rfl, by (repeat (first | exact Ext.rfl | assumption | (refine Ext.al ?_ _) | (refine Ext.dw ?_) | (refine Ext.set ?_ (by first | omega | (simp only [World.size_alloc, size_setRow, dw_size]; omega)) _) | (refine Ext.tr ?_ (by assumption))))⟩
theorem laws_markChain_m {S : Nat → Prop} {cs : List Value} {x : List CNode} {k : Int} (h0 : 0 ≤ k) (hk : k + 10 * MChain.wt x ≤ 100000000000000) {w : World} (ho : O tNodes S w cs x) :
    Ret (EV P 23 #[.agg cs.toArray, i64 k] w) fun r => r.1 = i64 (MChain.nx k x) ∧ O tNodes S r.2 cs (MChain.mk k x) ∧ Mod S w r.2 := by
  obtain ⟨a, c, rfl, ho⟩ := ho.sl'
  refine Ret.post fun Q hQ => ?_
  refine Ret.enter plain mixed (laws_markChain_fn _ _ _) (by kernel_rfl) (n := 2) (by kernel_rfl) rfl ?_
  simp (maxSteps := 1000000) (disch := first | assumption | omega | (simp only [World.size_alloc, size_setRow, dw_size]; done) | (simp only [World.size_alloc, size_setRow, dw_size] <;> omega) | (simp only [List.length_set, Array.length_toList, List.length_cons, List.length_nil, List.length_append, bts_size] <;> omega) | (simp only [List.all_cons, List.all_nil, Value.oneCell', Bool.and_self, Bool.and_true]; done)) [-Option.bind_some, hp_alloc_lt, hp_alloc_eq, hp_set_ne, wrap_small, ups_ap_cons, ups_ap_nil, upd_same, upd_other, env0_ap0, env0_aps, xt_a, xt_b, xt_c]
  refine Ret.bind (laws_markNodeS_m h0 hk (ho.ext (by (repeat (first | exact Ext.rfl | assumption | (refine Ext.al ?_ _) | (refine Ext.dw ?_) | (refine Ext.set ?_ (by first | omega | (simp only [World.size_alloc, size_setRow, dw_size]; omega)) _) | (refine Ext.tr ?_ (by assumption))))))) ?_
  rintro ⟨_, w1⟩ ⟨rfl, o1, M1⟩
  try dsimp only at o1 M1
  have zM1 := M1.size
  try simp only [World.size_alloc, size_setRow, dw_size] at zM1
  simp (maxSteps := 1000000) (disch := first | assumption | omega | (simp only [World.size_alloc, size_setRow, dw_size]; done) | (simp only [World.size_alloc, size_setRow, dw_size] <;> omega) | (simp only [List.length_set, Array.length_toList, List.length_cons, List.length_nil, List.length_append, bts_size] <;> omega) | (simp only [List.all_cons, List.all_nil, Value.oneCell', Bool.and_self, Bool.and_true]; done)) [-Option.bind_some, hp_alloc_lt, hp_alloc_eq, hp_set_ne, wrap_small, ups_ap_cons, ups_ap_nil, upd_same, upd_other, env0_ap0, env0_aps, xt_a, xt_b, xt_c, M1.blk]
  exact hQ _ ⟨rfl, o1, (Mod.of (S := S) (by (repeat (first | exact Ext.rfl | assumption | (refine Ext.al ?_ _) | (refine Ext.dw ?_) | (refine Ext.set ?_ (by first | omega | (simp only [World.size_alloc, size_setRow, dw_size]; omega)) _) | (refine Ext.tr ?_ (by assumption)))))).tr M1⟩
theorem laws_heldChain_m {S : Nat → Prop} {cs : List Value} {x : List CNode} {k : Int} (h0 : 0 ≤ k) (hk : k + 10 * MChain.wt x ≤ 100000000000000) {w : World} (ho : D tNodes S w cs (MChain.mk k x)) :
    Ret (EV P 25 #[.agg cs.toArray, i64 k] w) fun r => r.1 = i64 (MChain.nx k x) ∧ Ext w r.2 := by
  obtain ⟨a, c, rfl, ho⟩ := ho.sl'
  have hle : k ≤ MNode.nxL k x := Mk.nxL_le _ _
  refine Ret.post fun Q hQ => ?_
  refine Ret.enter plain mixed (laws_heldChain_fn _ _ _) (by kernel_rfl) (n := 2) (by kernel_rfl) rfl ?_
  simp (maxSteps := 1000000) (disch := first | assumption | omega | (simp only [World.size_alloc, size_setRow, dw_size]; done) | (simp only [World.size_alloc, size_setRow, dw_size] <;> omega) | (simp only [List.length_set, Array.length_toList, List.length_cons, List.length_nil, List.length_append, bts_size] <;> omega) | (simp only [List.all_cons, List.all_nil, Value.oneCell', Bool.and_self, Bool.and_true]; done)) [-Option.bind_some, hp_alloc_lt, hp_alloc_eq, hp_set_ne, wrap_small, ups_ap_cons, ups_ap_nil, upd_same, upd_other, env0_ap0, env0_aps, xt_a, xt_b, xt_c]
  refine Ret.bind (laws_heldNodeS_m h0 hk (ho.ext (by (repeat (first | exact Ext.rfl | assumption | (refine Ext.al ?_ _) | (refine Ext.dw ?_) | (refine Ext.set ?_ (by first | omega | (simp only [World.size_alloc, size_setRow, dw_size]; omega)) _) | (refine Ext.tr ?_ (by assumption))))))) ?_
  rintro ⟨_, w1⟩ ⟨rfl, E1⟩
  try dsimp only at E1
  have zE1 := E1.size
  try simp only [World.size_alloc, size_setRow, dw_size] at zE1
  simp (maxSteps := 1000000) (disch := first | assumption | omega | (simp only [World.size_alloc, size_setRow, dw_size]; done) | (simp only [World.size_alloc, size_setRow, dw_size] <;> omega) | (simp only [List.length_set, Array.length_toList, List.length_cons, List.length_nil, List.length_append, bts_size] <;> omega) | (simp only [List.all_cons, List.all_nil, Value.oneCell', Bool.and_self, Bool.and_true]; done)) [-Option.bind_some, hp_alloc_lt, hp_alloc_eq, hp_set_ne, wrap_small, ups_ap_cons, ups_ap_nil, upd_same, upd_other, env0_ap0, env0_aps, xt_a, xt_b, xt_c, show ¬ MNode.nxL k x < 0 by omega, E1.blk]
  exact hQ _ ⟨rfl, by (repeat (first | exact Ext.rfl | assumption | (refine Ext.al ?_ _) | (refine Ext.dw ?_) | (refine Ext.set ?_ (by first | omega | (simp only [World.size_alloc, size_setRow, dw_size]; omega)) _) | (refine Ext.tr ?_ (by assumption))))⟩
end Go.Proofs.YthicfemhpnnaaaaGreat.X
set_option linter.unusedVariables false
set_option linter.unusedSimpArgs false
set_option maxRecDepth 100000
set_option maxHeartbeats 1000000
namespace Go.Proofs.YthicfemhpnnaaaaGreat.X
open Go Go.Ev Go.RowKit
def verZ : Ver := ⟨0, ⟨0, 0⟩, [], ⟨#[]⟩, false⟩
theorem impl_nodesOk_c (n : Int) (w : World) : Ret (EV P 37 #[i64 n] w) fun r => r = (.bool (decide (1 ≤ n) && decide (n ≤ 4)), w) := by
  refine Ret.post fun Q hQ => ?_
  refine Ret.enter plain mixed (impl_nodesOk_fn _ _) (by kernel_rfl) (n := 1) (by kernel_rfl) rfl ?_
  simp (maxSteps := 1000000) (disch := first | assumption | omega | (simp only [World.size_alloc, size_setRow, dw_size]; done) | (simp only [World.size_alloc, size_setRow, dw_size] <;> omega) | (simp only [List.length_set, Array.length_toList, List.length_cons, List.length_nil, List.length_append, bts_size] <;> omega) | (simp only [List.all_cons, List.all_nil, Value.oneCell', Bool.and_self, Bool.and_true]; done)) [-Option.bind_some, hp_alloc_lt, hp_alloc_eq, hp_set_ne, wrap_small, ups_ap_cons, ups_ap_nil, upd_same, upd_other, env0_ap0, env0_aps, xt_a, xt_b, xt_c]
  refine Ret.bind (impl_within_c _ _ _ _) ?_
  rintro _ rfl
  simp (maxSteps := 1000000) (disch := first | assumption | omega | (simp only [World.size_alloc, size_setRow, dw_size]; done) | (simp only [World.size_alloc, size_setRow, dw_size] <;> omega) | (simp only [List.length_set, Array.length_toList, List.length_cons, List.length_nil, List.length_append, bts_size] <;> omega) | (simp only [List.all_cons, List.all_nil, Value.oneCell', Bool.and_self, Bool.and_true]; done)) [-Option.bind_some, hp_alloc_lt, hp_alloc_eq, hp_set_ne, wrap_small, ups_ap_cons, ups_ap_nil, upd_same, upd_other, env0_ap0, env0_aps, xt_a, xt_b, xt_c]
  exact hQ _ rfl
end Go.Proofs.YthicfemhpnnaaaaGreat.X
set_option linter.unusedVariables false
set_option linter.unusedSimpArgs false
set_option maxRecDepth 100000
set_option maxHeartbeats 1000000
namespace Go.Proofs.YthicfemhpnnaaaaGreat.X
open Go Go.Ev Go.RowKit
theorem cv_at {x : Int} {b c : Nat} {e : TypeId} {w : World} (h : hp w b = some (.cells #[.int .u8 x] e (0, 0))) : cv P 22 9 (.slice (some ⟨b, 0, none⟩) 1 c) w = some (.string (bts [UInt8.ofNat x.toNat]), w) := by
  rw [← bytesOf_bts]
  exact cv_bytes (e := 5) (ns := [x]) (by kernel_rfl) (by kernel_rfl) (by kernel_rfl) (fun j v hv => by
    rw [h, cellO_some, ← nth_eq, Nat.zero_add]
    exact hv)
theorem spec_l1Dec_m (n : Nat) (hn : n ≤ 4611686018427387904) : ∀ w : World, Ret (EV P 145 #[i64 n] w) fun r => r.1 = .string (bts (decL n)) ∧ Ext w r.2 := by
  induction n using Nat.strongRecOn with
  | _ n ih =>
    intro w
    have hd := decL_len n
    refine Ret.post fun Q hQ => ?_
    by_cases h : n < 10
    · refine Ret.enter plain mixed (spec_l1Dec_fn _ _) (by kernel_rfl) (n := 1) (by kernel_rfl) rfl ?_
      have h8 : IntKind.u8.wrap (48 + (n : Int)) = 48 + n := u8_small (by omega) (by omega)
      have ht : UInt8.ofNat (48 + (n : Int)).toNat = dg n := by unfold dg; congr 1
      simp (maxSteps := 1000000) (disch := first | assumption | omega | (simp only [World.size_alloc, size_setRow, dw_size]; done) | (simp only [World.size_alloc, size_setRow, dw_size] <;> omega) | (simp only [List.length_set, Array.length_toList, List.length_cons, List.length_nil, List.length_append, bts_size] <;> omega) | (simp only [List.all_cons, List.all_nil, Value.oneCell', Bool.and_self, Bool.and_true]; done)) [-Option.bind_some, hp_alloc_lt, hp_alloc_eq, hp_set_ne, wrap_small, ups_ap_cons, ups_ap_nil, upd_same, upd_other, env0_ap0, env0_aps, xt_a, xt_b, xt_c, -splice_eq, -stR_cells, stR_box, stR_boxA, stR_row, stR_row0, stR_row1, stR_rowA, stR_rowA0, splice_rowv, splice_rowv0, splice_rowv1, splice_z, splice_n, splice_s, nth_rowv, nth_rowv0, nth_rowv1, rowv_len, show ¬ (n : Int) < -9223372036854775807 by omega, show ¬ (n : Int) < 0 by omega, show (n : Int) < 10 by omega, h8]
      have hc := cv_at (x := 48 + (n : Int)) (b := w.heap.size) (c := 1) (e := 5) (w := w.alloc (.cells #[.int .u8 (48 + (n : Int))] 5)) (hp_alloc_eq rfl)
      rw [ht, ← decL_lt h] at hc
      simp (maxSteps := 1000000) (disch := first | assumption | omega | (simp only [World.size_alloc, size_setRow, dw_size]; done) | (simp only [World.size_alloc, size_setRow, dw_size] <;> omega) | (simp only [List.length_set, Array.length_toList, List.length_cons, List.length_nil, List.length_append, bts_size] <;> omega) | (simp only [List.all_cons, List.all_nil, Value.oneCell', Bool.and_self, Bool.and_true]; done)) [-Option.bind_some, hp_alloc_lt, hp_alloc_eq, hp_set_ne, wrap_small, ups_ap_cons, ups_ap_nil, upd_same, upd_other, env0_ap0, env0_aps, xt_a, xt_b, xt_c, -splice_eq, -stR_cells, stR_box, stR_boxA, stR_row, stR_row0, stR_row1, stR_rowA, stR_rowA0, splice_rowv, splice_rowv0, splice_rowv1, splice_z, splice_n, splice_s, nth_rowv, nth_rowv0, nth_rowv1, rowv_len, hc]
      exact hQ _ ⟨rfl, by (repeat (first | exact Ext.rfl | assumption | (refine Ext.al ?_ _) | (refine Ext.dw ?_) | (refine Ext.set ?_ (by first | omega | (simp only [World.size_alloc, size_setRow, dw_size]; omega)) _) | (refine Ext.tr ?_ (by assumption))))⟩
    · have hq : (n : Int).tdiv 10 = ((n / 10 : Nat) : Int) := tdiv_nat n 10
      have hm : (n : Int).tmod 10 = ((n % 10 : Nat) : Int) := tmod_nat n 10
      have h8 : IntKind.u8.wrap (48 + ((n % 10 : Nat) : Int)) = 48 + ((n % 10 : Nat) : Int) := u8_small (by omega) (by omega)
      have ht : UInt8.ofNat (48 + ((n % 10 : Nat) : Int)).toNat = dg (n % 10) := by unfold dg; congr 1
      have hl := decL_len (n / 10)
      have hdg := decL_ge h
      have hih := ih (n / 10) (by omega) (by omega)
      have hm10 : n % 10 < 10 := Nat.mod_lt _ (by omega)
      have hqn : n / 10 ≤ n := Nat.div_le_self _ _
      generalize n / 10 = q at *
      generalize n % 10 = m at *
      refine Ret.enter plain mixed (spec_l1Dec_fn _ _) (by kernel_rfl) (n := 1) (by kernel_rfl) rfl ?_
      simp (maxSteps := 1000000) (disch := first | assumption | omega | (simp only [World.size_alloc, size_setRow, dw_size]; done) | (simp only [World.size_alloc, size_setRow, dw_size] <;> omega) | (simp only [List.length_set, Array.length_toList, List.length_cons, List.length_nil, List.length_append, bts_size] <;> omega) | (simp only [List.all_cons, List.all_nil, Value.oneCell', Bool.and_self, Bool.and_true]; done)) [-Option.bind_some, hp_alloc_lt, hp_alloc_eq, hp_set_ne, wrap_small, ups_ap_cons, ups_ap_nil, upd_same, upd_other, env0_ap0, env0_aps, xt_a, xt_b, xt_c, -splice_eq, -stR_cells, stR_box, stR_boxA, stR_row, stR_row0, stR_row1, stR_rowA, stR_rowA0, splice_rowv, splice_rowv0, splice_rowv1, splice_z, splice_n, splice_s, nth_rowv, nth_rowv0, nth_rowv1, rowv_len, show ¬ (n : Int) < -9223372036854775807 by omega, show ¬ (n : Int) < 0 by omega, show ¬ (n : Int) < 10 by omega]
      refine spec_l1Dec_a1_any _ _ ?_
      simp (maxSteps := 1000000) (disch := first | assumption | omega | (simp only [World.size_alloc, size_setRow, dw_size]; done) | (simp only [World.size_alloc, size_setRow, dw_size] <;> omega) | (simp only [List.length_set, Array.length_toList, List.length_cons, List.length_nil, List.length_append, bts_size] <;> omega) | (simp only [List.all_cons, List.all_nil, Value.oneCell', Bool.and_self, Bool.and_true]; done)) [-Option.bind_some, hp_alloc_lt, hp_alloc_eq, hp_set_ne, wrap_small, ups_ap_cons, ups_ap_nil, upd_same, upd_other, env0_ap0, env0_aps, xt_a, xt_b, xt_c, -splice_eq, -stR_cells, stR_box, stR_boxA, stR_row, stR_row0, stR_row1, stR_rowA, stR_rowA0, splice_rowv, splice_rowv0, splice_rowv1, splice_z, splice_n, splice_s, nth_rowv, nth_rowv0, nth_rowv1, rowv_len, bo_quo, bo_rem, hq, hm, h8]
      constructor
      · refine Ret.mono (hih _) ?_
        rintro ⟨_, w1⟩ ⟨rfl, E1⟩
        try dsimp only at E1
        have zE1 := E1.size
        try simp only [World.size_alloc, size_setRow, dw_size] at zE1
        simp (maxSteps := 1000000) (disch := first | assumption | omega | (simp only [World.size_alloc, size_setRow, dw_size]; done) | (simp only [World.size_alloc, size_setRow, dw_size] <;> omega) | (simp only [List.length_set, Array.length_toList, List.length_cons, List.length_nil, List.length_append, bts_size] <;> omega) | (simp only [List.all_cons, List.all_nil, Value.oneCell', Bool.and_self, Bool.and_true]; done)) [-Option.bind_some, hp_alloc_lt, hp_alloc_eq, hp_set_ne, wrap_small, ups_ap_cons, ups_ap_nil, upd_same, upd_other, env0_ap0, env0_aps, xt_a, xt_b, xt_c, -splice_eq, -stR_cells, stR_box, stR_boxA, stR_row, stR_row0, stR_row1, stR_rowA, stR_rowA0, splice_rowv, splice_rowv0, splice_rowv1, splice_z, splice_n, splice_s, nth_rowv, nth_rowv0, nth_rowv1, rowv_len, bo_quo, bo_rem, hq, hm, h8, E1.blk]
        have hc := cv_at (x := 48 + (m : Int)) (b := w1.heap.size) (c := 1) (e := 5) (w := w1.alloc (.cells #[.int .u8 (48 + (m : Int))] 5)) (hp_alloc_eq rfl)
        rw [ht] at hc
        simp (maxSteps := 1000000) (disch := first | assumption | omega | (simp only [World.size_alloc, size_setRow, dw_size]; done) | (simp only [World.size_alloc, size_setRow, dw_size] <;> omega) | (simp only [List.length_set, Array.length_toList, List.length_cons, List.length_nil, List.length_append, bts_size] <;> omega) | (simp only [List.all_cons, List.all_nil, Value.oneCell', Bool.and_self, Bool.and_true]; done)) [-Option.bind_some, hp_alloc_lt, hp_alloc_eq, hp_set_ne, wrap_small, ups_ap_cons, ups_ap_nil, upd_same, upd_other, env0_ap0, env0_aps, xt_a, xt_b, xt_c, -splice_eq, -stR_cells, stR_box, stR_boxA, stR_row, stR_row0, stR_row1, stR_rowA, stR_rowA0, splice_rowv, splice_rowv0, splice_rowv1, splice_z, splice_n, splice_s, nth_rowv, nth_rowv0, nth_rowv1, rowv_len, hc, bo_add_btx, bts_list, bts_size, ← hdg, spec_l1Dec_j1_eq, E1.blk]
        exact hQ _ ⟨rfl, by (repeat (first | exact Ext.rfl | assumption | (refine Ext.al ?_ _) | (refine Ext.dw ?_) | (refine Ext.set ?_ (by first | omega | (simp only [World.size_alloc, size_setRow, dw_size]; omega)) _) | (refine Ext.tr ?_ (by assumption))))⟩
      · have hc0 : ∀ w' : World, hp w' w.heap.size = some (.cells #[.int .u8 (48 + (m : Int))] 5 (0, 0)) → cv P 22 9 (.slice (some ⟨w.heap.size, 0, none⟩) 1 1) w' = some (.string (bts [dg m]), w') := by
          intro w' hx
          have := cv_at (x := 48 + (m : Int)) (c := 1) hx
          rwa [ht] at this
        have hc := hc0 ((dw w).alloc (.cells #[.int .u8 (48 + (m : Int))] 5)) (hp_alloc_eq rfl)
        simp (maxSteps := 1000000) (disch := first | assumption | omega | (simp only [World.size_alloc, size_setRow, dw_size]; done) | (simp only [World.size_alloc, size_setRow, dw_size] <;> omega) | (simp only [List.length_set, Array.length_toList, List.length_cons, List.length_nil, List.length_append, bts_size] <;> omega) | (simp only [List.all_cons, List.all_nil, Value.oneCell', Bool.and_self, Bool.and_true]; done)) [-Option.bind_some, hp_alloc_lt, hp_alloc_eq, hp_set_ne, wrap_small, ups_ap_cons, ups_ap_nil, upd_same, upd_other, env0_ap0, env0_aps, xt_a, xt_b, xt_c, -splice_eq, -stR_cells, stR_box, stR_boxA, stR_row, stR_row0, stR_row1, stR_rowA, stR_rowA0, splice_rowv, splice_rowv0, splice_rowv1, splice_z, splice_n, splice_s, nth_rowv, nth_rowv0, nth_rowv1, rowv_len, bo_quo, bo_rem, hq, hm, h8, hc]
        refine Ret.mono (hih _) ?_
        rintro ⟨_, w1⟩ ⟨rfl, E1⟩
        try dsimp only at E1
        have zE1 := E1.size
        try simp only [World.size_alloc, size_setRow, dw_size] at zE1
        have hc1 := hc0 w1 (by first | assumption | rfl | (simp (maxSteps := 1000000) (disch := first | assumption | omega | (simp only [World.size_alloc, size_setRow, dw_size]; done) | (simp only [World.size_alloc, size_setRow, dw_size] <;> omega) | (simp only [List.length_set, Array.length_toList, List.length_cons, List.length_nil, List.length_append, bts_size] <;> omega) | (simp only [List.all_cons, List.all_nil, Value.oneCell', Bool.and_self, Bool.and_true]; done)) [-Option.bind_some, hp_alloc_lt, hp_alloc_eq, hp_set_ne, wrap_small, ups_ap_cons, ups_ap_nil, upd_same, upd_other, env0_ap0, env0_aps, xt_a, xt_b, xt_c, -splice_eq, -stR_cells, stR_box, stR_boxA, stR_row, stR_row0, stR_row1, stR_rowA, stR_rowA0, splice_rowv, splice_rowv0, splice_rowv1, splice_z, splice_n, splice_s, nth_rowv, nth_rowv0, nth_rowv1, rowv_len, E1.blk]; done))
        simp (maxSteps := 1000000) (disch := first | assumption | omega | (simp only [World.size_alloc, size_setRow, dw_size]; done) | (simp only [World.size_alloc, size_setRow, dw_size] <;> omega) | (simp only [List.length_set, Array.length_toList, List.length_cons, List.length_nil, List.length_append, bts_size] <;> omega) | (simp only [List.all_cons, List.all_nil, Value.oneCell', Bool.and_self, Bool.and_true]; done)) [-Option.bind_some, hp_alloc_lt, hp_alloc_eq, hp_set_ne, wrap_small, ups_ap_cons, ups_ap_nil, upd_same, upd_other, env0_ap0, env0_aps, xt_a, xt_b, xt_c, -splice_eq, -stR_cells, stR_box, stR_boxA, stR_row, stR_row0, stR_row1, stR_rowA, stR_rowA0, splice_rowv, splice_rowv0, splice_rowv1, splice_z, splice_n, splice_s, nth_rowv, nth_rowv0, nth_rowv1, rowv_len, bo_quo, bo_rem, hq, hm, h8, hc1, bo_add_btx, bts_list, bts_size, ← hdg, spec_l1Dec_j1_eq, E1.blk]
        exact hQ _ ⟨rfl, by (repeat (first | exact Ext.rfl | assumption | (refine Ext.al ?_ _) | (refine Ext.dw ?_) | (refine Ext.set ?_ (by first | omega | (simp only [World.size_alloc, size_setRow, dw_size]; omega)) _) | (refine Ext.tr ?_ (by assumption))))⟩
end Go.Proofs.YthicfemhpnnaaaaGreat.X
set_option linter.unusedVariables false
set_option linter.unusedSimpArgs false
set_option maxRecDepth 100000
set_option maxHeartbeats 1000000
namespace Go.Proofs.YthicfemhpnnaaaaGreat.X
open Go Go.Ev Go.RowKit
theorem tagOk_rng {t : Tag} (h : tagOk t = true) : (0 ≤ t.t ∧ t.t ≤ 999) ∧ (0 ≤ t.p ∧ t.p ≤ 2) := by
  simp only [tagOk, Bool.or_eq_true, Bool.and_eq_true, beq_iff_eq, decide_eq_true_eq] at h
  omega
theorem tagL_len {t : Tag} (h : tagOk t = true) : (tagL t).length ≤ 2000 := by
  have := tagOk_rng h
  have h1 := decL_len t.t.toNat
  have h2 := decL_len t.p.toNat
  simp only [tagL, List.length_append, List.length_cons]
  omega
theorem spec_l1Put_m {t : Tag} (ht : tagOk t = true) (w : World) : Ret (EV P 146 #[t.v] w) fun r => r.1 = .string (bts (tagL t)) ∧ Ext w r.2 := by
  have hr := tagOk_rng ht
  obtain ⟨a, ha⟩ : ∃ a : Nat, t.t = a := ⟨t.t.toNat, by omega⟩
  obtain ⟨b, hb⟩ : ∃ b : Nat, t.p = b := ⟨t.p.toNat, by omega⟩
  have h1 := decL_len a
  have h2 := decL_len b
  have e : tagL t = decL a ++ [46] ++ decL b := by rw [tagL, ha, hb]; simp
  rw [e]
  refine Ret.post fun Q hQ => ?_
  refine Ret.enter plain mixed (spec_l1Put_fn _ _) (by kernel_rfl) (n := 1) (by kernel_rfl) rfl ?_
  simp (maxSteps := 1000000) (disch := first | assumption | omega | (simp only [World.size_alloc, size_setRow, dw_size]; done) | (simp only [World.size_alloc, size_setRow, dw_size] <;> omega) | (simp only [List.length_set, Array.length_toList, List.length_cons, List.length_nil, List.length_append, bts_size] <;> omega) | (simp only [List.all_cons, List.all_nil, Value.oneCell', Bool.and_self, Bool.and_true]; done)) [-Option.bind_some, hp_alloc_lt, hp_alloc_eq, hp_set_ne, wrap_small, ups_ap_cons, ups_ap_nil, upd_same, upd_other, env0_ap0, env0_aps, xt_a, xt_b, xt_c, -splice_eq, -stR_cells, stR_box, stR_boxA, stR_row, stR_row0, stR_row1, stR_rowA, stR_rowA0, splice_rowv, splice_rowv0, splice_rowv1, splice_z, splice_n, splice_s, nth_rowv, nth_rowv0, nth_rowv1, rowv_len, ha, hb]
  refine Ret.bind (spec_l1Dec_m a (by omega) _) ?_
  rintro ⟨_, w1⟩ ⟨rfl, E1⟩
  try dsimp only at E1
  have zE1 := E1.size
  try simp only [World.size_alloc, size_setRow, dw_size] at zE1
  simp (maxSteps := 1000000) (disch := first | assumption | omega | (simp only [World.size_alloc, size_setRow, dw_size]; done) | (simp only [World.size_alloc, size_setRow, dw_size] <;> omega) | (simp only [List.length_set, Array.length_toList, List.length_cons, List.length_nil, List.length_append, bts_size] <;> omega) | (simp only [List.all_cons, List.all_nil, Value.oneCell', Bool.and_self, Bool.and_true]; done)) [-Option.bind_some, hp_alloc_lt, hp_alloc_eq, hp_set_ne, wrap_small, ups_ap_cons, ups_ap_nil, upd_same, upd_other, env0_ap0, env0_aps, xt_a, xt_b, xt_c, -splice_eq, -stR_cells, stR_box, stR_boxA, stR_row, stR_row0, stR_row1, stR_rowA, stR_rowA0, splice_rowv, splice_rowv0, splice_rowv1, splice_z, splice_n, splice_s, nth_rowv, nth_rowv0, nth_rowv1, rowv_len, mk_bts, bo_add_btx, bts_list, E1.blk]
  refine Ret.bind (spec_l1Dec_m b (by omega) _) ?_
  rintro ⟨_, w2⟩ ⟨rfl, E2⟩
  try dsimp only at E2
  have zE2 := E2.size
  try simp only [World.size_alloc, size_setRow, dw_size] at zE2
  simp (maxSteps := 1000000) (disch := first | assumption | omega | (simp only [World.size_alloc, size_setRow, dw_size]; done) | (simp only [World.size_alloc, size_setRow, dw_size] <;> omega) | (simp only [List.length_set, Array.length_toList, List.length_cons, List.length_nil, List.length_append, bts_size] <;> omega) | (simp only [List.all_cons, List.all_nil, Value.oneCell', Bool.and_self, Bool.and_true]; done)) [-Option.bind_some, hp_alloc_lt, hp_alloc_eq, hp_set_ne, wrap_small, ups_ap_cons, ups_ap_nil, upd_same, upd_other, env0_ap0, env0_aps, xt_a, xt_b, xt_c, -splice_eq, -stR_cells, stR_box, stR_boxA, stR_row, stR_row0, stR_row1, stR_rowA, stR_rowA0, splice_rowv, splice_rowv0, splice_rowv1, splice_z, splice_n, splice_s, nth_rowv, nth_rowv0, nth_rowv1, rowv_len, mk_bts, bo_add_btx, bts_list, E1.blk, E2.blk]
  exact hQ _ ⟨by simp, by (repeat (first | exact Ext.rfl | assumption | (refine Ext.al ?_ _) | (refine Ext.dw ?_) | (refine Ext.set ?_ (by first | omega | (simp only [World.size_alloc, size_setRow, dw_size]; omega)) _) | (refine Ext.tr ?_ (by assumption))))⟩
theorem pastL_len : ∀ {l : List Tag}, (∀ t ∈ l, tagOk t = true) → (pastL l).length ≤ 2001 * l.length
  | [], _ => by simp [pastL]
  | t :: l, h => by
    have h1 := pastL_len (l := l) fun t ht => h t (List.mem_cons_of_mem _ ht)
    have h2 := tagL_len (h t List.mem_cons_self)
    simp only [pastL, List.length_cons, List.length_append]
    omega
theorem spec_l2Past_n {a : Option Addr} {c b t1 : Nat} {S : Nat → Prop} {xs : List Tag} {w0 : World} (hok : ∀ t ∈ xs, tagOk t = true) (hl4 : xs.length ≤ 100) :
    ∀ (d k : Nat) (e : Env) (w : World) (acc : List UInt8), k + d = xs.length → e 1 = pt b 0 → e 3 = .string (bts acc) → e 4 = i64 k → acc.length ≤ 3000 * k → hp w b = some (.cells #[.slice a xs.length c] t1 (0, 0)) → D tTags S w0 [.slice a xs.length c] xs → Ext w0 w →
    Ret (spec_l2Past_l1 e w) fun r => r.1 = .string (bts (acc ++ pastL (xs.drop k))) ∧ Ext w0 r.2 := by
  intro d
  induction d with
  | zero =>
    intro k e w acc hd e1 e3 e4 hacc X1 ha E0
    have zE0 := E0.size
    try simp only [World.size_alloc, size_setRow, dw_size] at zE0
    rw [spec_l2Past_l1_eq]
    obtain rfl : k = xs.length := by omega
    refine Ret.post fun Q hQ => ?_
    simp (maxSteps := 1000000) (disch := first | assumption | omega | (simp only [World.size_alloc, size_setRow, dw_size]; done) | (simp only [World.size_alloc, size_setRow, dw_size] <;> omega) | (simp only [List.length_set, Array.length_toList, List.length_cons, List.length_nil, List.length_append, bts_size] <;> omega) | (simp only [List.all_cons, List.all_nil, Value.oneCell', Bool.and_self, Bool.and_true]; done)) [-Option.bind_some, hp_alloc_lt, hp_alloc_eq, hp_set_ne, wrap_small, ups_ap_cons, ups_ap_nil, upd_same, upd_other, env0_ap0, env0_aps, xt_a, xt_b, xt_c, -splice_eq, -stR_cells, stR_box, stR_boxA, stR_row, stR_row0, stR_row1, stR_rowA, stR_rowA0, splice_rowv, splice_rowv0, splice_rowv1, splice_z, splice_n, splice_s, nth_rowv, nth_rowv0, nth_rowv1, rowv_len, e1, e3, e4, X1, e1, e3, e4, X1, E0.blk]
    rw [List.drop_length] at hQ
    exact hQ _ ⟨by simp [pastL], E0⟩
  | succ d ih =>
    intro k e w acc hd e1 e3 e4 hacc X1 ha E0
    have zE0 := E0.size
    try simp only [World.size_alloc, size_setRow, dw_size] at zE0
    rw [spec_l2Past_l1_eq]
    have hlt : k < xs.length := by omega
    obtain ⟨x, hx, hdx⟩ := drop_at hlt
    have hox := hok x (List.mem_of_getElem? hx)
    have hxl := tagL_len hox
    have hn := ha.n
    have y1 := hp_lt X1
    obtain ⟨b1, o1, cs1, rfl, A1, D1, _, l1⟩ := (ha.ext E0).at (by decide) hx
    obtain rfl := D.tag.1 D1
    have p0 := A1 0 _ rfl
    have p1 := A1 1 _ rfl
    simp only [LVer_n, LTag_n, LNode_n, Nat.add_zero] at p0 p1
    rw [hdx]
    refine Ret.post fun Q hQ => ?_
    simp (maxSteps := 1000000) (disch := first | assumption | omega | (simp only [World.size_alloc, size_setRow, dw_size]; done) | (simp only [World.size_alloc, size_setRow, dw_size] <;> omega) | (simp only [List.length_set, Array.length_toList, List.length_cons, List.length_nil, List.length_append, bts_size] <;> omega) | (simp only [List.all_cons, List.all_nil, Value.oneCell', Bool.and_self, Bool.and_true]; done)) [-Option.bind_some, hp_alloc_lt, hp_alloc_eq, hp_set_ne, wrap_small, ups_ap_cons, ups_ap_nil, upd_same, upd_other, env0_ap0, env0_aps, xt_a, xt_b, xt_c, -splice_eq, -stR_cells, stR_box, stR_boxA, stR_row, stR_row0, stR_row1, stR_rowA, stR_rowA0, splice_rowv, splice_rowv0, splice_rowv1, splice_z, splice_n, splice_s, nth_rowv, nth_rowv0, nth_rowv1, rowv_len, e1, e3, e4, X1, hlt, ia_41, mk_bts, bo_add_btx, bts_list, e1, e3, e4, X1, E0.blk, hlt, p0, p1]
    refine Ret.bind (spec_l1Put_m hox _) ?_
    rintro ⟨_, w1⟩ ⟨rfl, E1⟩
    try dsimp only at E1
    have zE1 := E1.size
    try simp only [World.size_alloc, size_setRow, dw_size] at zE1
    simp (maxSteps := 1000000) (disch := first | assumption | omega | (simp only [World.size_alloc, size_setRow, dw_size]; done) | (simp only [World.size_alloc, size_setRow, dw_size] <;> omega) | (simp only [List.length_set, Array.length_toList, List.length_cons, List.length_nil, List.length_append, bts_size] <;> omega) | (simp only [List.all_cons, List.all_nil, Value.oneCell', Bool.and_self, Bool.and_true]; done)) [-Option.bind_some, hp_alloc_lt, hp_alloc_eq, hp_set_ne, wrap_small, ups_ap_cons, ups_ap_nil, upd_same, upd_other, env0_ap0, env0_aps, xt_a, xt_b, xt_c, -splice_eq, -stR_cells, stR_box, stR_boxA, stR_row, stR_row0, stR_row1, stR_rowA, stR_rowA0, splice_rowv, splice_rowv0, splice_rowv1, splice_z, splice_n, splice_s, nth_rowv, nth_rowv0, nth_rowv1, rowv_len, e1, e3, e4, X1, hlt, ia_41, mk_bts, bo_add_btx, bts_list, e1, e3, e4, X1, E0.blk, hlt, p0, p1, E1.blk]
    refine Ret.mono (ih (k + 1) _ _ (acc ++ (32 :: tagL x)) (by omega) (by first | omega | assumption | rfl | exact congrArg i64 (by omega) | (simp; done) | (simp; omega)) (by first | omega | assumption | rfl | exact congrArg i64 (by omega) | (simp; done) | (simp; omega)) (by first | omega | assumption | rfl | exact congrArg i64 (by omega) | (simp; done) | (simp; omega)) (by simp only [List.length_append, List.length_cons]; omega) (by first | assumption | rfl | (simp (maxSteps := 1000000) (disch := first | assumption | omega | (simp only [World.size_alloc, size_setRow, dw_size]; done) | (simp only [World.size_alloc, size_setRow, dw_size] <;> omega) | (simp only [List.length_set, Array.length_toList, List.length_cons, List.length_nil, List.length_append, bts_size] <;> omega) | (simp only [List.all_cons, List.all_nil, Value.oneCell', Bool.and_self, Bool.and_true]; done)) [-Option.bind_some, hp_alloc_lt, hp_alloc_eq, hp_set_ne, wrap_small, ups_ap_cons, ups_ap_nil, upd_same, upd_other, env0_ap0, env0_aps, xt_a, xt_b, xt_c, -splice_eq, -stR_cells, stR_box, stR_boxA, stR_row, stR_row0, stR_row1, stR_rowA, stR_rowA0, splice_rowv, splice_rowv0, splice_rowv1, splice_z, splice_n, splice_s, nth_rowv, nth_rowv0, nth_rowv1, rowv_len, X1, e1, e3, e4, X1, E0.blk, hlt, p0, p1, E1.blk]; done)) ha (by (repeat (first | exact Ext.rfl | assumption | (refine Ext.al ?_ _) | (refine Ext.dw ?_) | (refine Ext.set ?_ (by first | omega | (simp only [World.size_alloc, size_setRow, dw_size]; omega)) _) | (refine Ext.tr ?_ (by assumption)))))) ?_
    rintro r ⟨h1, h2⟩
    exact hQ _ ⟨by rw [h1]; simp [pastL], h2⟩
theorem spec_l2Past_m {a : Option Addr} {n c : Nat} {S : Nat → Prop} {xs : List Tag} {w : World} (hok : ∀ t ∈ xs, tagOk t = true) (hl4 : xs.length ≤ 100) (ha : D tTags S w [.slice a n c] xs) :
    Ret (EV P 147 #[.agg #[.slice a n c]] w) fun r => r.1 = .string (bts (pastL xs)) ∧ Ext w r.2 := by
  obtain ⟨rfl, _⟩ := ha.n
  refine Ret.post fun Q hQ => ?_
  refine Ret.enter plain mixed (spec_l2Past_fn _ _) (by kernel_rfl) (n := 1) (by kernel_rfl) rfl ?_
  simp (maxSteps := 1000000) (disch := first | assumption | omega | (simp only [World.size_alloc, size_setRow, dw_size]; done) | (simp only [World.size_alloc, size_setRow, dw_size] <;> omega) | (simp only [List.length_set, Array.length_toList, List.length_cons, List.length_nil, List.length_append, bts_size] <;> omega) | (simp only [List.all_cons, List.all_nil, Value.oneCell', Bool.and_self, Bool.and_true]; done)) [-Option.bind_some, hp_alloc_lt, hp_alloc_eq, hp_set_ne, wrap_small, ups_ap_cons, ups_ap_nil, upd_same, upd_other, env0_ap0, env0_aps, xt_a, xt_b, xt_c, -splice_eq, -stR_cells, stR_box, stR_boxA, stR_row, stR_row0, stR_row1, stR_rowA, stR_rowA0, splice_rowv, splice_rowv0, splice_rowv1, splice_z, splice_n, splice_s, nth_rowv, nth_rowv0, nth_rowv1, rowv_len]
  refine Ret.mono (spec_l2Past_n (t1 := 43) hok hl4 xs.length 0 _ _ [] (by omega) rfl rfl rfl (by simp) (by first | assumption | rfl | (simp (maxSteps := 1000000) (disch := first | assumption | omega | (simp only [World.size_alloc, size_setRow, dw_size]; done) | (simp only [World.size_alloc, size_setRow, dw_size] <;> omega) | (simp only [List.length_set, Array.length_toList, List.length_cons, List.length_nil, List.length_append, bts_size] <;> omega) | (simp only [List.all_cons, List.all_nil, Value.oneCell', Bool.and_self, Bool.and_true]; done)) [-Option.bind_some, hp_alloc_lt, hp_alloc_eq, hp_set_ne, wrap_small, ups_ap_cons, ups_ap_nil, upd_same, upd_other, env0_ap0, env0_aps, xt_a, xt_b, xt_c, -splice_eq, -stR_cells, stR_box, stR_boxA, stR_row, stR_row0, stR_row1, stR_rowA, stR_rowA0, splice_rowv, splice_rowv0, splice_rowv1, splice_z, splice_n, splice_s, nth_rowv, nth_rowv0, nth_rowv1, rowv_len]; done)) ha (by (repeat (first | exact Ext.rfl | assumption | (refine Ext.al ?_ _) | (refine Ext.dw ?_) | (refine Ext.set ?_ (by first | omega | (simp only [World.size_alloc, size_setRow, dw_size]; omega)) _) | (refine Ext.tr ?_ (by assumption)))))) ?_
  rintro r ⟨h1, h2⟩
  exact hQ _ ⟨by rw [h1]; simp, h2⟩
theorem spec_l2Put_m {S : Nat → Prop} {cs : List Value} {v : Ver} {w : World} (hv : verOk v = true) (ha : D tVer S w cs v) : Ret (EV P 143 #[.agg cs.toArray] w) fun r => r.1 = .string (bts (verL v)) ∧ Ext w r.2 := by
  obtain ⟨a1, a2, a3, a4, a5, a6, a7⟩ := ver_parts hv
  obtain ⟨a, c, rfl, hpp, ht⟩ := D.ver.1 ha
  obtain ⟨k, hk⟩ : ∃ k : Nat, v.key = k := ⟨v.key.toNat, by omega⟩
  have h1 := decL_len k
  have h2 := tagL_len a7
  have h3 := pastL_len a5
  rw [a6] at h3
  have hbl : v.text.toList.length = v.text.size := byte_list _
  have e : verL v = decL k ++ [32] ++ tagL v.tag ++ pastL v.past ++ [32] ++ restL v := by rw [verL, hk]; simp
  rw [e]
  refine Ret.post fun Q hQ => ?_
  refine Ret.enter plain mixed (spec_l2Put_fn _ _) (by kernel_rfl) (n := 1) (by kernel_rfl) rfl ?_
  have tail : ∀ (e : Env) (w1 : World) (rest : List UInt8), rest = restL v → rest.length ≤ 140737488351299 → Ext w w1 → e 1 = pt w.heap.size 0 → e 3 = .string (bts rest) → hp w1 w.heap.size = some (.cells #[i64 v.key, i64 v.tag.t, i64 v.tag.p, .slice a v.past.length c, .string v.text, .bool v.gone] 45 (0, 0)) → Ret (spec_l2Put_j1 e w1) Q := by
    intro e w1 rest hr hrl E1 e1 e3 X1
    have zE1 := E1.size
    try simp only [World.size_alloc, size_setRow, dw_size] at zE1
    have y1 := hp_lt X1
    rw [spec_l2Put_j1_eq]
    simp (maxSteps := 1000000) (disch := first | assumption | omega | (simp only [World.size_alloc, size_setRow, dw_size]; done) | (simp only [World.size_alloc, size_setRow, dw_size] <;> omega) | (simp only [List.length_set, Array.length_toList, List.length_cons, List.length_nil, List.length_append, bts_size] <;> omega) | (simp only [List.all_cons, List.all_nil, Value.oneCell', Bool.and_self, Bool.and_true]; done)) [-Option.bind_some, hp_alloc_lt, hp_alloc_eq, hp_set_ne, wrap_small, ups_ap_cons, ups_ap_nil, upd_same, upd_other, env0_ap0, env0_aps, xt_a, xt_b, xt_c, -splice_eq, -stR_cells, stR_box, stR_boxA, stR_row, stR_row0, stR_row1, stR_rowA, stR_rowA0, splice_rowv, splice_rowv0, splice_rowv1, splice_z, splice_n, splice_s, nth_rowv, nth_rowv0, nth_rowv1, rowv_len, e1, e3, X1, hk, E1.blk, e1, e3, X1]
    refine Ret.bind (spec_l1Dec_m k (by omega) _) ?_
    rintro ⟨_, w2⟩ ⟨rfl, E2⟩
    try dsimp only at E2
    have zE2 := E2.size
    try simp only [World.size_alloc, size_setRow, dw_size] at zE2
    simp (maxSteps := 1000000) (disch := first | assumption | omega | (simp only [World.size_alloc, size_setRow, dw_size]; done) | (simp only [World.size_alloc, size_setRow, dw_size] <;> omega) | (simp only [List.length_set, Array.length_toList, List.length_cons, List.length_nil, List.length_append, bts_size] <;> omega) | (simp only [List.all_cons, List.all_nil, Value.oneCell', Bool.and_self, Bool.and_true]; done)) [-Option.bind_some, hp_alloc_lt, hp_alloc_eq, hp_set_ne, wrap_small, ups_ap_cons, ups_ap_nil, upd_same, upd_other, env0_ap0, env0_aps, xt_a, xt_b, xt_c, -splice_eq, -stR_cells, stR_box, stR_boxA, stR_row, stR_row0, stR_row1, stR_rowA, stR_rowA0, splice_rowv, splice_rowv0, splice_rowv1, splice_z, splice_n, splice_s, nth_rowv, nth_rowv0, nth_rowv1, rowv_len, e1, e3, X1, mk_bts, bo_add_btx, bts_list, E1.blk, e1, e3, X1, E2.blk]
    refine Ret.bind (spec_l1Put_m a7 _) ?_
    rintro ⟨_, w3⟩ ⟨rfl, E3⟩
    try dsimp only at E3
    have zE3 := E3.size
    try simp only [World.size_alloc, size_setRow, dw_size] at zE3
    simp (maxSteps := 1000000) (disch := first | assumption | omega | (simp only [World.size_alloc, size_setRow, dw_size]; done) | (simp only [World.size_alloc, size_setRow, dw_size] <;> omega) | (simp only [List.length_set, Array.length_toList, List.length_cons, List.length_nil, List.length_append, bts_size] <;> omega) | (simp only [List.all_cons, List.all_nil, Value.oneCell', Bool.and_self, Bool.and_true]; done)) [-Option.bind_some, hp_alloc_lt, hp_alloc_eq, hp_set_ne, wrap_small, ups_ap_cons, ups_ap_nil, upd_same, upd_other, env0_ap0, env0_aps, xt_a, xt_b, xt_c, -splice_eq, -stR_cells, stR_box, stR_boxA, stR_row, stR_row0, stR_row1, stR_rowA, stR_rowA0, splice_rowv, splice_rowv0, splice_rowv1, splice_z, splice_n, splice_s, nth_rowv, nth_rowv0, nth_rowv1, rowv_len, e1, e3, X1, mk_bts, bo_add_btx, bts_list, E1.blk, e1, e3, X1, E2.blk, E3.blk]
    refine Ret.bind (spec_l2Past_m a5 (by omega) (hpp.ext (by (repeat (first | exact Ext.rfl | assumption | (refine Ext.al ?_ _) | (refine Ext.dw ?_) | (refine Ext.set ?_ (by first | omega | (simp only [World.size_alloc, size_setRow, dw_size]; omega)) _) | (refine Ext.tr ?_ (by assumption))))))) ?_
    rintro ⟨_, w4⟩ ⟨rfl, E4⟩
    try dsimp only at E4
    have zE4 := E4.size
    try simp only [World.size_alloc, size_setRow, dw_size] at zE4
    simp (maxSteps := 1000000) (disch := first | assumption | omega | (simp only [World.size_alloc, size_setRow, dw_size]; done) | (simp only [World.size_alloc, size_setRow, dw_size] <;> omega) | (simp only [List.length_set, Array.length_toList, List.length_cons, List.length_nil, List.length_append, bts_size] <;> omega) | (simp only [List.all_cons, List.all_nil, Value.oneCell', Bool.and_self, Bool.and_true]; done)) [-Option.bind_some, hp_alloc_lt, hp_alloc_eq, hp_set_ne, wrap_small, ups_ap_cons, ups_ap_nil, upd_same, upd_other, env0_ap0, env0_aps, xt_a, xt_b, xt_c, -splice_eq, -stR_cells, stR_box, stR_boxA, stR_row, stR_row0, stR_row1, stR_rowA, stR_rowA0, splice_rowv, splice_rowv0, splice_rowv1, splice_z, splice_n, splice_s, nth_rowv, nth_rowv0, nth_rowv1, rowv_len, e1, e3, X1, mk_bts, bo_add_btx, bts_list, E1.blk, e1, e3, X1, E2.blk, E3.blk, E4.blk]
    exact hQ _ ⟨by rw [← hr]; simp, by (repeat (first | exact Ext.rfl | assumption | (refine Ext.al ?_ _) | (refine Ext.dw ?_) | (refine Ext.set ?_ (by first | omega | (simp only [World.size_alloc, size_setRow, dw_size]; omega)) _) | (refine Ext.tr ?_ (by assumption))))⟩
  have hs : (bts ([61] ++ v.text.toList)).size ≤ 140737488351299 := by rw [bts_size, List.length_append, hbl]; simp; omega
  cases hg : v.gone
  · simp (maxSteps := 1000000) (disch := first | assumption | omega | (simp only [World.size_alloc, size_setRow, dw_size]; done) | (simp only [World.size_alloc, size_setRow, dw_size] <;> omega) | (simp only [List.length_set, Array.length_toList, List.length_cons, List.length_nil, List.length_append, bts_size] <;> omega) | (simp only [List.all_cons, List.all_nil, Value.oneCell', Bool.and_self, Bool.and_true]; done)) [-Option.bind_some, hp_alloc_lt, hp_alloc_eq, hp_set_ne, wrap_small, ups_ap_cons, ups_ap_nil, upd_same, upd_other, env0_ap0, env0_aps, xt_a, xt_b, xt_c, -splice_eq, -stR_cells, stR_box, stR_boxA, stR_row, stR_row0, stR_row1, stR_rowA, stR_rowA0, splice_rowv, splice_rowv0, splice_rowv1, splice_z, splice_n, splice_s, nth_rowv, nth_rowv0, nth_rowv1, rowv_len, hg, mk_bts, bo_add_btx]
    exact tail _ _ ([61] ++ v.text.toList) (by simp [restL, hg]) (by rw [List.length_append, hbl]; simp; omega) (by (repeat (first | exact Ext.rfl | assumption | (refine Ext.al ?_ _) | (refine Ext.dw ?_) | (refine Ext.set ?_ (by first | omega | (simp only [World.size_alloc, size_setRow, dw_size]; omega)) _) | (refine Ext.tr ?_ (by assumption))))) rfl rfl (by first | assumption | rfl | (simp (maxSteps := 1000000) (disch := first | assumption | omega | (simp only [World.size_alloc, size_setRow, dw_size]; done) | (simp only [World.size_alloc, size_setRow, dw_size] <;> omega) | (simp only [List.length_set, Array.length_toList, List.length_cons, List.length_nil, List.length_append, bts_size] <;> omega) | (simp only [List.all_cons, List.all_nil, Value.oneCell', Bool.and_self, Bool.and_true]; done)) [-Option.bind_some, hp_alloc_lt, hp_alloc_eq, hp_set_ne, wrap_small, ups_ap_cons, ups_ap_nil, upd_same, upd_other, env0_ap0, env0_aps, xt_a, xt_b, xt_c, -splice_eq, -stR_cells, stR_box, stR_boxA, stR_row, stR_row0, stR_row1, stR_rowA, stR_rowA0, splice_rowv, splice_rowv0, splice_rowv1, splice_z, splice_n, splice_s, nth_rowv, nth_rowv0, nth_rowv1, rowv_len, hg]; done))
  · simp (maxSteps := 1000000) (disch := first | assumption | omega | (simp only [World.size_alloc, size_setRow, dw_size]; done) | (simp only [World.size_alloc, size_setRow, dw_size] <;> omega) | (simp only [List.length_set, Array.length_toList, List.length_cons, List.length_nil, List.length_append, bts_size] <;> omega) | (simp only [List.all_cons, List.all_nil, Value.oneCell', Bool.and_self, Bool.and_true]; done)) [-Option.bind_some, hp_alloc_lt, hp_alloc_eq, hp_set_ne, wrap_small, ups_ap_cons, ups_ap_nil, upd_same, upd_other, env0_ap0, env0_aps, xt_a, xt_b, xt_c, -splice_eq, -stR_cells, stR_box, stR_boxA, stR_row, stR_row0, stR_row1, stR_rowA, stR_rowA0, splice_rowv, splice_rowv0, splice_rowv1, splice_z, splice_n, splice_s, nth_rowv, nth_rowv0, nth_rowv1, rowv_len, hg, mk_bts, bo_add_btx]
    exact tail _ _ [45] (by simp [restL, hg]) (by simp) (by (repeat (first | exact Ext.rfl | assumption | (refine Ext.al ?_ _) | (refine Ext.dw ?_) | (refine Ext.set ?_ (by first | omega | (simp only [World.size_alloc, size_setRow, dw_size]; omega)) _) | (refine Ext.tr ?_ (by assumption))))) rfl rfl (by first | assumption | rfl | (simp (maxSteps := 1000000) (disch := first | assumption | omega | (simp only [World.size_alloc, size_setRow, dw_size]; done) | (simp only [World.size_alloc, size_setRow, dw_size] <;> omega) | (simp only [List.length_set, Array.length_toList, List.length_cons, List.length_nil, List.length_append, bts_size] <;> omega) | (simp only [List.all_cons, List.all_nil, Value.oneCell', Bool.and_self, Bool.and_true]; done)) [-Option.bind_some, hp_alloc_lt, hp_alloc_eq, hp_set_ne, wrap_small, ups_ap_cons, ups_ap_nil, upd_same, upd_other, env0_ap0, env0_aps, xt_a, xt_b, xt_c, -splice_eq, -stR_cells, stR_box, stR_boxA, stR_row, stR_row0, stR_row1, stR_rowA, stR_rowA0, splice_rowv, splice_rowv0, splice_rowv1, splice_z, splice_n, splice_s, nth_rowv, nth_rowv0, nth_rowv1, rowv_len, hg]; done))
theorem spec_l2Same_m {S S' : Nat → Prop} {cs ds : List Value} {v u : Ver} {w : World} (hv : verOk v = true) (hu : verOk u = true) (ha : D tVer S w cs v) (hb : D tVer S' w ds u) : Ret (EV P 140 #[.agg cs.toArray, .agg ds.toArray] w) fun r => r.1 = .bool (verEq v u) ∧ Ext w r.2 := by
  have ha0 := ha
  have hb0 := hb
  obtain ⟨a, c, rfl, hpp, ht⟩ := D.ver.1 ha
  obtain ⟨a', c', rfl, hp', ht'⟩ := D.ver.1 hb
  refine Ret.post fun Q hQ => ?_
  refine Ret.enter plain mixed (spec_l2Same_fn _ _ _) (by kernel_rfl) (n := 2) (by kernel_rfl) rfl ?_
  simp (maxSteps := 1000000) (disch := first | assumption | omega | (simp only [World.size_alloc, size_setRow, dw_size]; done) | (simp only [World.size_alloc, size_setRow, dw_size] <;> omega) | (simp only [List.length_set, Array.length_toList, List.length_cons, List.length_nil, List.length_append, bts_size] <;> omega) | (simp only [List.all_cons, List.all_nil, Value.oneCell', Bool.and_self, Bool.and_true]; done)) [-Option.bind_some, hp_alloc_lt, hp_alloc_eq, hp_set_ne, wrap_small, ups_ap_cons, ups_ap_nil, upd_same, upd_other, env0_ap0, env0_aps, xt_a, xt_b, xt_c, -splice_eq, -stR_cells, stR_box, stR_boxA, stR_row, stR_row0, stR_row1, stR_rowA, stR_rowA0, splice_rowv, splice_rowv0, splice_rowv1, splice_z, splice_n, splice_s, nth_rowv, nth_rowv0, nth_rowv1, rowv_len]
  refine Ret.bind (spec_l2Put_m hv (ha0.ext (by (repeat (first | exact Ext.rfl | assumption | (refine Ext.al ?_ _) | (refine Ext.dw ?_) | (refine Ext.set ?_ (by first | omega | (simp only [World.size_alloc, size_setRow, dw_size]; omega)) _) | (refine Ext.tr ?_ (by assumption))))))) ?_
  rintro ⟨_, w1⟩ ⟨rfl, E1⟩
  try dsimp only at E1
  have zE1 := E1.size
  try simp only [World.size_alloc, size_setRow, dw_size] at zE1
  simp (maxSteps := 1000000) (disch := first | assumption | omega | (simp only [World.size_alloc, size_setRow, dw_size]; done) | (simp only [World.size_alloc, size_setRow, dw_size] <;> omega) | (simp only [List.length_set, Array.length_toList, List.length_cons, List.length_nil, List.length_append, bts_size] <;> omega) | (simp only [List.all_cons, List.all_nil, Value.oneCell', Bool.and_self, Bool.and_true]; done)) [-Option.bind_some, hp_alloc_lt, hp_alloc_eq, hp_set_ne, wrap_small, ups_ap_cons, ups_ap_nil, upd_same, upd_other, env0_ap0, env0_aps, xt_a, xt_b, xt_c, -splice_eq, -stR_cells, stR_box, stR_boxA, stR_row, stR_row0, stR_row1, stR_rowA, stR_rowA0, splice_rowv, splice_rowv0, splice_rowv1, splice_z, splice_n, splice_s, nth_rowv, nth_rowv0, nth_rowv1, rowv_len, E1.blk]
  refine Ret.bind (spec_l2Put_m hu (hb0.ext (by (repeat (first | exact Ext.rfl | assumption | (refine Ext.al ?_ _) | (refine Ext.dw ?_) | (refine Ext.set ?_ (by first | omega | (simp only [World.size_alloc, size_setRow, dw_size]; omega)) _) | (refine Ext.tr ?_ (by assumption))))))) ?_
  rintro ⟨_, w2⟩ ⟨rfl, E2⟩
  try dsimp only at E2
  have zE2 := E2.size
  try simp only [World.size_alloc, size_setRow, dw_size] at zE2
  simp (maxSteps := 1000000) (disch := first | assumption | omega | (simp only [World.size_alloc, size_setRow, dw_size]; done) | (simp only [World.size_alloc, size_setRow, dw_size] <;> omega) | (simp only [List.length_set, Array.length_toList, List.length_cons, List.length_nil, List.length_append, bts_size] <;> omega) | (simp only [List.all_cons, List.all_nil, Value.oneCell', Bool.and_self, Bool.and_true]; done)) [-Option.bind_some, hp_alloc_lt, hp_alloc_eq, hp_set_ne, wrap_small, ups_ap_cons, ups_ap_nil, upd_same, upd_other, env0_ap0, env0_aps, xt_a, xt_b, xt_c, -splice_eq, -stR_cells, stR_box, stR_boxA, stR_row, stR_row0, stR_row1, stR_rowA, stR_rowA0, splice_rowv, splice_rowv0, splice_rowv1, splice_z, splice_n, splice_s, nth_rowv, nth_rowv0, nth_rowv1, rowv_len, bts_list, verL_eq hv hu, E1.blk, E2.blk]
  exact hQ _ ⟨rfl, by (repeat (first | exact Ext.rfl | assumption | (refine Ext.al ?_ _) | (refine Ext.dw ?_) | (refine Ext.set ?_ (by first | omega | (simp only [World.size_alloc, size_setRow, dw_size]; omega)) _) | (refine Ext.tr ?_ (by assumption))))⟩
end Go.Proofs.YthicfemhpnnaaaaGreat.X
