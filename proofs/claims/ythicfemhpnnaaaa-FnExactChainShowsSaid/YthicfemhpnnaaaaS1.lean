/- A part of the proof: an evaluator of the model, its laws, and contracts of functions; no condition. -/
import Derived.Test.YthicfemhpnnaaaaG10
set_option linter.unusedVariables false
set_option linter.unusedSimpArgs false
set_option maxRecDepth 100000
set_option maxHeartbeats 1000000
namespace Go.Proofs.Ythicfemhpnnaaaa.X
open Go Go.Ev Go.RowKit
abbrev tNode : Lay CNode := LNode 46 48
abbrev tNodes : Lay (List CNode) := LNodes 46 48 59
noncomputable def MNode : Mk CNode := ⟨fun k n => ⟨MVer.mkL k n.store, MVer.mkL (MVer.nxL k n.store) n.wait⟩, fun k n => MVer.nxL (MVer.nxL k n.store) n.wait, fun n => MVer.wtL n.store + MVer.wtL n.wait,
  fun k n => Int.le_trans (Mk.nxL_le n.store k) (Mk.nxL_le n.wait _)⟩
theorem MNode_small : MNode.Small := fun k n => by
  have h1 := Mk.nxL_small MVer_small n.store k
  have h2 := Mk.nxL_small MVer_small n.wait (MVer.nxL k n.store)
  show MVer.nxL (MVer.nxL k n.store) n.wait ≤ k + 10 * (1 + ((MVer.wtL n.store + MVer.wtL n.wait : Nat) : Int))
  omega
theorem MNode_mk (k : Int) (n : CNode) : MNode.mk k n = ⟨MVer.mkL k n.store, MVer.mkL (MVer.nxL k n.store) n.wait⟩ := rfl
noncomputable def MChain : Mk (List CNode) := MNode.list
theorem MChain_le (k : Int) (x : List CNode) : k ≤ MChain.nx k x ∧ MChain.nx k x ≤ k + 10 * MChain.wt x := ⟨Mk.nxL_le _ _, Mk.nxL_small MNode_small _ _⟩
theorem zero_Node (w : World) : O tNode (fun _ => False) w [.slice none 0 0, .slice none 0 0] ⟨[], []⟩ :=
  (O.node_mk (v := ⟨[], []⟩) (S1 := fun _ => False) (S2 := fun _ => False) O.nil O.nil (fun _ _ h => h.elim)).wide fun b h _ => h.elim id id
theorem laws_szNode_m {n : Int} (h0 : -1 ≤ n) (h1 : n ≤ 1048576) {S : Nat → Prop} {cs : List Value} {x : CNode} {w : World} (ha : D tNode S w cs x) :
    Ret (EV P 102 #[.agg cs.toArray, i64 n] w) fun r => ∃ m, r.1 = i64 m ∧ -1 ≤ m ∧ m ≤ 1048576 ∧ (0 ≤ m → m + MNode.wt x ≤ n) ∧ Ext w r.2 := by
  obtain ⟨a, c, a', c', rfl, h2, h3⟩ := D.node.1 ha
  refine Ret.post fun Q hQ => ?_
  refine Ret.enter plain mixed (laws_szNode_fn _ _ _) (by kernel_rfl) (n := 2) (by kernel_rfl) rfl ?_
  simp (disch := first | assumption | omega | (simp only [World.size_alloc, size_setRow, dw_size]; done) | (simp only [World.size_alloc, size_setRow, dw_size] <;> omega) | (simp only [List.length_set, Array.length_toList, List.length_cons, List.length_nil, List.length_append, bts_size] <;> omega) | (simp only [List.all_cons, List.all_nil, Value.oneCell', Bool.and_self, Bool.and_true]; done)) [-Option.bind_some, hp_alloc_lt, hp_alloc_eq, hp_set_ne, wrap_small, ups_ap_cons, ups_ap_nil, upd_same, upd_other, env0_ap0, env0_aps, xt_a, xt_b, xt_c]
  refine Ret.bind (laws_szStore_m h0 h1 (h2.ext (by (repeat (first | exact Ext.rfl | assumption | (refine Ext.al ?_ _) | (refine Ext.dw ?_) | (refine Ext.set ?_ (by first | omega | (simp only [World.size_alloc, size_setRow, dw_size]; omega)) _) | (refine Ext.tr ?_ (by assumption))))))) ?_
  rintro ⟨_, w1⟩ ⟨m1, rfl, b1, b2, b3, E1⟩
  try dsimp only at m1 b1 b2 b3 E1
  have zE1 := E1.size
  try simp only [World.size_alloc, size_setRow, dw_size] at zE1
  by_cases g1 : m1 < 0
  · simp (disch := first | assumption | omega | (simp only [World.size_alloc, size_setRow, dw_size]; done) | (simp only [World.size_alloc, size_setRow, dw_size] <;> omega) | (simp only [List.length_set, Array.length_toList, List.length_cons, List.length_nil, List.length_append, bts_size] <;> omega) | (simp only [List.all_cons, List.all_nil, Value.oneCell', Bool.and_self, Bool.and_true]; done)) [-Option.bind_some, hp_alloc_lt, hp_alloc_eq, hp_set_ne, wrap_small, ups_ap_cons, ups_ap_nil, upd_same, upd_other, env0_ap0, env0_aps, xt_a, xt_b, xt_c, g1, E1.blk]
    exact hQ _ ⟨-1, rfl, by omega, by omega, by omega, by (repeat (first | exact Ext.rfl | assumption | (refine Ext.al ?_ _) | (refine Ext.dw ?_) | (refine Ext.set ?_ (by first | omega | (simp only [World.size_alloc, size_setRow, dw_size]; omega)) _) | (refine Ext.tr ?_ (by assumption))))⟩
  simp (disch := first | assumption | omega | (simp only [World.size_alloc, size_setRow, dw_size]; done) | (simp only [World.size_alloc, size_setRow, dw_size] <;> omega) | (simp only [List.length_set, Array.length_toList, List.length_cons, List.length_nil, List.length_append, bts_size] <;> omega) | (simp only [List.all_cons, List.all_nil, Value.oneCell', Bool.and_self, Bool.and_true]; done)) [-Option.bind_some, hp_alloc_lt, hp_alloc_eq, hp_set_ne, wrap_small, ups_ap_cons, ups_ap_nil, upd_same, upd_other, env0_ap0, env0_aps, xt_a, xt_b, xt_c, g1, E1.blk]
  refine Ret.bind (laws_szVerS_m b1 b2 (h3.ext (by (repeat (first | exact Ext.rfl | assumption | (refine Ext.al ?_ _) | (refine Ext.dw ?_) | (refine Ext.set ?_ (by first | omega | (simp only [World.size_alloc, size_setRow, dw_size]; omega)) _) | (refine Ext.tr ?_ (by assumption))))))) ?_
  rintro ⟨_, w2⟩ ⟨m2, rfl, b4, b5, b6, E2⟩
  try dsimp only at m2 b4 b5 b6 E2
  have zE2 := E2.size
  try simp only [World.size_alloc, size_setRow, dw_size] at zE2
  by_cases g2 : m2 < 0
  · simp (disch := first | assumption | omega | (simp only [World.size_alloc, size_setRow, dw_size]; done) | (simp only [World.size_alloc, size_setRow, dw_size] <;> omega) | (simp only [List.length_set, Array.length_toList, List.length_cons, List.length_nil, List.length_append, bts_size] <;> omega) | (simp only [List.all_cons, List.all_nil, Value.oneCell', Bool.and_self, Bool.and_true]; done)) [-Option.bind_some, hp_alloc_lt, hp_alloc_eq, hp_set_ne, wrap_small, ups_ap_cons, ups_ap_nil, upd_same, upd_other, env0_ap0, env0_aps, xt_a, xt_b, xt_c, g2, E1.blk, E2.blk]
    exact hQ _ ⟨-1, rfl, by omega, by omega, by omega, by (repeat (first | exact Ext.rfl | assumption | (refine Ext.al ?_ _) | (refine Ext.dw ?_) | (refine Ext.set ?_ (by first | omega | (simp only [World.size_alloc, size_setRow, dw_size]; omega)) _) | (refine Ext.tr ?_ (by assumption))))⟩
  simp (disch := first | assumption | omega | (simp only [World.size_alloc, size_setRow, dw_size]; done) | (simp only [World.size_alloc, size_setRow, dw_size] <;> omega) | (simp only [List.length_set, Array.length_toList, List.length_cons, List.length_nil, List.length_append, bts_size] <;> omega) | (simp only [List.all_cons, List.all_nil, Value.oneCell', Bool.and_self, Bool.and_true]; done)) [-Option.bind_some, hp_alloc_lt, hp_alloc_eq, hp_set_ne, wrap_small, ups_ap_cons, ups_ap_nil, upd_same, upd_other, env0_ap0, env0_aps, xt_a, xt_b, xt_c, g2, E1.blk, E2.blk]
  have k1 := b3 (by omega)
  have k2 := b6 (by omega)
  exact hQ _ ⟨m2, rfl, by omega, by omega, fun _ => by show m2 + ((MStore.wt x.store + MStore.wt x.wait : Nat) : Int) ≤ n; omega, by (repeat (first | exact Ext.rfl | assumption | (refine Ext.al ?_ _) | (refine Ext.dw ?_) | (refine Ext.set ?_ (by first | omega | (simp only [World.size_alloc, size_setRow, dw_size]; omega)) _) | (refine Ext.tr ?_ (by assumption))))⟩
theorem laws_toNode_m {S : Nat → Prop} {cs : List Value} {x : CNode} {w : World} (ha : D tNode S w cs x) :
    Ret (EV P 105 #[.agg cs.toArray] w) fun r => ∃ ds, r.1 = .agg ds.toArray ∧ O tNode (In w.heap.size r.2.heap.size) r.2 ds x ∧ Ext w r.2 := by
  obtain ⟨a, c, a', c', rfl, h2, h3⟩ := D.node.1 ha
  refine Ret.post fun Q hQ => ?_
  refine Ret.enter plain mixed (laws_toNode_fn _ _) (by kernel_rfl) (n := 1) (by kernel_rfl) rfl ?_
  simp (disch := first | assumption | omega | (simp only [World.size_alloc, size_setRow, dw_size]; done) | (simp only [World.size_alloc, size_setRow, dw_size] <;> omega) | (simp only [List.length_set, Array.length_toList, List.length_cons, List.length_nil, List.length_append, bts_size] <;> omega) | (simp only [List.all_cons, List.all_nil, Value.oneCell', Bool.and_self, Bool.and_true]; done)) [-Option.bind_some, hp_alloc_lt, hp_alloc_eq, hp_set_ne, wrap_small, ups_ap_cons, ups_ap_nil, upd_same, upd_other, env0_ap0, env0_aps, xt_a, xt_b, xt_c, -splice_eq, -stR_cells, stR_box, stR_boxA, stR_row, stR_row0, stR_row1, stR_rowA, stR_rowA0, splice_rowv, splice_rowv0, splice_rowv1, splice_z, splice_n, splice_s, nth_rowv, nth_rowv0, nth_rowv1, rowv_len]
  refine Ret.bind (laws_toStore_m (h2.ext (by (repeat (first | exact Ext.rfl | assumption | (refine Ext.al ?_ _) | (refine Ext.dw ?_) | (refine Ext.set ?_ (by first | omega | (simp only [World.size_alloc, size_setRow, dw_size]; omega)) _) | (refine Ext.tr ?_ (by assumption))))))) ?_
  rintro ⟨_, w1⟩ ⟨d1, rfl, o1, E1⟩
  try dsimp only at d1 o1 E1
  have zE1 := E1.size
  try simp only [World.size_alloc, size_setRow, dw_size] at zE1
  obtain ⟨a1, c1, rfl, o1⟩ := o1.sl'
  simp (disch := first | assumption | omega | (simp only [World.size_alloc, size_setRow, dw_size]; done) | (simp only [World.size_alloc, size_setRow, dw_size] <;> omega) | (simp only [List.length_set, Array.length_toList, List.length_cons, List.length_nil, List.length_append, bts_size] <;> omega) | (simp only [List.all_cons, List.all_nil, Value.oneCell', Bool.and_self, Bool.and_true]; done)) [-Option.bind_some, hp_alloc_lt, hp_alloc_eq, hp_set_ne, wrap_small, ups_ap_cons, ups_ap_nil, upd_same, upd_other, env0_ap0, env0_aps, xt_a, xt_b, xt_c, -splice_eq, -stR_cells, stR_box, stR_boxA, stR_row, stR_row0, stR_row1, stR_rowA, stR_rowA0, splice_rowv, splice_rowv0, splice_rowv1, splice_z, splice_n, splice_s, nth_rowv, nth_rowv0, nth_rowv1, rowv_len, E1.blk]
  refine Ret.bind (laws_toVerS_m (h3.ext (by (repeat (first | exact Ext.rfl | assumption | (refine Ext.al ?_ _) | (refine Ext.dw ?_) | (refine Ext.set ?_ (by first | omega | (simp only [World.size_alloc, size_setRow, dw_size]; omega)) _) | (refine Ext.tr ?_ (by assumption))))))) ?_
  rintro ⟨_, w2⟩ ⟨a2, c2, rfl, o2, E2⟩
  try dsimp only at a2 c2 o2 E2
  have zE2 := E2.size
  try simp only [World.size_alloc, size_setRow, dw_size] at zE2
  simp (disch := first | assumption | omega | (simp only [World.size_alloc, size_setRow, dw_size]; done) | (simp only [World.size_alloc, size_setRow, dw_size] <;> omega) | (simp only [List.length_set, Array.length_toList, List.length_cons, List.length_nil, List.length_append, bts_size] <;> omega) | (simp only [List.all_cons, List.all_nil, Value.oneCell', Bool.and_self, Bool.and_true]; done)) [-Option.bind_some, hp_alloc_lt, hp_alloc_eq, hp_set_ne, wrap_small, ups_ap_cons, ups_ap_nil, upd_same, upd_other, env0_ap0, env0_aps, xt_a, xt_b, xt_c, -splice_eq, -stR_cells, stR_box, stR_boxA, stR_row, stR_row0, stR_row1, stR_rowA, stR_rowA0, splice_rowv, splice_rowv0, splice_rowv1, splice_z, splice_n, splice_s, nth_rowv, nth_rowv0, nth_rowv1, rowv_len, E1.blk, E2.blk]
  refine hQ _ ⟨_, rfl, (O.node_mk (v := x) (o1.keep (by intro b hS hb; (try dsimp only at hS); (try simp only [In, World.size_alloc, size_setRow, dw_size] at hS hb); first | rfl | (simp (disch := first | assumption | omega | (simp only [World.size_alloc, size_setRow, dw_size]; omega) | (simp only [World.size_alloc, size_setRow, dw_size, In]; omega)) only [E1.blk, E2.blk, hp_alloc_lt, hp_set_ne, hp_dw]; done))) (o2.keep (by intro b hS hb; (try dsimp only at hS); (try simp only [In, World.size_alloc, size_setRow, dw_size] at hS hb); first | rfl | (simp (disch := first | assumption | omega | (simp only [World.size_alloc, size_setRow, dw_size]; omega) | (simp only [World.size_alloc, size_setRow, dw_size, In]; omega)) only [E1.blk, E2.blk, hp_alloc_lt, hp_set_ne, hp_dw]; done))) (by intro x hx h; (try dsimp only at h); (try simp only [In, World.size_alloc, size_setRow, dw_size] at *); omega)).wide (by intro b h1 h2; (try dsimp only at h1); (try simp only [In, World.size_alloc, size_setRow, dw_size] at *); omega), by (repeat (first | exact Ext.rfl | assumption | (refine Ext.al ?_ _) | (refine Ext.dw ?_) | (refine Ext.set ?_ (by first | omega | (simp only [World.size_alloc, size_setRow, dw_size]; omega)) _) | (refine Ext.tr ?_ (by assumption))))⟩
theorem laws_eqNode_m {S S' : Nat → Prop} {cs ds : List Value} {x : CNode} {w : World} (ha : D tNode S w cs x) (hb : D tNode S' w ds x) : Ret (EV P 95 #[.agg cs.toArray, .agg ds.toArray] w) fun r => r.1 = .bool true ∧ Ext w r.2 := by
  obtain ⟨a, c, a', c', rfl, h2, h3⟩ := D.node.1 ha
  obtain ⟨b, d, b', d', rfl, h4, h5⟩ := D.node.1 hb
  refine Ret.post fun Q hQ => ?_
  refine Ret.enter plain mixed (laws_eqNode_fn _ _ _) (by kernel_rfl) (n := 2) (by kernel_rfl) rfl ?_
  simp (disch := first | assumption | omega | (simp only [World.size_alloc, size_setRow, dw_size]; done) | (simp only [World.size_alloc, size_setRow, dw_size] <;> omega) | (simp only [List.length_set, Array.length_toList, List.length_cons, List.length_nil, List.length_append, bts_size] <;> omega) | (simp only [List.all_cons, List.all_nil, Value.oneCell', Bool.and_self, Bool.and_true]; done)) [-Option.bind_some, hp_alloc_lt, hp_alloc_eq, hp_set_ne, wrap_small, ups_ap_cons, ups_ap_nil, upd_same, upd_other, env0_ap0, env0_aps, xt_a, xt_b, xt_c]
  refine Ret.bind (laws_eqStore_m (h2.ext (by (repeat (first | exact Ext.rfl | assumption | (refine Ext.al ?_ _) | (refine Ext.dw ?_) | (refine Ext.set ?_ (by first | omega | (simp only [World.size_alloc, size_setRow, dw_size]; omega)) _) | (refine Ext.tr ?_ (by assumption)))))) (h4.ext (by (repeat (first | exact Ext.rfl | assumption | (refine Ext.al ?_ _) | (refine Ext.dw ?_) | (refine Ext.set ?_ (by first | omega | (simp only [World.size_alloc, size_setRow, dw_size]; omega)) _) | (refine Ext.tr ?_ (by assumption))))))) ?_
  rintro ⟨_, w1⟩ ⟨rfl, E1⟩
  try dsimp only at E1
  have zE1 := E1.size
  try simp only [World.size_alloc, size_setRow, dw_size] at zE1
  simp (disch := first | assumption | omega | (simp only [World.size_alloc, size_setRow, dw_size]; done) | (simp only [World.size_alloc, size_setRow, dw_size] <;> omega) | (simp only [List.length_set, Array.length_toList, List.length_cons, List.length_nil, List.length_append, bts_size] <;> omega) | (simp only [List.all_cons, List.all_nil, Value.oneCell', Bool.and_self, Bool.and_true]; done)) [-Option.bind_some, hp_alloc_lt, hp_alloc_eq, hp_set_ne, wrap_small, ups_ap_cons, ups_ap_nil, upd_same, upd_other, env0_ap0, env0_aps, xt_a, xt_b, xt_c, E1.blk]
  refine Ret.bind (laws_eqVerS_m (h3.ext (by (repeat (first | exact Ext.rfl | assumption | (refine Ext.al ?_ _) | (refine Ext.dw ?_) | (refine Ext.set ?_ (by first | omega | (simp only [World.size_alloc, size_setRow, dw_size]; omega)) _) | (refine Ext.tr ?_ (by assumption)))))) (h5.ext (by (repeat (first | exact Ext.rfl | assumption | (refine Ext.al ?_ _) | (refine Ext.dw ?_) | (refine Ext.set ?_ (by first | omega | (simp only [World.size_alloc, size_setRow, dw_size]; omega)) _) | (refine Ext.tr ?_ (by assumption))))))) ?_
  rintro ⟨_, w2⟩ ⟨rfl, E2⟩
  try dsimp only at E2
  have zE2 := E2.size
  try simp only [World.size_alloc, size_setRow, dw_size] at zE2
  simp (disch := first | assumption | omega | (simp only [World.size_alloc, size_setRow, dw_size]; done) | (simp only [World.size_alloc, size_setRow, dw_size] <;> omega) | (simp only [List.length_set, Array.length_toList, List.length_cons, List.length_nil, List.length_append, bts_size] <;> omega) | (simp only [List.all_cons, List.all_nil, Value.oneCell', Bool.and_self, Bool.and_true]; done)) [-Option.bind_some, hp_alloc_lt, hp_alloc_eq, hp_set_ne, wrap_small, ups_ap_cons, ups_ap_nil, upd_same, upd_other, env0_ap0, env0_aps, xt_a, xt_b, xt_c, E1.blk, E2.blk]
  exact hQ _ ⟨rfl, by (repeat (first | exact Ext.rfl | assumption | (refine Ext.al ?_ _) | (refine Ext.dw ?_) | (refine Ext.set ?_ (by first | omega | (simp only [World.size_alloc, size_setRow, dw_size]; omega)) _) | (refine Ext.tr ?_ (by assumption))))⟩
theorem laws_markNodeS_n {a : Option Addr} {c : Nat} {S : Nat → Prop} {xs : List CNode} {k0 : Int} (h0 : 0 ≤ k0) (hk : k0 + 10 * MNode.wtL xs ≤ 100000000000000) :
    ∀ (d j : Nat) (e : Env) (w : World), j + d = xs.length → e 0 = .slice a xs.length c → e 1 = i64 (MNode.at k0 xs j) → e 5 = i64 j → O tNodes S w [.slice a xs.length c] (MNode.part k0 xs j) →
    Ret (laws_markNodeS_l1 e w) fun r => r.1 = i64 (MNode.nxL k0 xs) ∧ O tNodes S r.2 [.slice a xs.length c] (MNode.mkL k0 xs) ∧ Mod S w r.2 := by
  intro d
  induction d with
  | zero =>
    intro j e w hd e0 e1 e5 ho
    rw [laws_markNodeS_l1_eq]
    obtain rfl : j = xs.length := by omega
    rw [Mk.part_end (Nat.le_refl _)] at ho
    rw [Mk.at_end (Nat.le_refl _)] at e1
    simp (disch := first | assumption | omega | (simp only [World.size_alloc, size_setRow, dw_size]; done) | (simp only [World.size_alloc, size_setRow, dw_size] <;> omega) | (simp only [List.length_set, Array.length_toList, List.length_cons, List.length_nil, List.length_append, bts_size] <;> omega) | (simp only [List.all_cons, List.all_nil, Value.oneCell', Bool.and_self, Bool.and_true]; done)) [-Option.bind_some, hp_alloc_lt, hp_alloc_eq, hp_set_ne, wrap_small, ups_ap_cons, ups_ap_nil, upd_same, upd_other, env0_ap0, env0_aps, xt_a, xt_b, xt_c, e0, e1, e5, e0, e1, e5]
    exact ⟨ho, Mod.rfl⟩
  | succ d ih =>
    intro j e w hd e0 e1 e5 ho
    rw [laws_markNodeS_l1_eq]
    have hlt : j < xs.length := by omega
    obtain ⟨x, hx, _⟩ := drop_at hlt
    have hq := Mk.at_small MNode_small xs k0 j
    have hq1 := Mk.at_small MNode_small xs k0 (j + 1)
    have hr : MNode.at k0 xs j + 10 * (1 + ((MVer.wtL x.store + MVer.wtL x.wait : Nat) : Int)) ≤ k0 + 10 * MNode.wtL xs := Mk.at_room MNode_small hx k0
    have hs : MNode.at k0 xs (j + 1) = MVer.nxL (MVer.nxL (MNode.at k0 xs j) x.store) x.wait := Mk.at_succ hx
    have hp := Mk.part_set (M := MNode) (k := k0) hx
    have hn := ho.n
    obtain ⟨g, cur, cs, S1, rfl, hSg, hgl, hg, hle, hx1, hS1, put⟩ := ho.row (by decide) (Mk.part_get hx)
    obtain ⟨a2, c2, a3, c3, S2, S3, rfl, hp2, hp3, hS2, hS3⟩ := O.node_un hx1
    simp only [LNode_n] at hg hle put
    have hng2 : ¬ S2 g := fun h => (hS1 g (hS2 g h).1).2.1 rfl
    have hng3 : ¬ S3 g := fun h => (hS1 g (hS3 g h).1).2.1 rfl
    generalize MNode.at k0 xs j = q at *
    have hm := MStore_le q x.store
    have hm2 := MStore_le (MVer.nxL q x.store) x.wait
    have ew1 : MStore.wt x.store = MVer.wtL x.store := rfl
    have ew2 : MStore.wt x.wait = MVer.wtL x.wait := rfl
    have en1 : MStore.nx q x.store = MVer.nxL q x.store := rfl
    have en2 : MStore.nx (MVer.nxL q x.store) x.wait = MVer.nxL (MVer.nxL q x.store) x.wait := rfl
    have hmk := MNode_mk q x
    simp (disch := first | assumption | omega | (simp only [World.size_alloc, size_setRow, dw_size]; done) | (simp only [World.size_alloc, size_setRow, dw_size] <;> omega) | (simp only [List.length_set, Array.length_toList, List.length_cons, List.length_nil, List.length_append, bts_size] <;> omega) | (simp only [List.all_cons, List.all_nil, Value.oneCell', Bool.and_self, Bool.and_true]; done)) [-Option.bind_some, hp_alloc_lt, hp_alloc_eq, hp_set_ne, wrap_small, ups_ap_cons, ups_ap_nil, upd_same, upd_other, env0_ap0, env0_aps, xt_a, xt_b, xt_c, -splice_eq, -stR_cells, stR_box, stR_boxA, stR_row, stR_row0, stR_row1, stR_rowA, stR_rowA0, splice_rowv, splice_rowv0, splice_rowv1, splice_z, splice_n, splice_s, nth_rowv, nth_rowv0, nth_rowv1, rowv_len, e0, e1, e5, hlt, ia_22, hg, e0, e1, e5, hlt, hg]
    refine Ret.bind (laws_markVerS_m (by omega) (by omega) hp2) ?_
    rintro ⟨_, w1⟩ ⟨rfl, o1, M1⟩
    try dsimp only at o1 M1
    have zM1 := M1.size
    try simp only [World.size_alloc, size_setRow, dw_size] at zM1
    simp (disch := first | assumption | omega | (simp only [World.size_alloc, size_setRow, dw_size]; done) | (simp only [World.size_alloc, size_setRow, dw_size] <;> omega) | (simp only [List.length_set, Array.length_toList, List.length_cons, List.length_nil, List.length_append, bts_size] <;> omega) | (simp only [List.all_cons, List.all_nil, Value.oneCell', Bool.and_self, Bool.and_true]; done)) [-Option.bind_some, hp_alloc_lt, hp_alloc_eq, hp_set_ne, wrap_small, ups_ap_cons, ups_ap_nil, upd_same, upd_other, env0_ap0, env0_aps, xt_a, xt_b, xt_c, -splice_eq, -stR_cells, stR_box, stR_boxA, stR_row, stR_row0, stR_row1, stR_rowA, stR_rowA0, splice_rowv, splice_rowv0, splice_rowv1, splice_z, splice_n, splice_s, nth_rowv, nth_rowv0, nth_rowv1, rowv_len, e0, e1, e5, hlt, ia_22, hg, e0, e1, e5, hlt, hg, M1.blk]
    have h23 : O tVers S3 w1 [.slice a3 x.wait.length c3] x.wait := hp3.mod M1 fun b _ h h' => (hS3 b h).2.1 h'
    refine Ret.bind (laws_markVerS_m (by omega) (by omega) h23) ?_
    rintro ⟨_, w2⟩ ⟨rfl, o2, M2⟩
    try dsimp only at o2 M2
    have zM2 := M2.size
    try simp only [World.size_alloc, size_setRow, dw_size] at zM2
    simp (disch := first | assumption | omega | (simp only [World.size_alloc, size_setRow, dw_size]; done) | (simp only [World.size_alloc, size_setRow, dw_size] <;> omega) | (simp only [List.length_set, Array.length_toList, List.length_cons, List.length_nil, List.length_append, bts_size] <;> omega) | (simp only [List.all_cons, List.all_nil, Value.oneCell', Bool.and_self, Bool.and_true]; done)) [-Option.bind_some, hp_alloc_lt, hp_alloc_eq, hp_set_ne, wrap_small, ups_ap_cons, ups_ap_nil, upd_same, upd_other, env0_ap0, env0_aps, xt_a, xt_b, xt_c, -splice_eq, -stR_cells, stR_box, stR_boxA, stR_row, stR_row0, stR_row1, stR_rowA, stR_rowA0, splice_rowv, splice_rowv0, splice_rowv1, splice_z, splice_n, splice_s, nth_rowv, nth_rowv0, nth_rowv1, rowv_len, e0, e1, e5, hlt, ia_22, hg, e0, e1, e5, hlt, hg, M1.blk, M2.blk]
    have o1' : O tVers S2 w2 [.slice a2 x.store.length c2] (MVer.mkL q x.store) := o1.mod M2 fun b _ h h' => (hS2 b h).2.1 h'
    refine Ret.mono (ih (j + 1) _ _ (by omega) (by first | omega | assumption | rfl | exact congrArg i64 (by omega) | (simp; done) | (simp; omega)) (by exact congrArg i64 hs.symm) (by first | omega | assumption | rfl | exact congrArg i64 (by omega) | (simp; done) | (simp; omega)) ?_) ?_
    · rw [← hp]
      have e1 : (MVer.mkL q x.store).length = x.store.length := Mk.mkL_length _ _
      have e2 : (MVer.mkL (MVer.nxL q x.store) x.wait).length = x.wait.length := Mk.mkL_length _ _
      refine (put w2 _ (MNode.mk q x) _ (O.node_mk (v := MNode.mk q x) o1' o2 ?_) ?_ ?_ ?_).wide ?_
      · exact fun b _ h h' => (hS2 b h).2.1 h'
      · rw [M2.blk g (by have := M1.size; omega) hng3, M1.blk g hgl hng2, hg]
      · intro b h1 h2 h3 h4
        by_cases k2 : S2 b
        · exact absurd (hS2 b k2).1 h4
        by_cases k3 : S3 b
        · exact absurd (hS3 b k3).1 h4
        rw [M2.blk b (by have := M1.size; omega) k3, M1.blk b h1 k2]
      · rintro b _ (h | h)
        · exact .inl (hS2 b h).1
        · exact .inl (hS3 b h).1
      · rintro b (h | h | h) _
        · exact h
        · exact (hS1 b (hS2 b h).1).1
        · exact (hS1 b (hS3 b h).1).1
    · rintro r ⟨h1, h2, h3⟩
      exact ⟨h1, h2, Mod.tr (Mod.after' (Mod.weak M1 fun b _ h => (hS1 b (hS2 b h).1).1) M2 fun b _ h => (hS1 b (hS3 b h).1).1) h3⟩
theorem laws_markNodeS_m {a : Option Addr} {n c : Nat} {S : Nat → Prop} {xs : List CNode} {k : Int} (h0 : 0 ≤ k) (hk : k + 10 * MNode.wtL xs ≤ 100000000000000) {w : World} (ho : O tNodes S w [.slice a n c] xs) :
    Ret (EV P 50 #[.slice a n c, i64 k] w) fun r => r.1 = i64 (MNode.nxL k xs) ∧ O tNodes S r.2 [.slice a n c] (MNode.mkL k xs) ∧ Mod S w r.2 := by
  obtain ⟨rfl, _⟩ := ho.n
  refine Ret.enter plain mixed (laws_markNodeS_fn _ _ _) (by kernel_rfl) (n := 2) (by kernel_rfl) rfl ?_
  simp (disch := first | assumption | omega | (simp only [World.size_alloc, size_setRow, dw_size]; done) | (simp only [World.size_alloc, size_setRow, dw_size] <;> omega) | (simp only [List.length_set, Array.length_toList, List.length_cons, List.length_nil, List.length_append, bts_size] <;> omega) | (simp only [List.all_cons, List.all_nil, Value.oneCell', Bool.and_self, Bool.and_true]; done)) [-Option.bind_some, hp_alloc_lt, hp_alloc_eq, hp_set_ne, wrap_small, ups_ap_cons, ups_ap_nil, upd_same, upd_other, env0_ap0, env0_aps, xt_a, xt_b, xt_c]
  exact laws_markNodeS_n h0 hk xs.length 0 _ w (by omega) rfl (by rw [Mk.at_zero]; rfl) rfl (by rw [Mk.part_zero]; exact ho)
end Go.Proofs.Ythicfemhpnnaaaa.X
