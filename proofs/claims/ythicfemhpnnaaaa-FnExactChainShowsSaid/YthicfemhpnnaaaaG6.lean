/- A part of the proof: an evaluator of the model, its laws, and contracts of functions; no condition. -/
import Derived.Test.YthicfemhpnnaaaaG5
set_option linter.unusedVariables false
set_option linter.unusedSimpArgs false
set_option maxRecDepth 100000
set_option maxHeartbeats 1000000
namespace Go.Proofs.Ythicfemhpnnaaaa.X
open Go Go.Ev Go.RowKit
theorem impl_Store_later_n {a : Option Addr} {n c : Nat} {S S1 : Nat → Prop} {xs : List Ver} {cs : List Value} {v u : Ver} {w : World} (ho : D tVers S w [.slice a n c] xs) (hv : D tVer S1 w cs v) (h0 : 0 ≤ v.key) (hu : xs[v.key.toNat]? = some u) :
    Ret (EV P 79 #[.agg #[.slice a n c], .agg cs.toArray] w) fun r => r.1 = .bool (tagLess u.tag v.tag) ∧ Ext w r.2 := by
  obtain ⟨rfl, hm, _⟩ := ho.n
  obtain ⟨av, cv, rfl, hv1, hv2⟩ := D.ver.1 hv
  have h1 : v.key.toNat < xs.length := (List.getElem?_eq_some_iff.1 hu).1
  obtain ⟨b1, o1, cs1, rfl, A1, D1, _, l1⟩ := ho.at (by decide) hu
  obtain ⟨a2, c2, rfl, hp2, ht⟩ := D.ver.1 D1
  have p0 := A1 0 _ rfl
  have p1 := A1 1 _ rfl
  have p2 := A1 2 _ rfl
  have p3 := A1 3 _ rfl
  have p4 := A1 4 _ rfl
  have p5 := A1 5 _ rfl
  simp only [LVer_n, LTag_n, LNode_n, Nat.add_zero] at p0 p1 p2 p3 p4 p5
  have hk : v.key < xs.length := by omega
  refine Ret.enter plain mixed (impl_Store_later_fn _ _ _) (by kernel_rfl) (n := 2) (by kernel_rfl) rfl ?_
  simp (disch := first | assumption | omega | (simp only [World.size_alloc, size_setRow, dw_size]; done) | (simp only [World.size_alloc, size_setRow, dw_size] <;> omega) | (simp only [List.length_set, Array.length_toList, List.length_cons, List.length_nil, List.length_append, bts_size] <;> omega) | (simp only [List.all_cons, List.all_nil, Value.oneCell', Bool.and_self, Bool.and_true]; done)) [-Option.bind_some, hp_alloc_lt, hp_alloc_eq, hp_set_ne, wrap_small, ups_ap_cons, ups_ap_nil, upd_same, upd_other, env0_ap0, env0_aps, xt_a, xt_b, xt_c, ia_55, p0, p1, p2, p3, p4, p5]
  refine Ret.bind (impl_TagLess_c u.tag v.tag _) ?_
  rintro ⟨_, w1⟩ ⟨rfl, E1⟩
  try dsimp only at E1
  have zE1 := E1.size
  try simp only [World.size_alloc, size_setRow, dw_size] at zE1
  simp (disch := first | assumption | omega | (simp only [World.size_alloc, size_setRow, dw_size]; done) | (simp only [World.size_alloc, size_setRow, dw_size] <;> omega) | (simp only [List.length_set, Array.length_toList, List.length_cons, List.length_nil, List.length_append, bts_size] <;> omega) | (simp only [List.all_cons, List.all_nil, Value.oneCell', Bool.and_self, Bool.and_true]; done)) [-Option.bind_some, hp_alloc_lt, hp_alloc_eq, hp_set_ne, wrap_small, ups_ap_cons, ups_ap_nil, upd_same, upd_other, env0_ap0, env0_aps, xt_a, xt_b, xt_c, p0, p1, p2, p3, p4, p5, E1.blk]
  (repeat (first | exact Ext.rfl | assumption | (refine Ext.al ?_ _) | (refine Ext.dw ?_) | (refine Ext.set ?_ (by first | omega | (simp only [World.size_alloc, size_setRow, dw_size]; omega)) _) | (refine Ext.tr ?_ (by assumption))))
theorem verOk_key {v : Ver} (h : verOk v = true) : 0 ≤ v.key ∧ v.key ≤ 3 := by
  simp only [verOk, verWr, keyOk, Bool.and_eq_true, decide_eq_true_eq] at h
  omega
end Go.Proofs.Ythicfemhpnnaaaa.X
