/- A part of the proof: an evaluator of the model, its laws, and contracts of functions; no condition. -/
import Derived.Test.YthicfemhpnnaaaaG9
set_option linter.unusedVariables false
set_option linter.unusedSimpArgs false
set_option maxRecDepth 100000
set_option maxHeartbeats 4000000
namespace Go.Proofs.Ythicfemhpnnaaaa.X
open Go Go.Ev Go.RowKit
theorem MPast_le (k : Int) (x : List Tag) : k ≤ MPast.nx k x ∧ MPast.nx k x ≤ k + 10 * MPast.wt x := ⟨Mk.nxL_le _ _, Mk.nxL_small MTag_small _ _⟩
theorem MStore_le (k : Int) (x : List Ver) : k ≤ MStore.nx k x ∧ MStore.nx k x ≤ k + 10 * MStore.wt x := ⟨Mk.nxL_le _ _, Mk.nxL_small MVer_small _ _⟩
theorem MTag_le (k : Int) (x : List Tag) : k ≤ MTag.nxL k x ∧ MTag.nxL k x ≤ k + 10 * MTag.wtL x := ⟨Mk.nxL_le _ _, Mk.nxL_small MTag_small _ _⟩
theorem wt_set {α : Type} {M : Mk α} : ∀ (l : List α) (k : Nat) (a : α), M.wtL (l.set k a) ≤ M.wtL l + 1 + M.wt a
  | [], k, a => by simp [Mk.wtL]
  | b :: l, 0, a => by simp only [List.set_cons_zero, Mk.wtL]; omega
  | b :: l, k + 1, a => by have := wt_set (M := M) l k a; simp only [List.set_cons_succ, Mk.wtL]; omega
theorem storeAdd_wt (x : List Ver) (v : Ver) : MStore.wt (storeAdd x v) ≤ MStore.wt x + 1 + MVer.wt v := by
  unfold storeAdd
  split
  · split
    · exact wt_set (M := MVer) x _ v
    · show MVer.wtL x ≤ MVer.wtL x + 1 + _; omega
  · show MVer.wtL x ≤ MVer.wtL x + 1 + _; omega
theorem joinV_wt : ∀ (x y : List Ver), MVer.wtL (joinV x y) ≤ MVer.wtL x + MVer.wtL y
  | a :: x, b :: y => by
    have := joinV_wt x y
    simp only [joinV, Mk.wtL]
    split <;> omega
  | [], y => by simp [joinV, Mk.wtL]
  | a :: x, [] => by simp [joinV, Mk.wtL]
theorem storeJoinP_wt (x y : List Ver) (h1 : MStore.wt x ≤ 1048576) (h2 : MStore.wt y ≤ 1048576) : MStore.wt (storeJoinP x y) ≤ 1000000000000 := by
  unfold storeJoinP
  split
  · have := joinV_wt x y
    have e1 : MStore.wt x = MVer.wtL x := rfl
    have e2 : MStore.wt y = MVer.wtL y := rfl
    show MVer.wtL _ ≤ _
    omega
  · show MVer.wtL [] ≤ _; simp [Mk.wtL]
theorem storeAddP_wt (x : List Ver) (v : Ver) (h1 : MStore.wt x ≤ 1048576) (h2 : MVer.wt v ≤ 1048576) : MStore.wt (storeAddP x v) ≤ 1000000000000 := by
  unfold storeAddP
  split
  · have := storeAdd_wt x v
    omega
  · show MVer.wtL [] ≤ _; simp [Mk.wtL]
theorem joinT_wt : ∀ (x y : List Tag), MTag.wtL (joinT x y) ≤ MTag.wtL x
  | a :: x, b :: y => by
    have := joinT_wt x y
    simp only [joinT, Mk.wtL]
    show 1 + 0 + _ ≤ 1 + 0 + _
    omega
  | [], y => by simp [joinT, Mk.wtL]
  | a :: x, [] => by simp [joinT, Mk.wtL]
theorem pastJoin_wt (x y : List Tag) (h1 : MPast.wt x ≤ 1048576) (h2 : MPast.wt y ≤ 1048576) : MPast.wt (pastJoin x y) ≤ 1000000000000 := by
  unfold pastJoin
  split
  · have := joinT_wt x y
    have e1 : MPast.wt x = MTag.wtL x := rfl
    show MTag.wtL _ ≤ _
    omega
  · show MTag.wtL [] ≤ _; simp [Mk.wtL]
theorem laws_markVer_m {S : Nat → Prop} {cs : List Value} {x : Ver} {k : Int} (h0 : 0 ≤ k) (hk : k + 10 * MTag.wtL x.past ≤ 100000000000000) {w : World} (ho : O tVer S w cs x) :
    Ret (EV P 41 #[.agg cs.toArray, i64 k] w) fun r => r.1 = i64 (MTag.nxL k x.past) ∧ Mod S w r.2 := by
  obtain ⟨a, c, rfl, ho, _⟩ := O.ver.1 ho
  refine Ret.post fun Q hQ => ?_
  refine Ret.enter plain mixed (laws_markVer_fn _ _ _) (by kernel_rfl) (n := 2) (by kernel_rfl) rfl ?_
  simp (disch := first | assumption | omega | (simp only [World.size_alloc, size_setRow, dw_size]; done) | (simp only [World.size_alloc, size_setRow, dw_size] <;> omega) | (simp only [List.length_set, Array.length_toList, List.length_cons, List.length_nil] <;> omega) | (simp only [List.all_cons, List.all_nil, Value.oneCell', Bool.and_self, Bool.and_true]; done)) [-Option.bind_some, hp_alloc_lt, hp_alloc_eq, hp_set_ne, wrap_small, ups_ap_cons, ups_ap_nil, upd_same, upd_other, env0_ap0, env0_aps, xt_a, xt_b, xt_c]
  refine Ret.bind (laws_markPast_m h0 hk (ho.ext (by (repeat (first | exact Ext.rfl | assumption | (refine Ext.al ?_ _) | (refine Ext.dw ?_) | (refine Ext.set ?_ (by first | omega | (simp only [World.size_alloc, size_setRow, dw_size]; omega)) _) | (refine Ext.tr ?_ (by assumption))))))) ?_
  rintro ⟨_, w1⟩ ⟨rfl, o1, M1⟩
  try dsimp only at o1 M1
  have zM1 := M1.size
  try simp only [World.size_alloc, size_setRow, dw_size] at zM1
  simp (disch := first | assumption | omega | (simp only [World.size_alloc, size_setRow, dw_size]; done) | (simp only [World.size_alloc, size_setRow, dw_size] <;> omega) | (simp only [List.length_set, Array.length_toList, List.length_cons, List.length_nil] <;> omega) | (simp only [List.all_cons, List.all_nil, Value.oneCell', Bool.and_self, Bool.and_true]; done)) [-Option.bind_some, hp_alloc_lt, hp_alloc_eq, hp_set_ne, wrap_small, ups_ap_cons, ups_ap_nil, upd_same, upd_other, env0_ap0, env0_aps, xt_a, xt_b, xt_c, M1.blk]
  exact hQ _ ⟨rfl, (Mod.of (S := S) (by (repeat (first | exact Ext.rfl | assumption | (refine Ext.al ?_ _) | (refine Ext.dw ?_) | (refine Ext.set ?_ (by first | omega | (simp only [World.size_alloc, size_setRow, dw_size]; omega)) _) | (refine Ext.tr ?_ (by assumption)))))).tr M1⟩
end Go.Proofs.Ythicfemhpnnaaaa.X
