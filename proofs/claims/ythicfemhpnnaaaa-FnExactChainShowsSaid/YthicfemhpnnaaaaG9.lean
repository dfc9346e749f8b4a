/- A part of the proof: an evaluator of the model, its laws, and contracts of functions; no condition. -/
import Derived.Test.YthicfemhpnnaaaaG8
set_option linter.unusedVariables false
set_option linter.unusedSimpArgs false
set_option maxRecDepth 100000
set_option maxHeartbeats 1000000
namespace Go.Proofs.Ythicfemhpnnaaaa.X
open Go Go.Ev Go.RowKit
theorem wtTag (l : List Tag) : MTag.wtL l = l.length := by
  induction l with
  | nil => rfl
  | cons a l ih => simp only [Mk.wtL, List.length_cons, ih]; show 1 + 0 + l.length = l.length + 1; omega
theorem wtVer (l : List Ver) : MVer.wtL l = l.length + pastSum l := by
  induction l with
  | nil => rfl
  | cons a l ih => simp only [Mk.wtL, List.length_cons, pastSum, ih]; show 1 + MTag.wtL a.past + (l.length + pastSum l) = _; rw [wtTag]; omega
noncomputable def MPast : Mk (List Tag) := MTag.list
noncomputable def MStore : Mk (List Ver) := MVer.list
theorem laws_szVerS_m {n : Int} (h0 : -1 ≤ n) (h1 : n ≤ 1048576) {S : Nat → Prop} {a : Option Addr} {k c : Nat} {x : List Ver} {w : World} (ha : D tVers S w [.slice a k c] x) :
    Ret (EV P 138 #[.slice a k c, i64 n] w) fun r => ∃ m, r.1 = i64 m ∧ -1 ≤ m ∧ m ≤ 1048576 ∧ (0 ≤ m → m + MStore.wt x ≤ n) ∧ Ext w r.2 := by
  refine Ret.mono (laws_szVerS_c n h0 h1 ha.rVers) ?_
  rintro r ⟨m, h2, h3, h4, h5, h6⟩
  exact ⟨m, h2, h3, h4, fun h => by have := h5 h; show m + (MVer.wtL x : Nat) ≤ n; rw [wtVer]; exact this, h6⟩
theorem laws_szStore_m {n : Int} (h0 : -1 ≤ n) (h1 : n ≤ 1048576) {S : Nat → Prop} {cs : List Value} {x : List Ver} {w : World} (ha : D tVers S w cs x) :
    Ret (EV P 137 #[.agg cs.toArray, i64 n] w) fun r => ∃ m, r.1 = i64 m ∧ -1 ≤ m ∧ m ≤ 1048576 ∧ (0 ≤ m → m + MStore.wt x ≤ n) ∧ Ext w r.2 := by
  obtain ⟨a, c, rfl, ha⟩ := ha.sl'
  refine Ret.mono (laws_szStore_c n h0 h1 ha.rVers) ?_
  rintro r ⟨m, h2, h3, h4, h5, h6⟩
  exact ⟨m, h2, h3, h4, fun h => by have := h5 h; show m + (MVer.wtL x : Nat) ≤ n; rw [wtVer]; exact this, h6⟩
theorem laws_toVerS_m {S : Nat → Prop} {a : Option Addr} {n c : Nat} {x : List Ver} {w : World} (ha : D tVers S w [.slice a n c] x) :
    Ret (EV P 141 #[.slice a n c] w) fun r => ∃ a' c', r.1 = .slice a' x.length c' ∧ O tVers (In w.heap.size r.2.heap.size) r.2 [.slice a' x.length c'] x ∧ Ext w r.2 := by
  refine Ret.mono (laws_toVerS_c ha.rVers) ?_
  rintro ⟨_, w1⟩ ⟨h1, h2⟩
  obtain ⟨a', c', e, h3⟩ := vers_os h1
  exact ⟨a', c', e, h3, h2⟩
theorem laws_toStore_m {S : Nat → Prop} {cs : List Value} {x : List Ver} {w : World} (ha : D tVers S w cs x) :
    Ret (EV P 140 #[.agg cs.toArray] w) fun r => ∃ ds, r.1 = .agg ds.toArray ∧ O tVers (In w.heap.size r.2.heap.size) r.2 ds x ∧ Ext w r.2 := by
  obtain ⟨a, c, rfl, ha⟩ := ha.sl'
  refine Ret.mono (laws_toStore_c ha.rVers) ?_
  rintro ⟨_, w1⟩ ⟨s, rfl, h1, h2⟩
  exact ⟨[s], rfl, vers_o h1, h2⟩
theorem laws_eqVer_m {S S' : Nat → Prop} {cs ds : List Value} {x : Ver} {w : World} (ha : D tVer S w cs x) (hb : D tVer S' w ds x) : Ret (EV P 40 #[.agg cs.toArray, .agg ds.toArray] w) fun r => r.1 = .bool true ∧ Ext w r.2 :=
  laws_eqVer_c ha.rVer hb.rVer
theorem laws_eqVerS_m {S S' : Nat → Prop} {a b : Option Addr} {n m c d : Nat} {x : List Ver} {w : World} (ha : D tVers S w [.slice a n c] x) (hb : D tVers S' w [.slice b m d] x) : Ret (EV P 133 #[.slice a n c, .slice b m d] w) fun r => r.1 = .bool true ∧ Ext w r.2 :=
  laws_eqVerS_c ha.rVers hb.rVers
theorem laws_eqStore_m {S S' : Nat → Prop} {cs ds : List Value} {x : List Ver} {w : World} (ha : D tVers S w cs x) (hb : D tVers S' w ds x) : Ret (EV P 132 #[.agg cs.toArray, .agg ds.toArray] w) fun r => r.1 = .bool true ∧ Ext w r.2 := by
  obtain ⟨a, c, rfl, ha⟩ := ha.sl'
  obtain ⟨b, d, rfl, hb⟩ := hb.sl'
  exact laws_eqStore_c ha.rVers hb.rVers
theorem laws_markPast_m {S : Nat → Prop} {cs : List Value} {x : List Tag} {k : Int} (h0 : 0 ≤ k) (hk : k + 10 * MPast.wt x ≤ 100000000000000) {w : World} (ho : O tTags S w cs x) :
    Ret (EV P 36 #[.agg cs.toArray, i64 k] w) fun r => r.1 = i64 (MPast.nx k x) ∧ O tTags S r.2 cs (MPast.mk k x) ∧ Mod S w r.2 := by
  obtain ⟨a, c, rfl, ho⟩ := ho.sl'
  refine Ret.post fun Q hQ => ?_
  refine Ret.enter plain mixed (laws_markPast_fn _ _ _) (by kernel_rfl) (n := 2) (by kernel_rfl) rfl ?_
  simp (disch := first | assumption | omega | (simp only [World.size_alloc, size_setRow, dw_size]; done) | (simp only [World.size_alloc, size_setRow, dw_size] <;> omega) | (simp only [List.length_set, Array.length_toList, List.length_cons, List.length_nil, List.length_append, bts_size] <;> omega) | (simp only [List.all_cons, List.all_nil, Value.oneCell', Bool.and_self, Bool.and_true]; done)) [-Option.bind_some, hp_alloc_lt, hp_alloc_eq, hp_set_ne, wrap_small, ups_ap_cons, ups_ap_nil, upd_same, upd_other, env0_ap0, env0_aps, xt_a, xt_b, xt_c]
  refine Ret.bind (laws_markTagS_m h0 hk (ho.ext (by (repeat (first | exact Ext.rfl | assumption | (refine Ext.al ?_ _) | (refine Ext.dw ?_) | (refine Ext.set ?_ (by first | omega | (simp only [World.size_alloc, size_setRow, dw_size]; omega)) _) | (refine Ext.tr ?_ (by assumption))))))) ?_
  rintro ⟨_, w1⟩ ⟨rfl, o1, M1⟩
  try dsimp only at o1 M1
  have zM1 := M1.size
  try simp only [World.size_alloc, size_setRow, dw_size] at zM1
  simp (disch := first | assumption | omega | (simp only [World.size_alloc, size_setRow, dw_size]; done) | (simp only [World.size_alloc, size_setRow, dw_size] <;> omega) | (simp only [List.length_set, Array.length_toList, List.length_cons, List.length_nil, List.length_append, bts_size] <;> omega) | (simp only [List.all_cons, List.all_nil, Value.oneCell', Bool.and_self, Bool.and_true]; done)) [-Option.bind_some, hp_alloc_lt, hp_alloc_eq, hp_set_ne, wrap_small, ups_ap_cons, ups_ap_nil, upd_same, upd_other, env0_ap0, env0_aps, xt_a, xt_b, xt_c, M1.blk]
  exact hQ _ ⟨rfl, o1, (Mod.of (S := S) (by (repeat (first | exact Ext.rfl | assumption | (refine Ext.al ?_ _) | (refine Ext.dw ?_) | (refine Ext.set ?_ (by first | omega | (simp only [World.size_alloc, size_setRow, dw_size]; omega)) _) | (refine Ext.tr ?_ (by assumption)))))).tr M1⟩
theorem laws_heldPast_m {S : Nat → Prop} {cs : List Value} {x : List Tag} {k : Int} (h0 : 0 ≤ k) (hk : k + 10 * MPast.wt x ≤ 100000000000000) {w : World} (ho : D tTags S w cs (MPast.mk k x)) :
    Ret (EV P 37 #[.agg cs.toArray, i64 k] w) fun r => r.1 = i64 (MPast.nx k x) ∧ Ext w r.2 := by
  obtain ⟨a, c, rfl, ho⟩ := ho.sl'
  have hle : k ≤ MTag.nxL k x := Mk.nxL_le _ _
  refine Ret.post fun Q hQ => ?_
  refine Ret.enter plain mixed (laws_heldPast_fn _ _ _) (by kernel_rfl) (n := 2) (by kernel_rfl) rfl ?_
  simp (disch := first | assumption | omega | (simp only [World.size_alloc, size_setRow, dw_size]; done) | (simp only [World.size_alloc, size_setRow, dw_size] <;> omega) | (simp only [List.length_set, Array.length_toList, List.length_cons, List.length_nil, List.length_append, bts_size] <;> omega) | (simp only [List.all_cons, List.all_nil, Value.oneCell', Bool.and_self, Bool.and_true]; done)) [-Option.bind_some, hp_alloc_lt, hp_alloc_eq, hp_set_ne, wrap_small, ups_ap_cons, ups_ap_nil, upd_same, upd_other, env0_ap0, env0_aps, xt_a, xt_b, xt_c]
  refine Ret.bind (laws_heldTagS_m h0 hk (ho.ext (by (repeat (first | exact Ext.rfl | assumption | (refine Ext.al ?_ _) | (refine Ext.dw ?_) | (refine Ext.set ?_ (by first | omega | (simp only [World.size_alloc, size_setRow, dw_size]; omega)) _) | (refine Ext.tr ?_ (by assumption))))))) ?_
  rintro ⟨_, w1⟩ ⟨rfl, E1⟩
  try dsimp only at E1
  have zE1 := E1.size
  try simp only [World.size_alloc, size_setRow, dw_size] at zE1
  simp (disch := first | assumption | omega | (simp only [World.size_alloc, size_setRow, dw_size]; done) | (simp only [World.size_alloc, size_setRow, dw_size] <;> omega) | (simp only [List.length_set, Array.length_toList, List.length_cons, List.length_nil, List.length_append, bts_size] <;> omega) | (simp only [List.all_cons, List.all_nil, Value.oneCell', Bool.and_self, Bool.and_true]; done)) [-Option.bind_some, hp_alloc_lt, hp_alloc_eq, hp_set_ne, wrap_small, ups_ap_cons, ups_ap_nil, upd_same, upd_other, env0_ap0, env0_aps, xt_a, xt_b, xt_c, show ¬ MTag.nxL k x < 0 by omega, E1.blk]
  exact hQ _ ⟨rfl, by (repeat (first | exact Ext.rfl | assumption | (refine Ext.al ?_ _) | (refine Ext.dw ?_) | (refine Ext.set ?_ (by first | omega | (simp only [World.size_alloc, size_setRow, dw_size]; omega)) _) | (refine Ext.tr ?_ (by assumption))))⟩
end Go.Proofs.Ythicfemhpnnaaaa.X
