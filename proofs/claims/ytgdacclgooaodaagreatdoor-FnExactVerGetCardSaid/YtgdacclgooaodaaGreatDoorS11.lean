/- A part of the proof: an evaluator of the model, its laws, and contracts of functions; no condition. -/
import Derived.Test.YtgdacclgooaodaaGreatDoorEvK
import Derived.Test.YtgdacclgooaodaaGreatDoorS5
set_option linter.unusedVariables false
set_option linter.unusedSimpArgs false
set_option maxRecDepth 100000
set_option maxHeartbeats 1000000
namespace Go.Proofs.YtgdacclgooaodaaGreatDoor.X
open Go Go.Ev Go.RowKit
def MVerP : Mk Ver := ⟨fun k v => { v with past := MTag.mkL k v.past }, fun k v => MTag.nxL k v.past, fun v => MTag.wtL v.past, fun k v => Mk.nxL_le _ _⟩
theorem MVerP_le (k : Int) (x : Ver) : k ≤ MVerP.nx k x ∧ MVerP.nx k x ≤ k + 10 * MVerP.wt x := ⟨Mk.nxL_le _ _, Mk.nxL_small MTag_small _ _⟩
theorem laws_markVerR_m {S : Nat → Prop} {cs : List Value} {x : Ver} {k : Int} (h0 : 0 ≤ k) (hk : k + 10 * MVerP.wt x ≤ 100000000000000) {w : World} (ho : O tVer S w cs x) :
    Ret (EV P 9 #[.agg cs.toArray, i64 k] w) fun r => r.1 = i64 (MVerP.nx k x) ∧ O tVer S r.2 cs (MVerP.mk k x) ∧ Mod S w r.2 := by
  obtain ⟨a, c, rfl, ho, h2⟩ := O.ver.1 ho
  refine Ret.post fun Q hQ => ?_
  refine Ret.enter plain mixed (laws_markVer_fn _ _ _) (by kernel_rfl) (n := 2) (by kernel_rfl) rfl ?_
  simp (maxSteps := 1000000) (disch := first | assumption | omega | (simp only [World.size_alloc, size_setRow, dw_size]; done) | (simp only [World.size_alloc, size_setRow, dw_size] <;> omega) | (simp only [List.length_set, Array.length_toList, List.length_cons, List.length_nil, List.length_append, bts_size] <;> omega) | (simp only [List.all_cons, List.all_nil, Value.oneCell', Bool.and_self, Bool.and_true]; done)) [-Option.bind_some, hp_alloc_lt, hp_alloc_eq, hp_set_ne, wrap_small, ups_ap_cons, ups_ap_nil, upd_same, upd_other, env0_ap0, env0_aps, xt_a, xt_b, xt_c]
  refine Ret.bind (laws_markPast_m h0 hk (ho.ext (by (repeat (first | exact Ext.rfl | assumption | (refine Ext.al ?_ _) | (refine Ext.dw ?_) | (refine Ext.set ?_ (by first | omega | (simp only [World.size_alloc, size_setRow, dw_size]; omega)) _) | (refine Ext.tr ?_ (by assumption))))))) ?_
  rintro ⟨_, w1⟩ ⟨rfl, o1, M1⟩
  try dsimp only at o1 M1
  have zM1 := M1.size
  try simp only [World.size_alloc, size_setRow, dw_size] at zM1
  simp (maxSteps := 1000000) (disch := first | assumption | omega | (simp only [World.size_alloc, size_setRow, dw_size]; done) | (simp only [World.size_alloc, size_setRow, dw_size] <;> omega) | (simp only [List.length_set, Array.length_toList, List.length_cons, List.length_nil, List.length_append, bts_size] <;> omega) | (simp only [List.all_cons, List.all_nil, Value.oneCell', Bool.and_self, Bool.and_true]; done)) [-Option.bind_some, hp_alloc_lt, hp_alloc_eq, hp_set_ne, wrap_small, ups_ap_cons, ups_ap_nil, upd_same, upd_other, env0_ap0, env0_aps, xt_a, xt_b, xt_c, M1.blk]
  refine hQ _ ⟨rfl, O.ver.2 ⟨a, c, ?_, ?_, h2⟩, (Mod.of (S := S) (by (repeat (first | exact Ext.rfl | assumption | (refine Ext.al ?_ _) | (refine Ext.dw ?_) | (refine Ext.set ?_ (by first | omega | (simp only [World.size_alloc, size_setRow, dw_size]; omega)) _) | (refine Ext.tr ?_ (by assumption)))))).tr M1⟩
  · have : (MVerP.mk k x).past.length = x.past.length := Mk.mkL_length k x.past
    rw [this]
    rfl
  · show O _ S w1 [.slice a (MTag.mkL k x.past).length c] (MTag.mkL k x.past)
    rw [Mk.mkL_length]
    exact o1
theorem laws_heldVerR_m {S : Nat → Prop} {cs : List Value} {x : Ver} {k : Int} (h0 : 0 ≤ k) (hk : k + 10 * MVerP.wt x ≤ 100000000000000) {w : World} (ho : D tVer S w cs (MVerP.mk k x)) :
    Ret (EV P 10 #[.agg cs.toArray, i64 k] w) fun r => r.1 = i64 (MVerP.nx k x) ∧ Ext w r.2 := by
  obtain ⟨a, c, rfl, ho, h2⟩ := D.ver.1 ho
  have ho : D tTags S w [.slice a (MTag.mkL k x.past).length c] (MTag.mkL k x.past) := ho
  refine Ret.post fun Q hQ => ?_
  refine Ret.enter plain mixed (laws_heldVer_fn _ _ _) (by kernel_rfl) (n := 2) (by kernel_rfl) rfl ?_
  simp (maxSteps := 1000000) (disch := first | assumption | omega | (simp only [World.size_alloc, size_setRow, dw_size]; done) | (simp only [World.size_alloc, size_setRow, dw_size] <;> omega) | (simp only [List.length_set, Array.length_toList, List.length_cons, List.length_nil, List.length_append, bts_size] <;> omega) | (simp only [List.all_cons, List.all_nil, Value.oneCell', Bool.and_self, Bool.and_true]; done)) [-Option.bind_some, hp_alloc_lt, hp_alloc_eq, hp_set_ne, wrap_small, ups_ap_cons, ups_ap_nil, upd_same, upd_other, env0_ap0, env0_aps, xt_a, xt_b, xt_c]
  refine Ret.bind (laws_heldPast_m h0 hk (ho.ext (by (repeat (first | exact Ext.rfl | assumption | (refine Ext.al ?_ _) | (refine Ext.dw ?_) | (refine Ext.set ?_ (by first | omega | (simp only [World.size_alloc, size_setRow, dw_size]; omega)) _) | (refine Ext.tr ?_ (by assumption))))))) ?_
  rintro ⟨_, w1⟩ ⟨rfl, E1⟩
  try dsimp only at E1
  have zE1 := E1.size
  try simp only [World.size_alloc, size_setRow, dw_size] at zE1
  have := (MTag_le k x.past).1
  simp (maxSteps := 1000000) (disch := first | assumption | omega | (simp only [World.size_alloc, size_setRow, dw_size]; done) | (simp only [World.size_alloc, size_setRow, dw_size] <;> omega) | (simp only [List.length_set, Array.length_toList, List.length_cons, List.length_nil, List.length_append, bts_size] <;> omega) | (simp only [List.all_cons, List.all_nil, Value.oneCell', Bool.and_self, Bool.and_true]; done)) [-Option.bind_some, hp_alloc_lt, hp_alloc_eq, hp_set_ne, wrap_small, ups_ap_cons, ups_ap_nil, upd_same, upd_other, env0_ap0, env0_aps, xt_a, xt_b, xt_c, show ¬ MTag.nxL k x.past < 0 by omega, show ¬ MPast.nx k x.past < 0 from by show ¬ MTag.nxL k x.past < 0; omega, E1.blk]
  exact hQ _ ⟨rfl, by (repeat (first | exact Ext.rfl | assumption | (refine Ext.al ?_ _) | (refine Ext.dw ?_) | (refine Ext.set ?_ (by first | omega | (simp only [World.size_alloc, size_setRow, dw_size]; omega)) _) | (refine Ext.tr ?_ (by assumption))))⟩
theorem laws_eqVerR_m {S S' : Nat → Prop} {cs ds : List Value} {x : Ver} {w : World} (ha : D tVer S w cs x) (hb : D tVer S' w ds x) : Ret (EV P 8 #[.agg cs.toArray, .agg ds.toArray] w) fun r => r.1 = .bool true ∧ Ext w r.2 := laws_eqVer_m ha hb
theorem b_min_i64 (ts : Array TypeId) (t : TypeId) (a b : Int) (w : World) : b_min P ts t #[i64 a, i64 b] w = some (i64 (if b < a then b else a), w) := by
  simp only [b_min, Builtin.min_, List.foldlM, Builtin.min2, pure_bind]
  rfl
theorem zero_Ver_o {S : Nat → Prop} (w : World) : O tVer S w [i64 0, i64 0, i64 0, .slice none 0 0, .string ⟨#[]⟩, .bool false] verZ := (zero_Ver w).wide fun b h _ => h.elim
end Go.Proofs.YtgdacclgooaodaaGreatDoor.X
