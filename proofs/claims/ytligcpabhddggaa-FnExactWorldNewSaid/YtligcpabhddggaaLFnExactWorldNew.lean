/- A part of the proof: an evaluator of the model, its laws, and contracts of functions; no condition. -/
import Derived.Test.YtligcpabhddggaaY5
import Derived.Test.YtligcpabhddggaaS3
set_option linter.unusedVariables false
set_option linter.unusedSimpArgs false
set_option maxRecDepth 100000
set_option maxHeartbeats 1000000
namespace Go.Proofs.Ytligcpabhddggaa.X
open Go Go.Ev Go.RowKit
theorem repl_wt (k : Nat) : MStore.wtL (List.replicate k ([] : List Ver)) ≤ k := by
  induction k with
  | zero => exact Nat.le_refl _
  | succ k ih =>
    have : MStore.wtL (List.replicate (k + 1) ([] : List Ver)) = 1 + MStore.wt ([] : List Ver) + MStore.wtL (List.replicate k ([] : List Ver)) := rfl
    have h0 : MStore.wt ([] : List Ver) = 0 := rfl
    omega
theorem plsNew_wt (nodes : Int) : MPlc.wtL (plsNew 3 nodes) ≤ 3000000000012 := by
  have h1 := repl_wt 3
  have h2 := chainNewP_wt nodes
  have hw : ∀ me, MPlc.wt (newPl me nodes) = MChain.wt (chainNewP nodes) + 0 + MStore.wtL (List.replicate 3 ([] : List Ver)) := fun _ => rfl
  have e : MPlc.wtL (plsNew 3 nodes) = 1 + MPlc.wt (newPl ((0 : Nat) : Int) nodes) + (1 + MPlc.wt (newPl ((1 : Nat) : Int) nodes) + (1 + MPlc.wt (newPl ((2 : Nat) : Int) nodes) + 0)) := rfl
  rw [e, hw, hw, hw]
  omega
theorem sess_wt (l : List Nat) : MSes.wtL (l.map sesNew) ≤ 5 * l.length := by
  induction l with
  | nil => exact Nat.le_refl _
  | cons a l ih =>
    have e : MSes.wtL ((a :: l).map sesNew) = 1 + MTag.wtL (List.replicate 4 (⟨0, 0⟩ : Tag)) + MSes.wtL (l.map sesNew) := rfl
    have e4 : MTag.wtL (List.replicate 4 (⟨0, 0⟩ : Tag)) = 4 := rfl
    rw [e, e4, List.length_cons]
    omega
theorem worldNewP_wt (nodes sess : Int) : ∃ ps ss, worldNewP nodes sess = ⟨ps, ss, [], []⟩ ∧ MPlc.wtL ps + MSes.wtL ss ≤ 4000000000000 := by
  unfold worldNewP
  split
  case isTrue h =>
    simp only [worldNewB, Bool.and_eq_true, decide_eq_true_eq] at h
    have h1 := plsNew_wt nodes
    have h2 := sess_wt (List.range sess.toNat)
    rw [List.length_range] at h2
    exact ⟨_, _, rfl, by unfold sessNew; omega⟩
  case isFalse h => exact ⟨[], [], rfl, by decide⟩
theorem laws_FnExactWorldNew_c {nodes sess : Int} {w : World} : Ret (EV P 3 #[i64 nodes, i64 sess] w) fun r => r.1 = .bool true ∧ Ext w r.2 := by
  obtain ⟨ps, ss, hp, hwt⟩ := worldNewP_wt nodes sess
  have b1 := Mk.nxL_small MPlc_small ps 1
  have b1' := Mk.nxL_le (M := MPlc) ps 1
  have b2' := Mk.nxL_le (M := MSes) ss (MPlc.nxL 1 ps)
  refine Ret.post fun Q hQ => ?_
  refine Ret.enter plain mixed (laws_FnExactWorldNew_fn _ _ _) (by kernel_rfl) (n := 2) (by kernel_rfl) rfl ?_
  simp (maxSteps := 1000000) (disch := first | assumption | ((try simp only [qz]) <;> omega) | fail) [-Option.bind_some, qs, -splice_eq, -stR_cells, qm]
  refine Ret.bind (spec_WorldNew_m nodes sess) ?_
  rintro ⟨_, w1⟩ ⟨d1, rfl, o1, E1⟩
  try dsimp only at d1 o1 E1
  have zE1 := E1.size
  try simp only [qz] at zE1
  rw [hp] at o1
  have z1 := O.world_un o1
  obtain ⟨a1, c1, a2, c2, a3, c3, a4, c4, _, _, _, _, rfl, _⟩ := z1
  simp (maxSteps := 1000000) (disch := first | assumption | ((try simp only [qz]) <;> omega) | fail) [-Option.bind_some, qs, -splice_eq, -stR_cells, qm, E1.blk]
  refine Ret.bind (impl_WorldNew_m nodes sess) ?_
  rintro ⟨_, w2⟩ ⟨d2, rfl, o2, E2⟩
  try dsimp only at d2 o2 E2
  have zE2 := E2.size
  try simp only [qz] at zE2
  rw [hp] at o2
  have z2 := O.world_un o2
  obtain ⟨p1, i1, p2, i2, p3, i3, p4, i4, _, _, _, _, rfl, _⟩ := z2
  simp (maxSteps := 1000000) (disch := first | assumption | ((try simp only [qz]) <;> omega) | fail) [-Option.bind_some, qs, -splice_eq, -stR_cells, qm, E1.blk, E2.blk]
  refine Ret.bind (laws_eqWorld_z (o2.keep (by intro b hS hb; (try dsimp only at hS); (try simp only [In, qz] at hS hb); first | rfl | (simp (disch := first | assumption | ((try simp only [qz, In]) <;> omega) | fail) only [E1.blk, E2.blk, qk]; done))).d (o1.keep (by intro b hS hb; (try dsimp only at hS); (try simp only [In, qz] at hS hb); first | rfl | (simp (disch := first | assumption | ((try simp only [qz, In]) <;> omega) | fail) only [E1.blk, E2.blk, qk]; done))).d) ?_
  rintro ⟨_, w3⟩ ⟨rfl, E3⟩
  try dsimp only at E3
  have zE3 := E3.size
  try simp only [qz] at zE3
  simp (maxSteps := 1000000) (disch := first | assumption | ((try simp only [qz]) <;> omega) | fail) [-Option.bind_some, qs, -splice_eq, -stR_cells, qm, E1.blk, E2.blk, E3.blk]
  refine Ret.bind (laws_markWorld_z (k := 1) (ps := ps) (ss := ss) (by omega) (by omega) (o2.keep (by intro b hS hb; (try dsimp only at hS); (try simp only [In, qz] at hS hb); first | rfl | (simp (disch := first | assumption | ((try simp only [qz, In]) <;> omega) | fail) only [E1.blk, E2.blk, E3.blk, qk]; done)))) ?_
  rintro ⟨_, w4⟩ ⟨rfl, o4, M4⟩
  try dsimp only at o4 M4
  have zM4 := M4.size
  try simp only [qz] at zM4
  have F4 : Ext w w4 := Mod.after (by (repeat (first | exact Ext.rfl | assumption | (refine Ext.al ?_ _) | (refine Ext.dw ?_) | (refine Ext.set ?_ (by (try simp only [qz]); omega) _) | (refine Ext.tr ?_ (by assumption))))) M4 (by intro x hx h; (try dsimp only at h); (try simp only [In, qz] at *); omega)
  simp (maxSteps := 1000000) (disch := first | assumption | ((try simp only [qz]) <;> omega) | fail) [-Option.bind_some, qs, -splice_eq, -stR_cells, qm, E1.blk, E2.blk, E3.blk, M4.blk]
  refine Ret.bind (laws_heldWorld_z (k := 1) (ps := ps) (ss := ss) (by omega) (by omega) (o4.keep (by intro b hS hb; (try dsimp only at hS); (try simp only [In, qz] at hS hb); first | rfl | (simp (disch := first | assumption | ((try simp only [qz, In]) <;> omega) | fail) only [E1.blk, E2.blk, E3.blk, M4.blk, qk]; done))).d) ?_
  rintro ⟨_, w5⟩ ⟨rfl, E5⟩
  try dsimp only at E5
  have zE5 := E5.size
  try simp only [qz] at zE5
  simp (maxSteps := 1000000) (disch := first | assumption | ((try simp only [qz]) <;> omega) | fail) [-Option.bind_some, qs, -splice_eq, -stR_cells, qm, show ¬ MSes.nxL (MPlc.nxL 1 ps) ss < 0 by omega, bne_self_eq_false, E1.blk, E2.blk, E3.blk, M4.blk, E5.blk]
  refine Ret.bind (impl_WorldNew_m nodes sess) ?_
  rintro ⟨_, w6⟩ ⟨d6, rfl, o6, E6⟩
  try dsimp only at d6 o6 E6
  have zE6 := E6.size
  try simp only [qz] at zE6
  rw [hp] at o6
  have z6 := O.world_un o6
  obtain ⟨f1, g1, f2, g2, f3, g3, f4, g4, _, _, _, _, rfl, _⟩ := z6
  simp (maxSteps := 1000000) (disch := first | assumption | ((try simp only [qz]) <;> omega) | fail) [-Option.bind_some, qs, -splice_eq, -stR_cells, qm, E1.blk, E2.blk, E3.blk, M4.blk, E5.blk, E6.blk]
  refine Ret.bind (laws_eqWorld_z (o6.keep (by intro b hS hb; (try dsimp only at hS); (try simp only [In, qz] at hS hb); first | rfl | (simp (disch := first | assumption | ((try simp only [qz, In]) <;> omega) | fail) only [E1.blk, E2.blk, E3.blk, M4.blk, E5.blk, E6.blk, qk]; done))).d (o1.keep (by intro b hS hb; (try dsimp only at hS); (try simp only [In, qz] at hS hb); first | rfl | (simp (disch := first | assumption | ((try simp only [qz, In]) <;> omega) | fail) only [E1.blk, E2.blk, E3.blk, M4.blk, E5.blk, E6.blk, qk]; done))).d) ?_
  rintro ⟨_, w7⟩ ⟨rfl, E7⟩
  try dsimp only at E7
  have zE7 := E7.size
  try simp only [qz] at zE7
  simp (maxSteps := 1000000) (disch := first | assumption | ((try simp only [qz]) <;> omega) | fail) [-Option.bind_some, qs, -splice_eq, -stR_cells, qm, E1.blk, E2.blk, E3.blk, M4.blk, E5.blk, E6.blk, E7.blk]
  refine Ret.bind (laws_heldWorld_z (k := 1) (ps := ps) (ss := ss) (by omega) (by omega) (o4.keep (by intro b hS hb; (try dsimp only at hS); (try simp only [In, qz] at hS hb); first | rfl | (simp (disch := first | assumption | ((try simp only [qz, In]) <;> omega) | fail) only [E1.blk, E2.blk, E3.blk, M4.blk, E5.blk, E6.blk, E7.blk, qk]; done))).d) ?_
  rintro ⟨_, w8⟩ ⟨rfl, E8⟩
  try dsimp only at E8
  have zE8 := E8.size
  try simp only [qz] at zE8
  simp (maxSteps := 1000000) (disch := first | assumption | ((try simp only [qz]) <;> omega) | fail) [-Option.bind_some, qs, -splice_eq, -stR_cells, qm, show ¬ MSes.nxL (MPlc.nxL 1 ps) ss < 0 by omega, bne_self_eq_false, E1.blk, E2.blk, E3.blk, M4.blk, E5.blk, E6.blk, E7.blk, E8.blk]
  exact hQ _ ⟨rfl, by (repeat (first | exact Ext.rfl | assumption | (refine Ext.al ?_ _) | (refine Ext.dw ?_) | (refine Ext.set ?_ (by (try simp only [qz]); omega) _) | (refine Ext.tr ?_ (by assumption))))⟩
end Go.Proofs.Ytligcpabhddggaa.X
