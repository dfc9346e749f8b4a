/- A part of the proof: an evaluator of the model, its laws, and contracts of functions; no condition. -/
import Derived.Test.YtligcpabhddggaaEvK
import Derived.Test.YtligcpabhddggaaS3
set_option linter.unusedVariables false
set_option linter.unusedSimpArgs false
set_option maxRecDepth 100000
set_option maxHeartbeats 1000000
namespace Go.Proofs.Ytligcpabhddggaa.X
open Go Go.Ev Go.RowKit
theorem impl_PastNone_m {w : World} : Ret (EV P 30 #[] w) fun r => ∃ a c, r.1 = .agg #[.slice a 4 c] ∧ O tTags (In w.heap.size r.2.heap.size) r.2 [.slice a 4 c] (List.replicate 4 ⟨0, 0⟩) ∧ Ext w r.2 := by
  refine Ret.post fun Q hQ => ?_
  refine Ret.enter plain mixed (impl_PastNone_fn _) (by kernel_rfl) (n := 0) (by kernel_rfl) rfl ?_
  simp (maxSteps := 1000000) (disch := first | assumption | ((try simp only [qz]) <;> omega) | fail) [-Option.bind_some, qs, -splice_eq, -stR_cells, qm]
  refine Ret.bind (O.make (L := LTag) (mx := 8796093021952) (n := 4) (x0 := (⟨0, 0⟩ : Tag)) el_49 zz_54 rfl (by decide) (fun w => O.tag.2 rfl) (by decide) (by decide) (by decide)) ?_
  rintro ⟨_, w1⟩ ⟨rfl, o1, z1, E1⟩
  have zE1 := E1.size
  try simp only [qz] at zE1
  try dsimp only at o1 z1 E1
  have X1 := E1.blk (b := w.heap.size) (by simp)
  simp only [World.size_alloc] at z1 o1
  simp (maxSteps := 1000000) (disch := first | assumption | ((try simp only [qz]) <;> omega) | fail) [-Option.bind_some, qs, -splice_eq, -stR_cells, qm, E1.blk, X1]
  exact hQ _ ⟨_, _, rfl, (o1.keep (by intro b hS hb; (try dsimp only at hS); (try simp only [In, qz] at hS hb); first | rfl | (simp (disch := first | assumption | ((try simp only [qz, In]) <;> omega) | fail) only [E1.blk, qk]; done))).wide (by intro b h1 h2; (try dsimp only at h1); (try simp only [In, qz] at *); omega), by (repeat (first | exact Ext.rfl | assumption | (refine Ext.al ?_ _) | (refine Ext.dw ?_) | (refine Ext.set ?_ (by (try simp only [qz]); omega) _) | (refine Ext.tr ?_ (by assumption))))⟩
end Go.Proofs.Ytligcpabhddggaa.X
set_option linter.unusedVariables false
set_option linter.unusedSimpArgs false
set_option maxRecDepth 100000
set_option maxHeartbeats 1000000
namespace Go.Proofs.Ytligcpabhddggaa.X
open Go Go.Ev Go.RowKit
theorem spec_l1None_m {w : World} : Ret (EV P 26 #[] w) fun r => ∃ a c, r.1 = .agg #[.slice a 4 c] ∧ O tTags (In w.heap.size r.2.heap.size) r.2 [.slice a 4 c] (List.replicate 4 ⟨0, 0⟩) ∧ Ext w r.2 := by
  refine Ret.post fun Q hQ => ?_
  refine Ret.enter plain mixed (spec_l1None_fn _) (by kernel_rfl) (n := 0) (by kernel_rfl) rfl ?_
  simp (maxSteps := 1000000) (disch := first | assumption | ((try simp only [qz]) <;> omega) | fail) [-Option.bind_some, qs, -splice_eq, -stR_cells, qm]
  refine Ret.bind (O.make (L := LTag) (mx := 8796093021952) (n := 4) (x0 := (⟨0, 0⟩ : Tag)) el_49 zz_54 rfl (by decide) (fun w => O.tag.2 rfl) (by decide) (by decide) (by decide)) ?_
  rintro ⟨_, w1⟩ ⟨rfl, o1, z1, E1⟩
  have zE1 := E1.size
  try simp only [qz] at zE1
  try dsimp only at o1 z1 E1
  have X1 := E1.blk (b := w.heap.size) (by simp)
  simp only [World.size_alloc] at z1 o1
  simp (maxSteps := 1000000) (disch := first | assumption | ((try simp only [qz]) <;> omega) | fail) [-Option.bind_some, qs, -splice_eq, -stR_cells, qm, E1.blk, X1]
  exact hQ _ ⟨_, _, rfl, (o1.keep (by intro b hS hb; (try dsimp only at hS); (try simp only [In, qz] at hS hb); first | rfl | (simp (disch := first | assumption | ((try simp only [qz, In]) <;> omega) | fail) only [E1.blk, qk]; done))).wide (by intro b h1 h2; (try dsimp only at h1); (try simp only [In, qz] at *); omega), by (repeat (first | exact Ext.rfl | assumption | (refine Ext.al ?_ _) | (refine Ext.dw ?_) | (refine Ext.set ?_ (by (try simp only [qz]); omega) _) | (refine Ext.tr ?_ (by assumption))))⟩
end Go.Proofs.Ytligcpabhddggaa.X
