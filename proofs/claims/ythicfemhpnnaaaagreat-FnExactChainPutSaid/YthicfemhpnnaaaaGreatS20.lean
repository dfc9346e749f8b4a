/- A part of the proof: an evaluator of the model, its laws, and contracts of functions; no condition. -/
import Derived.Test.YthicfemhpnnaaaaGreatS19
set_option linter.unusedVariables false
set_option linter.unusedSimpArgs false
set_option maxRecDepth 100000
set_option maxHeartbeats 1000000
namespace Go.Proofs.YthicfemhpnnaaaaGreat.X
open Go Go.Ev Go.RowKit
theorem wtL_set {α : Type} {M : Mk α} : ∀ (l : List α) (k : Nat) (x : α), M.wtL (l.set k x) ≤ M.wtL l + M.wt x
  | [], k, x => by simp [Mk.wtL]
  | a :: l, 0, x => by simp only [List.set_cons_zero, Mk.wtL]; omega
  | a :: l, k + 1, x => by
    have := wtL_set (M := M) l k x
    simp only [List.set_cons_succ, Mk.wtL]
    omega
theorem chainPutP_wt (ns : List CNode) (v : Ver) (t0 : MChain.wt ns ≤ 1048576) (t1 : MVer.wt v ≤ 1048576) : MChain.wt (chainPutP ns v) ≤ 1000000000000 := by
  have e0 : MChain.wt ns = MNode.wtL ns := rfl
  show MNode.wtL _ ≤ _
  rw [chainPutP]
  split
  · rename_i h
    simp only [Bool.and_eq_true] at h
    split
    · omega
    · obtain ⟨x, hx, _⟩ := chainOk_head h.1
      have h1 := Mk.wtL_at (M := MNode) hx
      have h3 : MNode.wt x = MVer.wtL x.store + MVer.wtL x.wait := rfl
      unfold addAt
      rw [hx]
      dsimp only
      split
      · split
        · have h5 := wtL_set (M := MNode) ns 0 (addNode x v (decide (ns.length ≤ 0 + 1)))
          have h6 := wtL_set (M := MVer) x.store v.key.toNat v
          have h7 : MNode.wt (addNode x v (decide (ns.length ≤ 0 + 1))) ≤ MVer.wtL (x.store.set v.key.toNat v) + (MVer.wtL x.wait + (1 + MVer.wt v)) := by
            show MVer.wtL _ + MVer.wtL _ ≤ _
            simp only [addNode]
            split
            · omega
            · rw [wtL_app]
              simp only [Mk.wtL]
              omega
          omega
        · omega
      · omega
  · show 0 ≤ _; omega
end Go.Proofs.YthicfemhpnnaaaaGreat.X
