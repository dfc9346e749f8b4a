/- A part of the proof: an evaluator of the model, its laws, and contracts of functions; no condition. -/
import Derived.Test.YthicfemhpnnaaaaG6
set_option linter.unusedVariables false
set_option linter.unusedSimpArgs false
set_option maxRecDepth 100000
set_option maxHeartbeats 1000000
namespace Go.Proofs.Ythicfemhpnnaaaa.X
open Go Go.Ev Go.RowKit
theorem storeOk_slot {xs : List Ver} (h : storeOk xs = true) {k : Nat} {x : Ver} (hx : xs[k]? = some x) : (x.tag = Tag.zero) ∨ (verOk x = true ∧ x.key = k ∧ 0 < x.tag.t) := by
  simp only [storeOk, Bool.and_eq_true] at h
  have := slots_get xs 0 k x h.1 hx
  simp only [slotOk, Bool.or_eq_true, Bool.and_eq_true, beq_iff_eq, Nat.zero_add] at this
  rcases this with h | ⟨h1, h2⟩
  · left
    simp only [verNone, Bool.and_eq_true, beq_iff_eq] at h
    exact h.2.1
  · exact .inr ⟨h1, h2, verOk_pos h1⟩
end Go.Proofs.Ythicfemhpnnaaaa.X
