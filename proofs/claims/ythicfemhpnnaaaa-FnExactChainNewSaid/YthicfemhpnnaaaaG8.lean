/- A part of the proof: an evaluator of the model, its laws, and contracts of functions; no condition. -/
import Derived.Test.YthicfemhpnnaaaaG7
set_option linter.unusedVariables false
set_option linter.unusedSimpArgs false
set_option maxRecDepth 100000
set_option maxHeartbeats 4000000
namespace Go.Proofs.Ythicfemhpnnaaaa.X
open Go Go.Ev Go.RowKit
theorem storeOk_slot {xs : List Ver} (h : storeOk xs = true) {k : Nat} {x : Ver} (hx : xs[k]? = some x) : (x.tag = Tag.zero) ∨ (verOk x = true ∧ x.key = k ∧ 0 < x.tag.t) := by
  simp only [storeOk, Bool.and_eq_true] at h
  have := slots_get xs 0 k x h.1 hx
  simp only [slotOk, Bool.or_eq_true, Bool.and_eq_true, beq_iff_eq, Nat.zero_add] at this
  rcases this with h | ⟨h1, h2⟩
  · left
    simp only [verNone, Bool.and_eq_true, beq_iff_eq] at h
    exact h.2.1
  · exact .inr ⟨h1, h2, verOk_pos h1⟩
theorem tagOk_of_ver {v : Ver} (h : verOk v = true) : tagOk v.tag = true := by
  simp only [verOk, Bool.and_eq_true] at h
  exact h.2.1
theorem less_zero {t : Tag} (h : tagOk t = true) : tagLess t Tag.zero = false := by
  obtain ⟨t, p⟩ := t
  simp only [tagOk, Bool.or_eq_true, Bool.and_eq_true, beq_iff_eq, decide_eq_true_eq] at h
  have h1 : ¬ t < 0 := by omega
  have h2 : t = 0 → ¬ p < 0 := by omega
  simp only [tagLess, Tag.zero, h1, decide_false, Bool.false_or, Bool.and_eq_false_iff, beq_eq_false_iff_ne, ne_eq]
  by_cases h3 : t = 0
  · right; simp [h2 h3]
  · left; exact h3
theorem slot_tagOk {xs : List Ver} (h : storeOk xs = true) {k : Nat} {x : Ver} (hx : xs[k]? = some x) : tagOk x.tag = true := by
  rcases storeOk_slot h hx with h | ⟨h, _⟩
  · rw [h]; rfl
  · exact tagOk_of_ver h
end Go.Proofs.Ythicfemhpnnaaaa.X
