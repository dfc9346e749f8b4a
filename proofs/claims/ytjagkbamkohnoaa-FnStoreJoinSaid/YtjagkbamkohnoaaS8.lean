/- A part of the proof: an evaluator of the model, its laws, and contracts of functions; no condition. -/
import Derived.Test.YtjagkbamkohnoaaEvK
import Derived.Test.YtjagkbamkohnoaaS3
set_option linter.unusedVariables false
set_option linter.unusedSimpArgs false
set_option maxRecDepth 100000
set_option maxHeartbeats 1000000
namespace Go.Proofs.Ytjagkbamkohnoaa.X
open Go Go.Ev Go.RowKit
theorem storeOk_z {xs : List Ver} (h : storeOk xs = true) {k : Nat} {x : Ver} (hx : xs[k]? = some x) (hz : x.tag = Tag.zero) : x = verZ := by
  simp only [storeOk, Bool.and_eq_true] at h
  have := slots_get xs 0 k x h.1 hx
  rw [slotOk_z hz] at this
  simp only [verNone, noText, Bool.and_eq_true, beq_iff_eq, List.isEmpty_iff, Bool.not_eq_true'] at this
  obtain ⟨h1, h2, h3, h4, h5⟩ := this
  obtain ⟨k, t, p, x, g⟩ := x
  simp only at *
  subst h1 h2 h5
  have h3 : p = [] := List.eq_nil_of_length_eq_zero h3
  subst h3
  have h4 : x = ⟨#[]⟩ := text_ext (by rw [h4, ByteArray.toList_eq])
  subst h4
  rfl
end Go.Proofs.Ytjagkbamkohnoaa.X
