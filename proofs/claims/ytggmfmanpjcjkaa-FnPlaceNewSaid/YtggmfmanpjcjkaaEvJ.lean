/- A part of the proof: an evaluator of the model, its laws, and contracts of functions; no condition. -/
import Derived.Test.YtggmfmanpjcjkaaEvI
set_option linter.unusedVariables false
set_option linter.unusedSimpArgs false
namespace Go.Ev
open Go Go.RowKit
/-! ### Texts -/
def bts (l : List UInt8) : ByteArray := ⟨l.toArray⟩
theorem bts_size (l : List UInt8) : (bts l).size = l.length := by simp [bts, ByteArray.size]
theorem bts_of (s : ByteArray) : bts s.toList = s := by
  rw [ByteArray.toList_eq]
  cases s
  simp [bts]
theorem text_ext {a b : ByteArray} (h : a.toList = b.toList) : a = b := by rw [← bts_of a, h, bts_of]
def verEq (a b : Ver) : Bool := (a.key == b.key) && ((a.tag == b.tag) && ((a.past == b.past) && ((a.text.toList == b.text.toList) && (a.gone == b.gone))))
theorem verEq_iff {a b : Ver} : verEq a b = true ↔ a = b := by
  obtain ⟨k, t, p, x, g⟩ := a
  obtain ⟨k', t', p', x', g'⟩ := b
  simp only [verEq, Bool.and_eq_true, beq_iff_eq, Ver.mk.injEq]
  exact ⟨fun ⟨h1, h2, h3, h4, h5⟩ => ⟨h1, h2, h3, text_ext h4, h5⟩, fun ⟨h1, h2, h3, h4, h5⟩ => ⟨h1, h2, h3, by rw [h4], h5⟩⟩
theorem tmod_nat (a b : Nat) : (a : Int).tmod (b : Int) = ((a % b : Nat) : Int) := by
  rw [Int.tmod_eq_emod_of_nonneg (by omega)]; rfl
theorem tdiv_nat (a b : Nat) : (a : Int).tdiv (b : Int) = ((a / b : Nat) : Int) := by
  rw [Int.tdiv_eq_ediv_of_nonneg (by omega)]; rfl
end Go.Ev
