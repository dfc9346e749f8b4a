/- A part of the proof: an evaluator of the model, its laws, and contracts of functions; no condition. -/
import Derived.Test.YtgdacclgooaodaaDoorEvLu
import Derived.Test.YtgdacclgooaodaaDoorEvRi
set_option linter.unusedVariables false
set_option linter.unusedSimpArgs false
namespace Go.Ev
open Go Go.RowKit
/-! ### A text cut at the first few of a byte -/
theorem one_raw {P : Program} {E : TypeId} {w : World} {g : Nat} {s : ByteArray} (hs : s.size ≤ 140737488351232) (h : hp w g = some (.cells #[.string s] E (0, 0))) : D (LList E 8796093021952 LStr) (fun b => b = g) w [.slice (some ⟨g, 0, none⟩) 1 1] [s] := by
  have hvr : Raw E w g [s] 1 := ⟨[.string s], h, by simp, by simp, by omega, rfl, by simpa using hs⟩
  exact (hvr.o (mx := 8796093021952) (by simp)).d
end Go.Ev
