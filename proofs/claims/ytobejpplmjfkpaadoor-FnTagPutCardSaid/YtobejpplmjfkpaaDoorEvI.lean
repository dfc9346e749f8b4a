/- A part of the proof: an evaluator of the model, its laws, and contracts of functions; no condition. -/
import Derived.Test.YtobejpplmjfkpaaDoorEvH
set_option linter.unusedVariables false
set_option linter.unusedSimpArgs false
namespace Go.Ev
open Go Go.RowKit
section
variable {α : Type} {L : Lay α} {S S1 : Nat → Prop} {w : World} {E mx E' mx' : Nat}
theorem O.empty {g : Nat} (h : hp w g = some (.cells #[] E (0, 0))) : O (LList E mx L) (fun b => b = g) w [.slice (some ⟨g, 0, none⟩) 0 0] ([] : List α) := by
  have hO : Own w 0 E L.n (.slice (some ⟨g, 0, none⟩) 0 0) ([] : List α).length ([] : List (List Value)).flatten :=
    ⟨by simp, by simp, .inr ⟨g, 0, #[], rfl, Nat.zero_le _, h, by simp, by omega, by simp, by simp⟩⟩
  have := O.mk (mx := mx) (S1 := fun _ => False) hO Els.nil (fun _ _ h => h) (by simp)
  exact this.wide fun b h _ => h.elim (fun h => h.elim) fun h => by simpa [blkOf] using h
end
section
variable {α : Type} {L : Lay α} {S S1 : Nat → Prop} {w : World} {E mx : Nat}
end
section
variable {w : World} {E F B : Nat}
end
end Go.Ev
