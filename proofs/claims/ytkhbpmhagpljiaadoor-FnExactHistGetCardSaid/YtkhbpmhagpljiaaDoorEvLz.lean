/- A part of the proof: an evaluator of the model, its laws, and contracts of functions; no condition. -/
import Derived.Test.YtkhbpmhagpljiaaDoorEvLy
set_option linter.unusedVariables false
set_option linter.unusedSimpArgs false
namespace Go.Ev
open Go Go.RowKit
/-! ### Texts in a row -/
theorem cellO_lt {w : World} {b i : Nat} {v : Value} (h : cellO (hp w b) i = some v) : b < w.heap.size := by
  cases hh : hp w b with
  | none => rw [hh] at h; cases h
  | some o => exact hp_lt hh
def StrAt (w : World) (g o : Nat) (xs : List (List UInt8)) : Prop := ∀ (i : Nat) x, xs[i]? = some x → cellO (hp w g) (o + i) = some (.string (bts x))
theorem StrAt.keep {w w' : World} {g o : Nat} {xs : List (List UInt8)} (h : StrAt w g o xs) (k : hp w' g = hp w g) : StrAt w' g o xs := fun i x hx => by rw [k]; exact h i x hx
theorem StrAt.ext {w w' : World} {g o : Nat} {xs : List (List UInt8)} (h : StrAt w g o xs) (k : Ext w w') : StrAt w' g o xs := fun i x hx => by
  have := h i x hx
  rw [k.blk (cellO_lt this)]
  exact this
theorem StrAt.mod {S : Nat → Prop} {w w' : World} {g o : Nat} {xs : List (List UInt8)} (h : StrAt w g o xs) (k : Mod S w w') (hg : ¬ S g) : StrAt w' g o xs := fun i x hx => by
  have := h i x hx
  rw [k.blk g (cellO_lt this) hg]
  exact this
theorem StrAt.drop {w : World} {g o : Nat} {xs : List (List UInt8)} (h : StrAt w g o xs) (k : Nat) : StrAt w g (o + k) (xs.drop k) := fun i x hx => by
  rw [List.getElem?_drop] at hx
  rw [Nat.add_assoc]
  exact h _ x hx
theorem StrAt.take {w : World} {g o : Nat} {xs : List (List UInt8)} (h : StrAt w g o xs) (k : Nat) : StrAt w g o (xs.take k) := fun i x hx => by
  rw [List.getElem?_take] at hx
  split at hx
  · exact h _ x hx
  · cases hx
end Go.Ev
