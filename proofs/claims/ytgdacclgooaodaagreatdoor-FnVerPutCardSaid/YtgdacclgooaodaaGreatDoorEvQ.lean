/- A part of the proof: an evaluator of the model, its laws, and contracts of functions; no condition. -/
import Derived.Laws.CopyRow
import Derived.Test.YtgdacclgooaodaaGreatDoorEvO
set_option linter.unusedVariables false
set_option linter.unusedSimpArgs false
namespace Go.Ev
open Go Go.RowKit
/-! ### Cutting an element out of a row in place -/
section
variable {P : Program}
theorem sl_lh {t e : TypeId} {z : Nat × Nat} (h : elB P t = Option.some (e, z)) {b o len cap : Nat} {l n : Int} (h0 : 0 ≤ l) (h1 : l ≤ n) (h2 : n ≤ cap) (h3 : l.toNat ≠ cap) (w : World) :
    sl P t (.slice (Option.some ⟨b, o, none⟩) len cap) (Option.some (i64 l)) (Option.some (i64 n)) none w = Option.some (.slice (Option.some ⟨b, o + l.toNat * z.1, none⟩) (n.toNat - l.toNat) (cap - l.toNat), w) := by
  obtain ⟨hu, hs⟩ := elem_eq h
  simp only [sl, run_sliceAt_slice w t _ _ _ _ hu, run_slice_lh w t _ len cap hu .i64 .i64 l n h0 h1 h2, run_sizeOf' hs, Result.andThen_ok, sliced, ro]
  simp [add_lit, Ne.symm h3]
end
section
variable {α : Type} {L : Lay α} {S S' : Nat → Prop} {w : World} {E : TypeId} {mx : Nat}
end
end Go.Ev
