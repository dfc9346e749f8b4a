/- A part of the proof: an evaluator of the model, its laws, and contracts of functions; no condition. -/
import Derived.Test.YtgdacclgooaodaaGreatDoorEvK
import Derived.Test.YtgdacclgooaodaaGreatDoorS5
set_option linter.unusedVariables false
set_option linter.unusedSimpArgs false
set_option maxRecDepth 100000
set_option maxHeartbeats 1000000
namespace Go.Proofs.YtgdacclgooaodaaGreatDoor.X
open Go Go.Ev Go.RowKit
theorem b_min_i64 (ts : Array TypeId) (t : TypeId) (a b : Int) (w : World) : b_min P ts t #[i64 a, i64 b] w = some (i64 (if b < a then b else a), w) := by
  simp only [b_min, Builtin.min_, List.foldlM, Builtin.min2, pure_bind]
  rfl
theorem zero_Ver_o {S : Nat → Prop} (w : World) : O tVer S w [i64 0, i64 0, i64 0, .slice none 0 0, .string ⟨#[]⟩, .bool false] verZ := (zero_Ver w).wide fun b h _ => h.elim
end Go.Proofs.YtgdacclgooaodaaGreatDoor.X
