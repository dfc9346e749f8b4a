/- A part of the proof: an evaluator of the model, its laws, and contracts of functions; no condition. -/
import Derived.Test.YtkhbpmhagpljiaaDoorEvV
set_option linter.unusedVariables false
set_option linter.unusedSimpArgs false
namespace Go.Ev
open Go Go.RowKit
/-! ### Places -/
structure PlaceD where
  me : Int
  clock : Int
  chain : List CNode
  log : List Ver
  got : List (List Ver)
  fell : Bool
section
variable {E F N G : TypeId} {S : Nat → Prop} {w : World} {cs : List Value} {p : PlaceD}
end
end Go.Ev
