/- A part of the proof: an evaluator of the model, its laws, and contracts of functions; no condition. -/
import Derived.MapKept
import Derived.Test.YtligcpabhddggaaEvX
set_option linter.unusedVariables false
set_option linter.unusedSimpArgs false
namespace Go.Ev
open Go Go.RowKit
/-! ### Maps whose keys are tags -/
/-- The entries of a map, in the order in which they came. -/
def ent (k : Nat) (p : Tag × Value) : MapEntry := { key := .agg #[i64 p.1.t, i64 p.1.p], val := p.2, born := k }
def ents : Nat → List (Tag × Value) → List MapEntry
  | _, [] => []
  | k, p :: l => ent k p :: ents (k + 1) l
def mapO (l : List (Tag × Value)) : Obj := .map (ents 0 l).toArray l.length
/-- A map's type, whose keys are two whole numbers. -/
structure TagM (P : Program) (M K E : TypeId) (z : Value) : Prop where
  m : P.underlying M = some (.map K E)
  k : ∃ f g : Field, P.underlying K = some (.struct #[f, g]) ∧ P.underlying f.type = some (.int .i64) ∧ P.underlying g.type = some (.int .i64) ∧ (f.name ≠ "_" ∧ g.name ≠ "_" ∧ f.offset = 0 ∧ g.offset = 1)
  z : (P.info? E).bind (·.zero) = some z
  s : P.stoodInHeld K = false
section
variable {P : Program} {M K E : TypeId} {z : Value}
end
end Go.Ev
