/- A part of the proof, without conditions. -/
import Derived.MapKept
import Derived.Test.YtjhhommnkaemlaaGreatEvX
namespace Go.Ev
open Go Go.RowKit
structure TagM (P : Program) (M K E : TypeId) (z : Value) : Prop where
 m : P.underlying M = some (.map K E)
 k : ∃ f g : Field, P.underlying K = some (.struct #[f, g]) ∧ P.underlying f.type = some (.int .i64) ∧ P.underlying g.type = some (.int .i64) ∧ (f.name ≠ "_" ∧ g.name ≠ "_" ∧ f.offset = 0 ∧ g.offset = 1)
 z : (P.info? E).bind (·.zero) = some z
 s : P.stoodInHeld K = false
section
variable {P : Program} {M K E : TypeId} {z : Value}
end
end Go.Ev
