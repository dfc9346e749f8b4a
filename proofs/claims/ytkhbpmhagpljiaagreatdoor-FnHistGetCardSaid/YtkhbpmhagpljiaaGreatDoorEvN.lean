/- A part of the proof, without conditions. -/
import Derived.MapKept
import Derived.Test.YtkhbpmhagpljiaaGreatDoorEvX
set_option linter.unusedVariables false
set_option linter.unusedSimpArgs false
set_option linter.deprecated false
namespace Go.Ev
open Go Go.RowKit
theorem TF {P : Program} {t e n s : Nat} (h : P.underlying t = some (.array n e)) (hs : RI P e = some s) {b o : Nat} {i : Int} (h0 : 0 ≤ i) (h1 : i < n) (w : World) :
  ia P t (pt b o) (i64 i) w = some (pt b (o + i.toNat * s), w) := by
 simp [ia, Instr.indexAt, asIntOf, run_underlying h, Instr.sureAddr, pt, h0, h1, Bk hs, ro, add_lit]
structure TagM (P : Program) (M K E : TypeId) (z : Value) : Prop where
 m : P.underlying M = some (.map K E)
 k : ∃ f g : Field, P.underlying K = some (.struct #[f, g]) ∧ P.underlying f.type = some (.int .i64) ∧ P.underlying g.type = some (.int .i64) ∧ (f.name ≠ "_" ∧ g.name ≠ "_" ∧ f.offset = 0 ∧ g.offset = 1)
 z : (P.info? E).bind (·.zero) = some z
 s : P.stoodInHeld K = false
section
variable {P : Program} {M K E : TypeId} {z : Value}
end
end Go.Ev
