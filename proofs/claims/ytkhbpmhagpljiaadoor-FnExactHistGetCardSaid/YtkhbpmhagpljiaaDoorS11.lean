/- A part of the proof: an evaluator of the model, its laws, and contracts of functions; no condition. -/
import Derived.Test.YtkhbpmhagpljiaaDoorEvK
import Derived.Test.YtkhbpmhagpljiaaDoorS5
set_option linter.unusedVariables false
set_option linter.unusedSimpArgs false
set_option maxRecDepth 100000
set_option maxHeartbeats 1000000
namespace Go.Proofs.YtkhbpmhagpljiaaDoor.X
open Go Go.Ev Go.RowKit
theorem b_min_i64 (ts : Array TypeId) (t : TypeId) (a b : Int) (w : World) : b_min P ts t #[i64 a, i64 b] w = some (i64 (if b < a then b else a), w) := by
  simp only [b_min, Builtin.min_, List.foldlM, Builtin.min2, pure_bind]
  rfl
end Go.Proofs.YtkhbpmhagpljiaaDoor.X
