/- A part of the proof: an evaluator of the model, its laws, and contracts of functions; no condition. -/
import Derived.Test.YtjagkbamkohnoaaGreatEvL
import Derived.Test.YtjagkbamkohnoaaGreatEvR
import Derived.Test.YtjagkbamkohnoaaGreatEvT
import Derived.Test.YtjagkbamkohnoaaGreatS4
set_option linter.unusedVariables false
set_option linter.unusedSimpArgs false
set_option maxRecDepth 100000
set_option maxHeartbeats 1000000
namespace Go.Proofs.YtjagkbamkohnoaaGreat.X
open Go Go.Ev Go.RowKit
theorem rdBytes : Rd P 22 fun W cs ns => ∃ s, cs = [s] ∧ rBytes W s ns := rd_bytes Tryz.underlying22 (by kernel_rfl) (by kernel_rfl) Tryz.underlying5
end Go.Proofs.YtjagkbamkohnoaaGreat.X
