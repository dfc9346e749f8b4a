/- A part of the proof: an evaluator of the model, its laws, and contracts of functions; no condition. -/
import Derived.Test.YtggmfmanpjcjkaaEvL
import Derived.Test.YtggmfmanpjcjkaaEvR
import Derived.Test.YtggmfmanpjcjkaaEvT
import Derived.Test.YtggmfmanpjcjkaaS3
set_option linter.unusedVariables false
set_option linter.unusedSimpArgs false
set_option maxRecDepth 100000
set_option maxHeartbeats 1000000
namespace Go.Proofs.Ytggmfmanpjcjkaa.X
open Go Go.Ev Go.RowKit
theorem rdBytes : Rd P 39 fun W cs ns => ∃ s, cs = [s] ∧ rBytes W s ns := rd_bytes Try.underlying39 (by kernel_rfl) (by kernel_rfl) Try.underlying5
end Go.Proofs.Ytggmfmanpjcjkaa.X
