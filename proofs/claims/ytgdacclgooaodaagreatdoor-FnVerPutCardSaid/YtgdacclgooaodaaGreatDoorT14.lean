/- A part of the proof: an evaluator of the model, its laws, and contracts of functions; no condition. -/
import Derived.Test.YtgdacclgooaodaaGreatDoorEvL
import Derived.Test.YtgdacclgooaodaaGreatDoorT12
set_option linter.unusedVariables false
set_option linter.unusedSimpArgs false
set_option maxRecDepth 100000
set_option maxHeartbeats 1000000
namespace Go.Proofs.YtgdacclgooaodaaGreatDoor.X
open Go Go.Ev Go.RowKit
theorem rdBytes : Rd P 34 fun W cs ns => ∃ s, cs = [s] ∧ rBytes W s ns := rd_bytes Tryz.underlying34 (by kernel_rfl) (by kernel_rfl) Tryz.underlying5
end Go.Proofs.YtgdacclgooaodaaGreatDoor.X
