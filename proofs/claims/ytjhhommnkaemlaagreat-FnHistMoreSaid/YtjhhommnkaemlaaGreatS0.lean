/- A part of the proof, without conditions. -/
import Derived.Test.YtjhhommnkaemlaaGreatEvL
import Derived.Test.YtjhhommnkaemlaaGreatEvR
import Derived.Test.YtjhhommnkaemlaaGreatEvT
import Derived.Test.YtjhhommnkaemlaaGreatS3
set_option linter.unusedVariables false
set_option linter.unusedSimpArgs false
set_option linter.deprecated false
set_option maxRecDepth 100000
set_option maxHeartbeats 1000000
namespace Go.Proofs.YtjhhommnkaemlaaGreat.X
open Go Go.Ev Go.RowKit
theorem Tb : Rd P 22 fun W cs ns => ∃ s, cs = [s] ∧ DI W s ns := SF Tryz.underlying22 (by kernel_rfl) (by kernel_rfl) Tryz.underlying5
end Go.Proofs.YtjhhommnkaemlaaGreat.X
