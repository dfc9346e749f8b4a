/- A part of the proof, without conditions. -/
import Derived.Test.YtligcpabhddggaaGreatEvL
import Derived.Test.YtligcpabhddggaaGreatEvR
import Derived.Test.YtligcpabhddggaaGreatEvT
import Derived.Test.YtligcpabhddggaaGreatS46
set_option linter.unusedVariables false
set_option linter.unusedSimpArgs false
set_option maxRecDepth 100000
set_option maxHeartbeats 1000000
namespace Go.Proofs.YtligcpabhddggaaGreat.X
open Go Go.Ev Go.RowKit
theorem rdBytes : Rd P 22 fun W cs ns => ∃ s, cs = [s] ∧ rBytes W s ns := rd_bytes Tryz.underlying22 (by kernel_rfl) (by kernel_rfl) Tryz.underlying5
end Go.Proofs.YtligcpabhddggaaGreat.X
