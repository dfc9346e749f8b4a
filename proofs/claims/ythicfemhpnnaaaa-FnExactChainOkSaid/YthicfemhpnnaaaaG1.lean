/- A part of the proof: an evaluator of the model, its laws, and contracts of functions; no condition. -/
import Derived.Test.YthicfemhpnnaaaaEvJ
import Derived.Test.YthicfemhpnnaaaaC16
set_option linter.unusedVariables false
set_option linter.unusedSimpArgs false
set_option maxRecDepth 100000
set_option maxHeartbeats 1000000
namespace Go.Proofs.Ythicfemhpnnaaaa.X
open Go Go.Ev Go.RowKit
abbrev tTags : Lay (List Tag) := LTags 46
abbrev tVer : Lay Ver := LVer 46
abbrev tVers : Lay (List Ver) := LVers 46 48
def MTag : Mk Tag := ⟨fun k _ => ⟨k, k + 1⟩, fun k _ => k + 1 + 1, fun _ => 0, fun k _ => by omega⟩
end Go.Proofs.Ythicfemhpnnaaaa.X
