/- A part of the proof: an evaluator of the model, its laws, and contracts of functions; no condition. -/
import Derived.Test.YthicfemhpnnaaaaG1
set_option linter.unusedVariables false
set_option linter.unusedSimpArgs false
set_option maxRecDepth 100000
set_option maxHeartbeats 1000000
namespace Go.Proofs.Ythicfemhpnnaaaa.X
open Go Go.Ev Go.RowKit
noncomputable def MVer : Mk Ver := ⟨fun k v => ⟨k, ⟨k + 1, k + 1 + 1⟩, MTag.mkL (k + 1 + 1 + 1) v.past, mText (MTag.nxL (k + 1 + 1 + 1) v.past), (MTag.nxL (k + 1 + 1 + 1) v.past + 1).tmod 3 == 0⟩,
  fun k v => MTag.nxL (k + 1 + 1 + 1) v.past + 1 + 1, fun v => MTag.wtL v.past, fun k v => by have := Mk.nxL_le (M := MTag) v.past (k + 1 + 1 + 1); omega⟩
end Go.Proofs.Ythicfemhpnnaaaa.X
