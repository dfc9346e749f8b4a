/- A part of the proof: an evaluator of the model, its laws, and contracts of functions; no condition. -/
import Derived.Test.YthicfemhpnnaaaaG9
set_option linter.unusedVariables false
set_option linter.unusedSimpArgs false
set_option maxRecDepth 100000
set_option maxHeartbeats 1000000
namespace Go.Proofs.Ythicfemhpnnaaaa.X
open Go Go.Ev Go.RowKit
theorem MPast_le (k : Int) (x : List Tag) : k ≤ MPast.nx k x ∧ MPast.nx k x ≤ k + 10 * MPast.wt x := ⟨Mk.nxL_le _ _, Mk.nxL_small MTag_small _ _⟩
theorem MStore_le (k : Int) (x : List Ver) : k ≤ MStore.nx k x ∧ MStore.nx k x ≤ k + 10 * MStore.wt x := ⟨Mk.nxL_le _ _, Mk.nxL_small MVer_small _ _⟩
end Go.Proofs.Ythicfemhpnnaaaa.X
