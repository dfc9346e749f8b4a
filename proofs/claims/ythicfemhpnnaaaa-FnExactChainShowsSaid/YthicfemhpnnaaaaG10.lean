/- A part of the proof: an evaluator of the model, its laws, and contracts of functions; no condition. -/
import Derived.Test.YthicfemhpnnaaaaG9
set_option linter.unusedVariables false
set_option linter.unusedSimpArgs false
set_option maxRecDepth 100000
set_option maxHeartbeats 1000000
namespace Go.Proofs.Ythicfemhpnnaaaa.X
open Go Go.Ev Go.RowKit
theorem MStore_le (k : Int) (x : List Ver) : k ≤ MStore.nx k x ∧ MStore.nx k x ≤ k + 10 * MStore.wt x := ⟨Mk.nxL_le _ _, Mk.nxL_small MVer_small _ _⟩
theorem MTag_le (k : Int) (x : List Tag) : k ≤ MTag.nxL k x ∧ MTag.nxL k x ≤ k + 10 * MTag.wtL x := ⟨Mk.nxL_le _ _, Mk.nxL_small MTag_small _ _⟩
end Go.Proofs.Ythicfemhpnnaaaa.X
