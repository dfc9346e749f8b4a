/- A part of the proof: an evaluator of the model, its laws, and contracts of functions; no condition. -/
import Derived.Test.YtcafhepclddcaaaEvK
import Derived.Test.YtcafhepclddcaaaG10
set_option linter.unusedVariables false
set_option linter.unusedSimpArgs false
set_option maxRecDepth 100000
set_option maxHeartbeats 1000000
namespace Go.Proofs.Ytcafhepclddcaaa.X
open Go Go.Ev Go.RowKit
theorem wtL_tag : ∀ (l : List Tag), MTag.wtL l = l.length
  | [] => rfl
  | t :: l => by
    have := wtL_tag l
    show 1 + 0 + MTag.wtL l = (t :: l).length
    rw [this, List.length_cons]
    omega
end Go.Proofs.Ytcafhepclddcaaa.X
