/- A part of the proof: an evaluator of the model, its laws, and contracts of functions; no condition. -/
import Derived.Test.YtligcpabhddggaaEvM
import Derived.Test.YtligcpabhddggaaEvJ
import Derived.Test.YtligcpabhddggaaEvG
import Derived.Test.YtligcpabhddggaaEvRi
set_option linter.unusedVariables false
set_option linter.unusedSimpArgs false
namespace Go.Ev
open Go Go.RowKit
/-! ### A text cut at the first few of a byte -/
theorem At.new {w : World} {cs : List Value} {E : TypeId} : At (w.alloc (.cells cs.toArray E)) w.heap.size 0 cs := by
  intro j v hv
  rw [hp_alloc_eq rfl, cellO_some, ← nth_eq, Nat.zero_add]
  simpa using hv
end Go.Ev
