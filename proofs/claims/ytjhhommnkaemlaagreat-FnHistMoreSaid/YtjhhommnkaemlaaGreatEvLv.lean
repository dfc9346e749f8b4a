/- A part of the proof, without conditions. -/
import Derived.Test.YtjhhommnkaemlaaGreatEvM
import Derived.Test.YtjhhommnkaemlaaGreatEvJ
import Derived.Test.YtjhhommnkaemlaaGreatEvG
import Derived.Test.YtjhhommnkaemlaaGreatEvRi
set_option linter.unusedVariables false
set_option linter.unusedSimpArgs false
set_option linter.deprecated false
namespace Go.Ev
open Go Go.RowKit
theorem At.new {w : World} {cs : List Value} {E : TypeId} : At (w.alloc (.cells cs.toArray E)) w.heap.size 0 cs := by
 intro j v hv
 rw [An rfl, Bm, ← BQ, Nat.zero_add]
 simpa using hv
end Go.Ev
