/- A part of the proof, without conditions. -/
import Derived.Test.YtjhhommnkaemlaaGreatEvQ
set_option linter.unusedVariables false
set_option linter.unusedSimpArgs false
set_option linter.deprecated false
namespace Go.Ev
open Go Go.RowKit
theorem To {a b : Tag} (h1 : a.t = b.t) (h2 : a.p = b.p) : a = b := by cases a; cases b; simp_all
end Go.Ev
