/- A part of the proof: an evaluator of the model, its laws, and contracts of functions; no condition. -/
import Derived.Test.YtjhhommnkaemlaaGreatEvQ
namespace Go.Ev
open Go Go.RowKit
theorem RY {a b : Tag} (h1 : a.t = b.t) (h2 : a.p = b.p) : a = b := by cases a; cases b; simp_all
end Go.Ev
