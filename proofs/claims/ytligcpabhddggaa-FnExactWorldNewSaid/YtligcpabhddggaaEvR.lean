/- A part of the proof: an evaluator of the model, its laws, and contracts of functions; no condition. -/
import Derived.SizedLaws
import Derived.Laws.Cover1
import Derived.WideShapes
import Derived.ChangeArms
import Derived.WalkKit
import Derived.ProofKit
import Derived.OpenShut
import Derived.ShutString
import Derived.ChangeOld
import Derived.Below
import Derived.Test.YtligcpabhddggaaEvS
set_option linter.unusedVariables false
namespace Go.Ev
open Go Go.RowKit Go.ChangeShapes Go.WideShapes Go.ChangeAt
/-! ### What an argument reads as -/
section
variable {P : Program} {t e : TypeId}
end
/-- A run of the evaluator is a run. -/
theorem EV_calls {P : Program} {f : FuncId} {args : Array Value} {w : World} {Q : Value × World → Prop} (h : Ret (EV P f args w) Q) : Calls P f args w fun e w' => ∃ v, e = .returned v ∧ Q (v, w') := by
  obtain ⟨r, hr, hq⟩ := h
  refine Calls.mono (EV_ce hr) ?_
  rintro e w' ⟨rfl, rfl⟩
  exact ⟨r.1, rfl, hq⟩
/-! ### The arguments of this program -/
end Go.Ev
