/- A part of the proof: an evaluator of the model, its laws, and contracts of functions; no condition. -/
import Derived.Lib.BufferWrite
import Derived.Lib.UnsafeStr
import Derived.Lib.ConvBytes
import Derived.Lib.Bytealg
import Derived.Laws.Externs
import Derived.BigFrame
import Derived.Laws.Strings3
import Derived.Laws.Build
import Derived.Test.YtkhbpmhagpljiaaDoorEvLt
import Derived.Test.YtkhbpmhagpljiaaDoorEvG
set_option linter.unusedVariables false
set_option linter.unusedSimpArgs false
namespace Go.Ev
open Go Go.RowKit
/-! ### Texts as rows of bytes, errors, bytes sought in a text -/
section
variable {P : Program}
theorem gn_ustr (dst : Option Tmp) (a b : Nat) (ats : Array TypeId) (ty : TypeId) (pos : String) (after : Array Edge) (e : Env) (w : World) :
    gn P { dst := dst, op := .call { callee := .builtin .unsafeString, args := #[.tmp a, .tmp b], argTypes := ats }, type := ty, pos := pos, after := after, guard := none } e w = ro ((Builtin.unsafeString_ ats ty #[e a, e b]).run P w) := by
  unfold gn
  rw [BigFrame.execOp_builtin, BigFrame.builtin_unsafeString]
  have h : (#[Operand.tmp a, Operand.tmp b].map (val e)) = #[e a, e b] := by simp [val]
  rw [h, Sem.run_bind]
  cases (Builtin.unsafeString_ ats ty #[e a, e b]).run P w <;> rfl
end
/-! ### A text cut in two at the first of a byte -/
/-! ### Numbers read out of texts -/
end Go.Ev
