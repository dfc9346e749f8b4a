/- A part of the proof: an evaluator of the model, its laws, and contracts of functions; no condition. -/
import Derived.SizedLaws
import Derived.Laws.Cover1
import Derived.WideShapes
import Derived.ChangeArms
import Derived.WalkKit
import Derived.ProofKit
import Derived.OpenShut
import Derived.ShutString
import Derived.ChangeOld
import Derived.Below
import Derived.Test.YtkhbpmhagpljiaaDoorEvS
set_option linter.unusedVariables false
namespace Go.Ev
open Go Go.RowKit Go.ChangeShapes Go.WideShapes Go.ChangeAt
/-! ### What an argument reads as -/
def Rd (P : Program) (t : TypeId) {α : Type} (R : World → List Value → α → Prop) : Prop :=
  ∀ (H : Type) (enc : TypeId × Value → H) (W : World) (fuel : Nat) (cs : List Value) (x : DataW H) (ps : List MemPlace),
    DataW.trod enc P W 0 (fun _ => true) true fuel t cs = some (x, ps) → (∀ n ∈ x.weights P t, n ≤ 140737488351232) → ∃ a : α, R W cs a
section
variable {P : Program} {t e : TypeId}
theorem rd_string (hu : P.underlying t = some .string) : Rd P t (fun _ cs s => cs = [.string s] ∧ s.size ≤ 140737488351232) := by
  intro H enc W fuel cs x ps h hw
  obtain ⟨s, rfl, hx, _⟩ := DataW.trod_string hu h
  obtain ⟨rfl, _⟩ := Prod.mk.inj hx
  exact ⟨s, rfl, by simpa using hw _ (List.mem_singleton.2 rfl)⟩
end
/-- An argument's weights out of all. -/
theorem weights_at {H : Type} {P : Program} {ts : List TypeId} {ds : List (DataW H)} (h : (DataW.weightsEach P ts ds).all (· ≤ reachBytes) = true) {j : Nat} {t : TypeId} {d : DataW H} (ht : ts[j]? = some t) (hd : ds[j]? = some d) : ∀ n ∈ d.weights P t, n ≤ 140737488351232 :=
  fun n hn => of_decide_eq_true (by have := List.all_eq_true.1 h n (DataW.weights_mem_each ht hd n hn); exact this)
/-- A run of the evaluator is a run. -/
theorem EV_calls {P : Program} {f : FuncId} {args : Array Value} {w : World} {Q : Value × World → Prop} (h : Ret (EV P f args w) Q) : Calls P f args w fun e w' => ∃ v, e = .returned v ∧ Q (v, w') := by
  obtain ⟨r, hr, hq⟩ := h
  refine Calls.mono (EV_ce hr) ?_
  rintro e w' ⟨rfl, rfl⟩
  exact ⟨r.1, rfl, hq⟩
/-! ### The arguments of this program -/
end Go.Ev
