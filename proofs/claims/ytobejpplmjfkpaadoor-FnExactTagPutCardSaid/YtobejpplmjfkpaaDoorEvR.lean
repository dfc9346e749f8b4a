/- A part of the proof: an evaluator of the model, its laws, and contracts of functions; no condition. -/
import Derived.SizedLaws
import Derived.Laws.Cover1
import Derived.WideShapes
import Derived.ChangeArms
import Derived.WalkKit
import Derived.ProofKit
import Derived.OpenShut
import Derived.ShutString
import Derived.ChangeOld
import Derived.Below
import Derived.Test.YtobejpplmjfkpaaDoorEvS
set_option linter.unusedVariables false
namespace Go.Ev
open Go Go.RowKit Go.ChangeShapes Go.WideShapes Go.ChangeAt
/-! ### What an argument reads as -/
def Rd (P : Program) (t : TypeId) {α : Type} (R : World → List Value → α → Prop) : Prop :=
  ∀ (H : Type) (enc : TypeId × Value → H) (W : World) (fuel : Nat) (cs : List Value) (x : DataW H) (ps : List MemPlace),
    DataW.trod enc P W 0 (fun _ => true) true fuel t cs = some (x, ps) → (∀ n ∈ x.weights P t, n ≤ 140737488351232) → ∃ a : α, R W cs a
def RdFs (P : Program) (fs : List Field) (off n : Nat) {α : Type} (R : World → List Value → α → Prop) : Prop :=
  ∀ (H : Type) (enc : TypeId × Value → H) (W : World) (fuel : Nat) (cs : List Value) (xs : List (DataW H × List MemPlace)),
    fs.mapM (fun f => DataW.trod enc P W 0 (fun _ => true) true fuel f.type ((cs.drop f.offset).take (P.cellsOf f.type))) = some xs →
    (∀ n ∈ DataW.weightsEach P (fs.map (·.type)) (xs.map (·.1)), n ≤ 140737488351232) → ∃ a : α, R W ((cs.drop off).take n) a
section
variable {P : Program} {t e : TypeId}
theorem rd_int {k : IntKind} (hu : P.underlying t = some (.int k)) : Rd P t (fun _ cs n => cs = [.int k n] ∧ (Lit.int k n).wf = true) := by
  intro H enc W fuel cs x ps h _
  obtain ⟨n, rfl, _, hw⟩ := DataW.trod_int hu h
  exact ⟨n, rfl, hw⟩
theorem rd_one {f : Field} {off n : Nat} {α : Type} {R : World → List Value → α → Prop} (hf : f.offset = off) (hs : P.cellsOf f.type = n) (h : Rd P f.type R) : RdFs P [f] off n R := by
  intro H enc W fuel cs xs hx hw
  rw [List.mapM_cons] at hx
  obtain ⟨y, hy, hx⟩ := Option.bind_eq_some_iff.mp hx
  simp at hx
  subst hx
  rw [hf, hs] at hy
  exact h H enc W fuel _ y.1 y.2 hy (fun n hn => hw n (by simpa [DataW.weightsEach] using hn))
theorem rd_cons {f : Field} {fs : List Field} {off n m : Nat} {α β : Type} {R : World → List Value → α → Prop} {R' : World → List Value → β → Prop} (hf : f.offset = off) (hs : P.cellsOf f.type = n) (h : Rd P f.type R) (hr : RdFs P fs (off + n) m R') :
    RdFs P (f :: fs) off (n + m) (fun W cs (p : α × β) => ∃ c d, cs = c ++ d ∧ R W c p.1 ∧ R' W d p.2) := by
  intro H enc W fuel cs xs hx hw
  rw [List.mapM_cons] at hx
  obtain ⟨y, hy, hx⟩ := Option.bind_eq_some_iff.mp hx
  obtain ⟨ys, hys, hx⟩ := Option.bind_eq_some_iff.mp hx
  obtain rfl := Option.some.inj hx
  rw [hf, hs] at hy
  obtain ⟨a, hK⟩ := h H enc W fuel _ y.1 y.2 hy (fun n hn => hw n (by simp [DataW.weightsEach]; exact Or.inl hn))
  obtain ⟨b, hK'⟩ := hr H enc W fuel cs ys hys (fun n hn => hw n (by simp [DataW.weightsEach]; exact Or.inr hn))
  refine ⟨(a, b), _, _, ?_, hK, hK'⟩
  show (cs.drop off).take (n + m) = _
  rw [List.take_add, List.drop_drop]
theorem rd_struct {fs : Array Field} {l : List Field} {n : Nat} {α : Type} {R : World → List Value → α → Prop} (hu : P.underlying t = some (.struct fs)) (hc : P.cellsOf t = n) (hl : fs.toList = l) (h : RdFs P l 0 n R) : Rd P t R := by
  intro H enc W fuel cs x ps hx hw
  cases fuel with
  | zero => simp [DataW.trod] at hx
  | succ fuel =>
    simp only [DataW.trod, hu] at hx
    split at hx
    case isFalse => simp at hx
    rename_i hlen
    obtain ⟨xs, hxs, hx⟩ := Option.map_eq_some_iff.mp hx
    obtain ⟨rfl, rfl⟩ := Prod.mk.inj hx
    rw [hl] at hxs
    obtain ⟨a, hK⟩ := h H enc W fuel cs xs hxs (fun n hn => hw n (by simp only [DataW.weights, hu, hl]; exact hn))
    refine ⟨a, ?_⟩
    rwa [List.drop_zero, List.take_of_length_le (by omega)] at hK
theorem rd_map {α β : Type} {R : World → List Value → α → Prop} {R' : World → List Value → β → Prop} (h : Rd P t R) (f : ∀ W cs a, R W cs a → ∃ b, R' W cs b) : Rd P t R' := by
  intro H enc W fuel cs x ps hx hw
  obtain ⟨a, ha⟩ := h H enc W fuel cs x ps hx hw
  exact f W cs a ha
end
/-- An argument's weights out of all. -/
theorem weights_at {H : Type} {P : Program} {ts : List TypeId} {ds : List (DataW H)} (h : (DataW.weightsEach P ts ds).all (· ≤ reachBytes) = true) {j : Nat} {t : TypeId} {d : DataW H} (ht : ts[j]? = some t) (hd : ds[j]? = some d) : ∀ n ∈ d.weights P t, n ≤ 140737488351232 :=
  fun n hn => of_decide_eq_true (by have := List.all_eq_true.1 h n (DataW.weights_mem_each ht hd n hn); exact this)
theorem array_of {cs : Array Value} {l : List Value} (h : cs.toList = l) : cs = l.toArray := by cases cs; simpa using h
/-- A run of the evaluator is a run. -/
theorem EV_calls {P : Program} {f : FuncId} {args : Array Value} {w : World} {Q : Value × World → Prop} (h : Ret (EV P f args w) Q) : Calls P f args w fun e w' => ∃ v, e = .returned v ∧ Q (v, w') := by
  obtain ⟨r, hr, hq⟩ := h
  refine Calls.mono (EV_ce hr) ?_
  rintro e w' ⟨rfl, rfl⟩
  exact ⟨r.1, rfl, hq⟩
/-! ### The arguments of this program -/
end Go.Ev
