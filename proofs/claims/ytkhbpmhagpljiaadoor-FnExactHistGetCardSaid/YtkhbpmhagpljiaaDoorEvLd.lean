/- A part of the proof: an evaluator of the model, its laws, and contracts of functions; no condition. -/
import Derived.ProofKit
import Derived.LaidMore
import Derived.OpenShut
import Derived.MakeChecks
import Derived.ChangeBears2
import Derived.Test.YtkhbpmhagpljiaaDoorEvM
set_option linter.unusedVariables false
namespace Go.Ev
open Go
/-! ### Tables that the program's text lays -/
theorem laid_ints {P : Program} {W : World} {k : IntKind} {n : Nat} {e t : TypeId} {g : Nat} {name : String} {vals : List Int} {fuel : Nat} {cs : Array Value} {p : List MemPlace}
    (ht : P.underlying t = some (.array n e)) (he : P.underlying e = some (.int k)) (hce : P.cellsOf e = 1) (hg : P.globalNamed name = some g) (hv : W.var? P name = some cs)
    (h : DataW.trod (fun _ => ()) P W 0 (fun _ => true) false fuel t cs.toList = some (.agg (vals.map fun x => .lit (.int k x)), p)) : At W g 0 (vals.map fun x => Value.int k x) := by
  obtain ⟨xs, m, rfl, hx, hlen, hn, hel⟩ := DataW.trod_array ht h
  simp only [Prod.mk.injEq, DataW.agg.injEq] at hx
  intro j v hj
  rw [List.getElem?_map] at hj
  obtain ⟨a, ha, rfl⟩ := Option.map_eq_some_iff.1 hj
  have hlv : vals.length = xs.length := by simpa using congrArg List.length hx.1
  have hjl : j < xs.length := by have := (List.getElem?_eq_some_iff.1 ha).1; omega
  have h1 := hel j (by omega)
  rw [List.getElem?_eq_getElem hjl, hce, Nat.mul_one] at h1
  obtain ⟨q, h2, h3, _⟩ := DataW.trod_int he h1
  have h4 : (vals.map fun x => (DataW.lit (.int k x) : DataW Unit))[j]? = (xs.map (·.1))[j]? := by rw [hx.1]
  rw [List.getElem?_map, ha, List.getElem?_map, List.getElem?_eq_getElem hjl, h3] at h4
  simp only [Option.map_some, Option.some.injEq, DataW.lit.injEq, Lit.int.injEq, true_and] at h4
  have hc := World.var?_cell hg hv j
  have h5 : cs.toList[j]? = some (.int k q) := by
    have : ((cs.toList.drop j).take 1)[0]? = some (.int k q) := by rw [h2]; rfl
    rw [List.getElem?_take_of_lt (by omega), List.getElem?_drop] at this
    simpa using this
  rw [Nat.zero_add, ← cell?_eq, hc, h4]
  simpa using h5
theorem laid_iface {P : Program} {W : World} {ms} {t : TypeId} {g : Nat} {name nm : String} {d : DataW Unit} {fuel : Nat} {cs : Array Value} {p : List MemPlace}
    (ht : P.underlying t = some (.interface ms)) (hg : P.globalNamed name = some g) (hv : W.var? P name = some cs)
    (h : DataW.trod (fun _ => ()) P W 0 (fun _ => true) false fuel t cs.toList = some (.iface nm d, p)) : ∃ v, cellO (hp W g) 0 = some v ∧ ∃ u x, v = .iface u x := by
  have hc := World.var?_cell hg hv 0
  cases fuel with
  | zero => simp [DataW.trod] at h
  | succ f =>
    obtain ⟨u, x, hcs⟩ : ∃ u x, cs.toList = [.iface u x] := by
      generalize cs.toList = l at h
      unfold DataW.trod at h
      rw [ht] at h
      match l, h with
      | [.iface u x], _ => exact ⟨u, x, rfl⟩
      | [.nilIface], h => simp at h
    refine ⟨.iface u x, ?_, u, x, rfl⟩
    rw [← cell?_eq, hc]
    have : cs[0]? = cs.toList[0]? := by simp
    rw [this, hcs]
    rfl
end Go.Ev
