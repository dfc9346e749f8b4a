/- A part of the proof: an evaluator of the model, its laws, and contracts of functions; no condition. -/
import Derived.Test.YtjhhommnkaemlaaGreatEvHm
set_option linter.unusedVariables false
set_option linter.unusedSimpArgs false
set_option linter.deprecated false
namespace Go.Ev
open Go Go.RowKit
def VQ : Wr → Wr → Prop
 | [], [] => True
 | (t, s, k, p) :: xs, (t', s', k', p') :: ys => (t = t' ∧ s = s' ∧ k = k' ∧ Pw p p') ∧ VQ xs ys
 | _, _ => False
structure Apart (s : Int) (a b : Book) : Prop where
 le : ∀ i, 0 ≤ i → Pw (vw a i) (vw b i)
 z : vw a s = List.replicate 4 ⟨0, 0⟩
 w : VQ a.wr b.wr
def Jl (wr : Wr) (v : List Tag) : Prop := ∀ k : Nat, 0 < (v.getD k ⟨0, 0⟩).t → ∃ s past, BD wr (v.getD k ⟨0, 0⟩) = some (s, (k : Int), past) ∧ Pw past v
theorem Rk {wr m : Wr} {t : Tag} {x : Int × Int × List Tag} (h : BD wr t = some x) : BD (wr ++ m) t = some x := by
 unfold BD at h ⊢
 rw [List.find?_append]
 cases e : wr.find? (fun p => p.1 == t) with
 | none => rw [e] at h; cases h
 | some y => rw [e] at h; exact h
theorem Jl.app {wr m : Wr} {v : List Tag} (h : Jl wr v) : Jl (wr ++ m) v := fun k hk => by
 obtain ⟨s, past, h1, h2⟩ := h k hk
 exact ⟨s, past, Rk h1, h2⟩
structure Closed (b : Book) : Prop where
 v : ∀ i, 0 ≤ i → i ≤ 3 → Jl b.wr (vw b i)
 r : ∀ p ∈ b.wr, Jl b.wr p.2.2.2
end Go.Ev
