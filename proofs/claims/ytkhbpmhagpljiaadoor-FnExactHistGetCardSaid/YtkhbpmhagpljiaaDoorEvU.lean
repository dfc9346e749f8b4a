/- A part of the proof: an evaluator of the model, its laws, and contracts of functions; no condition. -/
import Derived.Test.YtkhbpmhagpljiaaDoorEvO
set_option linter.unusedVariables false
set_option linter.unusedSimpArgs false
namespace Go.Ev
open Go Go.RowKit
/-! ### What is read of a row without its first element -/
section
variable {P : Program} {α : Type} {L : Lay α} {S : Nat → Prop} {w : World} {E mx : Nat}
theorem D.tail {b o n c : Nat} {x : α} {xs : List α} (h0 : 0 < L.n) (h : D (LList E mx L) S w [.slice (some ⟨b, o, none⟩) n c] (x :: xs)) : D (LList E mx L) S w [.slice (some ⟨b, o + L.n, none⟩) xs.length (c - 1)] xs := by
  obtain ⟨bs, ⟨s', css, bss, he, h3, hm, ⟨⟨a, c', e1, hn, h1⟩, hlt, rfl⟩⟩, hS⟩ := h
  obtain rfl : .slice (some ⟨b, o, none⟩) n c = s' := by simpa using he
  simp only [Value.slice.injEq] at e1
  obtain ⟨rfl, rfl, rfl⟩ := e1
  cases css with
  | nil => exact h3.elim
  | cons d css =>
    cases bss with
    | nil => exact h3.elim
    | cons e bss =>
      have hd := L.len h3.1
      have hA : At w b o (d ++ css.flatten) := by
        rcases h1 with h1 | ⟨b', o', h1, h2⟩
        · have : d = [] := (List.append_eq_nil_iff.1 (by simpa using h1 : d ++ css.flatten = [])).1
          rw [this] at hd
          simp at hd
          omega
        · simp only [Option.some.injEq, Addr.mk.injEq, and_true] at h1
          obtain ⟨rfl, rfl⟩ := h1
          simpa using h2
      have hA2 : At w b (o + L.n) css.flatten := by
        intro j v hv
        rw [Nat.add_assoc]
        refine hA (L.n + j) v ?_
        rw [List.getElem?_append_right (by omega), hd, Nat.add_sub_cancel_left]
        exact hv
      have hbr : ∀ z ∈ rowB (.slice (some ⟨b, o + L.n, none⟩) xs.length (c - 1)) xs, z = b := by
        intro z hz
        cases xs with
        | nil => simp [rowB] at hz
        | cons y ys => simpa [rowB, blkOf] using hz
      have hb : b ∈ rowB (.slice (some ⟨b, o, none⟩) (x :: xs).length c) (x :: xs) := by simp [rowB, blkOf]
      refine ⟨_, ⟨_, css, bss, rfl, h3.2, ?_, ⟨_, _, rfl, ?_, .inr ⟨b, o + L.n, rfl, hA2⟩⟩, ?_, rfl⟩, ?_⟩
      · simp only [List.length_cons] at hm; omega
      · simp only [List.length_cons] at hn; omega
      · intro z hz
        rw [hbr z hz]
        exact hlt b hb
      · intro z hz
        rcases List.mem_append.1 hz with hz | hz
        · rw [hbr z hz]
          exact hS b (List.mem_append_left _ hb)
        · exact hS z (List.mem_append_right _ (by rw [List.flatten_cons]; exact List.mem_append_right _ hz))
end
end Go.Ev
