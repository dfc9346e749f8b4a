/- A part of the proof: an evaluator of the model, its laws, and contracts of functions; no condition. -/
import Derived.Test.YtligcpabhddggaaEvK
set_option linter.unusedVariables false
set_option linter.unusedSimpArgs false
namespace Go.Ev
open Go Go.RowKit
/-! ### Parts of an owned row -/
section
variable {P : Program}
variable {α : Type} {L : Lay α} {S S1 : Nat → Prop} {w : World} {E mx : Nat}
theorem D.ofSl {s : Value} {css : List (List Value)} {xs : List α} (h1 : Sl w s xs.length css.flatten) (h2 : All2 (D L S w) css xs) (hb : ∀ b ∈ (blkOf s).toList, S b ∧ b < w.heap.size) (h3 : xs.length ≤ mx) : D (LList E mx L) S w [s] xs := by
  obtain ⟨bss, h6⟩ := All3.of2 (Q := D L S w) (R := fun cs x bs => L.lay false w cs x bs ∧ ∀ b ∈ bs, S b) (fun a b h => h) h2
  have hr : ∀ b ∈ rowB s xs, b ∈ (blkOf s).toList := by
    intro b hb
    cases xs with
    | nil => simp [rowB] at hb
    | cons x xs => simpa [rowB] using hb
  refine ⟨_, ⟨s, css, bss, rfl, h6.imp fun _ _ _ _ _ _ h => h.1, h3, h1, fun b h => (hb b (hr b h)).2, rfl⟩, fun b h => ?_⟩
  rcases List.mem_append.1 h with h | h
  · exact (hb b (hr b h)).1
  · obtain ⟨l, hl, h⟩ := List.mem_flatten.1 h
    obtain ⟨_, _, _, _, q⟩ := h6.mem3 l hl
    exact q.2 b h
theorem D.take {a : Option Addr} {n c k : Nat} {xs : List α} (h : D (LList E mx L) S w [.slice a n c] xs) (hk : k ≤ n) : D (LList E mx L) S w [.slice a k c] (xs.take k) := by
  have hn := h.n
  obtain ⟨bs, ⟨s', css, bss, he, h3, hm, ⟨⟨a', c', e1, hn9, h1⟩, hlt, rfl⟩⟩, hS⟩ := h
  obtain rfl : .slice a n c = s' := by simpa using he
  simp only [Value.slice.injEq] at e1
  obtain ⟨rfl, _, rfl⟩ := e1
  have hl : (xs.take k).length = k := by rw [List.length_take]; omega
  have hbr : ∀ z ∈ rowB (.slice a k c) (xs.take k), z ∈ rowB (.slice a n c) xs := by
    intro z hz
    cases xs with
    | nil => simp [rowB] at hz
    | cons y ys =>
      cases k with
      | zero => simp [rowB] at hz
      | succ k =>
        cases a with
        | none => simp [rowB, blkOf] at hz
        | some _ => simpa [rowB, blkOf] using hz
  have hfl : ∀ z ∈ (bss.take k).flatten, z ∈ bss.flatten := by
    intro z hz
    obtain ⟨l, hl, hz⟩ := List.mem_flatten.1 hz
    exact List.mem_flatten.2 ⟨l, List.mem_of_mem_take hl, hz⟩
  refine ⟨_, ⟨_, css.take k, bss.take k, rfl, h3.take k, by omega, ⟨a, c, by rw [hl], by omega, ?_⟩, fun b hb => hlt b (hbr b hb), rfl⟩, fun b hb => ?_⟩
  · rcases h1 with h1 | ⟨b, o, rfl, h1⟩
    · left
      have e : css.flatten = (css.take k).flatten ++ (css.drop k).flatten := by rw [← List.flatten_append, List.take_append_drop]
      rw [e] at h1
      exact (List.append_eq_nil_iff.1 h1).1
    · right
      refine ⟨b, o, rfl, fun j v hv => h1 j v ?_⟩
      have e : css.flatten = (css.take k).flatten ++ (css.drop k).flatten := by rw [← List.flatten_append, List.take_append_drop]
      rw [e, List.getElem?_append_left ((List.getElem?_eq_some_iff.1 hv).1)]
      exact hv
  · rcases List.mem_append.1 hb with hb | hb
    · exact hS b (List.mem_append_left _ (hbr b hb))
    · exact hS b (List.mem_append_right _ (hfl b hb))
end
end Go.Ev
