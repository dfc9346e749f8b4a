/- A part of the proof: an evaluator of the model, its laws, and contracts of functions; no condition. -/
import Derived.Test.YtgdacclgooaodaaDoorEvJ
set_option linter.unusedVariables false
set_option linter.unusedSimpArgs false
namespace Go.Ev
open Go Go.RowKit
/-! ### A row of one's own, whose elements may be shared -/
section
variable {α : Type} {L : Lay α} {S S' : Nat → Prop} {w w' : World} {E mx g : Nat}
def Row1 (L : Lay α) (E : TypeId) (S : Nat → Prop) (w : World) (g : Nat) (xs : List α) : Prop :=
  ∃ css cur, hp w g = some (.cells cur E (0, 0)) ∧ css.flatten.length ≤ cur.size ∧ cur.toList.take css.flatten.length = css.flatten ∧ All2 (D L S w) css xs ∧ ∀ b, S b → b ≠ g
theorem All2.of3 {β γ δ : Type} {R : β → γ → δ → Prop} {Q : β → γ → Prop} : ∀ {l : List β} {m : List γ} {n : List δ}, All3 R l m n → (∀ a b c, c ∈ n → R a b c → Q a b) → All2 Q l m
  | [], [], [], _, _ => trivial
  | a :: l, b :: m, c :: n, h, k => ⟨k a b c List.mem_cons_self h.1, All2.of3 h.2 fun x y z hz => k x y z (List.mem_cons_of_mem _ hz)⟩
  | [], _ :: _, _, h, _ => h.elim
  | [], [], _ :: _, h, _ => h.elim
  | _ :: _, [], _, h, _ => h.elim
  | _ :: _, _ :: _, [], h, _ => h.elim
theorem Els.d2 {css : List (List Value)} {xs : List α} (h : Els L S w css xs) : All2 (D L S w) css xs := by
  obtain ⟨bss, h3, hn, hS⟩ := h
  refine All2.of3 h3 fun a b c hc h => ?_
  obtain ⟨bs, h4, h5⟩ := L.read h
  exact ⟨bs, h4, fun x hx => hS x (List.mem_flatten.2 ⟨c, hc, h5 x hx⟩)⟩
theorem Row1.len {xs : List α} (h : Row1 L E S w g xs) : g < w.heap.size := by obtain ⟨css, cur, h1, _⟩ := h; exact hp_lt h1
theorem Row1.keep {xs : List α} (h : Row1 L E S w g xs) (k : ∀ b, (S b ∨ b = g) → b < w.heap.size → hp w' b = hp w b) : Row1 L E S w' g xs := by
  obtain ⟨css, cur, h1, h2, h3, h4, h5⟩ := h
  exact ⟨css, cur, (k g (.inr rfl) (hp_lt h1)).trans h1, h2, h3, h4.imp fun _ _ h => h.keep fun b hb hs => k b (.inl hb) hs, h5⟩
theorem Row1.wide {xs : List α} (h : Row1 L E S w g xs) (k : ∀ b, S b → b < w.heap.size → S' b) (hg : ∀ b, S' b → b ≠ g) : Row1 L E S' w g xs := by
  obtain ⟨css, cur, h1, h2, h3, h4, h5⟩ := h
  exact ⟨css, cur, h1, h2, h3, h4.imp fun _ _ h => h.wide k, hg⟩
theorem Row1.d {xs : List α} (h : Row1 L E S w g xs) (hm : xs.length ≤ mx) (hx : xs.length ≤ 9223372036854775807) (c : Nat) : D (LList E mx L) (fun b => S b ∨ b = g) w [.slice (some ⟨g, 0, none⟩) xs.length c] xs := by
  obtain ⟨css, cur, h1, h2, h3, h4, h5⟩ := h
  obtain ⟨bss, h6⟩ := All3.of2 (Q := D L S w) (R := fun cs x bs => L.lay false w cs x bs ∧ ∀ b ∈ bs, S b) (fun a b h => h) h4
  have hr : ∀ b ∈ rowB (.slice (some ⟨g, 0, none⟩) xs.length c) xs, b = g := by
    intro b hb
    cases xs with
    | nil => simp [rowB] at hb
    | cons x xs => simpa [rowB, blkOf] using hb
  refine ⟨_, ⟨_, css, bss, rfl, h6.imp fun _ _ _ _ _ _ h => h.1, hm, ⟨_, _, rfl, hx, .inr ⟨g, 0, rfl, ?_⟩⟩, fun b hb => by rw [hr b hb]; exact hp_lt h1, rfl⟩, fun b hb => ?_⟩
  · intro j v hv
    rw [h1, cellO_some, ← nth_eq, Nat.zero_add]
    rw [← h3, List.getElem?_take] at hv
    split at hv
    · exact hv
    · contradiction
  · rcases List.mem_append.1 hb with hb | hb
    · exact .inr (hr b hb)
    · obtain ⟨l, hl, hb⟩ := List.mem_flatten.1 hb
      obtain ⟨_, _, _, _, h⟩ := h6.mem3 l hl
      exact .inl (h.2 b hb)
end
end Go.Ev
