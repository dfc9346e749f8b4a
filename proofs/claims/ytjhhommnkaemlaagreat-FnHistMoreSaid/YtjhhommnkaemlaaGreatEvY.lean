/- A part of the proof, without conditions. -/
import Derived.Lib.AppendZeros
import Derived.Test.YtjhhommnkaemlaaGreatEvX
set_option linter.unusedVariables false
set_option linter.unusedSimpArgs false
set_option linter.deprecated false
namespace Go.Ev
open Go Go.RowKit
section
variable {P : Program} {α : Type} {L : Lay α} {S S1 : Nat → Prop} {w w' : World} {E mx B : Nat}
def Ew (L : Lay α) (E : TypeId) (S : Nat → Prop) (B : Nat) (w : World) (s : Value) (xs : List α) : Prop :=
 ∃ css, Il w B E L.n s xs.length css.flatten ∧ BU (D L S w) css xs ∧ ∀ b ∈ (Av s).toList, ¬ S b ∧ b < w.heap.size
theorem BU.T8 {β γ : Type} {R : β → γ → Prop} : ∀ {l : List β} {m : List γ} {l' : List β} {m' : List γ}, BU R l m → BU R l' m' → BU R (l ++ l') (m ++ m')
 | [], [], _, _, _, h => h
 | a :: l, b :: m, _, _, h, h' => ⟨h.1, BU.T8 h.2 h'⟩
 | [], _ :: _, _, _, h, _ => h.elim
 | _ :: _, [], _, _, h, _ => h.elim
theorem Ew.Aj {s : Value} {xs : List α} (h : Ew L E S B w s xs) (k : ∀ b, S b ∨ b ∈ (Av s).toList → b < w.heap.size → hp w' b = hp w b) (hw : w.heap.size ≤ w'.heap.size) : Ew L E S B w' s xs := by
 obtain ⟨css, h1, h2, h3⟩ := h
 exact ⟨css, h1.Aj fun g hg => k g (.inr (by simp [hg])) (h3 g (by simp [hg])).2, h2.imp fun _ _ h => h.Aj fun b hb hs => k b (.inl hb) hs, fun b hb => ⟨(h3 b hb).1, Nat.lt_of_lt_of_le (h3 b hb).2 hw⟩⟩
theorem Ew.Ai {s : Value} {xs : List α} (h : Ew L E S B w s xs) : ∀ b ∈ (Av s).toList, B ≤ b := by
 obtain ⟨css, h1, _⟩ := h
 exact fun b hb => (h1.lt (g := b) (by simpa using hb)).1
theorem Ew.d {s : Value} {xs : List α} (h : Ew L E S B w s xs) (hm : xs.length ≤ mx) : D (AP E mx L) (fun b => S b ∨ b ∈ (Av s).toList) w [s] xs := by
 obtain ⟨css, h1, h2, h3⟩ := h
 exact D.T9 h1.sl (h2.imp fun _ _ h => h.wide fun b h _ => .inl h) (fun b hb => ⟨.inr hb, (h3 b hb).2⟩) hm
end
end Go.Ev
