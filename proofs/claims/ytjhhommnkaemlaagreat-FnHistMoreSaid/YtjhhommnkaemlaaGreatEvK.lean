/- A part of the proof, without conditions. -/
import Derived.Test.YtjhhommnkaemlaaGreatEvJ
set_option linter.unusedVariables false
set_option linter.unusedSimpArgs false
set_option linter.deprecated false
namespace Go.Ev
open Go Go.RowKit
section
variable {α : Type} {L : Lay α} {S S' : Nat → Prop} {w w' : World} {E mx g : Nat}
theorem BU.Yd {β γ δ : Type} {R : β → γ → δ → Prop} {Q : β → γ → Prop} : ∀ {l : List β} {m : List γ} {n : List δ}, Bc R l m n → (∀ a b c, c ∈ n → R a b c → Q a b) → BU Q l m
 | [], [], [], _, _ => trivial
 | a :: l, b :: m, c :: n, h, k => ⟨k a b c List.mem_cons_self h.1, BU.Yd h.2 fun x y z hz => k x y z (List.mem_cons_of_mem _ hz)⟩
 | [], _ :: _, _, h, _ => h.elim
 | [], [], _ :: _, h, _ => h.elim
 | _ :: _, [], _, h, _ => h.elim
 | _ :: _, _ :: _, [], h, _ => h.elim
theorem FP.d2 {css : List (List Value)} {xs : List α} (h : FP L S w css xs) : BU (D L S w) css xs := by
 obtain ⟨bss, h3, hn, hS⟩ := h
 refine BU.Yd h3 fun a b c hc h => ?_
 obtain ⟨bs, h4, h5⟩ := L.read h
 exact ⟨bs, h4, fun x hx => hS x (List.mem_flatten.2 ⟨c, hc, h5 x hx⟩)⟩
end
end Go.Ev
