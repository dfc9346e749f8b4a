/- A part of the proof, without conditions. -/
import Derived.Test.YtjhhommnkaemlaaGreatEvK
set_option linter.unusedVariables false
set_option linter.unusedSimpArgs false
set_option linter.deprecated false
namespace Go.Ev
open Go Go.RowKit
section
variable {P : Program} {α : Type} {L : Lay α} {S : Nat → Prop} {w : World} {E : TypeId} {mx : Nat} {xs : List α}
theorem O.clip {a : Option Addr} {n c : Nat} (h : O (AP E mx L) S w [.slice a n c] xs) : n ≤ c ∧ c ≤ 9223372036854775807 ∧ O (AP E mx L) S w [.slice a n n] xs := by
 obtain ⟨bs, ⟨s, css, bss, hs, h3, hm, hO, hb⟩, hn, hS⟩ := h
 obtain rfl := (List.cons.inj hs).1
 obtain ⟨hl, hn9, ho⟩ := hO
 rcases ho with ⟨h1, h0⟩ | ⟨g, cap, cur, h1, hg, hh, hc, hcm, hsz, ht⟩
 ·cases h1
  exact ⟨Nat.le_refl _, by omega, bs, ⟨_, css, bss, rfl, h3, hm, ⟨hl, hn9, .inl ⟨rfl, h0⟩⟩, hb⟩, hn, hS⟩
 ·cases h1
  exact ⟨hc, hcm, bs, ⟨_, css, bss, rfl, h3, hm, ⟨hl, hn9, .inr ⟨g, xs.length, cur, rfl, hg, hh, Nat.le_refl _, hn9, Nat.le_trans (Nat.mul_le_mul_right _ hc) hsz, ht⟩⟩, hb⟩, hn, hS⟩
end
end Go.Ev
