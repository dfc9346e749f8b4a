/- A part of the proof, without conditions. -/
import Derived.Test.YtjhhommnkaemlaaGreatEvO
import Derived.Test.YtjhhommnkaemlaaGreatEvR
set_option linter.unusedVariables false
set_option linter.unusedSimpArgs false
set_option linter.deprecated false
namespace Go.Ev
open Go Go.RowKit Go.ChangeShapes Go.WideShapes Go.ChangeAt
section
variable {P : Program} {t e E : TypeId} {α β : Type} {L : Lay α} {M : Lay β} {mx bytes : Nat}
theorem Sz {R : World → List Value → α → Prop} {R' : World → List Value → β → Prop} (h : Rd P t R) (h' : Rd P t R') : Rd P t (fun W cs (p : α × β) => R W cs p.1 ∧ R' W cs p.2) := by
 intro H enc W fuel cs x ps hx hw
 obtain ⟨a, ha⟩ := h H enc W fuel cs x ps hx hw
 obtain ⟨b, hb⟩ := h' H enc W fuel cs x ps hx hw
 exact ⟨(a, b), ha, hb⟩
theorem TE (hu : P.underlying t = some (.slice e)) : Rd P t (fun W cs (_ : Unit) => ∃ a n c, cs = [.slice a n c] ∧ n ≤ c ∧ c ≤ 9223372036854775807) := by
 intro H enc W fuel cs x ps h hw
 rcases DataW.trod_slice hu h with ⟨rfl, _⟩ | ⟨a, len, cap, elems, rest, n, rfl, rfl, hx, _, hlc, hcm, hlen, hel, _, _⟩
 ·exact ⟨(), none, 0, 0, rfl, Nat.le_refl _, by decide⟩
 ·exact ⟨(), some a, len, cap, rfl, hlc, Nat.le_trans hcm (by decide)⟩
theorem RJ (hu : P.underlying t = some (.slice e)) (hs : P.cellsOf e = 1) (hb : P.bytesOf e = 1) (he : P.underlying e = some (.int .u8)) : Rd P t fun W cs ns => ∃ s, cs = [s] ∧ CZ W s ns :=
 SN (Sz (QB hu hs (by omega) hb (SM he)) (TE hu)) fun W cs ⟨ns, _⟩ ⟨⟨s, css, h1, ⟨a, c, h2, h3, h4⟩, h5, h6, h7⟩, a', n', c', h8, h9, h10⟩ => ⟨ns, s, h1, by
  subst h2
  rw [h1] at h8
  simp only [List.cons.injEq, Value.slice.injEq, and_true] at h8
  obtain ⟨rfl, rfl, rfl⟩ := h8
  have key : ∀ (css : List (List Value)) (ns : List Int), CY (fun cs n => cs = [.int .u8 n] ∧ (Lit.int .u8 n).wf = true) css ns → css.flatten = ns.map (Value.int .u8) ∧ ∀ n ∈ ns, 0 ≤ n ∧ n ≤ 255 := by
   intro css
   induction css with
   | nil => intro ns h; cases ns with
    | nil => exact ⟨rfl, fun n hn => by simp at hn⟩
    | cons _ _ => exact h.elim
   | cons c css ih => intro ns h; cases ns with
    | nil => exact h.elim
    | cons n ns =>
     obtain ⟨h1, h2⟩ := ih ns h.2
     obtain ⟨h3, h4⟩ := h.1
     refine ⟨by rw [List.flatten_cons, h3, h1]; rfl, fun m hm => ?_⟩
     rcases List.mem_cons.1 hm with rfl | hm
     ·simp only [Lit.wf, Bool.and_eq_true, decide_eq_true_eq, show IntKind.u8.min = 0 from by decide, show IntKind.u8.max = 255 from by decide] at h4
      exact h4
     ·exact h2 m hm
  obtain ⟨k1, k2⟩ := key css ns h5
  rw [k1] at h4
  refine ⟨a, c, rfl, h9, h10, k2, ?_⟩
  rcases h4 with h4 | h4
  ·exact .inl (by simpa using h4)
  ·exact .inr h4⟩
end
end Go.Ev
