/- A part of the proof, without conditions. -/
import Derived.Test.YtjhhommnkaemlaaGreatEvV
set_option linter.unusedVariables false
set_option linter.unusedSimpArgs false
set_option linter.deprecated false
namespace Go.Ev
open Go Go.RowKit
structure PlaceD where
 me : Int
 clock : Int
 chain : List CNode
 log : List Ver
 Bu : List (List Ver)
 fell : Bool
abbrev Md (E F G : TypeId) : Lay (List (List Ver)) := AP G 5864062014805 (ES E F)
def EU (E F N G : TypeId) : Lay PlaceD := LR (BC GH (BC GH (BC (LW E F N) (BC (ES E F) (BC (Md E F G) LBool))))) fun p => (p.me, p.clock, p.chain, p.log, p.Bu, p.fell)
theorem Gx {α : Type} {L : Lay α} {E mx : Nat} : (AP E mx L).n = 1 := rfl
section
variable {E F N G : TypeId} {S : Nat → Prop} {w : World} {cs : List Value} {p : PlaceD}
theorem Me : (EU E F N G).n = 6 := rfl
theorem D.place : D (EU E F N G) S w cs p ↔ ∃ a c a1 c1 a2 c2, cs = [i64 p.me, i64 p.clock, .slice a p.chain.length c, .slice a1 p.log.length c1, .slice a2 p.Bu.length c2, .bool p.fell] ∧
  D (LW E F N) S w [.slice a p.chain.length c] p.chain ∧ D (ES E F) S w [.slice a1 p.log.length c1] p.log ∧ D (Md E F G) S w [.slice a2 p.Bu.length c2] p.Bu := by
 unfold EU
 rw [D.map]
 simp only [D.pair]
 constructor
 ·rintro ⟨c1, d1, rfl, h1, c2, d2, rfl, h2, c3, d3, rfl, h3, c4, d4, rfl, h4, c5, d5, rfl, h5, h6⟩
  obtain rfl := D.int.1 h1
  obtain rfl := D.int.1 h2
  obtain rfl := D.bool.1 h6
  obtain ⟨a, c, rfl, h3⟩ := h3.Gn
  obtain ⟨a1, c1, rfl, h4⟩ := h4.Gn
  obtain ⟨a2, c2, rfl, h5⟩ := h5.Gn
  exact ⟨a, c, a1, c1, a2, c2, rfl, h3, h4, h5⟩
 ·rintro ⟨a, c, a1, c1, a2, c2, rfl, h3, h4, h5⟩
  exact ⟨[_], _, rfl, D.int.2 rfl, [_], _, rfl, D.int.2 rfl, [_], _, rfl, h3, [_], _, rfl, h4, [_], [_], rfl, h5, D.bool.2 rfl⟩
theorem O.DY {S1 S2 S3 : Nat → Prop} {s t u : Value} (h1 : O (LW E F N) S1 w [s] p.chain) (h2 : O (ES E F) S2 w [t] p.log) (h3 : O (Md E F G) S3 w [u] p.Bu) (d12 : ∀ b, b < w.heap.size → S1 b → ¬ S2 b) (d13 : ∀ b, b < w.heap.size → S1 b → ¬ S3 b) (d23 : ∀ b, b < w.heap.size → S2 b → ¬ S3 b) :
  O (EU E F N G) (fun b => S1 b ∨ S2 b ∨ S3 b) w [i64 p.me, i64 p.clock, s, t, u, .bool p.fell] p := by
 unfold EU
 rw [O.map]
 have k5 := O.pair (p := (p.Bu, p.fell)) (S2 := fun _ => False) h3 (O.bool.2 rfl) (fun _ _ _ h => h)
 have k4 := O.pair (p := (p.log, p.Bu, p.fell)) h2 k5 (fun b hb h h' => h'.elim (d23 b hb h) id)
 have k3 := O.pair (p := (p.chain, p.log, p.Bu, p.fell)) h1 k4 (fun b hb h h' => h'.elim (d12 b hb h) fun h' => h'.elim (d13 b hb h) id)
 have k2 := O.pair (p := (p.clock, p.chain, p.log, p.Bu, p.fell)) (S1 := fun _ => False) (O.int.2 rfl) k3 (fun _ _ h => h.elim)
 have k1 := O.pair (p := (p.me, p.clock, p.chain, p.log, p.Bu, p.fell)) (S1 := fun _ => False) (O.int.2 rfl) k2 (fun _ _ h => h.elim)
 exact k1.wide fun b h _ => by
  rcases h with h | h | h | h | h | h
  ·exact h.elim
  ·exact h.elim
  ·exact .inl h
  ·exact .inr (.inl h)
  ·exact .inr (.inr h)
  ·exact h.elim
theorem O.He (h : O (EU E F N G) S w cs p) : ∃ a c a1 c1 a2 c2 S1 S2 S3, cs = [i64 p.me, i64 p.clock, .slice a p.chain.length c, .slice a1 p.log.length c1, .slice a2 p.Bu.length c2, .bool p.fell] ∧
  O (LW E F N) S1 w [.slice a p.chain.length c] p.chain ∧ O (ES E F) S2 w [.slice a1 p.log.length c1] p.log ∧ O (Md E F G) S3 w [.slice a2 p.Bu.length c2] p.Bu ∧
  (∀ b, S1 b → S b ∧ ¬ S2 b ∧ ¬ S3 b ∧ b < w.heap.size) ∧ (∀ b, S2 b → S b ∧ ¬ S1 b ∧ ¬ S3 b ∧ b < w.heap.size) ∧ (∀ b, S3 b → S b ∧ ¬ S1 b ∧ ¬ S2 b ∧ b < w.heap.size) := by
 unfold EU at h
 rw [O.map] at h
 obtain ⟨e1, f1, A1, B1, rfl, h1, k1, x1, y1⟩ := h.CM
 obtain ⟨e2, f2, A2, B2, rfl, h2, k2, x2, y2⟩ := k1.CM
 obtain ⟨e3, f3, A3, B3, rfl, h3, k3, x3, y3⟩ := k2.CM
 obtain ⟨e4, f4, A4, B4, rfl, h4, k4, x4, y4⟩ := k3.CM
 obtain ⟨e5, f5, A5, B5, rfl, h5, k5, x5, y5⟩ := k4.CM
 obtain rfl := O.int.1 h1
 obtain rfl := O.int.1 h2
 obtain rfl := O.bool.1 k5
 obtain ⟨a, c, rfl, h3⟩ := h3.Gn
 obtain ⟨a1, c1, rfl, h4⟩ := h4.Gn
 obtain ⟨a2, c2, rfl, h5⟩ := h5.Gn
 refine ⟨a, c, a1, c1, a2, c2, A3, A4, A5, rfl, h3, h4, h5, fun b hb => ?_, fun b hb => ?_, fun b hb => ?_⟩
 ·have q3 := x3 b hb
  exact ⟨(y1 b (y2 b q3.1).1).1, fun h => q3.2.1 (x4 b h).1, fun h => q3.2.1 (y4 b (x5 b h).1).1, q3.2.2⟩
 ·have q4 := x4 b hb
  have q3 := y3 b q4.1
  exact ⟨(y1 b (y2 b q3.1).1).1, q3.2.1, fun h => q4.2.1 (x5 b h).1, q4.2.2⟩
 ·have q5 := x5 b hb
  have q4 := y4 b q5.1
  have q3 := y3 b q4.1
  exact ⟨(y1 b (y2 b q3.1).1).1, q3.2.1, q4.2.1, q5.2.2⟩
end
end Go.Ev
