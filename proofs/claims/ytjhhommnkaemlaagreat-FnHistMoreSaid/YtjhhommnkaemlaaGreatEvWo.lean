/- A part of the proof, without conditions. -/
import Derived.Test.YtjhhommnkaemlaaGreatEvHi
set_option linter.unusedVariables false
set_option linter.unusedSimpArgs false
set_option linter.deprecated false
namespace Go.Ev
open Go Go.RowKit
structure SessD where
 place : Int
 past : List Tag
 wait : Tag
 key : Int
structure FrameD where
 src : Int
 dst : Int
 idx : Int
 BV : Ver
structure WorldD where
 places : List PlaceD
 Ar : List SessD
 net : List FrameD
 AE : List Done
def HH (E : TypeId) : Lay SessD := LR (BC GH (BC (GD E) (BC Ey GH))) fun s => (s.place, s.past, s.wait, s.key)
def GP (E : TypeId) : Lay FrameD := LR (BC GH (BC GH (BC GH (Ko E)))) fun f => (f.src, f.dst, f.idx, f.BV)
abbrev Fj (E F N G A : TypeId) : Lay (List PlaceD) := AP A 1466015503701 (EU E F N G)
abbrev HU (E B : TypeId) : Lay (List SessD) := AP B 2513169434916 (HH E)
abbrev Er (E C : TypeId) : Lay (List FrameD) := AP C 1466015503701 (GP E)
def Cy (E F N G A B C H : TypeId) : Lay WorldD := LR (BC (Fj E F N G A) (BC (HU E B) (BC (Er E C) (Hg H)))) fun w => (w.places, w.Ar, w.net, w.AE)
section
variable {E F N G A B C H : TypeId} {S : Nat → Prop} {w : World} {cs : List Value}
theorem SV : (HH E).n = 5 := rfl
theorem ON : (GP E).n = 9 := rfl
theorem D.Ar {s : SessD} : D (HH E) S w cs s ↔ ∃ a c, cs = [i64 s.place, .slice a s.past.length c, i64 s.wait.t, i64 s.wait.p, i64 s.key] ∧ D (GD E) S w [.slice a s.past.length c] s.past := by
 unfold HH
 rw [D.map]
 simp only [D.pair, D.int, D.tag]
 constructor
 ·rintro ⟨c1, d1, rfl, rfl, c2, d2, rfl, h2, c3, d3, rfl, rfl, rfl⟩
  obtain ⟨a, c, rfl, h⟩ := h2.Gn
  exact ⟨a, c, rfl, h⟩
 ·rintro ⟨a, c, rfl, h⟩
  exact ⟨[_], _, rfl, rfl, [_], _, rfl, h, [_, _], _, rfl, rfl, rfl⟩
theorem O.Ar {s : SessD} : O (HH E) S w cs s ↔ ∃ a c, cs = [i64 s.place, .slice a s.past.length c, i64 s.wait.t, i64 s.wait.p, i64 s.key] ∧ O (GD E) S w [.slice a s.past.length c] s.past := by
 unfold HH
 rw [O.map]
 constructor
 ·intro h
  obtain ⟨e1, f1, A1, B1, rfl, h1, k1, x1, y1⟩ := h.CM
  obtain ⟨e2, f2, A2, B2, rfl, h2, k2, x2, y2⟩ := k1.CM
  obtain ⟨e3, f3, A3, B3, rfl, h3, k3, x3, y3⟩ := k2.CM
  obtain rfl := O.int.1 h1
  obtain rfl := O.tag.1 h3
  obtain rfl := O.int.1 k3
  obtain ⟨a, c, rfl, h9⟩ := h2.Gn
  exact ⟨a, c, rfl, h9.wide fun b hb _ => (y1 b (x2 b hb).1).1⟩
 ·rintro ⟨a, c, rfl, h⟩
  have k2 := O.pair (p := (s.wait, s.key)) (S1 := fun _ => False) (S2 := fun _ => False) (w := w) (O.tag.2 rfl) (O.int.2 rfl) (fun _ _ h => h.elim)
  have k1 := O.pair (p := (s.past, s.wait, s.key)) h k2 (fun _ _ _ h => h.elim id id)
  have k0 := O.pair (p := (s.place, s.past, s.wait, s.key)) (S1 := fun _ => False) (O.int.2 rfl) k1 (fun _ _ h => h.elim)
  exact k0.wide fun b h _ => by
   rcases h with h | h | h | h
   ·exact h.elim
   ·exact h
   ·exact h.elim
   ·exact h.elim
theorem D.frame {f : FrameD} : D (GP E) S w cs f ↔ ∃ ds, cs = i64 f.src :: i64 f.dst :: i64 f.idx :: ds ∧ D (Ko E) S w ds f.BV := by
 unfold GP
 rw [D.map]
 simp only [D.pair, D.int]
 constructor
 ·rintro ⟨c1, d1, rfl, rfl, c2, d2, rfl, rfl, c3, d3, rfl, rfl, h⟩
  exact ⟨d3, rfl, h⟩
 ·rintro ⟨ds, rfl, h⟩
  exact ⟨[_], _, rfl, rfl, [_], _, rfl, rfl, [_], _, rfl, rfl, h⟩
theorem O.frame {f : FrameD} : O (GP E) S w cs f ↔ ∃ ds, cs = i64 f.src :: i64 f.dst :: i64 f.idx :: ds ∧ O (Ko E) S w ds f.BV := by
 unfold GP
 rw [O.map]
 constructor
 ·intro h
  obtain ⟨e1, f1, A1, B1, rfl, h1, k1, x1, y1⟩ := h.CM
  obtain ⟨e2, f2, A2, B2, rfl, h2, k2, x2, y2⟩ := k1.CM
  obtain ⟨e3, f3, A3, B3, rfl, h3, k3, x3, y3⟩ := k2.CM
  obtain rfl := O.int.1 h1
  obtain rfl := O.int.1 h2
  obtain rfl := O.int.1 h3
  exact ⟨f3, rfl, k3.wide fun b hb _ => (y1 b (y2 b (y3 b hb).1).1).1⟩
 ·rintro ⟨ds, rfl, h⟩
  have k2 := O.pair (p := (f.idx, f.BV)) (S1 := fun _ => False) (O.int.2 rfl) h (fun _ _ h => h.elim)
  have k1 := O.pair (p := (f.dst, f.idx, f.BV)) (S1 := fun _ => False) (O.int.2 rfl) k2 (fun _ _ h => h.elim)
  have k0 := O.pair (p := (f.src, f.dst, f.idx, f.BV)) (S1 := fun _ => False) (O.int.2 rfl) k1 (fun _ _ h => h.elim)
  exact k0.wide fun b h _ => by
   rcases h with h | h | h | h
   ·exact h.elim
   ·exact h.elim
   ·exact h.elim
   ·exact h
theorem D.world {x : WorldD} : D (Cy E F N G A B C H) S w cs x ↔ ∃ a c a1 c1 a2 c2 a3 c3, cs = [.slice a x.places.length c, .slice a1 x.Ar.length c1, .slice a2 x.net.length c2, .slice a3 x.AE.length c3] ∧
  D (Fj E F N G A) S w [.slice a x.places.length c] x.places ∧ D (HU E B) S w [.slice a1 x.Ar.length c1] x.Ar ∧ D (Er E C) S w [.slice a2 x.net.length c2] x.net ∧ D (Hg H) S w [.slice a3 x.AE.length c3] x.AE := by
 unfold Cy
 rw [D.map]
 simp only [D.pair]
 constructor
 ·rintro ⟨c1, d1, rfl, h1, c2, d2, rfl, h2, c3, d3, rfl, h3, h4⟩
  obtain ⟨a, c, rfl, h1⟩ := h1.Gn
  obtain ⟨a1, c1, rfl, h2⟩ := h2.Gn
  obtain ⟨a2, c2, rfl, h3⟩ := h3.Gn
  obtain ⟨a3, c3, rfl, h4⟩ := h4.Gn
  exact ⟨a, c, a1, c1, a2, c2, a3, c3, rfl, h1, h2, h3, h4⟩
 ·rintro ⟨a, c, a1, c1, a2, c2, a3, c3, rfl, h1, h2, h3, h4⟩
  exact ⟨[_], _, rfl, h1, [_], _, rfl, h2, [_], _, rfl, h3, h4⟩
structure Parts (E F N G A B C H : TypeId) (w : World) (x : WorldD) (s t u v : Value) (S1 S2 S3 S4 : Nat → Prop) : Prop where
 o1 : O (Fj E F N G A) S1 w [s] x.places
 o2 : O (HU E B) S2 w [t] x.Ar
 o3 : O (Er E C) S3 w [u] x.net
 o4 : O (Hg H) S4 w [v] x.AE
 d12 : ∀ b, b < w.heap.size → S1 b → ¬ S2 b
 d13 : ∀ b, b < w.heap.size → S1 b → ¬ S3 b
 d14 : ∀ b, b < w.heap.size → S1 b → ¬ S4 b
 d23 : ∀ b, b < w.heap.size → S2 b → ¬ S3 b
 d24 : ∀ b, b < w.heap.size → S2 b → ¬ S4 b
 d34 : ∀ b, b < w.heap.size → S3 b → ¬ S4 b
theorem Parts.mk' {x : WorldD} {s t u v : Value} {S1 S2 S3 S4 : Nat → Prop} (p : Parts E F N G A B C H w x s t u v S1 S2 S3 S4) :
  O (Cy E F N G A B C H) (fun b => S1 b ∨ S2 b ∨ S3 b ∨ S4 b) w [s, t, u, v] x := by
 unfold Cy
 rw [O.map]
 have k3 := O.pair (p := (x.net, x.AE)) p.o3 p.o4 p.d34
 have k2 := O.pair (p := (x.Ar, x.net, x.AE)) p.o2 k3 (fun b hb h h' => h'.elim (p.d23 b hb h) (p.d24 b hb h))
 have k1 := O.pair (p := (x.places, x.Ar, x.net, x.AE)) p.o1 k2 (fun b hb h h' => h'.elim (p.d12 b hb h) fun h' => h'.elim (p.d13 b hb h) (p.d14 b hb h))
 exact k1
theorem O.GQ {x : WorldD} (h : O (Cy E F N G A B C H) S w cs x) : ∃ a c a1 c1 a2 c2 a3 c3 S1 S2 S3 S4, cs = [.slice a x.places.length c, .slice a1 x.Ar.length c1, .slice a2 x.net.length c2, .slice a3 x.AE.length c3] ∧
  Parts E F N G A B C H w x (.slice a x.places.length c) (.slice a1 x.Ar.length c1) (.slice a2 x.net.length c2) (.slice a3 x.AE.length c3) S1 S2 S3 S4 ∧ (∀ b, S1 b ∨ S2 b ∨ S3 b ∨ S4 b → S b ∧ b < w.heap.size) := by
 unfold Cy at h
 rw [O.map] at h
 obtain ⟨e1, f1, A1, B1, rfl, h1, k1, x1, y1⟩ := h.CM
 obtain ⟨e2, f2, A2, B2, rfl, h2, k2, x2, y2⟩ := k1.CM
 obtain ⟨e3, f3, A3, B3, rfl, h3, k3, x3, y3⟩ := k2.CM
 obtain ⟨a, c, rfl, h1⟩ := h1.Gn
 obtain ⟨a1, c1, rfl, h2⟩ := h2.Gn
 obtain ⟨a2, c2, rfl, h3⟩ := h3.Gn
 obtain ⟨a3, c3, rfl, k3⟩ := k3.Gn
 refine ⟨a, c, a1, c1, a2, c2, a3, c3, A1, A2, A3, B3, rfl, ⟨h1, h2, h3, k3, fun b _ q q' => (x1 b q).2.1 (x2 b q').1, fun b _ q q' => (x1 b q).2.1 (y2 b (x3 b q').1).1, fun b _ q q' => (x1 b q).2.1 (y2 b (y3 b q').1).1, fun b _ q q' => (x2 b q).2.1 (x3 b q').1, fun b _ q q' => (x2 b q).2.1 (y3 b q').1, fun b _ q q' => (x3 b q).2.1 q'⟩, fun b hb => ?_⟩
 rcases hb with h | h | h | h
 ·exact ⟨(x1 b h).1, (x1 b h).2.2⟩
 ·exact ⟨(y1 b (x2 b h).1).1, (x2 b h).2.2⟩
 ·exact ⟨(y1 b (y2 b (x3 b h).1).1).1, (x3 b h).2.2⟩
 ·exact ⟨(y1 b (y2 b (y3 b h).1).1).1, (y3 b h).2.2⟩
end
end Go.Ev
