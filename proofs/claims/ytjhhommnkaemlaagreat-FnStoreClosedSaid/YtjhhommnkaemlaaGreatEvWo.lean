/- A part of the proof, without conditions. -/
import Derived.Lib.AppendZeros
import Derived.Test.YtjhhommnkaemlaaGreatEvX
import Derived.Test.YtjhhommnkaemlaaGreatEvN
set_option linter.unusedVariables false
set_option linter.unusedSimpArgs false
set_option linter.deprecated false
namespace Go.Ev
open Go Go.RowKit
section
variable {P : Program} {α : Type} {L : Lay α} {S S1 : Nat → Prop} {w w' : World} {E mx B : Nat}
end
structure Done where
 Az : Int
 kind : Int
 key : Int
 tag : Tag
def I2 : Lay Done := LV (BD GC (BD GC (BD GC EN))) fun d => (d.Az, d.kind, d.key, d.tag)
abbrev Ih (E : TypeId) : Lay (List Done) := AQ E 3518437208883 I2
abbrev PB (d : Done) : List Value := [i64 d.Az, i64 d.kind, i64 d.key, i64 d.tag.t, i64 d.tag.p]
section
variable {S : Nat → Prop} {w : World} {cs : List Value} {d : Done}
theorem D.done : D I2 S w cs d ↔ cs = PB d := by
 unfold I2
 rw [D.map]
 simp only [D.pair, D.int, D.tag]
 constructor
 ·rintro ⟨c1, d1, rfl, rfl, c2, d2, rfl, rfl, c3, d3, rfl, rfl, rfl⟩
  rfl
 ·rintro rfl
  exact ⟨[_], _, rfl, rfl, [_], _, rfl, rfl, [_], _, rfl, rfl, rfl⟩
theorem O.done : O I2 S w cs d ↔ cs = PB d := by
 constructor
 ·rintro ⟨bs, h, _⟩
  have : D I2 (fun _ => True) w cs d := by
   obtain ⟨bs', h', _⟩ := I2.read h
   exact ⟨bs', h', fun _ _ => trivial⟩
  exact D.done.1 this
 ·rintro rfl
  exact ⟨[], ⟨[_], _, [], [], rfl, ⟨rfl, rfl⟩, ⟨[_], _, [], [], rfl, ⟨rfl, rfl⟩, ⟨[_], _, [], [], rfl, ⟨rfl, rfl⟩, ⟨rfl, rfl⟩, rfl⟩, rfl⟩, rfl⟩, by simp, by simp⟩
end
abbrev Wr := List (Tag × Int × Int × List Tag)
def MP (wr : Wr) (t : Tag) : Option (Int × Int × List Tag) := (wr.find? fun p => p.1 == t).map (·.2)
structure Book where
 vs : List (List Tag)
 wr : Wr
def view (b : Book) (d : Done) : List Tag := b.vs.getD d.Az.toNat []
def C6 (p : List Tag) (k : Nat) (t : Tag) : List Tag := p.set k (CK (p.getD k ⟨0, 0⟩) t)
def TR (b : Book) (d : Done) : Option Book :=
 if d.kind == 1 then (if (MP b.wr d.tag).isSome || decide (d.tag.t ≤ EM 0 (view b d)) then none else some ⟨b.vs, b.wr ++ [(d.tag, d.Az, d.key, view b d)]⟩)
 else if AH d.tag ((view b d).getD d.key.toNat ⟨0, 0⟩) then none
 else if decide (0 < d.tag.t) then (match MP b.wr d.tag with
  | none => none
  | some (s, k, past) => if k != d.key || ((d.kind == 3) && (s != d.Az)) then none else some ⟨b.vs.set d.Az.toNat (C6 (BT (view b d) past) d.key.toNat d.tag), b.wr⟩)
 else some b
def TS : Book → List Done → Book × Nat
 | b, [] => (b, 0)
 | b, d :: l => match TR b d with
  | none => (b, 0)
  | some b' => ((TS b' l).1, (TS b' l).2 + 1)
theorem FZ (p : List Tag) (k : Nat) (t : Tag) : (C6 p k t).length = p.length := by simp [C6]
section
variable {L : Lay (List Tag)} {w w' : World} {S S' : Nat → Prop} {E : TypeId} {g : Nat} {cur : List Value} {vs : List (List Tag)}
end
section
variable {P : Program} {α : Type} {L : Lay α} {S S1 S' : Nat → Prop} {w w' : World} {E mx B : Nat}
end
section
variable {L : Lay (List Tag)} {S S' : Nat → Prop} {w0 w w' : World} {E B : Nat}
end
end Go.Ev
namespace Go.Ev
open Go Go.RowKit
def O2 (a b : Tag) : Prop := a.t < b.t ∨ (a.t = b.t ∧ a.p ≤ b.p)
theorem Nu {a b : Tag} : AH b a = false ↔ O2 a b := by
 simp only [AH, O2, Bool.or_eq_false_iff, decide_eq_false_iff_not, Bool.and_eq_false_iff, beq_eq_false_iff_ne, ne_eq]
 omega
theorem O2.refl (a : Tag) : O2 a a := .inr ⟨rfl, Int.le_refl _⟩
theorem O2.trans {a b c : Tag} (h : O2 a b) (k : O2 b c) : O2 a c := by unfold O2 at *; omega
theorem SO (a b : Tag) : O2 a (CK a b) := by
 unfold CK
 cases h : AH a b
 ·exact O2.refl a
 ·rw [if_pos rfl]
  simp only [AH, Bool.or_eq_true, Bool.and_eq_true, decide_eq_true_eq, beq_iff_eq] at h
  unfold O2; omega
theorem SP (a b : Tag) : O2 b (CK a b) := by
 unfold CK
 cases h : AH a b
 ·exact Nu.1 h
 ·exact O2.refl b
def Pw : List Tag → List Tag → Prop
 | [], [] => True
 | x :: xs, y :: ys => O2 x y ∧ Pw xs ys
 | _, _ => False
theorem Pw.QD : ∀ {xs ys : List Tag}, xs.length = ys.length → Pw xs (BT xs ys)
 | [], [], _ => trivial
 | x :: xs, y :: ys, h => ⟨SO x y, Pw.QD (by simpa using h)⟩
 | [], _ :: _, h => by simp at h
 | _ :: _, [], h => by simp at h
theorem Pw.QE : ∀ {xs ys : List Tag}, xs.length = ys.length → Pw ys (BT xs ys)
 | [], [], _ => trivial
 | x :: xs, y :: ys, h => ⟨SP x y, Pw.QE (by simpa using h)⟩
 | [], _ :: _, h => by simp at h
 | _ :: _, [], h => by simp at h
structure Book.Tg (b : Book) : Prop where
 v : ∀ v ∈ b.vs, ∀ t ∈ v, CI t = true
 r : ∀ p ∈ b.wr, ∀ t ∈ p.2.2.2, CI t = true
def vw (b : Book) (s : Int) : List Tag := b.vs.getD s.toNat []
def TT : Wr → Wr → Prop
 | [], [] => True
 | (t, s, k, p) :: xs, (t', s', k', p') :: ys => (t = t' ∧ s = s' ∧ k = k' ∧ Pw p p') ∧ TT xs ys
 | _, _ => False
structure Apart (s : Int) (a b : Book) : Prop where
 le : ∀ i, 0 ≤ i → Pw (vw a i) (vw b i)
 z : vw a s = List.replicate 4 ⟨0, 0⟩
 w : TT a.wr b.wr
def I3 (wr : Wr) (v : List Tag) : Prop := ∀ k : Nat, 0 < (v.getD k ⟨0, 0⟩).t → ∃ s past, MP wr (v.getD k ⟨0, 0⟩) = some (s, (k : Int), past) ∧ Pw past v
theorem PY {wr m : Wr} {t : Tag} {x : Int × Int × List Tag} (h : MP wr t = some x) : MP (wr ++ m) t = some x := by
 unfold MP at h ⊢
 rw [List.find?_append]
 cases e : wr.find? (fun p => p.1 == t) with
 | none => rw [e] at h; cases h
 | some y => rw [e] at h; exact h
theorem I3.app {wr m : Wr} {v : List Tag} (h : I3 wr v) : I3 (wr ++ m) v := fun k hk => by
 obtain ⟨s, past, h1, h2⟩ := h k hk
 exact ⟨s, past, PY h1, h2⟩
structure Closed (b : Book) : Prop where
 v : ∀ i, 0 ≤ i → i ≤ 3 → I3 b.wr (vw b i)
 r : ∀ p ∈ b.wr, I3 b.wr p.2.2.2
structure SessD where
 place : Int
 past : List Tag
 wait : Tag
 key : Int
structure FrameD where
 src : Int
 dst : Int
 idx : Int
 Bv : Ver
structure WorldD where
 places : List PlaceD
 Az : List SessD
 net : List FrameD
 AF : List Done
def HN (E : TypeId) : Lay SessD := LV (BD GC (BD (Gc E) (BD EN GC))) fun s => (s.place, s.past, s.wait, s.key)
def GM (E : TypeId) : Lay FrameD := LV (BD GC (BD GC (BD GC (KF E)))) fun f => (f.src, f.dst, f.idx, f.Bv)
abbrev Ey (E F N G A : TypeId) : Lay (List PlaceD) := AQ A 1466015503701 (ES E F N G)
abbrev Ii (E B : TypeId) : Lay (List SessD) := AQ B 2513169434916 (HN E)
abbrev Ez (E C : TypeId) : Lay (List FrameD) := AQ C 1466015503701 (GM E)
def CJ (E F N G A B C H : TypeId) : Lay WorldD := LV (BD (Ey E F N G A) (BD (Ii E B) (BD (Ez E C) (Ih H)))) fun w => (w.places, w.Az, w.net, w.AF)
section
variable {E F N G A B C H : TypeId} {S : Nat → Prop} {w : World} {cs : List Value}
theorem RM : (HN E).n = 5 := rfl
theorem Ob : (GM E).n = 9 := rfl
theorem D.Az {s : SessD} : D (HN E) S w cs s ↔ ∃ a c, cs = [i64 s.place, .slice a s.past.length c, i64 s.wait.t, i64 s.wait.p, i64 s.key] ∧ D (Gc E) S w [.slice a s.past.length c] s.past := by
 unfold HN
 rw [D.map]
 simp only [D.pair, D.int, D.tag]
 constructor
 ·rintro ⟨c1, d1, rfl, rfl, c2, d2, rfl, h2, c3, d3, rfl, rfl, rfl⟩
  obtain ⟨a, c, rfl, h⟩ := h2.GD
  exact ⟨a, c, rfl, h⟩
 ·rintro ⟨a, c, rfl, h⟩
  exact ⟨[_], _, rfl, rfl, [_], _, rfl, h, [_, _], _, rfl, rfl, rfl⟩
theorem O.Az {s : SessD} : O (HN E) S w cs s ↔ ∃ a c, cs = [i64 s.place, .slice a s.past.length c, i64 s.wait.t, i64 s.wait.p, i64 s.key] ∧ O (Gc E) S w [.slice a s.past.length c] s.past := by
 unfold HN
 rw [O.map]
 constructor
 ·intro h
  obtain ⟨e1, f1, A1, B1, rfl, h1, k1, x1, y1⟩ := h.C4
  obtain ⟨e2, f2, A2, B2, rfl, h2, k2, x2, y2⟩ := k1.C4
  obtain ⟨e3, f3, A3, B3, rfl, h3, k3, x3, y3⟩ := k2.C4
  obtain rfl := O.int.1 h1
  obtain rfl := O.tag.1 h3
  obtain rfl := O.int.1 k3
  obtain ⟨a, c, rfl, h9⟩ := h2.GD
  exact ⟨a, c, rfl, h9.wide fun b hb _ => (y1 b (x2 b hb).1).1⟩
 ·rintro ⟨a, c, rfl, h⟩
  have k2 := O.pair (p := (s.wait, s.key)) (S1 := fun _ => False) (S2 := fun _ => False) (w := w) (O.tag.2 rfl) (O.int.2 rfl) (fun _ _ h => h.elim)
  have k1 := O.pair (p := (s.past, s.wait, s.key)) h k2 (fun _ _ _ h => h.elim id id)
  have k0 := O.pair (p := (s.place, s.past, s.wait, s.key)) (S1 := fun _ => False) (O.int.2 rfl) k1 (fun _ _ h => h.elim)
  exact k0.wide fun b h _ => by
   rcases h with h | h | h | h
   ·exact h.elim
   ·exact h
   ·exact h.elim
   ·exact h.elim
theorem D.frame {f : FrameD} : D (GM E) S w cs f ↔ ∃ ds, cs = i64 f.src :: i64 f.dst :: i64 f.idx :: ds ∧ D (KF E) S w ds f.Bv := by
 unfold GM
 rw [D.map]
 simp only [D.pair, D.int]
 constructor
 ·rintro ⟨c1, d1, rfl, rfl, c2, d2, rfl, rfl, c3, d3, rfl, rfl, h⟩
  exact ⟨d3, rfl, h⟩
 ·rintro ⟨ds, rfl, h⟩
  exact ⟨[_], _, rfl, rfl, [_], _, rfl, rfl, [_], _, rfl, rfl, h⟩
theorem O.frame {f : FrameD} : O (GM E) S w cs f ↔ ∃ ds, cs = i64 f.src :: i64 f.dst :: i64 f.idx :: ds ∧ O (KF E) S w ds f.Bv := by
 unfold GM
 rw [O.map]
 constructor
 ·intro h
  obtain ⟨e1, f1, A1, B1, rfl, h1, k1, x1, y1⟩ := h.C4
  obtain ⟨e2, f2, A2, B2, rfl, h2, k2, x2, y2⟩ := k1.C4
  obtain ⟨e3, f3, A3, B3, rfl, h3, k3, x3, y3⟩ := k2.C4
  obtain rfl := O.int.1 h1
  obtain rfl := O.int.1 h2
  obtain rfl := O.int.1 h3
  exact ⟨f3, rfl, k3.wide fun b hb _ => (y1 b (y2 b (y3 b hb).1).1).1⟩
 ·rintro ⟨ds, rfl, h⟩
  have k2 := O.pair (p := (f.idx, f.Bv)) (S1 := fun _ => False) (O.int.2 rfl) h (fun _ _ h => h.elim)
  have k1 := O.pair (p := (f.dst, f.idx, f.Bv)) (S1 := fun _ => False) (O.int.2 rfl) k2 (fun _ _ h => h.elim)
  have k0 := O.pair (p := (f.src, f.dst, f.idx, f.Bv)) (S1 := fun _ => False) (O.int.2 rfl) k1 (fun _ _ h => h.elim)
  exact k0.wide fun b h _ => by
   rcases h with h | h | h | h
   ·exact h.elim
   ·exact h.elim
   ·exact h.elim
   ·exact h
theorem D.world {x : WorldD} : D (CJ E F N G A B C H) S w cs x ↔ ∃ a c a1 c1 a2 c2 a3 c3, cs = [.slice a x.places.length c, .slice a1 x.Az.length c1, .slice a2 x.net.length c2, .slice a3 x.AF.length c3] ∧
  D (Ey E F N G A) S w [.slice a x.places.length c] x.places ∧ D (Ii E B) S w [.slice a1 x.Az.length c1] x.Az ∧ D (Ez E C) S w [.slice a2 x.net.length c2] x.net ∧ D (Ih H) S w [.slice a3 x.AF.length c3] x.AF := by
 unfold CJ
 rw [D.map]
 simp only [D.pair]
 constructor
 ·rintro ⟨c1, d1, rfl, h1, c2, d2, rfl, h2, c3, d3, rfl, h3, h4⟩
  obtain ⟨a, c, rfl, h1⟩ := h1.GD
  obtain ⟨a1, c1, rfl, h2⟩ := h2.GD
  obtain ⟨a2, c2, rfl, h3⟩ := h3.GD
  obtain ⟨a3, c3, rfl, h4⟩ := h4.GD
  exact ⟨a, c, a1, c1, a2, c2, a3, c3, rfl, h1, h2, h3, h4⟩
 ·rintro ⟨a, c, a1, c1, a2, c2, a3, c3, rfl, h1, h2, h3, h4⟩
  exact ⟨[_], _, rfl, h1, [_], _, rfl, h2, [_], _, rfl, h3, h4⟩
structure Parts (E F N G A B C H : TypeId) (w : World) (x : WorldD) (s t u v : Value) (S1 S2 S3 S4 : Nat → Prop) : Prop where
 o1 : O (Ey E F N G A) S1 w [s] x.places
 o2 : O (Ii E B) S2 w [t] x.Az
 o3 : O (Ez E C) S3 w [u] x.net
 o4 : O (Ih H) S4 w [v] x.AF
 d12 : ∀ b, b < w.heap.size → S1 b → ¬ S2 b
 d13 : ∀ b, b < w.heap.size → S1 b → ¬ S3 b
 d14 : ∀ b, b < w.heap.size → S1 b → ¬ S4 b
 d23 : ∀ b, b < w.heap.size → S2 b → ¬ S3 b
 d24 : ∀ b, b < w.heap.size → S2 b → ¬ S4 b
 d34 : ∀ b, b < w.heap.size → S3 b → ¬ S4 b
theorem Parts.mk' {x : WorldD} {s t u v : Value} {S1 S2 S3 S4 : Nat → Prop} (p : Parts E F N G A B C H w x s t u v S1 S2 S3 S4) :
  O (CJ E F N G A B C H) (fun b => S1 b ∨ S2 b ∨ S3 b ∨ S4 b) w [s, t, u, v] x := by
 unfold CJ
 rw [O.map]
 have k3 := O.pair (p := (x.net, x.AF)) p.o3 p.o4 p.d34
 have k2 := O.pair (p := (x.Az, x.net, x.AF)) p.o2 k3 (fun b hb h h' => h'.elim (p.d23 b hb h) (p.d24 b hb h))
 have k1 := O.pair (p := (x.places, x.Az, x.net, x.AF)) p.o1 k2 (fun b hb h h' => h'.elim (p.d12 b hb h) fun h' => h'.elim (p.d13 b hb h) (p.d14 b hb h))
 exact k1
theorem O.GN {x : WorldD} (h : O (CJ E F N G A B C H) S w cs x) : ∃ a c a1 c1 a2 c2 a3 c3 S1 S2 S3 S4, cs = [.slice a x.places.length c, .slice a1 x.Az.length c1, .slice a2 x.net.length c2, .slice a3 x.AF.length c3] ∧
  Parts E F N G A B C H w x (.slice a x.places.length c) (.slice a1 x.Az.length c1) (.slice a2 x.net.length c2) (.slice a3 x.AF.length c3) S1 S2 S3 S4 ∧ (∀ b, S1 b ∨ S2 b ∨ S3 b ∨ S4 b → S b ∧ b < w.heap.size) := by
 unfold CJ at h
 rw [O.map] at h
 obtain ⟨e1, f1, A1, B1, rfl, h1, k1, x1, y1⟩ := h.C4
 obtain ⟨e2, f2, A2, B2, rfl, h2, k2, x2, y2⟩ := k1.C4
 obtain ⟨e3, f3, A3, B3, rfl, h3, k3, x3, y3⟩ := k2.C4
 obtain ⟨a, c, rfl, h1⟩ := h1.GD
 obtain ⟨a1, c1, rfl, h2⟩ := h2.GD
 obtain ⟨a2, c2, rfl, h3⟩ := h3.GD
 obtain ⟨a3, c3, rfl, k3⟩ := k3.GD
 refine ⟨a, c, a1, c1, a2, c2, a3, c3, A1, A2, A3, B3, rfl, ⟨h1, h2, h3, k3, fun b _ q q' => (x1 b q).2.1 (x2 b q').1, fun b _ q q' => (x1 b q).2.1 (y2 b (x3 b q').1).1, fun b _ q q' => (x1 b q).2.1 (y2 b (y3 b q').1).1, fun b _ q q' => (x2 b q).2.1 (x3 b q').1, fun b _ q q' => (x2 b q).2.1 (y3 b q').1, fun b _ q q' => (x3 b q).2.1 q'⟩, fun b hb => ?_⟩
 rcases hb with h | h | h | h
 ·exact ⟨(x1 b h).1, (x1 b h).2.2⟩
 ·exact ⟨(y1 b (x2 b h).1).1, (x2 b h).2.2⟩
 ·exact ⟨(y1 b (y2 b (x3 b h).1).1).1, (x3 b h).2.2⟩
 ·exact ⟨(y1 b (y2 b (y3 b h).1).1).1, (y3 b h).2.2⟩
end
end Go.Ev
