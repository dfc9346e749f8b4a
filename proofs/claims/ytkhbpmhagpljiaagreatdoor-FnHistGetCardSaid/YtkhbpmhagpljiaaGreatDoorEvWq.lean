/- A part of the proof, without conditions. -/
import Derived.Test.YtkhbpmhagpljiaaGreatDoorEvHj
import Derived.Test.YtkhbpmhagpljiaaGreatDoorEvLv
import Derived.Test.YtkhbpmhagpljiaaGreatDoorEvX
import Derived.Test.YtkhbpmhagpljiaaGreatDoorEvI
import Derived.Test.YtkhbpmhagpljiaaGreatDoorEvO
set_option linter.unusedVariables false
set_option linter.unusedSimpArgs false
set_option linter.deprecated false
namespace Go.Ev
open Go Go.RowKit
structure SessD where
 place : Int
 past : List Tag
 wait : Tag
 key : Int
structure FrameD where
 src : Int
 dst : Int
 idx : Int
 Cq : Ver
structure WorldD where
 places : List PlaceD
 Ay : List SessD
 net : List FrameD
 AM : List Done
def Jf (E : TypeId) : Lay SessD := Nu (BX HZ (BX (Iw E) (BX F6 HZ))) fun s => (s.place, s.past, s.wait, s.key)
def Ik (E : TypeId) : Lay FrameD := Nu (BX HZ (BX HZ (BX HZ (LI E)))) fun f => (f.src, f.dst, f.idx, f.Cq)
abbrev Gz (E F N G A : TypeId) : Lay (List PlaceD) := AY A 1466015503701 (F8 E F N G)
abbrev JA (E B : TypeId) : Lay (List SessD) := AY B 2513169434916 (Jf E)
abbrev FF (E C : TypeId) : Lay (List FrameD) := AY C 1466015503701 (Ik E)
def De (E F N G A B C H : TypeId) : Lay WorldD := Nu (BX (Gz E F N G A) (BX (JA E B) (BX (FF E C) (HJ H)))) fun w => (w.places, w.Ay, w.net, w.AM)
section
variable {E F N G A B C H : TypeId} {S : Nat → Prop} {w : World} {cs : List Value}
theorem U9 : (Jf E).n = 5 := rfl
theorem Qi : (Ik E).n = 9 := rfl
theorem D.Ay {s : SessD} : D (Jf E) S w cs s ↔ ∃ a c, cs = [i64 s.place, .slice a s.past.length c, i64 s.wait.t, i64 s.wait.p, i64 s.key] ∧ D (Iw E) S w [.slice a s.past.length c] s.past := by
 unfold Jf
 rw [D.map]
 simp only [D.pair, D.int, D.tag]
 constructor
 ·rintro ⟨c1, d1, rfl, rfl, c2, d2, rfl, h2, c3, d3, rfl, rfl, rfl⟩
  obtain ⟨a, c, rfl, h⟩ := h2.It
  exact ⟨a, c, rfl, h⟩
 ·rintro ⟨a, c, rfl, h⟩
  exact ⟨[_], _, rfl, rfl, [_], _, rfl, h, [_, _], _, rfl, rfl, rfl⟩
theorem O.Ay {s : SessD} : O (Jf E) S w cs s ↔ ∃ a c, cs = [i64 s.place, .slice a s.past.length c, i64 s.wait.t, i64 s.wait.p, i64 s.key] ∧ O (Iw E) S w [.slice a s.past.length c] s.past := by
 unfold Jf
 rw [O.map]
 constructor
 ·intro h
  obtain ⟨e1, f1, A1, B1, rfl, h1, k1, x1, y1⟩ := h.DH
  obtain ⟨e2, f2, A2, B2, rfl, h2, k2, x2, y2⟩ := k1.DH
  obtain ⟨e3, f3, A3, B3, rfl, h3, k3, x3, y3⟩ := k2.DH
  obtain rfl := O.int.1 h1
  obtain rfl := O.tag.1 h3
  obtain rfl := O.int.1 k3
  obtain ⟨a, c, rfl, h9⟩ := h2.It
  exact ⟨a, c, rfl, h9.wide fun b hb _ => (y1 b (x2 b hb).1).1⟩
 ·rintro ⟨a, c, rfl, h⟩
  have k2 := O.pair (p := (s.wait, s.key)) (S1 := fun _ => False) (S2 := fun _ => False) (w := w) (O.tag.2 rfl) (O.int.2 rfl) (fun _ _ h => h.elim)
  have k1 := O.pair (p := (s.past, s.wait, s.key)) h k2 (fun _ _ _ h => h.elim id id)
  have k0 := O.pair (p := (s.place, s.past, s.wait, s.key)) (S1 := fun _ => False) (O.int.2 rfl) k1 (fun _ _ h => h.elim)
  exact k0.wide fun b h _ => by
   rcases h with h | h | h | h
   ·exact h.elim
   ·exact h
   ·exact h.elim
   ·exact h.elim
theorem D.frame {f : FrameD} : D (Ik E) S w cs f ↔ ∃ ds, cs = i64 f.src :: i64 f.dst :: i64 f.idx :: ds ∧ D (LI E) S w ds f.Cq := by
 unfold Ik
 rw [D.map]
 simp only [D.pair, D.int]
 constructor
 ·rintro ⟨c1, d1, rfl, rfl, c2, d2, rfl, rfl, c3, d3, rfl, rfl, h⟩
  exact ⟨d3, rfl, h⟩
 ·rintro ⟨ds, rfl, h⟩
  exact ⟨[_], _, rfl, rfl, [_], _, rfl, rfl, [_], _, rfl, rfl, h⟩
theorem O.frame {f : FrameD} : O (Ik E) S w cs f ↔ ∃ ds, cs = i64 f.src :: i64 f.dst :: i64 f.idx :: ds ∧ O (LI E) S w ds f.Cq := by
 unfold Ik
 rw [O.map]
 constructor
 ·intro h
  obtain ⟨e1, f1, A1, B1, rfl, h1, k1, x1, y1⟩ := h.DH
  obtain ⟨e2, f2, A2, B2, rfl, h2, k2, x2, y2⟩ := k1.DH
  obtain ⟨e3, f3, A3, B3, rfl, h3, k3, x3, y3⟩ := k2.DH
  obtain rfl := O.int.1 h1
  obtain rfl := O.int.1 h2
  obtain rfl := O.int.1 h3
  exact ⟨f3, rfl, k3.wide fun b hb _ => (y1 b (y2 b (y3 b hb).1).1).1⟩
 ·rintro ⟨ds, rfl, h⟩
  have k2 := O.pair (p := (f.idx, f.Cq)) (S1 := fun _ => False) (O.int.2 rfl) h (fun _ _ h => h.elim)
  have k1 := O.pair (p := (f.dst, f.idx, f.Cq)) (S1 := fun _ => False) (O.int.2 rfl) k2 (fun _ _ h => h.elim)
  have k0 := O.pair (p := (f.src, f.dst, f.idx, f.Cq)) (S1 := fun _ => False) (O.int.2 rfl) k1 (fun _ _ h => h.elim)
  exact k0.wide fun b h _ => by
   rcases h with h | h | h | h
   ·exact h.elim
   ·exact h.elim
   ·exact h.elim
   ·exact h
theorem D.world {x : WorldD} : D (De E F N G A B C H) S w cs x ↔ ∃ a c a1 c1 a2 c2 a3 c3, cs = [.slice a x.places.length c, .slice a1 x.Ay.length c1, .slice a2 x.net.length c2, .slice a3 x.AM.length c3] ∧
  D (Gz E F N G A) S w [.slice a x.places.length c] x.places ∧ D (JA E B) S w [.slice a1 x.Ay.length c1] x.Ay ∧ D (FF E C) S w [.slice a2 x.net.length c2] x.net ∧ D (HJ H) S w [.slice a3 x.AM.length c3] x.AM := by
 unfold De
 rw [D.map]
 simp only [D.pair]
 constructor
 ·rintro ⟨c1, d1, rfl, h1, c2, d2, rfl, h2, c3, d3, rfl, h3, h4⟩
  obtain ⟨a, c, rfl, h1⟩ := h1.It
  obtain ⟨a1, c1, rfl, h2⟩ := h2.It
  obtain ⟨a2, c2, rfl, h3⟩ := h3.It
  obtain ⟨a3, c3, rfl, h4⟩ := h4.It
  exact ⟨a, c, a1, c1, a2, c2, a3, c3, rfl, h1, h2, h3, h4⟩
 ·rintro ⟨a, c, a1, c1, a2, c2, a3, c3, rfl, h1, h2, h3, h4⟩
  exact ⟨[_], _, rfl, h1, [_], _, rfl, h2, [_], _, rfl, h3, h4⟩
structure Parts (E F N G A B C H : TypeId) (w : World) (x : WorldD) (s t u v : Value) (S1 S2 S3 S4 : Nat → Prop) : Prop where
 o1 : O (Gz E F N G A) S1 w [s] x.places
 o2 : O (JA E B) S2 w [t] x.Ay
 o3 : O (FF E C) S3 w [u] x.net
 o4 : O (HJ H) S4 w [v] x.AM
 d12 : ∀ b, b < w.heap.size → S1 b → ¬ S2 b
 d13 : ∀ b, b < w.heap.size → S1 b → ¬ S3 b
 d14 : ∀ b, b < w.heap.size → S1 b → ¬ S4 b
 d23 : ∀ b, b < w.heap.size → S2 b → ¬ S3 b
 d24 : ∀ b, b < w.heap.size → S2 b → ¬ S4 b
 d34 : ∀ b, b < w.heap.size → S3 b → ¬ S4 b
theorem Parts.mk' {x : WorldD} {s t u v : Value} {S1 S2 S3 S4 : Nat → Prop} (p : Parts E F N G A B C H w x s t u v S1 S2 S3 S4) :
  O (De E F N G A B C H) (fun b => S1 b ∨ S2 b ∨ S3 b ∨ S4 b) w [s, t, u, v] x := by
 unfold De
 rw [O.map]
 have k3 := O.pair (p := (x.net, x.AM)) p.o3 p.o4 p.d34
 have k2 := O.pair (p := (x.Ay, x.net, x.AM)) p.o2 k3 (fun b hb h h' => h'.elim (p.d23 b hb h) (p.d24 b hb h))
 have k1 := O.pair (p := (x.places, x.Ay, x.net, x.AM)) p.o1 k2 (fun b hb h h' => h'.elim (p.d12 b hb h) fun h' => h'.elim (p.d13 b hb h) (p.d14 b hb h))
 exact k1
theorem O.Il {x : WorldD} (h : O (De E F N G A B C H) S w cs x) : ∃ a c a1 c1 a2 c2 a3 c3 S1 S2 S3 S4, cs = [.slice a x.places.length c, .slice a1 x.Ay.length c1, .slice a2 x.net.length c2, .slice a3 x.AM.length c3] ∧
  Parts E F N G A B C H w x (.slice a x.places.length c) (.slice a1 x.Ay.length c1) (.slice a2 x.net.length c2) (.slice a3 x.AM.length c3) S1 S2 S3 S4 ∧ (∀ b, S1 b ∨ S2 b ∨ S3 b ∨ S4 b → S b ∧ b < w.heap.size) := by
 unfold De at h
 rw [O.map] at h
 obtain ⟨e1, f1, A1, B1, rfl, h1, k1, x1, y1⟩ := h.DH
 obtain ⟨e2, f2, A2, B2, rfl, h2, k2, x2, y2⟩ := k1.DH
 obtain ⟨e3, f3, A3, B3, rfl, h3, k3, x3, y3⟩ := k2.DH
 obtain ⟨a, c, rfl, h1⟩ := h1.It
 obtain ⟨a1, c1, rfl, h2⟩ := h2.It
 obtain ⟨a2, c2, rfl, h3⟩ := h3.It
 obtain ⟨a3, c3, rfl, k3⟩ := k3.It
 refine ⟨a, c, a1, c1, a2, c2, a3, c3, A1, A2, A3, B3, rfl, ⟨h1, h2, h3, k3, fun b _ q q' => (x1 b q).2.1 (x2 b q').1, fun b _ q q' => (x1 b q).2.1 (y2 b (x3 b q').1).1, fun b _ q q' => (x1 b q).2.1 (y2 b (y3 b q').1).1, fun b _ q q' => (x2 b q).2.1 (x3 b q').1, fun b _ q q' => (x2 b q).2.1 (y3 b q').1, fun b _ q q' => (x3 b q).2.1 q'⟩, fun b hb => ?_⟩
 rcases hb with h | h | h | h
 ·exact ⟨(x1 b h).1, (x1 b h).2.2⟩
 ·exact ⟨(y1 b (x2 b h).1).1, (x2 b h).2.2⟩
 ·exact ⟨(y1 b (y2 b (x3 b h).1).1).1, (x3 b h).2.2⟩
 ·exact ⟨(y1 b (y2 b (y3 b h).1).1).1, (y3 b h).2.2⟩
end
theorem At.nw {w : World} {cs : List Value} {E : TypeId} {n : Nat} (h : n = w.heap.size) : At (w.alloc (.cells cs.toArray E)) n 0 cs := by
 subst h
 exact At.new
theorem Ew {w : World} {cur cs : List Value} {o g : Nat} {E : TypeId} (h : hp w g = some (.cells (Bu cur o cs).toArray E (0, 0))) (hl : o + cs.length ≤ cur.length) : At w g o cs := by
 intro j v hj
 have hlt : j < cs.length := (List.getElem?_eq_some_iff.1 hj).1
 rw [h, Bt]
 show nth (Bu cur o cs) (o + j) = _
 rw [Iv hlt hl, ← CD, hj]
section
variable {α : Type} {L : Lay α} {S : Nat → Prop} {w : World} {cs : List Value} {E mx : Nat} {P : Program}
theorem O.We {t y : Nat} (h0 : 0 < L.n) (hE : Hu P t = some (E, L.n, y)) {a : Option Addr} {n c : Nat} {xs : List α} (h : O (AY E mx L) S w [.slice a n c] xs) {j : Nat} {x : α} (hx : xs[j]? = some x) :
  ∃ (css : List (List Value)) (S1 S2 : Nat → Prop) (a' : Option Addr) (c' : Nat) (Sx : Nat → Prop) (cx : List Value) (b o : Nat), GB L S1 w (css.take j) (xs.take j) ∧ GB L S2 w (css.drop (j + 1)) (xs.drop (j + 1)) ∧ (∀ b, S1 b → S b ∧ ¬ S2 b ∧ b < w.heap.size) ∧ (∀ b, S2 b → S b ∧ ¬ S1 b ∧ b < w.heap.size) ∧
   (∀ w', sl P t (.slice a n c) none (Option.some (i64 j)) none w' = Option.some (.slice a j c, w')) ∧ (∀ w', sl P t (.slice a n c) (Option.some (i64 (j + 1 : Nat))) none none w' = Option.some (.slice a' (n - (j + 1)) c', w')) ∧
   (xs.take j = [] ∨ ∃ b o, a = some ⟨b, o, none⟩ ∧ (S b ∧ ¬ S1 b ∧ ¬ S2 b ∧ b < w.heap.size) ∧ At w b o (css.take j).flatten) ∧ (xs.drop (j + 1) = [] ∨ ∃ b o, a' = some ⟨b, o, none⟩ ∧ (S b ∧ ¬ S1 b ∧ ¬ S2 b ∧ b < w.heap.size) ∧ At w b o (css.drop (j + 1)).flatten) ∧
   (∀ b ∈ (AF (.slice a n c)).toList, S b ∧ ¬ S1 b ∧ ¬ S2 b ∧ b < w.heap.size) ∧
   a = some ⟨b, o, none⟩ ∧ At w b (o + j * L.n) cx ∧ O L Sx w cx x ∧ (∀ b, Sx b → S b ∧ ¬ S1 b ∧ ¬ S2 b ∧ b < w.heap.size) := by
 obtain ⟨k, hkj⟩ : ∃ k, k = j + 1 := ⟨_, rfl⟩
 have hj : j ≤ k := by omega
 have hk : k ≤ n := by have := (List.getElem?_eq_some_iff.1 hx).1; have := h.n.1; omega
 rw [← hkj]
 have hc := h.clip.1
 have hn := h.n.1
 obtain ⟨css, h1, h2, h3, h4⟩ := h.un
 obtain ⟨S0, S2, e0, e2, d0, d2'⟩ := h2.cut k
 obtain ⟨S1, S3, e1, e3, d1', d3'⟩ := e0.cut j
 rw [List.take_take, List.take_take, Nat.min_eq_left hj] at e1
 have d1 : ∀ b, S1 b → (S b ∧ b ∉ (AF (.slice a n c)).toList ∧ b < w.heap.size) ∧ ¬ S2 b ∧ b < w.heap.size := fun b hb => d0 b (d1' b hb).1
 have d2 : ∀ b, S2 b → (S b ∧ b ∉ (AF (.slice a n c)).toList ∧ b < w.heap.size) ∧ ¬ S1 b ∧ b < w.heap.size := fun b hb => ⟨(d2' b hb).1, fun h => (d2' b hb).2.1 (d1' b h).1, (d2' b hb).2.2⟩
 obtain ⟨a', hsl, ha'⟩ := Uz (P := P) hE a (len := n) (cap := c) (n := (k : Int)) Ad Ad
 obtain ⟨aO, cO, hs, _, hAt⟩ := h1.at
 simp only [Value.slice.injEq] at hs
 obtain ⟨rfl, _, rfl⟩ := hs
 have hlen := e1.lay
 have hlay := h2.lay
 have hlk := e0.lay
 have htk : (css.take k).flatten.length = k * L.n := by
  rw [BE hlk.2, List.length_take]
  congr 1
  omega
 have hspl : css.flatten = (css.take k).flatten ++ (css.drop k).flatten := by rw [← List.flatten_append, List.take_append_drop]
 have hsplj : css.flatten = (css.take j).flatten ++ (css.drop j).flatten := by rw [← List.flatten_append, List.take_append_drop]
 have hjc : j < css.length := by rw [hlay.1]; exact (List.getElem?_eq_some_iff.1 hx).1
 obtain ⟨cx, hcx⟩ : ∃ cx, css[j]? = some cx := ⟨_, List.getElem?_eq_getElem hjc⟩
 have t1 : (css.take k).drop j = [cx] := by
  have h1 : (css.take k)[j]? = some cx := by rw [List.getElem?_take_of_lt Ad]; exact hcx
  obtain ⟨y, hy, hd⟩ := An (l := css.take k) (k := j) (by rw [List.length_take]; omega)
  rw [hd]
  rw [h1] at hy
  cases hy
  rw [List.drop_of_length_le (by rw [List.length_take]; omega)]
 have t2 : (xs.take k).drop j = [x] := by
  have h1 : (xs.take k)[j]? = some x := by rw [List.getElem?_take_of_lt Ad]; exact hx
  obtain ⟨y, hy, hd⟩ := An (l := xs.take k) (k := j) (by rw [List.length_take]; have := (List.getElem?_eq_some_iff.1 hx).1; omega)
  rw [hd]
  rw [h1] at hy
  cases hy
  rw [List.drop_of_length_le (by rw [List.length_take]; omega)]
 rw [t1, t2] at e3
 have hox : O L S3 w cx x := by
  obtain ⟨bss, q3, qn, qS⟩ := e3
  match bss, q3 with
  | [bs], q3 => exact ⟨bs, q3.1, by simpa using qn, fun b hb => qS b (by simpa using hb)⟩
 obtain ⟨bb, oo, ha0, hAt'⟩ : ∃ b o, a = some ⟨b, o, none⟩ ∧ At w b o css.flatten := by
  rcases hAt with hAt | ⟨b, o, h1, h2⟩
  ·exfalso
   have hl0 : css.flatten.length = xs.length * L.n := by rw [BE hlay.2, hlay.1]
   rw [hAt] at hl0
   simp only [List.length_nil] at hl0
   have := Nat.mul_pos (show 0 < xs.length by have := (List.getElem?_eq_some_iff.1 hx).1; omega) h0
   omega
  ·exact ⟨b, o, h1, h2⟩
 have htj : (css.take j).flatten.length = j * L.n := by
  rw [BE hlen.2, List.length_take]
  congr 1
  omega
 have hdj : css.drop j = cx :: css.drop (j + 1) := by
  obtain ⟨y, hy, hd⟩ := An (l := css) (k := j) hjc
  rw [hcx] at hy
  cases hy
  exact hd
 have hAx : At w bb (oo + j * L.n) cx := by
  intro i v hv
  rw [Nat.add_assoc]
  refine hAt' (j * L.n + i) v ?_
  rw [hsplj, List.getElem?_append_right Ad, htj, Nat.add_sub_cancel_left, hdj, List.flatten_cons, List.getElem?_append_left ((List.getElem?_eq_some_iff.1 hv).1)]
  exact hv
 have d3 : ∀ b, S3 b → S b ∧ ¬ S1 b ∧ ¬ S2 b ∧ b < w.heap.size := fun b hb => ⟨(d0 b (d3' b hb).1).1.1, (d3' b hb).2.1, (d0 b (d3' b hb).1).2.1, (d3' b hb).2.2⟩
 refine ⟨css, S1, S2, a', c - k, S3, cx, bb, oo, e1, e2, fun b hb => ?_, fun b hb => ?_, fun w' => ?_, fun w' => ?_, ?_, ?_, fun b hb => ?_, ha0, hAx, hox, d3⟩
 ·have := d1 b hb
  exact ⟨this.1.1, this.2.1, this.2.2⟩
 ·have := d2 b hb
  exact ⟨this.1.1, this.2.1, this.2.2⟩
 ·have := Ua (P := P) hE (a := a) (len := n) (cap := c) (n := (j : Int)) Ad Ad w'
  simpa using this
 ·simpa using hsl w'
 ·by_cases hk0 : xs.take j = []
  ·exact .inl hk0
  ·right
   rcases hAt with hAt | ⟨b, o, rfl, hAt⟩
   ·exfalso
    have hl0 : css.flatten.length = xs.length * L.n := by rw [BE hlay.2, hlay.1]
    rw [hAt] at hl0
    simp only [List.length_nil] at hl0
    have h5 : xs.length = 0 := by
     rcases Nat.eq_zero_or_pos xs.length with h | h
     ·exact h
     ·have := Nat.mul_pos h h0; omega
    exact hk0 (by rw [List.eq_nil_of_length_eq_zero h5]; simp)
   ·have hb := h3 b (by simp [AF])
    refine ⟨b, o, rfl, ⟨hb.1, fun h => (d1 b h).1.2.1 (by simp [AF]), fun h => (d2 b h).1.2.1 (by simp [AF]), hb.2⟩, fun i v hv => hAt i v ?_⟩
    rw [hsplj, List.getElem?_append_left ((List.getElem?_eq_some_iff.1 hv).1)]
    exact hv
 ·by_cases hk0 : xs.drop k = []
  ·exact .inl hk0
  ·right
   have hkn : k < xs.length := by
    rcases Nat.lt_or_ge k xs.length with h | h
    ·exact h
    ·exact absurd (List.drop_eq_nil_of_le h) hk0
   rcases hAt with hAt | ⟨b, o, rfl, hAt⟩
   ·exfalso
    have hl0 : css.flatten.length = xs.length * L.n := by rw [BE hlay.2, hlay.1]
    rw [hAt] at hl0
    simp only [List.length_nil] at hl0
    have := Nat.mul_pos (show 0 < xs.length by omega) h0
    omega
   ·have hb := h3 b (by simp [AF])
    refine ⟨b, o + k * L.n, ?_, ⟨hb.1, fun h => (d1 b h).1.2.1 (by simp [AF]), fun h => (d2 b h).1.2.1 (by simp [AF]), hb.2⟩, fun i v hv => ?_⟩
    ·have := ha' (by simp; omega) b o rfl
     simpa using this
    ·rw [Nat.add_assoc]
     refine hAt (k * L.n + i) v ?_
     rw [hspl, List.getElem?_append_right Ad, htk, Nat.add_sub_cancel_left]
     exact hv
 ·have := h3 b hb
  exact ⟨this.1, fun h => (d1 b h).1.2.1 hb, fun h => (d2 b h).1.2.1 hb, this.2⟩
end
section
variable {E F N G A B C H : TypeId} {S : Nat → Prop} {w : World} {cs : List Value} {x : WorldD}
theorem O.Cv (h : O (De E F N G A B C H) S w cs x) : ∃ a n c a1 n1 c1 a2 n2 c2 a3 n3 c3, cs = [.slice a n c, .slice a1 n1 c1, .slice a2 n2 c2, .slice a3 n3 c3] := by
 obtain ⟨a, c, a1, c1, a2, c2, a3, c3, rfl, _⟩ := D.world.1 h.d
 exact ⟨a, _, c, a1, _, c1, a2, _, c2, a3, _, c3, rfl⟩
theorem O.Ho (h : O (De E F N G A B C H) S w cs x) {i : Nat} {p : PlaceD} (hp' : x.places[i]? = some p) :
  ∃ c a1 c1 a2 c2 a3 c3 g cur ds Sx, cs = [.slice (some ⟨g, 0, none⟩) x.places.length c, .slice a1 x.Ay.length c1, .slice a2 x.net.length c2, .slice a3 x.AM.length c3] ∧ S g ∧ g < w.heap.size ∧ hp w g = some (.cells (Bu cur (i * 6) ds).toArray A (0, 0)) ∧ i * 6 + 6 ≤ cur.length ∧
   O (F8 E F N G) Sx w ds p ∧ (∀ b, Sx b → S b ∧ b ≠ g ∧ b < w.heap.size) ∧
   ∀ (w' : World) (ds' : List Value) (p' : PlaceD) (S' : Nat → Prop), O (F8 E F N G) S' w' ds' p' → hp w' g = some (.cells (Bu cur (i * 6) ds').toArray A (0, 0)) → (∀ b, b < w.heap.size → S b → b ≠ g → ¬ Sx b → hp w' b = hp w b) → (∀ b, b < w'.heap.size → S' b → Sx b ∨ ¬ (b < w.heap.size ∧ S b)) →
    O (De E F N G A B C H) (fun b => S b ∨ S' b) w' cs { x with places := x.places.set i p' } := by
 obtain ⟨a, c, a1, c1, a2, c2, a3, c3, S1, S2, S3, S4, rfl, P, hS⟩ := O.Il h
 have o1 := P.o1.wide (S' := fun b => S1 b ∧ b < w.heap.size) fun b h1 h2 => ⟨h1, h2⟩
 obtain ⟨g, cur, ds, Sx, rfl, hSg, hgl, hg, hle, hx1, hSx, put⟩ := o1.PO (by show 0 < 6; decide) hp'
 refine ⟨c, a1, c1, a2, c2, a3, c3, g, cur, ds, Sx, rfl, (hS g (.inl hSg.1)).1, hgl, hg, hle, hx1, fun b hb => ⟨(hS b (.inl (hSx b hb).1.1)).1, (hSx b hb).2.1, (hSx b hb).2.2⟩, ?_⟩
 intro w' ds' p' S' h1 h2 h3 h4
 have lt : ∀ b, S1 b ∨ S2 b ∨ S3 b ∨ S4 b → S b ∧ b < w.heap.size := hS
 have oW := put w' ds' p' (fun b => S' b ∧ b < w'.heap.size) (h1.wide fun b q1 q2 => ⟨q1, q2⟩) h2 (fun b hb hb1 hne hn => h3 b hb (hS b (.inl hb1.1)).1 hne hn) (fun b hb q => by
  rcases h4 b hb q.1 with q' | q'
  ·exact .inl q'
  ·exact .inr fun hh => q' ⟨hh.1, (hS b (.inl hh.2.1)).1⟩)
 have oth : ∀ b, (S2 b ∨ S3 b ∨ S4 b) → ¬ S1 b → hp w' b = hp w b := fun b hb n1 => h3 b (hS b (.inr hb)).2 (hS b (.inr hb)).1 (fun e => n1 (e ▸ hSg.1)) (fun hh => n1 (hSx b hh).1.1)
 have n12 : ∀ b, S2 b → ¬ S1 b := fun b h h' => P.d12 b (hS b (.inl h')).2 h' h
 have n13 : ∀ b, S3 b → ¬ S1 b := fun b h h' => P.d13 b (hS b (.inl h')).2 h' h
 have n14 : ∀ b, S4 b → ¬ S1 b := fun b h h' => P.d14 b (hS b (.inl h')).2 h' h
 have nw : ∀ b, (S2 b ∨ S3 b ∨ S4 b) → ¬ S1 b → ¬ ((S1 b ∧ b < w.heap.size) ∧ ¬ Sx b ∨ S' b ∧ b < w'.heap.size) := by
  rintro b hb n1 (q | q)
  ·exact n1 q.1.1
  ·rcases h4 b q.2 q.1 with q' | q'
   ·exact n1 (hSx b q').1.1
   ·exact q' ⟨(hS b (.inr hb)).2, (hS b (.inr hb)).1⟩
 have R : Parts E F N G A B C H w' { x with places := x.places.set i p' } (.slice (some ⟨g, 0, none⟩) x.places.length c) (.slice a1 x.Ay.length c1) (.slice a2 x.net.length c2) (.slice a3 x.AM.length c3) (fun b => (S1 b ∧ b < w.heap.size) ∧ ¬ Sx b ∨ S' b ∧ b < w'.heap.size) S2 S3 S4 :=
  ⟨oW, P.o2.Aj fun b hb _ => oth b (.inl hb) (n12 b hb), P.o3.Aj fun b hb _ => oth b (.inr (.inl hb)) (n13 b hb), P.o4.Aj fun b hb _ => oth b (.inr (.inr hb)) (n14 b hb),
   fun b _ q q' => nw b (.inl q') (n12 b q') q, fun b _ q q' => nw b (.inr (.inl q')) (n13 b q') q, fun b _ q q' => nw b (.inr (.inr q')) (n14 b q') q,
   fun b _ q q' => P.d23 b (hS b (.inr (.inl q))).2 q q', fun b _ q q' => P.d24 b (hS b (.inr (.inl q))).2 q q', fun b _ q q' => P.d34 b (hS b (.inr (.inr (.inl q)))).2 q q'⟩
 refine R.mk'.wide fun b hb _ => ?_
 rcases hb with (q | q) | q
 ·exact .inl (hS b (.inl q.1.1)).1
 ·exact .inr q.1
 ·exact .inl (hS b (.inr q)).1
theorem O.FG (h : O (De E F N G A B C H) S w cs x) {i : Nat} {s : SessD} (hs : x.Ay[i]? = some s) :
  ∃ a c c1 a2 c2 a3 c3 g cur ap cp Sx, cs = [.slice a x.places.length c, .slice (some ⟨g, 0, none⟩) x.Ay.length c1, .slice a2 x.net.length c2, .slice a3 x.AM.length c3] ∧ S g ∧ g < w.heap.size ∧ hp w g = some (.cells (Bu cur (i * 5) [i64 s.place, .slice ap s.past.length cp, i64 s.wait.t, i64 s.wait.p, i64 s.key]).toArray B (0, 0)) ∧ i * 5 + 5 ≤ cur.length ∧
   O (Iw E) Sx w [.slice ap s.past.length cp] s.past ∧ (∀ b, Sx b → S b ∧ b ≠ g ∧ b < w.heap.size) ∧
   ∀ (w' : World) (ds' : List Value) (s' : SessD) (S' : Nat → Prop), O (Jf E) S' w' ds' s' → hp w' g = some (.cells (Bu cur (i * 5) ds').toArray B (0, 0)) → (∀ b, b < w.heap.size → S b → b ≠ g → ¬ Sx b → hp w' b = hp w b) → (∀ b, b < w'.heap.size → S' b → Sx b ∨ ¬ (b < w.heap.size ∧ S b)) →
    O (De E F N G A B C H) (fun b => S b ∨ S' b) w' cs { x with Ay := x.Ay.set i s' } := by
 obtain ⟨a, c, a1, c1, a2, c2, a3, c3, S1, S2, S3, S4, rfl, P, hS⟩ := O.Il h
 have o2 := P.o2.wide (S' := fun b => S2 b ∧ b < w.heap.size) fun b h1 h2 => ⟨h1, h2⟩
 obtain ⟨g, cur, ds, Sx, rfl, hSg, hgl, hg, hle, hx1, hSx, put⟩ := o2.PO (by show 0 < 5; decide) hs
 obtain ⟨ap, cp, rfl, hx2⟩ := O.Ay.1 hx1
 refine ⟨a, c, c1, a2, c2, a3, c3, g, cur, ap, cp, Sx, rfl, (hS g (.inr (.inl hSg.1))).1, hgl, hg, hle, hx2, fun b hb => ⟨(hS b (.inr (.inl (hSx b hb).1.1))).1, (hSx b hb).2.1, (hSx b hb).2.2⟩, ?_⟩
 intro w' ds' s' S' h1 h2 h3 h4
 have oW := put w' ds' s' (fun b => S' b ∧ b < w'.heap.size) (h1.wide fun b q1 q2 => ⟨q1, q2⟩) h2 (fun b hb hb1 hne hn => h3 b hb (hS b (.inr (.inl hb1.1))).1 hne hn) (fun b hb q => by
  rcases h4 b hb q.1 with q' | q'
  ·exact .inl q'
  ·exact .inr fun hh => q' ⟨hh.1, (hS b (.inr (.inl hh.2.1))).1⟩)
 have oth : ∀ b, (S1 b ∨ S3 b ∨ S4 b) → ¬ S2 b → hp w' b = hp w b := fun b hb n1 => by
  have q : S b ∧ b < w.heap.size := hS b (by rcases hb with q | q | q; exact .inl q; exact .inr (.inr (.inl q)); exact .inr (.inr (.inr q)))
  exact h3 b q.2 q.1 (fun e => n1 (e ▸ hSg.1)) (fun hh => n1 (hSx b hh).1.1)
 have n12 : ∀ b, S1 b → ¬ S2 b := fun b h h' => P.d12 b (hS b (.inl h)).2 h h'
 have n23 : ∀ b, S3 b → ¬ S2 b := fun b h h' => P.d23 b (hS b (.inr (.inl h'))).2 h' h
 have n24 : ∀ b, S4 b → ¬ S2 b := fun b h h' => P.d24 b (hS b (.inr (.inl h'))).2 h' h
 have nw : ∀ b, (S1 b ∨ S3 b ∨ S4 b) → ¬ S2 b → ¬ ((S2 b ∧ b < w.heap.size) ∧ ¬ Sx b ∨ S' b ∧ b < w'.heap.size) := by
  rintro b hb n1 (q | q)
  ·exact n1 q.1.1
  ·have q0 : S b ∧ b < w.heap.size := hS b (by rcases hb with q | q | q; exact .inl q; exact .inr (.inr (.inl q)); exact .inr (.inr (.inr q)))
   rcases h4 b q.2 q.1 with q' | q'
   ·exact n1 (hSx b q').1.1
   ·exact q' ⟨q0.2, q0.1⟩
 have R : Parts E F N G A B C H w' { x with Ay := x.Ay.set i s' } (.slice a x.places.length c) (.slice (some ⟨g, 0, none⟩) x.Ay.length c1) (.slice a2 x.net.length c2) (.slice a3 x.AM.length c3) S1 (fun b => (S2 b ∧ b < w.heap.size) ∧ ¬ Sx b ∨ S' b ∧ b < w'.heap.size) S3 S4 :=
  ⟨P.o1.Aj fun b hb _ => oth b (.inl hb) (n12 b hb), oW, P.o3.Aj fun b hb _ => oth b (.inr (.inl hb)) (n23 b hb), P.o4.Aj fun b hb _ => oth b (.inr (.inr hb)) (n24 b hb),
   fun b _ q' q => nw b (.inl q') (n12 b q') q, fun b _ q q' => P.d13 b (hS b (.inl q)).2 q q', fun b _ q q' => P.d14 b (hS b (.inl q)).2 q q',
   fun b _ q q' => nw b (.inr (.inl q')) (n23 b q') q, fun b _ q q' => nw b (.inr (.inr q')) (n24 b q') q, fun b _ q q' => P.d34 b (hS b (.inr (.inr (.inl q)))).2 q q'⟩
 refine R.mk'.wide fun b hb _ => ?_
 rcases hb with q | (q | q) | q
 ·exact .inl (hS b (.inl q)).1
 ·exact .inl (hS b (.inr (.inl q.1.1))).1
 ·exact .inr q.1
 ·exact .inl (hS b (.inr (.inr q))).1
theorem Parts.FG {s u v : Value} {g n c1 : Nat} {S1 S2 S3 S4 : Nat → Prop} (P : Parts E F N G A B C H w x s (.slice (some ⟨g, 0, none⟩) n c1) u v S1 S2 S3 S4) (hl : ∀ b, (S1 b ∨ S2 b ∨ S3 b ∨ S4 b) → b < w.heap.size) {i : Nat} {sd : SessD} (hs : x.Ay[i]? = some sd) :
  ∃ cur ap cp Sx, n = x.Ay.length ∧ S2 g ∧ hp w g = some (.cells (Bu cur (i * 5) [i64 sd.place, .slice ap sd.past.length cp, i64 sd.wait.t, i64 sd.wait.p, i64 sd.key]).toArray B (0, 0)) ∧ i * 5 + 5 ≤ cur.length ∧
   O (Iw E) Sx w [.slice ap sd.past.length cp] sd.past ∧ (∀ b, Sx b → S2 b ∧ b ≠ g) ∧
   ∀ (w' : World) (ds' : List Value) (s' : SessD) (S' : Nat → Prop), O (Jf E) S' w' ds' s' → hp w' g = some (.cells (Bu cur (i * 5) ds').toArray B (0, 0)) → (∀ b, (S1 b ∨ S2 b ∨ S3 b ∨ S4 b) → b ≠ g → ¬ Sx b → hp w' b = hp w b) → (∀ b, S' b → Sx b ∨ w.heap.size ≤ b) →
    Parts E F N G A B C H w' { x with Ay := x.Ay.set i s' } s (.slice (some ⟨g, 0, none⟩) n c1) u v S1 (fun b => S2 b ∨ S' b) S3 S4 := by
 obtain ⟨rfl, _⟩ := P.o2.n
 obtain ⟨g', cur, ds, Sx, hga, hSg, hgl, hg, hle, hx1, hSx, put⟩ := P.o2.PO (by show 0 < 5; decide) hs
 simp only [Option.some.injEq, Addr.mk.injEq, and_true] at hga
 subst hga
 obtain ⟨ap, cp, rfl, hx2⟩ := O.Ay.1 hx1
 refine ⟨cur, ap, cp, Sx, rfl, hSg, hg, hle, hx2, fun b hb => ⟨(hSx b hb).1, (hSx b hb).2.1⟩, ?_⟩
 intro w' ds' s' S' h1 h2 h3 h4
 have oW := put w' ds' s' S' h1 h2 (fun b hb hb1 hne hn => h3 b (.inr (.inl hb1)) hne hn) (fun b _ q => by
  rcases h4 b q with q' | q'
  ·exact .inl q'
  ·exact .inr fun hh => by omega)
 have lt1 := fun b h => hl b (.inl h)
 have lt2 := fun b h => hl b (.inr (.inl h))
 have lt3 := fun b h => hl b (.inr (.inr (.inl h)))
 have lt4 := fun b h => hl b (.inr (.inr (.inr h)))
 have n12 : ∀ b, S1 b → ¬ S2 b := fun b h h' => P.d12 b (lt1 b h) h h'
 have n23 : ∀ b, S3 b → ¬ S2 b := fun b h h' => P.d23 b (lt3 b h) h' h
 have n24 : ∀ b, S4 b → ¬ S2 b := fun b h h' => P.d24 b (lt4 b h) h' h
 have nS : ∀ b, (S1 b ∨ S3 b ∨ S4 b) → ¬ S2 b → ¬ (S2 b ∨ S' b) := by
  rintro b hb h2 (h | h)
  ·exact h2 h
  ·rcases h4 b h with h | h
   ·exact h2 (hSx b h).1
   ·have : b < w.heap.size := hl b (by rcases hb with q | q | q; exact .inl q; exact .inr (.inr (.inl q)); exact .inr (.inr (.inr q)))
    omega
 exact ⟨P.o1.Aj fun b hb _ => h3 b (.inl hb) (fun e => n12 b hb (e ▸ hSg)) (fun h => n12 b hb (hSx b h).1), oW.wide fun b h _ => by rcases h with h | h; exact .inl h.1; exact .inr h,
  P.o3.Aj fun b hb _ => h3 b (.inr (.inr (.inl hb))) (fun e => n23 b hb (e ▸ hSg)) (fun h => n23 b hb (hSx b h).1), P.o4.Aj fun b hb _ => h3 b (.inr (.inr (.inr hb))) (fun e => n24 b hb (e ▸ hSg)) (fun h => n24 b hb (hSx b h).1),
  fun b _ q q' => nS b (.inl q) (n12 b q) q', fun b _ q q' => P.d13 b (lt1 b q) q q', fun b _ q q' => P.d14 b (lt1 b q) q q',
  fun b _ q q' => nS b (.inr (.inl q')) (n23 b q') q, fun b _ q q' => nS b (.inr (.inr q')) (n24 b q') q, fun b _ q q' => P.d34 b (lt3 b q) q q'⟩
theorem Parts.Aj {s t u v : Value} {S1 S2 S3 S4 : Nat → Prop} {w' : World} (P : Parts E F N G A B C H w x s t u v S1 S2 S3 S4) (hl : ∀ b, (S1 b ∨ S2 b ∨ S3 b ∨ S4 b) → b < w.heap.size) (k : ∀ b, (S1 b ∨ S2 b ∨ S3 b ∨ S4 b) → hp w' b = hp w b) : Parts E F N G A B C H w' x s t u v S1 S2 S3 S4 :=
 ⟨P.o1.Aj fun b hb _ => k b (.inl hb), P.o2.Aj fun b hb _ => k b (.inr (.inl hb)), P.o3.Aj fun b hb _ => k b (.inr (.inr (.inl hb))), P.o4.Aj fun b hb _ => k b (.inr (.inr (.inr hb))),
  fun b _ q q' => P.d12 b (hl b (.inl q)) q q', fun b _ q q' => P.d13 b (hl b (.inl q)) q q', fun b _ q q' => P.d14 b (hl b (.inl q)) q q', fun b _ q q' => P.d23 b (hl b (.inr (.inl q))) q q', fun b _ q q' => P.d24 b (hl b (.inr (.inl q))) q q', fun b _ q q' => P.d34 b (hl b (.inr (.inr (.inl q)))) q q'⟩
theorem Parts.Va {s t u v v' : Value} {S1 S2 S3 S4 S' : Nat → Prop} {l : List Done} {w' : World} (P : Parts E F N G A B C H w x s t u v S1 S2 S3 S4) (hl : ∀ b, (S1 b ∨ S2 b ∨ S3 b ∨ S4 b) → b < w.heap.size) (h1 : O (HJ H) S' w' [v'] l)
  (h3 : ∀ b, (S1 b ∨ S2 b ∨ S3 b) → ¬ S4 b → hp w' b = hp w b) (h4 : ∀ b, S' b → S4 b ∨ w.heap.size ≤ b) : Parts E F N G A B C H w' { x with AM := l } s t u v' S1 S2 S3 S' := by
 have lt1 := fun b h => hl b (.inl h)
 have lt2 := fun b h => hl b (.inr (.inl h))
 have lt3 := fun b h => hl b (.inr (.inr (.inl h)))
 have n14 : ∀ b, S1 b → ¬ S4 b := fun b h h' => P.d14 b (lt1 b h) h h'
 have n24 : ∀ b, S2 b → ¬ S4 b := fun b h h' => P.d24 b (lt2 b h) h h'
 have n34 : ∀ b, S3 b → ¬ S4 b := fun b h h' => P.d34 b (lt3 b h) h h'
 have nS : ∀ b, b < w.heap.size → ¬ S4 b → ¬ S' b := by
  intro b hb h h'
  rcases h4 b h' with h'' | h''
  ·exact h h''
  ·omega
 exact ⟨P.o1.Aj fun b hb _ => h3 b (.inl hb) (n14 b hb), P.o2.Aj fun b hb _ => h3 b (.inr (.inl hb)) (n24 b hb), P.o3.Aj fun b hb _ => h3 b (.inr (.inr hb)) (n34 b hb), h1,
  fun b _ q q' => P.d12 b (lt1 b q) q q', fun b _ q q' => P.d13 b (lt1 b q) q q', fun b _ q => nS b (lt1 b q) (n14 b q), fun b _ q q' => P.d23 b (lt2 b q) q q', fun b _ q => nS b (lt2 b q) (n24 b q), fun b _ q => nS b (lt3 b q) (n34 b q)⟩
theorem O.Wf (h : O (De E F N G A B C H) S w cs x) :
  ∃ a c a1 c1 a2 c2 a3 c3 S3, cs = [.slice a x.places.length c, .slice a1 x.Ay.length c1, .slice a2 x.net.length c2, .slice a3 x.AM.length c3] ∧ O (FF E C) S3 w [.slice a2 x.net.length c2] x.net ∧ (∀ b, S3 b → S b ∧ b < w.heap.size) ∧
   ∀ (w' : World) (u : Value) (l : List FrameD) (S' : Nat → Prop), O (FF E C) S' w' [u] l → (∀ b, b < w.heap.size → S b → ¬ S3 b → hp w' b = hp w b) → (∀ b, b < w'.heap.size → S' b → S3 b ∨ ¬ (b < w.heap.size ∧ S b)) →
    O (De E F N G A B C H) (fun b => S b ∨ S' b) w' [.slice a x.places.length c, .slice a1 x.Ay.length c1, u, .slice a3 x.AM.length c3] { x with net := l } := by
 obtain ⟨a, c, a1, c1, a2, c2, a3, c3, S1, S2, S3, S4, rfl, P, hS⟩ := O.Il h
 refine ⟨a, c, a1, c1, a2, c2, a3, c3, S3, rfl, P.o3, fun b hb => hS b (.inr (.inr (.inl hb))), ?_⟩
 intro w' u l S' h1 h3 h4
 have n13 : ∀ b, S1 b → ¬ S3 b := fun b h h' => P.d13 b (hS b (.inl h)).2 h h'
 have n23 : ∀ b, S2 b → ¬ S3 b := fun b h h' => P.d23 b (hS b (.inr (.inl h))).2 h h'
 have n34 : ∀ b, S4 b → ¬ S3 b := fun b h h' => P.d34 b (hS b (.inr (.inr (.inl h')))).2 h' h
 have nw : ∀ b, b < w'.heap.size → (S1 b ∨ S2 b ∨ S4 b) → ¬ S3 b → ¬ S' b := by
  rintro b hb' hb n1 q
  have q0 : S b ∧ b < w.heap.size := hS b (by rcases hb with q | q | q; exact .inl q; exact .inr (.inl q); exact .inr (.inr (.inr q)))
  rcases h4 b hb' q with q' | q'
  ·exact n1 q'
  ·exact q' ⟨q0.2, q0.1⟩
 have R : Parts E F N G A B C H w' { x with net := l } (.slice a x.places.length c) (.slice a1 x.Ay.length c1) u (.slice a3 x.AM.length c3) S1 S2 S' S4 :=
  ⟨P.o1.Aj fun b hb hl => h3 b hl (hS b (.inl hb)).1 (n13 b hb), P.o2.Aj fun b hb hl => h3 b hl (hS b (.inr (.inl hb))).1 (n23 b hb), h1, P.o4.Aj fun b hb hl => h3 b hl (hS b (.inr (.inr (.inr hb)))).1 (n34 b hb),
   fun b _ q q' => P.d12 b (hS b (.inl q)).2 q q', fun b hl q q' => nw b hl (.inl q) (n13 b q) q', fun b _ q q' => P.d14 b (hS b (.inl q)).2 q q',
   fun b hl q q' => nw b hl (.inr (.inl q)) (n23 b q) q', fun b _ q q' => P.d24 b (hS b (.inr (.inl q))).2 q q', fun b hl q q' => nw b hl (.inr (.inr q')) (n34 b q') q⟩
 refine R.mk'.wide fun b hb _ => ?_
 rcases hb with q | q | q | q
 ·exact .inl (hS b (.inl q)).1
 ·exact .inl (hS b (.inr (.inl q))).1
 ·exact .inr q
 ·exact .inl (hS b (.inr (.inr (.inr q)))).1
theorem O.Vb (h : O (De E F N G A B C H) S w cs x) :
  ∃ a c a1 c1 a2 c2 a3 c3 S3, cs = [.slice a x.places.length c, .slice a1 x.Ay.length c1, .slice a2 x.net.length c2, .slice a3 x.AM.length c3] ∧ O (HJ H) S3 w [.slice a3 x.AM.length c3] x.AM ∧ (∀ b, S3 b → S b ∧ b < w.heap.size) ∧
   ∀ (w' : World) (u : Value) (l : List Done) (S' : Nat → Prop), O (HJ H) S' w' [u] l → (∀ b, b < w.heap.size → S b → ¬ S3 b → hp w' b = hp w b) → (∀ b, b < w'.heap.size → S' b → S3 b ∨ ¬ (b < w.heap.size ∧ S b)) →
    O (De E F N G A B C H) (fun b => S b ∨ S' b) w' [.slice a x.places.length c, .slice a1 x.Ay.length c1, .slice a2 x.net.length c2, u] { x with AM := l } := by
 obtain ⟨a, c, a1, c1, a2, c2, a3, c3, S1, S2, S3, S4, rfl, P, hS⟩ := O.Il h
 refine ⟨a, c, a1, c1, a2, c2, a3, c3, S4, rfl, P.o4, fun b hb => hS b (.inr (.inr (.inr hb))), ?_⟩
 intro w' u l S' h1 h3 h4
 have n14 : ∀ b, S1 b → ¬ S4 b := fun b h h' => P.d14 b (hS b (.inl h)).2 h h'
 have n24 : ∀ b, S2 b → ¬ S4 b := fun b h h' => P.d24 b (hS b (.inr (.inl h))).2 h h'
 have n34 : ∀ b, S3 b → ¬ S4 b := fun b h h' => P.d34 b (hS b (.inr (.inr (.inl h)))).2 h h'
 have nw : ∀ b, b < w'.heap.size → (S1 b ∨ S2 b ∨ S3 b) → ¬ S4 b → ¬ S' b := by
  rintro b hb' hb n1 q
  have q0 : S b ∧ b < w.heap.size := hS b (by rcases hb with q | q | q; exact .inl q; exact .inr (.inl q); exact .inr (.inr (.inl q)))
  rcases h4 b hb' q with q' | q'
  ·exact n1 q'
  ·exact q' ⟨q0.2, q0.1⟩
 have R : Parts E F N G A B C H w' { x with AM := l } (.slice a x.places.length c) (.slice a1 x.Ay.length c1) (.slice a2 x.net.length c2) u S1 S2 S3 S' :=
  ⟨P.o1.Aj fun b hb hl => h3 b hl (hS b (.inl hb)).1 (n14 b hb), P.o2.Aj fun b hb hl => h3 b hl (hS b (.inr (.inl hb))).1 (n24 b hb), P.o3.Aj fun b hb hl => h3 b hl (hS b (.inr (.inr (.inl hb)))).1 (n34 b hb), h1,
   fun b _ q q' => P.d12 b (hS b (.inl q)).2 q q', fun b _ q q' => P.d13 b (hS b (.inl q)).2 q q', fun b hl q q' => nw b hl (.inl q) (n14 b q) q',
   fun b _ q q' => P.d23 b (hS b (.inr (.inl q))).2 q q', fun b hl q q' => nw b hl (.inr (.inl q)) (n24 b q) q', fun b hl q q' => nw b hl (.inr (.inr q)) (n34 b q) q'⟩
 refine R.mk'.wide fun b hb _ => ?_
 rcases hb with q | q | q | q
 ·exact .inl (hS b (.inl q)).1
 ·exact .inl (hS b (.inr (.inl q))).1
 ·exact .inl (hS b (.inr (.inr (.inl q)))).1
 ·exact .inr q
end
structure EventD where
 kind : Int
 at' : Int
 num : Int
 key : Int
 text : ByteArray
 gone : Bool
def HC : Lay EventD := Nu (BX HZ (BX HZ (BX HZ (BX HZ (BX HG LBool))))) fun e => (e.kind, e.at', e.num, e.key, e.text, e.gone)
abbrev Vc (E : TypeId) : Lay (List EventD) := AY E 2513169434916 HC
abbrev PF (e : EventD) : List Value := [i64 e.kind, i64 e.at', i64 e.num, i64 e.key, .string e.text, .bool e.gone]
theorem TU : HC.n = 6 := rfl
theorem Q5 : HC.Flat := Kh (BO Cp (BO Cp (BO Cp (BO Cp (BO Qy SV)))))
section
variable {S : Nat → Prop} {w : World} {cs : List Value} {x : EventD}
theorem D.event : D HC S w cs x ↔ cs = PF x ∧ x.text.size ≤ 140737488351232 := by
 unfold HC
 rw [D.map]
 simp only [D.pair, D.int, D.str, D.bool]
 constructor
 ·rintro ⟨c1, d1, rfl, rfl, c2, d2, rfl, rfl, c3, d3, rfl, rfl, c4, d4, rfl, rfl, c5, d5, rfl, ⟨rfl, h⟩, rfl⟩
  exact ⟨rfl, h⟩
 ·rintro ⟨rfl, h⟩
  exact ⟨[_], _, rfl, rfl, [_], _, rfl, rfl, [_], _, rfl, rfl, [_], _, rfl, rfl, [_], _, rfl, ⟨rfl, h⟩, rfl⟩
theorem O.event (h : x.text.size ≤ 140737488351232) : O HC S w (PF x) x := by
 obtain ⟨bs, h1, _⟩ := (D.event (S := S) (w := w)).2 ⟨rfl, h⟩
 obtain ⟨rfl, h2⟩ := Q5 _ _ _ _ _ h1
 exact ⟨[], h2 true w, by simp, by simp⟩
end
end Go.Ev
set_option maxHeartbeats 1000000
namespace Go.Ev
open Go Go.RowKit
section
variable {α : Type} {L : Lay α} {S : Nat → Prop} {w : World} {E mx : Nat} {P : Program}
theorem O.XZ {t ty y : Nat} (h0 : 0 < L.n) (hE : Hu P t = some (E, L.n, y)) {a : Option Addr} {n c : Nat} {xs : List α} (h : O (AY E mx L) S w [.slice a n c] xs) {k : Nat} (hk : k < n) :
  ∃ (a' : Option Addr) (c' : Nat) (w' : World), (∀ w', sl P t (.slice a n c) none (Option.some (i64 k)) none w' = Option.some (.slice a k c, w')) ∧ (∀ w', sl P t (.slice a n c) (Option.some (i64 (k + 1 : Nat))) none none w' = Option.some (.slice a' (n - (k + 1)) c', w')) ∧
   Ar P #[t, t] ty #[.slice a k c, .slice a' (n - (k + 1)) c'] w = some (.slice a (n - 1) c, w') ∧ D (AY E mx L) (fun b => S b ∧ b < w.heap.size) w' [.slice a (n - 1) c] (xs.take k ++ xs.drop (k + 1)) ∧ Mod S w w' := by
 obtain ⟨rfl, hmx, hmx2⟩ := h.n
 obtain ⟨css0, hown, hels0, hS0, _⟩ := h.un
 obtain ⟨css, S1, S2, a', c', L1, L2, d1, d2, sl1, sl2, A1, A2, dB⟩ := h.UA (P := P) (t := t) h0 hE (j := k) (k := k + 1) Ad Ad
 obtain ⟨hlen, hn9, hrow⟩ := hown
 rcases hrow with ⟨_, hz⟩ | ⟨g, cap, cur, hs, hg0, hg, hcap, hcap2, hsz, htk⟩
 ·omega
 simp only [Value.slice.injEq] at hs
 obtain ⟨rfl, _, rfl⟩ := hs
 have hgl := Aq hg
 have l1 := L1.lay
 have l2 := L2.lay
 have f1 : (css.take k).flatten.length = k * L.n := by
  rw [BE l1.2, l1.1, List.length_take]
  congr 1
  omega
 have f2 : (css.drop (k + 1)).flatten.length = (xs.length - (k + 1)) * L.n := by
  rw [BE l2.2, l2.1, List.length_drop]
 have hgS : S g ∧ ¬ S1 g ∧ ¬ S2 g ∧ g < w.heap.size := dB g (by simp [AF])
 have hpre : cur.toList.take (k * L.n) = (css.take k).flatten := by
  by_cases hk0 : k = 0
  ·subst hk0; simp
  ·rcases A1 with A1 | ⟨b, o, hb, _, A1⟩
   ·have := congrArg List.length A1
    rw [List.length_take] at this
    simp only [List.length_nil] at this
    omega
   ·simp only [Option.some.injEq, Addr.mk.injEq, and_true] at hb
    obtain ⟨rfl, rfl⟩ := hb
    have hm : k * L.n ≤ c * L.n := Nat.mul_le_mul_right _ Ad
    refine List.ext_getElem? fun j => ?_
    by_cases hj : j < k * L.n
    ·rw [List.getElem?_take_of_lt hj]
     obtain ⟨v, hv⟩ : ∃ v, (css.take k).flatten[j]? = some v := ⟨_, List.getElem?_eq_getElem Ad⟩
     have := A1 j v hv
     rw [hg, Bt, ← CD, Nat.zero_add] at this
     rw [this, hv]
    ·rw [List.getElem?_eq_none (by rw [List.length_take]; omega), List.getElem?_eq_none Ad]
 have hall : ∀ w' : World, (∀ b, b ≠ g → hp w' b = hp w b) → DG (D L (fun b => S b ∧ b < w.heap.size) w') (css.take k ++ css.drop (k + 1)) (xs.take k ++ xs.drop (k + 1)) := fun w' hw =>
  DG.Yp (L1.d2.imp fun _ _ q => (q.Aj fun b hb hbl => hw b (fun e => hgS.2.1 (e ▸ hb))).wide fun b hb _ => ⟨(d1 b hb).1, (d1 b hb).2.2⟩) (L2.d2.imp fun _ _ q => (q.Aj fun b hb hbl => hw b (fun e => hgS.2.2.1 (e ▸ hb))).wide fun b hb _ => ⟨(d2 b hb).1, (d2 b hb).2.2⟩)
 have hll : (xs.take k ++ xs.drop (k + 1)).length = xs.length - 1 := by rw [List.length_append, List.length_take, List.length_drop]; omega
 by_cases hlast : xs.length - (k + 1) = 0
 ·have hd : css.drop (k + 1) = [] := List.eq_nil_of_length_eq_zero (by rw [l2.1, List.length_drop]; exact hlast)
  refine ⟨a', c', w, sl1, sl2, ?_, ?_, Mod.rfl⟩
  ·rw [hlast, Iq (P := P) (ty := ty) hE _ a' k c c' Ad w]
   rw [show xs.length - 1 = k by omega]
  ·rw [show xs.length - 1 = (xs.take k ++ xs.drop (k + 1)).length by omega]
   refine D.WO (css := css.take k ++ css.drop (k + 1)) ⟨_, _, rfl, by omega, ?_⟩ (hall w fun _ _ => rfl) (fun b hb => ?_) Ad
   ·rw [hd, List.append_nil]
    rcases A1 with A1 | ⟨b, o, hb, _, A1⟩
    ·left
     apply List.eq_nil_of_length_eq_zero
     rw [f1]
     have := congrArg List.length A1
     rw [List.length_take] at this
     simp only [List.length_nil] at this
     rw [show k = 0 by omega, Nat.zero_mul]
    ·exact .inr ⟨b, o, hb, A1⟩
   ·have := dB b (by simpa [AF] using hb)
    exact ⟨⟨this.1, this.2.2.2⟩, this.2.2.2⟩
 ·obtain ⟨b2, o2, rfl, hb2, A2⟩ : ∃ b o, a' = some ⟨b, o, none⟩ ∧ (S b ∧ ¬ S1 b ∧ ¬ S2 b ∧ b < w.heap.size) ∧ At w b o (css.drop (k + 1)).flatten := by
   rcases A2 with A2 | A2
   ·have := congrArg List.length A2
    rw [List.length_drop] at this
    simp only [List.length_nil] at this
    omega
   ·exact A2
  have hm : k * L.n + (xs.length - (k + 1)) * L.n ≤ c * L.n := by
   rw [← Nat.add_mul]
   exact Nat.mul_le_mul_right _ Ad
  have ha := Tb (P := P) (ty := ty) (n := k) (cap := c) (m := xs.length - (k + 1)) (c := c') hE hg A2 f2 L2.Yj Ad Ad
  rw [show k + (xs.length - (k + 1)) = xs.length - 1 by omega] at ha
  refine ⟨some ⟨b2, o2, none⟩, c', _, sl1, sl2, ha, ?_, (Mod.rfl (S := S)).AQ (.inr hgS.1) _⟩
  rw [show xs.length - 1 = (xs.take k ++ xs.drop (k + 1)).length by omega]
  refine D.WO (css := css.take k ++ css.drop (k + 1)) ⟨_, _, rfl, by omega, .inr ⟨g, 0, rfl, fun j v hj => ?_⟩⟩ (hall _ fun b hb => Ac hb) (fun b hb => ?_) Ad
  ·rw [EG, hg]
   show AR (some (.cells _ E (0, 0))) (0 + j) = _
   rw [Bt, ← CD, Nat.zero_add]
   rw [hpre, List.flatten_append] at *
   have hjl : j < ((css.take k).flatten ++ (css.drop (k + 1)).flatten).length := (List.getElem?_eq_some_iff.1 hj).1
   show (((css.take k).flatten ++ (css.drop (k + 1)).flatten ++ _).toArray.toList)[j]? = _
   rw [List.toList_toArray, List.getElem?_append_left hjl]
   exact hj
  ·have := dB b (by simpa [AF] using hb)
   exact ⟨⟨this.1, this.2.2.2⟩, by simpa using this.2.2.2⟩
end
end Go.Ev
