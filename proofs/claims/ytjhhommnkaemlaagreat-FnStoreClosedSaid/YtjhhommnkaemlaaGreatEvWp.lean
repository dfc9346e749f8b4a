/- A part of the proof, without conditions. -/
import Derived.Lib.Overlaps
import Derived.Lib.AppendZerosOnto
import Derived.Laws.Externs
import Derived.Test.YtjhhommnkaemlaaGreatEvWo
import Derived.Test.YtjhhommnkaemlaaGreatEvX
import Derived.Test.YtjhhommnkaemlaaGreatEvI
import Derived.Test.YtjhhommnkaemlaaGreatEvO
set_option linter.unusedVariables false
set_option linter.unusedSimpArgs false
set_option linter.deprecated false
namespace Go.Ev
open Go Go.RowKit
section
variable {P : Program}
end
end Go.Ev
namespace Go.Ev
open Go Go.RowKit
section
variable {P : Program} {S : Nat → Prop} {w w' : World} {E mx : Nat}
end
theorem At.new {w : World} {cs : List Value} {E : TypeId} : At (w.alloc (.cells cs.toArray E)) w.heap.size 0 cs := by
 intro j v hv
 rw [Af rfl, Bt, ← CX, Nat.zero_add]
 simpa using hv
theorem At.nw {w : World} {cs : List Value} {E : TypeId} {n : Nat} (h : n = w.heap.size) : At (w.alloc (.cells cs.toArray E)) n 0 cs := by
 subst h
 exact At.new
theorem DF {w : World} {cur cs : List Value} {o g : Nat} {E : TypeId} (h : hp w g = some (.cells (Ba cur o cs).toArray E (0, 0))) (hl : o + cs.length ≤ cur.length) : At w g o cs := by
 intro j v hj
 have hlt : j < cs.length := (List.getElem?_eq_some_iff.1 hj).1
 rw [h, Bt]
 show nth (Ba cur o cs) (o + j) = _
 rw [Hh hlt hl, ← CX, hj]
section
variable {α : Type} {L : Lay α} {S : Nat → Prop} {w : World} {cs : List Value} {E mx : Nat} {P : Program}
theorem O.SV {t y : Nat} (h0 : 0 < L.n) (hE : Gb P t = some (E, L.n, y)) {a : Option Addr} {n c : Nat} {xs : List α} (h : O (AQ E mx L) S w [.slice a n c] xs) {j : Nat} {x : α} (hx : xs[j]? = some x) :
  ∃ (css : List (List Value)) (S1 S2 : Nat → Prop) (a' : Option Addr) (c' : Nat) (Sx : Nat → Prop) (cx : List Value) (b o : Nat), FN L S1 w (css.take j) (xs.take j) ∧ FN L S2 w (css.drop (j + 1)) (xs.drop (j + 1)) ∧ (∀ b, S1 b → S b ∧ ¬ S2 b ∧ b < w.heap.size) ∧ (∀ b, S2 b → S b ∧ ¬ S1 b ∧ b < w.heap.size) ∧
   (∀ w', sl P t (.slice a n c) none (Option.some (i64 j)) none w' = Option.some (.slice a j c, w')) ∧ (∀ w', sl P t (.slice a n c) (Option.some (i64 (j + 1 : Nat))) none none w' = Option.some (.slice a' (n - (j + 1)) c', w')) ∧
   (xs.take j = [] ∨ ∃ b o, a = some ⟨b, o, none⟩ ∧ (S b ∧ ¬ S1 b ∧ ¬ S2 b ∧ b < w.heap.size) ∧ At w b o (css.take j).flatten) ∧ (xs.drop (j + 1) = [] ∨ ∃ b o, a' = some ⟨b, o, none⟩ ∧ (S b ∧ ¬ S1 b ∧ ¬ S2 b ∧ b < w.heap.size) ∧ At w b o (css.drop (j + 1)).flatten) ∧
   (∀ b ∈ (Ax (.slice a n c)).toList, S b ∧ ¬ S1 b ∧ ¬ S2 b ∧ b < w.heap.size) ∧
   a = some ⟨b, o, none⟩ ∧ At w b (o + j * L.n) cx ∧ O L Sx w cx x ∧ (∀ b, Sx b → S b ∧ ¬ S1 b ∧ ¬ S2 b ∧ b < w.heap.size) := by
 obtain ⟨k, hkj⟩ : ∃ k, k = j + 1 := ⟨_, rfl⟩
 have hj : j ≤ k := by omega
 have hk : k ≤ n := by have := (List.getElem?_eq_some_iff.1 hx).1; have := h.n.1; omega
 rw [← hkj]
 have hc := h.clip.1
 have hn := h.n.1
 obtain ⟨css, h1, h2, h3, h4⟩ := h.un
 obtain ⟨S0, S2, e0, e2, d0, d2'⟩ := h2.cut k
 obtain ⟨S1, S3, e1, e3, d1', d3'⟩ := e0.cut j
 rw [List.take_take, List.take_take, Nat.min_eq_left hj] at e1
 have d1 : ∀ b, S1 b → (S b ∧ b ∉ (Ax (.slice a n c)).toList ∧ b < w.heap.size) ∧ ¬ S2 b ∧ b < w.heap.size := fun b hb => d0 b (d1' b hb).1
 have d2 : ∀ b, S2 b → (S b ∧ b ∉ (Ax (.slice a n c)).toList ∧ b < w.heap.size) ∧ ¬ S1 b ∧ b < w.heap.size := fun b hb => ⟨(d2' b hb).1, fun h => (d2' b hb).2.1 (d1' b h).1, (d2' b hb).2.2⟩
 obtain ⟨a', hsl, ha'⟩ := RI (P := P) hE a (len := n) (cap := c) (n := (k : Int)) (by omega) (by omega)
 obtain ⟨aO, cO, hs, _, hAt⟩ := h1.at
 simp only [Value.slice.injEq] at hs
 obtain ⟨rfl, _, rfl⟩ := hs
 have hlen := e1.lay
 have hlay := h2.lay
 have hlk := e0.lay
 have htk : (css.take k).flatten.length = k * L.n := by
  rw [Bh hlk.2, List.length_take]
  congr 1
  omega
 have hspl : css.flatten = (css.take k).flatten ++ (css.drop k).flatten := by rw [← List.flatten_append, List.take_append_drop]
 have hsplj : css.flatten = (css.take j).flatten ++ (css.drop j).flatten := by rw [← List.flatten_append, List.take_append_drop]
 have hjc : j < css.length := by rw [hlay.1]; exact (List.getElem?_eq_some_iff.1 hx).1
 obtain ⟨cx, hcx⟩ : ∃ cx, css[j]? = some cx := ⟨_, List.getElem?_eq_getElem hjc⟩
 have t1 : (css.take k).drop j = [cx] := by
  have h1 : (css.take k)[j]? = some cx := by rw [List.getElem?_take_of_lt (by omega)]; exact hcx
  obtain ⟨y, hy, hd⟩ := Am (l := css.take k) (k := j) (by rw [List.length_take]; omega)
  rw [hd]
  rw [h1] at hy
  cases hy
  rw [List.drop_of_length_le (by rw [List.length_take]; omega)]
 have t2 : (xs.take k).drop j = [x] := by
  have h1 : (xs.take k)[j]? = some x := by rw [List.getElem?_take_of_lt (by omega)]; exact hx
  obtain ⟨y, hy, hd⟩ := Am (l := xs.take k) (k := j) (by rw [List.length_take]; have := (List.getElem?_eq_some_iff.1 hx).1; omega)
  rw [hd]
  rw [h1] at hy
  cases hy
  rw [List.drop_of_length_le (by rw [List.length_take]; omega)]
 rw [t1, t2] at e3
 have hox : O L S3 w cx x := by
  obtain ⟨bss, q3, qn, qS⟩ := e3
  match bss, q3 with
  | [bs], q3 => exact ⟨bs, q3.1, by simpa using qn, fun b hb => qS b (by simpa using hb)⟩
 obtain ⟨bb, oo, ha0, hAt'⟩ : ∃ b o, a = some ⟨b, o, none⟩ ∧ At w b o css.flatten := by
  rcases hAt with hAt | ⟨b, o, h1, h2⟩
  ·exfalso
   have hl0 : css.flatten.length = xs.length * L.n := by rw [Bh hlay.2, hlay.1]
   rw [hAt] at hl0
   simp only [List.length_nil] at hl0
   have := Nat.mul_pos (show 0 < xs.length by have := (List.getElem?_eq_some_iff.1 hx).1; omega) h0
   omega
  ·exact ⟨b, o, h1, h2⟩
 have htj : (css.take j).flatten.length = j * L.n := by
  rw [Bh hlen.2, List.length_take]
  congr 1
  omega
 have hdj : css.drop j = cx :: css.drop (j + 1) := by
  obtain ⟨y, hy, hd⟩ := Am (l := css) (k := j) hjc
  rw [hcx] at hy
  cases hy
  exact hd
 have hAx : At w bb (oo + j * L.n) cx := by
  intro i v hv
  rw [Nat.add_assoc]
  refine hAt' (j * L.n + i) v ?_
  rw [hsplj, List.getElem?_append_right (by omega), htj, Nat.add_sub_cancel_left, hdj, List.flatten_cons, List.getElem?_append_left ((List.getElem?_eq_some_iff.1 hv).1)]
  exact hv
 have d3 : ∀ b, S3 b → S b ∧ ¬ S1 b ∧ ¬ S2 b ∧ b < w.heap.size := fun b hb => ⟨(d0 b (d3' b hb).1).1.1, (d3' b hb).2.1, (d0 b (d3' b hb).1).2.1, (d3' b hb).2.2⟩
 refine ⟨css, S1, S2, a', c - k, S3, cx, bb, oo, e1, e2, fun b hb => ?_, fun b hb => ?_, fun w' => ?_, fun w' => ?_, ?_, ?_, fun b hb => ?_, ha0, hAx, hox, d3⟩
 ·have := d1 b hb
  exact ⟨this.1.1, this.2.1, this.2.2⟩
 ·have := d2 b hb
  exact ⟨this.1.1, this.2.1, this.2.2⟩
 ·have := Sk (P := P) hE (a := a) (len := n) (cap := c) (n := (j : Int)) (by omega) (by omega) w'
  simpa using this
 ·simpa using hsl w'
 ·by_cases hk0 : xs.take j = []
  ·exact .inl hk0
  ·right
   rcases hAt with hAt | ⟨b, o, rfl, hAt⟩
   ·exfalso
    have hl0 : css.flatten.length = xs.length * L.n := by rw [Bh hlay.2, hlay.1]
    rw [hAt] at hl0
    simp only [List.length_nil] at hl0
    have h5 : xs.length = 0 := by
     rcases Nat.eq_zero_or_pos xs.length with h | h
     ·exact h
     ·have := Nat.mul_pos h h0; omega
    exact hk0 (by rw [List.eq_nil_of_length_eq_zero h5]; simp)
   ·have hb := h3 b (by simp [Ax])
    refine ⟨b, o, rfl, ⟨hb.1, fun h => (d1 b h).1.2.1 (by simp [Ax]), fun h => (d2 b h).1.2.1 (by simp [Ax]), hb.2⟩, fun i v hv => hAt i v ?_⟩
    rw [hsplj, List.getElem?_append_left ((List.getElem?_eq_some_iff.1 hv).1)]
    exact hv
 ·by_cases hk0 : xs.drop k = []
  ·exact .inl hk0
  ·right
   have hkn : k < xs.length := by
    rcases Nat.lt_or_ge k xs.length with h | h
    ·exact h
    ·exact absurd (List.drop_eq_nil_of_le h) hk0
   rcases hAt with hAt | ⟨b, o, rfl, hAt⟩
   ·exfalso
    have hl0 : css.flatten.length = xs.length * L.n := by rw [Bh hlay.2, hlay.1]
    rw [hAt] at hl0
    simp only [List.length_nil] at hl0
    have := Nat.mul_pos (show 0 < xs.length by omega) h0
    omega
   ·have hb := h3 b (by simp [Ax])
    refine ⟨b, o + k * L.n, ?_, ⟨hb.1, fun h => (d1 b h).1.2.1 (by simp [Ax]), fun h => (d2 b h).1.2.1 (by simp [Ax]), hb.2⟩, fun i v hv => ?_⟩
    ·have := ha' (by simp; omega) b o rfl
     simpa using this
    ·rw [Nat.add_assoc]
     refine hAt (k * L.n + i) v ?_
     rw [hspl, List.getElem?_append_right (by omega), htk, Nat.add_sub_cancel_left]
     exact hv
 ·have := h3 b hb
  exact ⟨this.1, fun h => (d1 b h).1.2.1 hb, fun h => (d2 b h).1.2.1 hb, this.2⟩
end
section
variable {E F N G A B C H : TypeId} {S : Nat → Prop} {w : World} {cs : List Value} {x : WorldD}
theorem O.B6 (h : O (CJ E F N G A B C H) S w cs x) : ∃ a n c a1 n1 c1 a2 n2 c2 a3 n3 c3, cs = [.slice a n c, .slice a1 n1 c1, .slice a2 n2 c2, .slice a3 n3 c3] := by
 obtain ⟨a, c, a1, c1, a2, c2, a3, c3, rfl, _⟩ := D.world.1 h.d
 exact ⟨a, _, c, a1, _, c1, a2, _, c2, a3, _, c3, rfl⟩
theorem O.F7 (h : O (CJ E F N G A B C H) S w cs x) {i : Nat} {p : PlaceD} (hp' : x.places[i]? = some p) :
  ∃ c a1 c1 a2 c2 a3 c3 g cur ds Sx, cs = [.slice (some ⟨g, 0, none⟩) x.places.length c, .slice a1 x.Az.length c1, .slice a2 x.net.length c2, .slice a3 x.AF.length c3] ∧ S g ∧ g < w.heap.size ∧ hp w g = some (.cells (Ba cur (i * 6) ds).toArray A (0, 0)) ∧ i * 6 + 6 ≤ cur.length ∧
   O (ES E F N G) Sx w ds p ∧ (∀ b, Sx b → S b ∧ b ≠ g ∧ b < w.heap.size) ∧
   ∀ (w' : World) (ds' : List Value) (p' : PlaceD) (S' : Nat → Prop), O (ES E F N G) S' w' ds' p' → hp w' g = some (.cells (Ba cur (i * 6) ds').toArray A (0, 0)) → (∀ b, b < w.heap.size → S b → b ≠ g → ¬ Sx b → hp w' b = hp w b) → (∀ b, b < w'.heap.size → S' b → Sx b ∨ ¬ (b < w.heap.size ∧ S b)) →
    O (CJ E F N G A B C H) (fun b => S b ∨ S' b) w' cs { x with places := x.places.set i p' } := by
 obtain ⟨a, c, a1, c1, a2, c2, a3, c3, S1, S2, S3, S4, rfl, P, hS⟩ := O.GN h
 have o1 := P.o1.wide (S' := fun b => S1 b ∧ b < w.heap.size) fun b h1 h2 => ⟨h1, h2⟩
 obtain ⟨g, cur, ds, Sx, rfl, hSg, hgl, hg, hle, hx1, hSx, put⟩ := o1.NY (by show 0 < 6; decide) hp'
 refine ⟨c, a1, c1, a2, c2, a3, c3, g, cur, ds, Sx, rfl, (hS g (.inl hSg.1)).1, hgl, hg, hle, hx1, fun b hb => ⟨(hS b (.inl (hSx b hb).1.1)).1, (hSx b hb).2.1, (hSx b hb).2.2⟩, ?_⟩
 intro w' ds' p' S' h1 h2 h3 h4
 have lt : ∀ b, S1 b ∨ S2 b ∨ S3 b ∨ S4 b → S b ∧ b < w.heap.size := hS
 have oW := put w' ds' p' (fun b => S' b ∧ b < w'.heap.size) (h1.wide fun b q1 q2 => ⟨q1, q2⟩) h2 (fun b hb hb1 hne hn => h3 b hb (hS b (.inl hb1.1)).1 hne hn) (fun b hb q => by
  rcases h4 b hb q.1 with q' | q'
  ·exact .inl q'
  ·exact .inr fun hh => q' ⟨hh.1, (hS b (.inl hh.2.1)).1⟩)
 have oth : ∀ b, (S2 b ∨ S3 b ∨ S4 b) → ¬ S1 b → hp w' b = hp w b := fun b hb n1 => h3 b (hS b (.inr hb)).2 (hS b (.inr hb)).1 (fun e => n1 (e ▸ hSg.1)) (fun hh => n1 (hSx b hh).1.1)
 have n12 : ∀ b, S2 b → ¬ S1 b := fun b h h' => P.d12 b (hS b (.inl h')).2 h' h
 have n13 : ∀ b, S3 b → ¬ S1 b := fun b h h' => P.d13 b (hS b (.inl h')).2 h' h
 have n14 : ∀ b, S4 b → ¬ S1 b := fun b h h' => P.d14 b (hS b (.inl h')).2 h' h
 have nw : ∀ b, (S2 b ∨ S3 b ∨ S4 b) → ¬ S1 b → ¬ ((S1 b ∧ b < w.heap.size) ∧ ¬ Sx b ∨ S' b ∧ b < w'.heap.size) := by
  rintro b hb n1 (q | q)
  ·exact n1 q.1.1
  ·rcases h4 b q.2 q.1 with q' | q'
   ·exact n1 (hSx b q').1.1
   ·exact q' ⟨(hS b (.inr hb)).2, (hS b (.inr hb)).1⟩
 have R : Parts E F N G A B C H w' { x with places := x.places.set i p' } (.slice (some ⟨g, 0, none⟩) x.places.length c) (.slice a1 x.Az.length c1) (.slice a2 x.net.length c2) (.slice a3 x.AF.length c3) (fun b => (S1 b ∧ b < w.heap.size) ∧ ¬ Sx b ∨ S' b ∧ b < w'.heap.size) S2 S3 S4 :=
  ⟨oW, P.o2.Ak fun b hb _ => oth b (.inl hb) (n12 b hb), P.o3.Ak fun b hb _ => oth b (.inr (.inl hb)) (n13 b hb), P.o4.Ak fun b hb _ => oth b (.inr (.inr hb)) (n14 b hb),
   fun b _ q q' => nw b (.inl q') (n12 b q') q, fun b _ q q' => nw b (.inr (.inl q')) (n13 b q') q, fun b _ q q' => nw b (.inr (.inr q')) (n14 b q') q,
   fun b _ q q' => P.d23 b (hS b (.inr (.inl q))).2 q q', fun b _ q q' => P.d24 b (hS b (.inr (.inl q))).2 q q', fun b _ q q' => P.d34 b (hS b (.inr (.inr (.inl q)))).2 q q'⟩
 refine R.mk'.wide fun b hb _ => ?_
 rcases hb with (q | q) | q
 ·exact .inl (hS b (.inl q.1.1)).1
 ·exact .inr q.1
 ·exact .inl (hS b (.inr q)).1
theorem O.EA (h : O (CJ E F N G A B C H) S w cs x) {i : Nat} {s : SessD} (hs : x.Az[i]? = some s) :
  ∃ a c c1 a2 c2 a3 c3 g cur ap cp Sx, cs = [.slice a x.places.length c, .slice (some ⟨g, 0, none⟩) x.Az.length c1, .slice a2 x.net.length c2, .slice a3 x.AF.length c3] ∧ S g ∧ g < w.heap.size ∧ hp w g = some (.cells (Ba cur (i * 5) [i64 s.place, .slice ap s.past.length cp, i64 s.wait.t, i64 s.wait.p, i64 s.key]).toArray B (0, 0)) ∧ i * 5 + 5 ≤ cur.length ∧
   O (Gc E) Sx w [.slice ap s.past.length cp] s.past ∧ (∀ b, Sx b → S b ∧ b ≠ g ∧ b < w.heap.size) ∧
   ∀ (w' : World) (ds' : List Value) (s' : SessD) (S' : Nat → Prop), O (HN E) S' w' ds' s' → hp w' g = some (.cells (Ba cur (i * 5) ds').toArray B (0, 0)) → (∀ b, b < w.heap.size → S b → b ≠ g → ¬ Sx b → hp w' b = hp w b) → (∀ b, b < w'.heap.size → S' b → Sx b ∨ ¬ (b < w.heap.size ∧ S b)) →
    O (CJ E F N G A B C H) (fun b => S b ∨ S' b) w' cs { x with Az := x.Az.set i s' } := by
 obtain ⟨a, c, a1, c1, a2, c2, a3, c3, S1, S2, S3, S4, rfl, P, hS⟩ := O.GN h
 have o2 := P.o2.wide (S' := fun b => S2 b ∧ b < w.heap.size) fun b h1 h2 => ⟨h1, h2⟩
 obtain ⟨g, cur, ds, Sx, rfl, hSg, hgl, hg, hle, hx1, hSx, put⟩ := o2.NY (by show 0 < 5; decide) hs
 obtain ⟨ap, cp, rfl, hx2⟩ := O.Az.1 hx1
 refine ⟨a, c, c1, a2, c2, a3, c3, g, cur, ap, cp, Sx, rfl, (hS g (.inr (.inl hSg.1))).1, hgl, hg, hle, hx2, fun b hb => ⟨(hS b (.inr (.inl (hSx b hb).1.1))).1, (hSx b hb).2.1, (hSx b hb).2.2⟩, ?_⟩
 intro w' ds' s' S' h1 h2 h3 h4
 have oW := put w' ds' s' (fun b => S' b ∧ b < w'.heap.size) (h1.wide fun b q1 q2 => ⟨q1, q2⟩) h2 (fun b hb hb1 hne hn => h3 b hb (hS b (.inr (.inl hb1.1))).1 hne hn) (fun b hb q => by
  rcases h4 b hb q.1 with q' | q'
  ·exact .inl q'
  ·exact .inr fun hh => q' ⟨hh.1, (hS b (.inr (.inl hh.2.1))).1⟩)
 have oth : ∀ b, (S1 b ∨ S3 b ∨ S4 b) → ¬ S2 b → hp w' b = hp w b := fun b hb n1 => by
  have q : S b ∧ b < w.heap.size := hS b (by rcases hb with q | q | q; exact .inl q; exact .inr (.inr (.inl q)); exact .inr (.inr (.inr q)))
  exact h3 b q.2 q.1 (fun e => n1 (e ▸ hSg.1)) (fun hh => n1 (hSx b hh).1.1)
 have n12 : ∀ b, S1 b → ¬ S2 b := fun b h h' => P.d12 b (hS b (.inl h)).2 h h'
 have n23 : ∀ b, S3 b → ¬ S2 b := fun b h h' => P.d23 b (hS b (.inr (.inl h'))).2 h' h
 have n24 : ∀ b, S4 b → ¬ S2 b := fun b h h' => P.d24 b (hS b (.inr (.inl h'))).2 h' h
 have nw : ∀ b, (S1 b ∨ S3 b ∨ S4 b) → ¬ S2 b → ¬ ((S2 b ∧ b < w.heap.size) ∧ ¬ Sx b ∨ S' b ∧ b < w'.heap.size) := by
  rintro b hb n1 (q | q)
  ·exact n1 q.1.1
  ·have q0 : S b ∧ b < w.heap.size := hS b (by rcases hb with q | q | q; exact .inl q; exact .inr (.inr (.inl q)); exact .inr (.inr (.inr q)))
   rcases h4 b q.2 q.1 with q' | q'
   ·exact n1 (hSx b q').1.1
   ·exact q' ⟨q0.2, q0.1⟩
 have R : Parts E F N G A B C H w' { x with Az := x.Az.set i s' } (.slice a x.places.length c) (.slice (some ⟨g, 0, none⟩) x.Az.length c1) (.slice a2 x.net.length c2) (.slice a3 x.AF.length c3) S1 (fun b => (S2 b ∧ b < w.heap.size) ∧ ¬ Sx b ∨ S' b ∧ b < w'.heap.size) S3 S4 :=
  ⟨P.o1.Ak fun b hb _ => oth b (.inl hb) (n12 b hb), oW, P.o3.Ak fun b hb _ => oth b (.inr (.inl hb)) (n23 b hb), P.o4.Ak fun b hb _ => oth b (.inr (.inr hb)) (n24 b hb),
   fun b _ q' q => nw b (.inl q') (n12 b q') q, fun b _ q q' => P.d13 b (hS b (.inl q)).2 q q', fun b _ q q' => P.d14 b (hS b (.inl q)).2 q q',
   fun b _ q q' => nw b (.inr (.inl q')) (n23 b q') q, fun b _ q q' => nw b (.inr (.inr q')) (n24 b q') q, fun b _ q q' => P.d34 b (hS b (.inr (.inr (.inl q)))).2 q q'⟩
 refine R.mk'.wide fun b hb _ => ?_
 rcases hb with q | (q | q) | q
 ·exact .inl (hS b (.inl q)).1
 ·exact .inl (hS b (.inr (.inl q.1.1))).1
 ·exact .inr q.1
 ·exact .inl (hS b (.inr (.inr q))).1
theorem Parts.EA {s u v : Value} {g n c1 : Nat} {S1 S2 S3 S4 : Nat → Prop} (P : Parts E F N G A B C H w x s (.slice (some ⟨g, 0, none⟩) n c1) u v S1 S2 S3 S4) (hl : ∀ b, (S1 b ∨ S2 b ∨ S3 b ∨ S4 b) → b < w.heap.size) {i : Nat} {sd : SessD} (hs : x.Az[i]? = some sd) :
  ∃ cur ap cp Sx, n = x.Az.length ∧ S2 g ∧ hp w g = some (.cells (Ba cur (i * 5) [i64 sd.place, .slice ap sd.past.length cp, i64 sd.wait.t, i64 sd.wait.p, i64 sd.key]).toArray B (0, 0)) ∧ i * 5 + 5 ≤ cur.length ∧
   O (Gc E) Sx w [.slice ap sd.past.length cp] sd.past ∧ (∀ b, Sx b → S2 b ∧ b ≠ g) ∧
   ∀ (w' : World) (ds' : List Value) (s' : SessD) (S' : Nat → Prop), O (HN E) S' w' ds' s' → hp w' g = some (.cells (Ba cur (i * 5) ds').toArray B (0, 0)) → (∀ b, (S1 b ∨ S2 b ∨ S3 b ∨ S4 b) → b ≠ g → ¬ Sx b → hp w' b = hp w b) → (∀ b, S' b → Sx b ∨ w.heap.size ≤ b) →
    Parts E F N G A B C H w' { x with Az := x.Az.set i s' } s (.slice (some ⟨g, 0, none⟩) n c1) u v S1 (fun b => S2 b ∨ S' b) S3 S4 := by
 obtain ⟨rfl, _⟩ := P.o2.n
 obtain ⟨g', cur, ds, Sx, hga, hSg, hgl, hg, hle, hx1, hSx, put⟩ := P.o2.NY (by show 0 < 5; decide) hs
 simp only [Option.some.injEq, Addr.mk.injEq, and_true] at hga
 subst hga
 obtain ⟨ap, cp, rfl, hx2⟩ := O.Az.1 hx1
 refine ⟨cur, ap, cp, Sx, rfl, hSg, hg, hle, hx2, fun b hb => ⟨(hSx b hb).1, (hSx b hb).2.1⟩, ?_⟩
 intro w' ds' s' S' h1 h2 h3 h4
 have oW := put w' ds' s' S' h1 h2 (fun b hb hb1 hne hn => h3 b (.inr (.inl hb1)) hne hn) (fun b _ q => by
  rcases h4 b q with q' | q'
  ·exact .inl q'
  ·exact .inr fun hh => by omega)
 have lt1 := fun b h => hl b (.inl h)
 have lt2 := fun b h => hl b (.inr (.inl h))
 have lt3 := fun b h => hl b (.inr (.inr (.inl h)))
 have lt4 := fun b h => hl b (.inr (.inr (.inr h)))
 have n12 : ∀ b, S1 b → ¬ S2 b := fun b h h' => P.d12 b (lt1 b h) h h'
 have n23 : ∀ b, S3 b → ¬ S2 b := fun b h h' => P.d23 b (lt3 b h) h' h
 have n24 : ∀ b, S4 b → ¬ S2 b := fun b h h' => P.d24 b (lt4 b h) h' h
 have nS : ∀ b, (S1 b ∨ S3 b ∨ S4 b) → ¬ S2 b → ¬ (S2 b ∨ S' b) := by
  rintro b hb h2 (h | h)
  ·exact h2 h
  ·rcases h4 b h with h | h
   ·exact h2 (hSx b h).1
   ·have : b < w.heap.size := hl b (by rcases hb with q | q | q; exact .inl q; exact .inr (.inr (.inl q)); exact .inr (.inr (.inr q)))
    omega
 exact ⟨P.o1.Ak fun b hb _ => h3 b (.inl hb) (fun e => n12 b hb (e ▸ hSg)) (fun h => n12 b hb (hSx b h).1), oW.wide fun b h _ => by rcases h with h | h; exact .inl h.1; exact .inr h,
  P.o3.Ak fun b hb _ => h3 b (.inr (.inr (.inl hb))) (fun e => n23 b hb (e ▸ hSg)) (fun h => n23 b hb (hSx b h).1), P.o4.Ak fun b hb _ => h3 b (.inr (.inr (.inr hb))) (fun e => n24 b hb (e ▸ hSg)) (fun h => n24 b hb (hSx b h).1),
  fun b _ q q' => nS b (.inl q) (n12 b q) q', fun b _ q q' => P.d13 b (lt1 b q) q q', fun b _ q q' => P.d14 b (lt1 b q) q q',
  fun b _ q q' => nS b (.inr (.inl q')) (n23 b q') q, fun b _ q q' => nS b (.inr (.inr q')) (n24 b q') q, fun b _ q q' => P.d34 b (lt3 b q) q q'⟩
theorem Parts.Ak {s t u v : Value} {S1 S2 S3 S4 : Nat → Prop} {w' : World} (P : Parts E F N G A B C H w x s t u v S1 S2 S3 S4) (hl : ∀ b, (S1 b ∨ S2 b ∨ S3 b ∨ S4 b) → b < w.heap.size) (k : ∀ b, (S1 b ∨ S2 b ∨ S3 b ∨ S4 b) → hp w' b = hp w b) : Parts E F N G A B C H w' x s t u v S1 S2 S3 S4 :=
 ⟨P.o1.Ak fun b hb _ => k b (.inl hb), P.o2.Ak fun b hb _ => k b (.inr (.inl hb)), P.o3.Ak fun b hb _ => k b (.inr (.inr (.inl hb))), P.o4.Ak fun b hb _ => k b (.inr (.inr (.inr hb))),
  fun b _ q q' => P.d12 b (hl b (.inl q)) q q', fun b _ q q' => P.d13 b (hl b (.inl q)) q q', fun b _ q q' => P.d14 b (hl b (.inl q)) q q', fun b _ q q' => P.d23 b (hl b (.inr (.inl q))) q q', fun b _ q q' => P.d24 b (hl b (.inr (.inl q))) q q', fun b _ q q' => P.d34 b (hl b (.inr (.inr (.inl q)))) q q'⟩
theorem Parts.RY {s t u v v' : Value} {S1 S2 S3 S4 S' : Nat → Prop} {l : List Done} {w' : World} (P : Parts E F N G A B C H w x s t u v S1 S2 S3 S4) (hl : ∀ b, (S1 b ∨ S2 b ∨ S3 b ∨ S4 b) → b < w.heap.size) (h1 : O (Ih H) S' w' [v'] l)
  (h3 : ∀ b, (S1 b ∨ S2 b ∨ S3 b) → ¬ S4 b → hp w' b = hp w b) (h4 : ∀ b, S' b → S4 b ∨ w.heap.size ≤ b) : Parts E F N G A B C H w' { x with AF := l } s t u v' S1 S2 S3 S' := by
 have lt1 := fun b h => hl b (.inl h)
 have lt2 := fun b h => hl b (.inr (.inl h))
 have lt3 := fun b h => hl b (.inr (.inr (.inl h)))
 have n14 : ∀ b, S1 b → ¬ S4 b := fun b h h' => P.d14 b (lt1 b h) h h'
 have n24 : ∀ b, S2 b → ¬ S4 b := fun b h h' => P.d24 b (lt2 b h) h h'
 have n34 : ∀ b, S3 b → ¬ S4 b := fun b h h' => P.d34 b (lt3 b h) h h'
 have nS : ∀ b, b < w.heap.size → ¬ S4 b → ¬ S' b := by
  intro b hb h h'
  rcases h4 b h' with h'' | h''
  ·exact h h''
  ·omega
 exact ⟨P.o1.Ak fun b hb _ => h3 b (.inl hb) (n14 b hb), P.o2.Ak fun b hb _ => h3 b (.inr (.inl hb)) (n24 b hb), P.o3.Ak fun b hb _ => h3 b (.inr (.inr hb)) (n34 b hb), h1,
  fun b _ q q' => P.d12 b (lt1 b q) q q', fun b _ q q' => P.d13 b (lt1 b q) q q', fun b _ q => nS b (lt1 b q) (n14 b q), fun b _ q q' => P.d23 b (lt2 b q) q q', fun b _ q => nS b (lt2 b q) (n24 b q), fun b _ q => nS b (lt3 b q) (n34 b q)⟩
theorem O.SW (h : O (CJ E F N G A B C H) S w cs x) :
  ∃ a c a1 c1 a2 c2 a3 c3 S3, cs = [.slice a x.places.length c, .slice a1 x.Az.length c1, .slice a2 x.net.length c2, .slice a3 x.AF.length c3] ∧ O (Ez E C) S3 w [.slice a2 x.net.length c2] x.net ∧ (∀ b, S3 b → S b ∧ b < w.heap.size) ∧
   ∀ (w' : World) (u : Value) (l : List FrameD) (S' : Nat → Prop), O (Ez E C) S' w' [u] l → (∀ b, b < w.heap.size → S b → ¬ S3 b → hp w' b = hp w b) → (∀ b, b < w'.heap.size → S' b → S3 b ∨ ¬ (b < w.heap.size ∧ S b)) →
    O (CJ E F N G A B C H) (fun b => S b ∨ S' b) w' [.slice a x.places.length c, .slice a1 x.Az.length c1, u, .slice a3 x.AF.length c3] { x with net := l } := by
 obtain ⟨a, c, a1, c1, a2, c2, a3, c3, S1, S2, S3, S4, rfl, P, hS⟩ := O.GN h
 refine ⟨a, c, a1, c1, a2, c2, a3, c3, S3, rfl, P.o3, fun b hb => hS b (.inr (.inr (.inl hb))), ?_⟩
 intro w' u l S' h1 h3 h4
 have n13 : ∀ b, S1 b → ¬ S3 b := fun b h h' => P.d13 b (hS b (.inl h)).2 h h'
 have n23 : ∀ b, S2 b → ¬ S3 b := fun b h h' => P.d23 b (hS b (.inr (.inl h))).2 h h'
 have n34 : ∀ b, S4 b → ¬ S3 b := fun b h h' => P.d34 b (hS b (.inr (.inr (.inl h')))).2 h' h
 have nw : ∀ b, b < w'.heap.size → (S1 b ∨ S2 b ∨ S4 b) → ¬ S3 b → ¬ S' b := by
  rintro b hb' hb n1 q
  have q0 : S b ∧ b < w.heap.size := hS b (by rcases hb with q | q | q; exact .inl q; exact .inr (.inl q); exact .inr (.inr (.inr q)))
  rcases h4 b hb' q with q' | q'
  ·exact n1 q'
  ·exact q' ⟨q0.2, q0.1⟩
 have R : Parts E F N G A B C H w' { x with net := l } (.slice a x.places.length c) (.slice a1 x.Az.length c1) u (.slice a3 x.AF.length c3) S1 S2 S' S4 :=
  ⟨P.o1.Ak fun b hb hl => h3 b hl (hS b (.inl hb)).1 (n13 b hb), P.o2.Ak fun b hb hl => h3 b hl (hS b (.inr (.inl hb))).1 (n23 b hb), h1, P.o4.Ak fun b hb hl => h3 b hl (hS b (.inr (.inr (.inr hb)))).1 (n34 b hb),
   fun b _ q q' => P.d12 b (hS b (.inl q)).2 q q', fun b hl q q' => nw b hl (.inl q) (n13 b q) q', fun b _ q q' => P.d14 b (hS b (.inl q)).2 q q',
   fun b hl q q' => nw b hl (.inr (.inl q)) (n23 b q) q', fun b _ q q' => P.d24 b (hS b (.inr (.inl q))).2 q q', fun b hl q q' => nw b hl (.inr (.inr q')) (n34 b q') q⟩
 refine R.mk'.wide fun b hb _ => ?_
 rcases hb with q | q | q | q
 ·exact .inl (hS b (.inl q)).1
 ·exact .inl (hS b (.inr (.inl q))).1
 ·exact .inr q
 ·exact .inl (hS b (.inr (.inr (.inr q)))).1
theorem O.RZ (h : O (CJ E F N G A B C H) S w cs x) :
  ∃ a c a1 c1 a2 c2 a3 c3 S3, cs = [.slice a x.places.length c, .slice a1 x.Az.length c1, .slice a2 x.net.length c2, .slice a3 x.AF.length c3] ∧ O (Ih H) S3 w [.slice a3 x.AF.length c3] x.AF ∧ (∀ b, S3 b → S b ∧ b < w.heap.size) ∧
   ∀ (w' : World) (u : Value) (l : List Done) (S' : Nat → Prop), O (Ih H) S' w' [u] l → (∀ b, b < w.heap.size → S b → ¬ S3 b → hp w' b = hp w b) → (∀ b, b < w'.heap.size → S' b → S3 b ∨ ¬ (b < w.heap.size ∧ S b)) →
    O (CJ E F N G A B C H) (fun b => S b ∨ S' b) w' [.slice a x.places.length c, .slice a1 x.Az.length c1, .slice a2 x.net.length c2, u] { x with AF := l } := by
 obtain ⟨a, c, a1, c1, a2, c2, a3, c3, S1, S2, S3, S4, rfl, P, hS⟩ := O.GN h
 refine ⟨a, c, a1, c1, a2, c2, a3, c3, S4, rfl, P.o4, fun b hb => hS b (.inr (.inr (.inr hb))), ?_⟩
 intro w' u l S' h1 h3 h4
 have n14 : ∀ b, S1 b → ¬ S4 b := fun b h h' => P.d14 b (hS b (.inl h)).2 h h'
 have n24 : ∀ b, S2 b → ¬ S4 b := fun b h h' => P.d24 b (hS b (.inr (.inl h))).2 h h'
 have n34 : ∀ b, S3 b → ¬ S4 b := fun b h h' => P.d34 b (hS b (.inr (.inr (.inl h)))).2 h h'
 have nw : ∀ b, b < w'.heap.size → (S1 b ∨ S2 b ∨ S3 b) → ¬ S4 b → ¬ S' b := by
  rintro b hb' hb n1 q
  have q0 : S b ∧ b < w.heap.size := hS b (by rcases hb with q | q | q; exact .inl q; exact .inr (.inl q); exact .inr (.inr (.inl q)))
  rcases h4 b hb' q with q' | q'
  ·exact n1 q'
  ·exact q' ⟨q0.2, q0.1⟩
 have R : Parts E F N G A B C H w' { x with AF := l } (.slice a x.places.length c) (.slice a1 x.Az.length c1) (.slice a2 x.net.length c2) u S1 S2 S3 S' :=
  ⟨P.o1.Ak fun b hb hl => h3 b hl (hS b (.inl hb)).1 (n14 b hb), P.o2.Ak fun b hb hl => h3 b hl (hS b (.inr (.inl hb))).1 (n24 b hb), P.o3.Ak fun b hb hl => h3 b hl (hS b (.inr (.inr (.inl hb)))).1 (n34 b hb), h1,
   fun b _ q q' => P.d12 b (hS b (.inl q)).2 q q', fun b _ q q' => P.d13 b (hS b (.inl q)).2 q q', fun b hl q q' => nw b hl (.inl q) (n14 b q) q',
   fun b _ q q' => P.d23 b (hS b (.inr (.inl q))).2 q q', fun b hl q q' => nw b hl (.inr (.inl q)) (n24 b q) q', fun b hl q q' => nw b hl (.inr (.inr q)) (n34 b q) q'⟩
 refine R.mk'.wide fun b hb _ => ?_
 rcases hb with q | q | q | q
 ·exact .inl (hS b (.inl q)).1
 ·exact .inl (hS b (.inr (.inl q))).1
 ·exact .inl (hS b (.inr (.inr (.inl q)))).1
 ·exact .inr q
end
structure EventD where
 kind : Int
 at' : Int
 num : Int
 key : Int
 text : ByteArray
 gone : Bool
def Gg : Lay EventD := LV (BD GC (BD GC (BD GC (BD GC (BD So LBool))))) fun e => (e.kind, e.at', e.num, e.key, e.text, e.gone)
abbrev R6 (E : TypeId) : Lay (List EventD) := AQ E 2513169434916 Gg
abbrev Nw (e : EventD) : List Value := [i64 e.kind, i64 e.at', i64 e.num, i64 e.key, .string e.text, .bool e.gone]
theorem QL : Gg.n = 6 := rfl
theorem O7 : Gg.Flat := OY (Db ER (Db ER (Db ER (Db ER (Db RF Qv)))))
section
variable {S : Nat → Prop} {w : World} {cs : List Value} {x : EventD}
theorem D.event : D Gg S w cs x ↔ cs = Nw x ∧ x.text.size ≤ 140737488351232 := by
 unfold Gg
 rw [D.map]
 simp only [D.pair, D.int, D.str, D.bool]
 constructor
 ·rintro ⟨c1, d1, rfl, rfl, c2, d2, rfl, rfl, c3, d3, rfl, rfl, c4, d4, rfl, rfl, c5, d5, rfl, ⟨rfl, h⟩, rfl⟩
  exact ⟨rfl, h⟩
 ·rintro ⟨rfl, h⟩
  exact ⟨[_], _, rfl, rfl, [_], _, rfl, rfl, [_], _, rfl, rfl, [_], _, rfl, rfl, [_], _, rfl, ⟨rfl, h⟩, rfl⟩
theorem O.event (h : x.text.size ≤ 140737488351232) : O Gg S w (Nw x) x := by
 obtain ⟨bs, h1, _⟩ := (D.event (S := S) (w := w)).2 ⟨rfl, h⟩
 obtain ⟨rfl, h2⟩ := O7 _ _ _ _ _ h1
 exact ⟨[], h2 true w, by simp, by simp⟩
end
end Go.Ev
