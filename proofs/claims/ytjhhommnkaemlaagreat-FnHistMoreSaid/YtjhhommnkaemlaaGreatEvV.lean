/- A part of the proof, without conditions. -/
import Derived.Test.YtjhhommnkaemlaaGreatEvW
set_option linter.unusedVariables false
set_option linter.unusedSimpArgs false
set_option linter.deprecated false
namespace Go.Ev
open Go Go.RowKit
section
variable {P : Program}
theorem RJ {t e : TypeId} {z : Nat × Nat} (h : EZ P t = Option.some (e, z)) (a : Option Addr) {len cap : Nat} {n : Int} (h0 : 0 ≤ n) (h1 : n ≤ len) :
  ∃ a', (∀ w, sl P t (.slice a len cap) (Option.some (i64 n)) none none w = Option.some (.slice a' (len - n.toNat) (cap - n.toNat), w)) ∧ (n.toNat ≠ cap → ∀ b o, a = some ⟨b, o, none⟩ → a' = some ⟨b, o + n.toNat * z.1, none⟩) := by
 obtain ⟨hu, hs⟩ := IX h
 by_cases hc : n.toNat = cap
 ·refine ⟨a, fun w => ?_, fun h => absurd hc h⟩
  simp only [sl, run_sliceAt_slice w t _ _ _ _ hu, run_slice_l w t _ len cap hu .i64 n h0 h1, Bj hs, Result.andThen_ok, sliced, ro]
  simp [hc]
 ·refine ⟨a.map (fun x => x.add (n.toNat * z.1)), fun w => ?_, fun _ b o ha => by subst ha; simp [add_lit]⟩
  simp only [sl, run_sliceAt_slice w t _ _ _ _ hu, run_slice_l w t _ len cap hu .i64 n h0 h1, Bj hs, Result.andThen_ok, sliced, ro]
  cases a <;> simp [Ne.symm hc]
variable {α : Type} {L : Lay α} {S S1 : Nat → Prop} {w : World} {E mx : Nat}
theorem O.OY {t ty y : Nat} (hE : EZ P t = some (E, L.n, y)) {z : List Value} (hz : Cg P E = some z) (hzs : z.length = L.n) (h0 : 0 < L.n) {a0 : Option Addr} {n0 c0 : Nat} {xs ys : List α} {css : List (List Value)} {a : Option Addr} {m c : Nat}
  (ho : O (AP E mx L) S w [.slice a0 n0 c0] xs) (hx : FP L S1 w css ys) (hd : ∀ b, b < w.heap.size → S b → ¬ S1 b) (hA : ys = [] ∨ ∃ b o, a = some ⟨b, o, none⟩ ∧ At w b o css.flatten) (hm : m = ys.length) (hl : xs.length + m ≤ mx) (hy : mx * y ≤ 140737488355328) (hm2 : mx ≤ 140737488355328) :
  Ae (Au P #[t, t] ty #[.slice a0 n0 c0, .slice a m c] w) fun r => ∃ a' c', r.1 = .slice a' (xs.length + m) c' ∧
   O (AP E mx L) (fun b => S b ∨ S1 b ∨ (w.heap.size ≤ b ∧ b < r.2.heap.size)) r.2 [.slice a' (xs.length + m) c'] (xs ++ ys) ∧ Mod S w r.2 := by
 by_cases h : m = 0
 ·subst h
  obtain rfl : ys = [] := List.eq_nil_of_length_eq_zero hm.symm
  have hn := ho.n
  rw [Ge (P := P) hE a0 a n0 c0 c ho.clip.1 w]
  refine ⟨_, rfl, a0, c0, by simp only; rw [hn.1]; rfl, ?_, Mod.rfl⟩
  have he : xs.length + 0 = n0 := by omega
  rw [he, List.append_nil]
  exact ho.wide fun b h _ => .inl h
 ·rcases hA with rfl | ⟨b, o, rfl, hA⟩
  ·exact absurd hm h
  ·refine Ae.mono (O.apps hE hz hzs h0 ho hx hd hA hm (by omega) hl hy hm2) ?_
   rintro ⟨s, w1⟩ ⟨a', c', h3, h4, h5⟩
   dsimp only at h3 h4 h5
   subst h3
   exact ⟨a', c', rfl, h4, h5⟩
theorem O.parts {t y : Nat} (h0 : 0 < L.n) (hE : EZ P t = some (E, L.n, y)) {a : Option Addr} {n c : Nat} {xs : List α} (h : O (AP E mx L) S w [.slice a n c] xs) {k : Nat} (hk : k ≤ n) :
  ∃ (css : List (List Value)) (S1 S2 : Nat → Prop) (a' : Option Addr) (c' : Nat), FP L S1 w (css.take k) (xs.take k) ∧ FP L S2 w (css.drop k) (xs.drop k) ∧ (∀ b, S1 b → S b ∧ ¬ S2 b ∧ b < w.heap.size) ∧ (∀ b, S2 b → S b ∧ ¬ S1 b ∧ b < w.heap.size) ∧
   (∀ w', sl P t (.slice a n c) none (Option.some (i64 k)) none w' = Option.some (.slice a k c, w')) ∧ (∀ w', sl P t (.slice a n c) (Option.some (i64 k)) none none w' = Option.some (.slice a' (n - k) c', w')) ∧
   (xs.take k = [] ∨ ∃ b o, a = some ⟨b, o, none⟩ ∧ (S b ∧ ¬ S1 b ∧ ¬ S2 b ∧ b < w.heap.size) ∧ At w b o (css.take k).flatten) ∧ (xs.drop k = [] ∨ ∃ b o, a' = some ⟨b, o, none⟩ ∧ (S b ∧ ¬ S1 b ∧ ¬ S2 b ∧ b < w.heap.size) ∧ At w b o (css.drop k).flatten) ∧
   (∀ b ∈ (Av (.slice a n c)).toList, S b ∧ ¬ S1 b ∧ ¬ S2 b ∧ b < w.heap.size) := by
 have hc := h.clip.1
 have hn := h.n.1
 obtain ⟨css, h1, h2, h3, h4⟩ := h.un
 obtain ⟨S1, S2, e1, e2, d1, d2⟩ := h2.cut k
 obtain ⟨a', hsl, ha'⟩ := RJ (P := P) hE a (len := n) (cap := c) (n := (k : Int)) (by omega) (by omega)
 obtain ⟨aO, cO, hs, _, hAt⟩ := h1.at
 simp only [Value.slice.injEq] at hs
 obtain ⟨rfl, _, rfl⟩ := hs
 have hlen := e1.lay
 have hlay := h2.lay
 have htk : (css.take k).flatten.length = k * L.n := by
  rw [Bi hlen.2, List.length_take]
  congr 1
  omega
 have hspl : css.flatten = (css.take k).flatten ++ (css.drop k).flatten := by rw [← List.flatten_append, List.take_append_drop]
 refine ⟨css, S1, S2, a', c - k, e1, e2, fun b hb => ?_, fun b hb => ?_, fun w' => ?_, fun w' => ?_, ?_, ?_, fun b hb => ?_⟩
 ·have := d1 b hb
  exact ⟨this.1.1, this.2.1, this.2.2⟩
 ·have := d2 b hb
  exact ⟨this.1.1, this.2.1, this.2.2⟩
 ·have := PO (P := P) hE (a := a) (len := n) (cap := c) (n := (k : Int)) (by omega) (by omega) w'
  simpa using this
 ·simpa using hsl w'
 ·by_cases hk0 : xs.take k = []
  ·exact .inl hk0
  ·right
   rcases hAt with hAt | ⟨b, o, rfl, hAt⟩
   ·exfalso
    have hl0 : css.flatten.length = xs.length * L.n := by rw [Bi hlay.2, hlay.1]
    rw [hAt] at hl0
    simp only [List.length_nil] at hl0
    have h5 : xs.length = 0 := by
     rcases Nat.eq_zero_or_pos xs.length with h | h
     ·exact h
     ·have := Nat.mul_pos h h0; omega
    exact hk0 (by rw [List.eq_nil_of_length_eq_zero h5]; simp)
   ·have hb := h3 b (by simp [Av])
    refine ⟨b, o, rfl, ⟨hb.1, fun h => (d1 b h).1.2.1 (by simp [Av]), fun h => (d2 b h).1.2.1 (by simp [Av]), hb.2⟩, fun j v hv => hAt j v ?_⟩
    rw [hspl, List.getElem?_append_left ((List.getElem?_eq_some_iff.1 hv).1)]
    exact hv
 ·by_cases hk0 : xs.drop k = []
  ·exact .inl hk0
  ·right
   have hkn : k < xs.length := by
    rcases Nat.lt_or_ge k xs.length with h | h
    ·exact h
    ·exact absurd (List.drop_eq_nil_of_le h) hk0
   rcases hAt with hAt | ⟨b, o, rfl, hAt⟩
   ·exfalso
    have hl0 : css.flatten.length = xs.length * L.n := by rw [Bi hlay.2, hlay.1]
    rw [hAt] at hl0
    simp only [List.length_nil] at hl0
    have := Nat.mul_pos (show 0 < xs.length by omega) h0
    omega
   ·have hb := h3 b (by simp [Av])
    refine ⟨b, o + k * L.n, ?_, ⟨hb.1, fun h => (d1 b h).1.2.1 (by simp [Av]), fun h => (d2 b h).1.2.1 (by simp [Av]), hb.2⟩, fun j v hv => ?_⟩
    ·have := ha' (by simp; omega) b o rfl
     simpa using this
    ·rw [Nat.add_assoc]
     refine hAt (k * L.n + j) v ?_
     rw [hspl, List.getElem?_append_right (by omega), htk, Nat.add_sub_cancel_left]
     exact hv
 ·have := h3 b hb
  exact ⟨this.1, fun h => (d1 b h).1.2.1 hb, fun h => (d2 b h).1.2.1 hb, this.2⟩
theorem O.RK {t y : Nat} (h0 : 0 < L.n) (hE : EZ P t = some (E, L.n, y)) {a : Option Addr} {n c : Nat} {xs : List α} (h : O (AP E mx L) S w [.slice a n c] xs) {j k : Nat} (hj : j ≤ k) (hk : k ≤ n) :
  ∃ (css : List (List Value)) (S1 S2 : Nat → Prop) (a' : Option Addr) (c' : Nat), FP L S1 w (css.take j) (xs.take j) ∧ FP L S2 w (css.drop k) (xs.drop k) ∧ (∀ b, S1 b → S b ∧ ¬ S2 b ∧ b < w.heap.size) ∧ (∀ b, S2 b → S b ∧ ¬ S1 b ∧ b < w.heap.size) ∧
   (∀ w', sl P t (.slice a n c) none (Option.some (i64 j)) none w' = Option.some (.slice a j c, w')) ∧ (∀ w', sl P t (.slice a n c) (Option.some (i64 k)) none none w' = Option.some (.slice a' (n - k) c', w')) ∧
   (xs.take j = [] ∨ ∃ b o, a = some ⟨b, o, none⟩ ∧ (S b ∧ ¬ S1 b ∧ ¬ S2 b ∧ b < w.heap.size) ∧ At w b o (css.take j).flatten) ∧ (xs.drop k = [] ∨ ∃ b o, a' = some ⟨b, o, none⟩ ∧ (S b ∧ ¬ S1 b ∧ ¬ S2 b ∧ b < w.heap.size) ∧ At w b o (css.drop k).flatten) ∧
   (∀ b ∈ (Av (.slice a n c)).toList, S b ∧ ¬ S1 b ∧ ¬ S2 b ∧ b < w.heap.size) := by
 have hc := h.clip.1
 have hn := h.n.1
 obtain ⟨css, h1, h2, h3, h4⟩ := h.un
 obtain ⟨S0, S2, e0, e2, d0, d2'⟩ := h2.cut k
 obtain ⟨S1, S3, e1, _, d1', _⟩ := e0.cut j
 rw [List.take_take, List.take_take, Nat.min_eq_left hj] at e1
 have d1 : ∀ b, S1 b → (S b ∧ b ∉ (Av (.slice a n c)).toList ∧ b < w.heap.size) ∧ ¬ S2 b ∧ b < w.heap.size := fun b hb => d0 b (d1' b hb).1
 have d2 : ∀ b, S2 b → (S b ∧ b ∉ (Av (.slice a n c)).toList ∧ b < w.heap.size) ∧ ¬ S1 b ∧ b < w.heap.size := fun b hb => ⟨(d2' b hb).1, fun h => (d2' b hb).2.1 (d1' b h).1, (d2' b hb).2.2⟩
 obtain ⟨a', hsl, ha'⟩ := RJ (P := P) hE a (len := n) (cap := c) (n := (k : Int)) (by omega) (by omega)
 obtain ⟨aO, cO, hs, _, hAt⟩ := h1.at
 simp only [Value.slice.injEq] at hs
 obtain ⟨rfl, _, rfl⟩ := hs
 have hlen := e1.lay
 have hlay := h2.lay
 have hlk := e0.lay
 have htk : (css.take k).flatten.length = k * L.n := by
  rw [Bi hlk.2, List.length_take]
  congr 1
  omega
 have hspl : css.flatten = (css.take k).flatten ++ (css.drop k).flatten := by rw [← List.flatten_append, List.take_append_drop]
 have hsplj : css.flatten = (css.take j).flatten ++ (css.drop j).flatten := by rw [← List.flatten_append, List.take_append_drop]
 refine ⟨css, S1, S2, a', c - k, e1, e2, fun b hb => ?_, fun b hb => ?_, fun w' => ?_, fun w' => ?_, ?_, ?_, fun b hb => ?_⟩
 ·have := d1 b hb
  exact ⟨this.1.1, this.2.1, this.2.2⟩
 ·have := d2 b hb
  exact ⟨this.1.1, this.2.1, this.2.2⟩
 ·have := PO (P := P) hE (a := a) (len := n) (cap := c) (n := (j : Int)) (by omega) (by omega) w'
  simpa using this
 ·simpa using hsl w'
 ·by_cases hk0 : xs.take j = []
  ·exact .inl hk0
  ·right
   rcases hAt with hAt | ⟨b, o, rfl, hAt⟩
   ·exfalso
    have hl0 : css.flatten.length = xs.length * L.n := by rw [Bi hlay.2, hlay.1]
    rw [hAt] at hl0
    simp only [List.length_nil] at hl0
    have h5 : xs.length = 0 := by
     rcases Nat.eq_zero_or_pos xs.length with h | h
     ·exact h
     ·have := Nat.mul_pos h h0; omega
    exact hk0 (by rw [List.eq_nil_of_length_eq_zero h5]; simp)
   ·have hb := h3 b (by simp [Av])
    refine ⟨b, o, rfl, ⟨hb.1, fun h => (d1 b h).1.2.1 (by simp [Av]), fun h => (d2 b h).1.2.1 (by simp [Av]), hb.2⟩, fun i v hv => hAt i v ?_⟩
    rw [hsplj, List.getElem?_append_left ((List.getElem?_eq_some_iff.1 hv).1)]
    exact hv
 ·by_cases hk0 : xs.drop k = []
  ·exact .inl hk0
  ·right
   have hkn : k < xs.length := by
    rcases Nat.lt_or_ge k xs.length with h | h
    ·exact h
    ·exact absurd (List.drop_eq_nil_of_le h) hk0
   rcases hAt with hAt | ⟨b, o, rfl, hAt⟩
   ·exfalso
    have hl0 : css.flatten.length = xs.length * L.n := by rw [Bi hlay.2, hlay.1]
    rw [hAt] at hl0
    simp only [List.length_nil] at hl0
    have := Nat.mul_pos (show 0 < xs.length by omega) h0
    omega
   ·have hb := h3 b (by simp [Av])
    refine ⟨b, o + k * L.n, ?_, ⟨hb.1, fun h => (d1 b h).1.2.1 (by simp [Av]), fun h => (d2 b h).1.2.1 (by simp [Av]), hb.2⟩, fun i v hv => ?_⟩
    ·have := ha' (by simp; omega) b o rfl
     simpa using this
    ·rw [Nat.add_assoc]
     refine hAt (k * L.n + i) v ?_
     rw [hspl, List.getElem?_append_right (by omega), htk, Nat.add_sub_cancel_left]
     exact hv
 ·have := h3 b hb
  exact ⟨this.1, fun h => (d1 b h).1.2.1 hb, fun h => (d2 b h).1.2.1 hb, this.2⟩
theorem D.T9 {s : Value} {css : List (List Value)} {xs : List α} (h1 : Sl w s xs.length css.flatten) (h2 : BU (D L S w) css xs) (hb : ∀ b ∈ (Av s).toList, S b ∧ b < w.heap.size) (h3 : xs.length ≤ mx) : D (AP E mx L) S w [s] xs := by
 obtain ⟨bss, h6⟩ := Bc.Ye (Q := D L S w) (R := fun cs x bs => L.lay false w cs x bs ∧ ∀ b ∈ bs, S b) (fun a b h => h) h2
 have hr : ∀ b ∈ DA s xs, b ∈ (Av s).toList := by
  intro b hb
  cases xs with
  | nil => simp [DA] at hb
  | cons x xs => simpa [DA] using hb
 refine ⟨_, ⟨s, css, bss, rfl, h6.imp fun _ _ _ _ _ _ h => h.1, h3, h1, fun b h => (hb b (hr b h)).2, rfl⟩, fun b h => ?_⟩
 rcases List.mem_append.1 h with h | h
 ·exact (hb b (hr b h)).1
 ·obtain ⟨l, hl, h⟩ := List.mem_flatten.1 h
  obtain ⟨_, _, _, _, q⟩ := h6.PT l hl
  exact q.2 b h
theorem D.take {a : Option Addr} {n c k : Nat} {xs : List α} (h : D (AP E mx L) S w [.slice a n c] xs) (hk : k ≤ n) : D (AP E mx L) S w [.slice a k c] (xs.take k) := by
 have hn := h.n
 obtain ⟨bs, ⟨s', css, bss, he, h3, hm, ⟨⟨a', c', e1, hn9, h1⟩, hlt, rfl⟩⟩, hS⟩ := h
 obtain rfl : .slice a n c = s' := by simpa using he
 simp only [Value.slice.injEq] at e1
 obtain ⟨rfl, _, rfl⟩ := e1
 have hl : (xs.take k).length = k := by rw [List.length_take]; omega
 have hbr : ∀ z ∈ DA (.slice a k c) (xs.take k), z ∈ DA (.slice a n c) xs := by
  intro z hz
  cases xs with
  | nil => simp [DA] at hz
  | cons y ys =>
   cases k with
   | zero => simp [DA] at hz
   | succ k =>
    cases a with
    | none => simp [DA, Av] at hz
    | some _ => simpa [DA, Av] using hz
 have hfl : ∀ z ∈ (bss.take k).flatten, z ∈ bss.flatten := by
  intro z hz
  obtain ⟨l, hl, hz⟩ := List.mem_flatten.1 hz
  exact List.mem_flatten.2 ⟨l, List.mem_of_mem_take hl, hz⟩
 refine ⟨_, ⟨_, css.take k, bss.take k, rfl, h3.take k, by omega, ⟨a, c, by rw [hl], by omega, ?_⟩, fun b hb => hlt b (hbr b hb), rfl⟩, fun b hb => ?_⟩
 ·rcases h1 with h1 | ⟨b, o, rfl, h1⟩
  ·left
   have e : css.flatten = (css.take k).flatten ++ (css.drop k).flatten := by rw [← List.flatten_append, List.take_append_drop]
   rw [e] at h1
   exact (List.append_eq_nil_iff.1 h1).1
  ·right
   refine ⟨b, o, rfl, fun j v hv => h1 j v ?_⟩
   have e : css.flatten = (css.take k).flatten ++ (css.drop k).flatten := by rw [← List.flatten_append, List.take_append_drop]
   rw [e, List.getElem?_append_left ((List.getElem?_eq_some_iff.1 hv).1)]
   exact hv
 ·rcases List.mem_append.1 hb with hb | hb
  ·exact hS b (List.mem_append_left _ (hbr b hb))
  ·exact hS b (List.mem_append_right _ (hfl b hb))
end
end Go.Ev
