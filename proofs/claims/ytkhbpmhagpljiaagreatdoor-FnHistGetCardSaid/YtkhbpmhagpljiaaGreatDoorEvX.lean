/- A part of the proof, without conditions. -/
import Derived.Laws.CopyRow
import Derived.Test.YtkhbpmhagpljiaaGreatDoorEvO
set_option linter.unusedVariables false
set_option linter.unusedSimpArgs false
set_option linter.deprecated false
namespace Go.Ev
open Go Go.RowKit
section
variable {P : Program}
theorem Yq {t e : TypeId} {z : Nat × Nat} (h : Hu P t = Option.some (e, z)) {b o len : Nat} (h1 : 1 ≤ len) (w : World) :
  sl P t (.slice (Option.some ⟨b, o, none⟩) len 1) (Option.some (i64 1)) none none w = Option.some (.slice (Option.some ⟨b, o, none⟩) (len - 1) 0, w) := by
 obtain ⟨hu, hs⟩ := Kb h
 simp only [sl, run_sliceAt_slice w t _ _ _ _ hu, run_slice_l w t _ len 1 hu .i64 1 Ad Ad, Bk hs, Result.andThen_ok, sliced, ro]
 simp
end
section
variable {α : Type} {L : Lay α} {S S' : Nat → Prop} {w : World} {E : TypeId} {mx : Nat}
theorem O.Yr {a : Option Addr} {n c : Nat} {xs : List α} (h : O (AY E mx L) S w [.slice a n c] xs) (h0 : 0 < L.n) {i : Nat} {x : α} (hi : xs[i]? = some x) :
  ∃ g cur cs S1, a = some ⟨g, 0, none⟩ ∧ S g ∧ g < w.heap.size ∧ hp w g = some (.cells cur E (0, 0)) ∧ (i + 1) * L.n ≤ cur.size ∧ (cur.toList.drop (i * L.n)).take L.n = cs ∧ At w g (i * L.n) cs ∧ O L S1 w cs x ∧ (∀ b, S1 b → S b ∧ b ≠ g ∧ b < w.heap.size) ∧
   ∀ (w' : World) (cs' : List Value) (x' : α) (S2 : Nat → Prop), O L S2 w' cs' x' → hp w' g = some (.cells (Bp cur.toList (i * L.n) cs').toArray E (0, 0)) → (∀ b, b < w.heap.size → S b → b ≠ g → ¬ S1 b → hp w' b = hp w b) →
    (∀ b, b < w'.heap.size → S2 b → S1 b ∨ ¬ (b < w.heap.size ∧ S b)) → O (AY E mx L) (fun b => (S b ∧ ¬ S1 b) ∨ S2 b) w' [.slice a n c] (xs.set i x') := by
 obtain ⟨bs, ⟨s', css, bss, he, h3, hm, h1, rfl⟩, hn, hS⟩ := h
 obtain rfl : .slice a n c = s' := by simpa using he
 obtain ⟨cs, bx, h4, h5, h6⟩ := h3.get hi
 have hil : i < xs.length := (List.getElem?_eq_some_iff.1 hi).1
 have hcl : ∀ c ∈ css, c.length = L.n := fun c hc => by obtain ⟨x, _, z, _, h⟩ := h3.Uc c hc; exact L.len h
 obtain ⟨e1, e2, ho⟩ := h1
 rcases ho with ⟨_, hz⟩ | ⟨g, cap, cur, hs, hg, hh, hc, hcm, hcs, ht⟩
 ·omega
 simp only [Value.slice.injEq] at hs
 obtain ⟨rfl, rfl, rfl⟩ := hs
 have hlen := h3.length
 have hfl := BE hcl
 have him : (i + 1) * L.n ≤ xs.length * L.n := Nat.mul_le_mul_right _ hil
 have hcm2 : xs.length * L.n ≤ c * L.n := Nat.mul_le_mul_right _ hc
 have hgm : g ∈ (AF (.slice (some ⟨g, 0, none⟩) xs.length c)).toList := by simp [AF]
 have hAt : ∀ (j : Nat) v, cs[j]? = some v → cur.toList[i * L.n + j]? = some v := fun j v hv => by
  have h7 := flat_get css i cs hcl h4 j v hv
  rw [← ht, List.getElem?_take] at h7
  split at h7
  ·exact h7
  ·contradiction
 have hbx : ∀ b ∈ bx, b ∈ bss.flatten := fun b hb => List.mem_flatten.2 ⟨bx, List.mem_of_getElem? h5, hb⟩
 rw [List.nodup_append] at hn
 have hnf : (bss.flatMap id).Nodup := by simpa [List.flatMap] using hn.2.1
 have nbx : bx.Nodup := by
  obtain ⟨l1, l2, hl⟩ := List.append_of_mem (List.mem_of_getElem? h5)
  have := hn.2.1
  rw [hl, List.flatten_append, List.flatten_cons, List.nodup_append, List.nodup_append] at this
  exact this.2.1.1
 have hgl : g < w.heap.size := Aq hh
 refine ⟨g, cur, cs, (· ∈ bx), rfl, hS g (List.mem_append_left _ hgm), hgl, hh, by omega, ?_, fun j v hv => ?_, ⟨bx, h6, nbx, fun b hb => hb⟩, fun b hb => ⟨hS b (List.mem_append_right _ (hbx b hb)), fun e => hn.2.2 g hgm b (hbx b hb) e.symm, L.lt h6 b hb⟩, ?_⟩
 ·apply List.ext_getElem?
  intro j
  have hcl' := hcl cs (List.mem_of_getElem? h4)
  rw [List.getElem?_take]
  rcases Nat.lt_or_ge j L.n with hj | hj
  ·rw [if_pos hj, List.getElem?_drop, hAt j (cs[j]'Ad) (List.getElem?_eq_getElem Ad), List.getElem?_eq_getElem Ad]
  ·rw [if_neg Ad, List.getElem?_eq_none Ad]
 ·rw [hh, Bt, ← CD]; exact hAt j v hv
 ·rintro w' cs' x' S2 ⟨b2, k1, k2, k3⟩ hw hk hdis
  have lcs' := L.len k1
  have hilb : i < bss.length := by omega
  have hilc : i < css.length := by omega
  have hkeep : Bm (L.lay true w') (css.set i cs') (xs.set i x') (bss.set i b2) := by
   have hq : ∀ {css : List (List Value)} {xs : List α} {bss : List (List Nat)} (i : Nat), Bm (L.lay true w) css xs bss → (∀ (j : Nat) (bl : List Nat), j ≠ i → bss[j]? = some bl → ∀ b ∈ bl, hp w' b = hp w b) → Bm (L.lay true w') (css.set i cs') (xs.set i x') (bss.set i b2) := by
    intro css
    induction css with
    | nil => intro xs bss i h _; cases xs <;> cases bss <;> first | exact h | exact h.elim
    | cons d css ih =>
     intro xs bss i h hb
     cases xs with
     | nil => exact h.elim
     | cons y xs =>
      cases bss with
      | nil => exact h.elim
      | cons e bss =>
       cases i with
       | zero => exact ⟨k1, h.2.imp fun p q r hp hq hr hl => L.Aj hl fun b hbr => by
         obtain ⟨j, hj⟩ := List.getElem?_of_mem hr
         exact hb (j + 1) r Ad (by simpa using hj) b hbr⟩
       | succ i => exact ⟨L.Aj h.1 fun b hbr => hb 0 e Ad rfl b hbr, ih i h.2 fun j bl hj hl b hbb => hb (j + 1) bl Ad (by simpa using hl) b hbb⟩
   refine hq i h3 fun j bl hj hl b hb => ?_
   have hbf : b ∈ bss.flatten := List.mem_flatten.2 ⟨bl, List.mem_of_getElem? hl, hb⟩
   refine hk b ?_ (hS b (List.mem_append_right _ hbf)) (fun e => hn.2.2 g hgm b hbf e.symm) fun hbb => EH (f := id) hnf hl h5 hj b hb hbb
   obtain ⟨y, _, z, _, h⟩ := h3.Rh bl (List.mem_of_getElem? hl)
   exact L.lt h b hb
  refine ⟨(AF (.slice (some ⟨g, 0, none⟩) xs.length c)).toList ++ (bss.set i b2).flatten, ⟨_, css.set i cs', bss.set i b2, rfl, hkeep, by simpa using hm, ⟨?_, by simpa using e2, .inr ⟨g, c, _, by rw [List.length_set], by omega, hw, by simpa using hc, hcm, ?_, ?_⟩⟩, rfl⟩, ?_, ?_⟩
  ·rw [BE (n := L.n), List.length_set, List.length_set, hlen.1]
   intro d hd
   rcases List.mem_or_eq_of_mem_set hd with h | h
   ·exact hcl d h
   ·rw [h]; exact lcs'
  ·rw [Aa]
   simp only [List.size_toArray, List.length_append, List.length_take, List.length_drop, Array.length_toList, lcs']
   rw [Nat.succ_mul] at him
   omega
  ·rw [Nat.succ_mul] at him
   have hcz : cur.toList.length = cur.size := by simp
   rw [Nt i hcl hilc lcs', ← ht, List.length_set, List.toList_toArray, Lh (by rw [lcs']; omega) Ad, Aa, lcs']
  ·rw [List.nodup_append]
   have hmem : ∀ b ∈ (bss.set i b2).flatten, b ∈ b2 ∨ ∃ j bl, j ≠ i ∧ bss[j]? = some bl ∧ b ∈ bl := by
    intro b hb
    obtain ⟨l, hl, hb⟩ := List.mem_flatten.1 hb
    obtain ⟨j, hj⟩ := List.getElem?_of_mem hl
    rw [List.getElem?_set] at hj
    split at hj
    ·obtain rfl : b2 = l := by simpa [hilb] using hj
     exact .inl hb
    ·exact .inr ⟨j, l, by omega, hj, hb⟩
   have k4 : ∀ b ∈ b2, b ∈ bx ∨ ¬ (b < w.heap.size ∧ S b) := fun b hb => hdis b (L.lt k1 b hb) (k3 b hb)
   refine ⟨by simp [AF], ?_, ?_⟩
   ·have hq : ∀ {bss : List (List Nat)} (i : Nat), bss.flatten.Nodup → (∀ b ∈ b2, ∀ (j : Nat) (bl : List Nat), j ≠ i → bss[j]? = some bl → b ∉ bl) → (bss.set i b2).flatten.Nodup := by
     intro bss
     induction bss with
     | nil => intro i h _; simp
     | cons e bss ih =>
      intro i h hb
      rw [List.flatten_cons, List.nodup_append] at h
      cases i with
      | zero =>
       rw [List.set_cons_zero, List.flatten_cons, List.nodup_append]
       refine ⟨k2, h.2.1, fun p hp q hq e => ?_⟩
       subst e
       obtain ⟨l, hl, hq⟩ := List.mem_flatten.1 hq
       obtain ⟨j, hj⟩ := List.getElem?_of_mem hl
       exact hb p hp (j + 1) l Ad (by simpa using hj) hq
      | succ i =>
       rw [List.set_cons_succ, List.flatten_cons, List.nodup_append]
       refine ⟨h.1, ih i h.2.1 fun b hbb j bl hj hl => hb b hbb (j + 1) bl Ad (by simpa using hl), fun p hp q hq e' => ?_⟩
       subst e'
       obtain ⟨l, hl, hq⟩ := List.mem_flatten.1 hq
       obtain ⟨j, hj⟩ := List.getElem?_of_mem hl
       rw [List.getElem?_set] at hj
       split at hj
       ·split at hj
        ·obtain rfl := Option.some.inj hj
         exact hb p hq 0 e Ad rfl hp
        ·contradiction
       ·exact h.2.2 p hp p (List.mem_flatten.2 ⟨l, List.mem_of_getElem? hj, hq⟩) rfl
    refine hq i hn.2.1 fun b hb j bl hj hl hbl => ?_
    rcases k4 b hb with h | h
    ·exact EH (f := id) hnf hl h5 hj b hbl h
    ·refine h ⟨?_, hS b (List.mem_append_right _ (List.mem_flatten.2 ⟨bl, List.mem_of_getElem? hl, hbl⟩))⟩
     obtain ⟨y, _, z, _, h⟩ := h3.Rh bl (List.mem_of_getElem? hl)
     exact L.lt h b hbl
   ·intro p hp q hq e
    subst e
    have hpg : p = g := by simpa [AF] using hp
    subst hpg
    rcases hmem p hq with h | ⟨j, bl, _, hl, h⟩
    ·rcases k4 p h with h | h
     ·exact hn.2.2 p hgm p (hbx p h) rfl
     ·exact h ⟨hgl, hS p (List.mem_append_left _ hgm)⟩
    ·exact hn.2.2 p hgm p (List.mem_flatten.2 ⟨bl, List.mem_of_getElem? hl, h⟩) rfl
  ·intro b hb
   rcases List.mem_append.1 hb with hb | hb
   ·have hbg : b = g := by simpa [AF] using hb
    subst hbg
    exact .inl ⟨hS b (List.mem_append_left _ hgm), fun h => hn.2.2 b hgm b (hbx b h) rfl⟩
   ·obtain ⟨l, hl, hb⟩ := List.mem_flatten.1 hb
    obtain ⟨j, hj⟩ := List.getElem?_of_mem hl
    rw [List.getElem?_set] at hj
    split at hj
    ·obtain rfl : b2 = l := by simpa [hilb] using hj
     exact .inr (k3 b hb)
    ·rename_i hji
     exact .inl ⟨hS b (List.mem_append_right _ (List.mem_flatten.2 ⟨l, List.mem_of_getElem? hj, hb⟩)), fun h => EH (f := id) hnf hj h5 (fun e => hji e.symm) b hb h⟩
theorem O.PO {a : Option Addr} {n c : Nat} {xs : List α} (h : O (AY E mx L) S w [.slice a n c] xs) (h0 : 0 < L.n) {i : Nat} {x : α} (hi : xs[i]? = some x) :
  ∃ g cur cs S1, a = some ⟨g, 0, none⟩ ∧ S g ∧ g < w.heap.size ∧ hp w g = some (.cells (Bu cur (i * L.n) cs).toArray E (0, 0)) ∧ i * L.n + L.n ≤ cur.length ∧ O L S1 w cs x ∧ (∀ b, S1 b → S b ∧ b ≠ g ∧ b < w.heap.size) ∧
   ∀ (w' : World) (cs' : List Value) (x' : α) (S2 : Nat → Prop), O L S2 w' cs' x' → hp w' g = some (.cells (Bu cur (i * L.n) cs').toArray E (0, 0)) → (∀ b, b < w.heap.size → S b → b ≠ g → ¬ S1 b → hp w' b = hp w b) →
    (∀ b, b < w'.heap.size → S2 b → S1 b ∨ ¬ (b < w.heap.size ∧ S b)) → O (AY E mx L) (fun b => (S b ∧ ¬ S1 b) ∨ S2 b) w' [.slice a n c] (xs.set i x') := by
 obtain ⟨g, cur, cs, S1, h1, h2, h3, h4, h5, h6, h7, h8, h9, h10⟩ := h.Yr h0 hi
 refine ⟨g, cur.toList, cs, S1, h1, h2, h3, ?_, by rw [Nat.succ_mul] at h5; simpa using h5, h8, h9, h10⟩
 rw [O1 h6, h4]
end
section
variable {P : Program} {α : Type} {L : Lay α} {S : Nat → Prop} {w : World} {E mx : Nat}
end
section
variable {P : Program}
theorem Uz {t e : TypeId} {z : Nat × Nat} (h : Hu P t = Option.some (e, z)) (a : Option Addr) {len cap : Nat} {n : Int} (h0 : 0 ≤ n) (h1 : n ≤ len) :
  ∃ a', (∀ w, sl P t (.slice a len cap) (Option.some (i64 n)) none none w = Option.some (.slice a' (len - n.toNat) (cap - n.toNat), w)) ∧ (n.toNat ≠ cap → ∀ b o, a = some ⟨b, o, none⟩ → a' = some ⟨b, o + n.toNat * z.1, none⟩) := by
 obtain ⟨hu, hs⟩ := Kb h
 by_cases hc : n.toNat = cap
 ·refine ⟨a, fun w => ?_, fun h => absurd hc h⟩
  simp only [sl, run_sliceAt_slice w t _ _ _ _ hu, run_slice_l w t _ len cap hu .i64 n h0 h1, Bk hs, Result.andThen_ok, sliced, ro]
  simp [hc]
 ·refine ⟨a.map (fun x => x.add (n.toNat * z.1)), fun w => ?_, fun _ b o ha => by subst ha; simp [add_lit]⟩
  simp only [sl, run_sliceAt_slice w t _ _ _ _ hu, run_slice_l w t _ len cap hu .i64 n h0 h1, Bk hs, Result.andThen_ok, sliced, ro]
  cases a <;> simp [Ne.symm hc]
variable {α : Type} {L : Lay α} {S S1 : Nat → Prop} {w : World} {E mx : Nat}
theorem O.QR {t ty y : Nat} (hE : Hu P t = some (E, L.n, y)) {z : List Value} (hz : CS P E = some z) (hzs : z.length = L.n) (h0 : 0 < L.n) {a0 : Option Addr} {n0 c0 : Nat} {xs ys : List α} {css : List (List Value)} {a : Option Addr} {m c : Nat}
  (ho : O (AY E mx L) S w [.slice a0 n0 c0] xs) (hx : GB L S1 w css ys) (hd : ∀ b, b < w.heap.size → S b → ¬ S1 b) (hA : ys = [] ∨ ∃ b o, a = some ⟨b, o, none⟩ ∧ At w b o css.flatten) (hm : m = ys.length) (hl : xs.length + m ≤ mx) (hy : mx * y ≤ 140737488355328) (hm2 : mx ≤ 140737488355328) :
  Af (Ar P #[t, t] ty #[.slice a0 n0 c0, .slice a m c] w) fun r => ∃ a' c', r.1 = .slice a' (xs.length + m) c' ∧
   O (AY E mx L) (fun b => S b ∨ S1 b ∨ (w.heap.size ≤ b ∧ b < r.2.heap.size)) r.2 [.slice a' (xs.length + m) c'] (xs ++ ys) ∧ Mod S w r.2 := by
 by_cases h : m = 0
 ·subst h
  obtain rfl : ys = [] := List.eq_nil_of_length_eq_zero hm.symm
  have hn := ho.n
  rw [Iq (P := P) hE a0 a n0 c0 c ho.clip.1 w]
  refine ⟨_, rfl, a0, c0, by simp only; rw [hn.1]; rfl, ?_, Mod.rfl⟩
  have he : xs.length + 0 = n0 := by omega
  rw [he, List.append_nil]
  exact ho.wide fun b h _ => .inl h
 ·rcases hA with rfl | ⟨b, o, rfl, hA⟩
  ·exact absurd hm h
  ·refine Af.mono (O.apps hE hz hzs h0 ho hx hd hA hm Ad hl hy hm2) ?_
   rintro ⟨s, w1⟩ ⟨a', c', h3, h4, h5⟩
   dsimp only at h3 h4 h5
   subst h3
   exact ⟨a', c', rfl, h4, h5⟩
theorem O.parts {t y : Nat} (h0 : 0 < L.n) (hE : Hu P t = some (E, L.n, y)) {a : Option Addr} {n c : Nat} {xs : List α} (h : O (AY E mx L) S w [.slice a n c] xs) {k : Nat} (hk : k ≤ n) :
  ∃ (css : List (List Value)) (S1 S2 : Nat → Prop) (a' : Option Addr) (c' : Nat), GB L S1 w (css.take k) (xs.take k) ∧ GB L S2 w (css.drop k) (xs.drop k) ∧ (∀ b, S1 b → S b ∧ ¬ S2 b ∧ b < w.heap.size) ∧ (∀ b, S2 b → S b ∧ ¬ S1 b ∧ b < w.heap.size) ∧
   (∀ w', sl P t (.slice a n c) none (Option.some (i64 k)) none w' = Option.some (.slice a k c, w')) ∧ (∀ w', sl P t (.slice a n c) (Option.some (i64 k)) none none w' = Option.some (.slice a' (n - k) c', w')) ∧
   (xs.take k = [] ∨ ∃ b o, a = some ⟨b, o, none⟩ ∧ (S b ∧ ¬ S1 b ∧ ¬ S2 b ∧ b < w.heap.size) ∧ At w b o (css.take k).flatten) ∧ (xs.drop k = [] ∨ ∃ b o, a' = some ⟨b, o, none⟩ ∧ (S b ∧ ¬ S1 b ∧ ¬ S2 b ∧ b < w.heap.size) ∧ At w b o (css.drop k).flatten) ∧
   (∀ b ∈ (AF (.slice a n c)).toList, S b ∧ ¬ S1 b ∧ ¬ S2 b ∧ b < w.heap.size) := by
 have hc := h.clip.1
 have hn := h.n.1
 obtain ⟨css, h1, h2, h3, h4⟩ := h.un
 obtain ⟨S1, S2, e1, e2, d1, d2⟩ := h2.cut k
 obtain ⟨a', hsl, ha'⟩ := Uz (P := P) hE a (len := n) (cap := c) (n := (k : Int)) Ad Ad
 obtain ⟨aO, cO, hs, _, hAt⟩ := h1.at
 simp only [Value.slice.injEq] at hs
 obtain ⟨rfl, _, rfl⟩ := hs
 have hlen := e1.lay
 have hlay := h2.lay
 have htk : (css.take k).flatten.length = k * L.n := by
  rw [BE hlen.2, List.length_take]
  congr 1
  omega
 have hspl : css.flatten = (css.take k).flatten ++ (css.drop k).flatten := by rw [← List.flatten_append, List.take_append_drop]
 refine ⟨css, S1, S2, a', c - k, e1, e2, fun b hb => ?_, fun b hb => ?_, fun w' => ?_, fun w' => ?_, ?_, ?_, fun b hb => ?_⟩
 ·have := d1 b hb
  exact ⟨this.1.1, this.2.1, this.2.2⟩
 ·have := d2 b hb
  exact ⟨this.1.1, this.2.1, this.2.2⟩
 ·have := Ua (P := P) hE (a := a) (len := n) (cap := c) (n := (k : Int)) Ad Ad w'
  simpa using this
 ·simpa using hsl w'
 ·by_cases hk0 : xs.take k = []
  ·exact .inl hk0
  ·right
   rcases hAt with hAt | ⟨b, o, rfl, hAt⟩
   ·exfalso
    have hl0 : css.flatten.length = xs.length * L.n := by rw [BE hlay.2, hlay.1]
    rw [hAt] at hl0
    simp only [List.length_nil] at hl0
    have h5 : xs.length = 0 := by
     rcases Nat.eq_zero_or_pos xs.length with h | h
     ·exact h
     ·have := Nat.mul_pos h h0; omega
    exact hk0 (by rw [List.eq_nil_of_length_eq_zero h5]; simp)
   ·have hb := h3 b (by simp [AF])
    refine ⟨b, o, rfl, ⟨hb.1, fun h => (d1 b h).1.2.1 (by simp [AF]), fun h => (d2 b h).1.2.1 (by simp [AF]), hb.2⟩, fun j v hv => hAt j v ?_⟩
    rw [hspl, List.getElem?_append_left ((List.getElem?_eq_some_iff.1 hv).1)]
    exact hv
 ·by_cases hk0 : xs.drop k = []
  ·exact .inl hk0
  ·right
   have hkn : k < xs.length := by
    rcases Nat.lt_or_ge k xs.length with h | h
    ·exact h
    ·exact absurd (List.drop_eq_nil_of_le h) hk0
   rcases hAt with hAt | ⟨b, o, rfl, hAt⟩
   ·exfalso
    have hl0 : css.flatten.length = xs.length * L.n := by rw [BE hlay.2, hlay.1]
    rw [hAt] at hl0
    simp only [List.length_nil] at hl0
    have := Nat.mul_pos (show 0 < xs.length by omega) h0
    omega
   ·have hb := h3 b (by simp [AF])
    refine ⟨b, o + k * L.n, ?_, ⟨hb.1, fun h => (d1 b h).1.2.1 (by simp [AF]), fun h => (d2 b h).1.2.1 (by simp [AF]), hb.2⟩, fun j v hv => ?_⟩
    ·have := ha' (by simp; omega) b o rfl
     simpa using this
    ·rw [Nat.add_assoc]
     refine hAt (k * L.n + j) v ?_
     rw [hspl, List.getElem?_append_right Ad, htk, Nat.add_sub_cancel_left]
     exact hv
 ·have := h3 b hb
  exact ⟨this.1, fun h => (d1 b h).1.2.1 hb, fun h => (d2 b h).1.2.1 hb, this.2⟩
theorem O.UA {t y : Nat} (h0 : 0 < L.n) (hE : Hu P t = some (E, L.n, y)) {a : Option Addr} {n c : Nat} {xs : List α} (h : O (AY E mx L) S w [.slice a n c] xs) {j k : Nat} (hj : j ≤ k) (hk : k ≤ n) :
  ∃ (css : List (List Value)) (S1 S2 : Nat → Prop) (a' : Option Addr) (c' : Nat), GB L S1 w (css.take j) (xs.take j) ∧ GB L S2 w (css.drop k) (xs.drop k) ∧ (∀ b, S1 b → S b ∧ ¬ S2 b ∧ b < w.heap.size) ∧ (∀ b, S2 b → S b ∧ ¬ S1 b ∧ b < w.heap.size) ∧
   (∀ w', sl P t (.slice a n c) none (Option.some (i64 j)) none w' = Option.some (.slice a j c, w')) ∧ (∀ w', sl P t (.slice a n c) (Option.some (i64 k)) none none w' = Option.some (.slice a' (n - k) c', w')) ∧
   (xs.take j = [] ∨ ∃ b o, a = some ⟨b, o, none⟩ ∧ (S b ∧ ¬ S1 b ∧ ¬ S2 b ∧ b < w.heap.size) ∧ At w b o (css.take j).flatten) ∧ (xs.drop k = [] ∨ ∃ b o, a' = some ⟨b, o, none⟩ ∧ (S b ∧ ¬ S1 b ∧ ¬ S2 b ∧ b < w.heap.size) ∧ At w b o (css.drop k).flatten) ∧
   (∀ b ∈ (AF (.slice a n c)).toList, S b ∧ ¬ S1 b ∧ ¬ S2 b ∧ b < w.heap.size) := by
 have hc := h.clip.1
 have hn := h.n.1
 obtain ⟨css, h1, h2, h3, h4⟩ := h.un
 obtain ⟨S0, S2, e0, e2, d0, d2'⟩ := h2.cut k
 obtain ⟨S1, S3, e1, _, d1', _⟩ := e0.cut j
 rw [List.take_take, List.take_take, Nat.min_eq_left hj] at e1
 have d1 : ∀ b, S1 b → (S b ∧ b ∉ (AF (.slice a n c)).toList ∧ b < w.heap.size) ∧ ¬ S2 b ∧ b < w.heap.size := fun b hb => d0 b (d1' b hb).1
 have d2 : ∀ b, S2 b → (S b ∧ b ∉ (AF (.slice a n c)).toList ∧ b < w.heap.size) ∧ ¬ S1 b ∧ b < w.heap.size := fun b hb => ⟨(d2' b hb).1, fun h => (d2' b hb).2.1 (d1' b h).1, (d2' b hb).2.2⟩
 obtain ⟨a', hsl, ha'⟩ := Uz (P := P) hE a (len := n) (cap := c) (n := (k : Int)) Ad Ad
 obtain ⟨aO, cO, hs, _, hAt⟩ := h1.at
 simp only [Value.slice.injEq] at hs
 obtain ⟨rfl, _, rfl⟩ := hs
 have hlen := e1.lay
 have hlay := h2.lay
 have hlk := e0.lay
 have htk : (css.take k).flatten.length = k * L.n := by
  rw [BE hlk.2, List.length_take]
  congr 1
  omega
 have hspl : css.flatten = (css.take k).flatten ++ (css.drop k).flatten := by rw [← List.flatten_append, List.take_append_drop]
 have hsplj : css.flatten = (css.take j).flatten ++ (css.drop j).flatten := by rw [← List.flatten_append, List.take_append_drop]
 refine ⟨css, S1, S2, a', c - k, e1, e2, fun b hb => ?_, fun b hb => ?_, fun w' => ?_, fun w' => ?_, ?_, ?_, fun b hb => ?_⟩
 ·have := d1 b hb
  exact ⟨this.1.1, this.2.1, this.2.2⟩
 ·have := d2 b hb
  exact ⟨this.1.1, this.2.1, this.2.2⟩
 ·have := Ua (P := P) hE (a := a) (len := n) (cap := c) (n := (j : Int)) Ad Ad w'
  simpa using this
 ·simpa using hsl w'
 ·by_cases hk0 : xs.take j = []
  ·exact .inl hk0
  ·right
   rcases hAt with hAt | ⟨b, o, rfl, hAt⟩
   ·exfalso
    have hl0 : css.flatten.length = xs.length * L.n := by rw [BE hlay.2, hlay.1]
    rw [hAt] at hl0
    simp only [List.length_nil] at hl0
    have h5 : xs.length = 0 := by
     rcases Nat.eq_zero_or_pos xs.length with h | h
     ·exact h
     ·have := Nat.mul_pos h h0; omega
    exact hk0 (by rw [List.eq_nil_of_length_eq_zero h5]; simp)
   ·have hb := h3 b (by simp [AF])
    refine ⟨b, o, rfl, ⟨hb.1, fun h => (d1 b h).1.2.1 (by simp [AF]), fun h => (d2 b h).1.2.1 (by simp [AF]), hb.2⟩, fun i v hv => hAt i v ?_⟩
    rw [hsplj, List.getElem?_append_left ((List.getElem?_eq_some_iff.1 hv).1)]
    exact hv
 ·by_cases hk0 : xs.drop k = []
  ·exact .inl hk0
  ·right
   have hkn : k < xs.length := by
    rcases Nat.lt_or_ge k xs.length with h | h
    ·exact h
    ·exact absurd (List.drop_eq_nil_of_le h) hk0
   rcases hAt with hAt | ⟨b, o, rfl, hAt⟩
   ·exfalso
    have hl0 : css.flatten.length = xs.length * L.n := by rw [BE hlay.2, hlay.1]
    rw [hAt] at hl0
    simp only [List.length_nil] at hl0
    have := Nat.mul_pos (show 0 < xs.length by omega) h0
    omega
   ·have hb := h3 b (by simp [AF])
    refine ⟨b, o + k * L.n, ?_, ⟨hb.1, fun h => (d1 b h).1.2.1 (by simp [AF]), fun h => (d2 b h).1.2.1 (by simp [AF]), hb.2⟩, fun i v hv => ?_⟩
    ·have := ha' (by simp; omega) b o rfl
     simpa using this
    ·rw [Nat.add_assoc]
     refine hAt (k * L.n + i) v ?_
     rw [hspl, List.getElem?_append_right Ad, htk, Nat.add_sub_cancel_left]
     exact hv
 ·have := h3 b hb
  exact ⟨this.1, fun h => (d1 b h).1.2.1 hb, fun h => (d2 b h).1.2.1 hb, this.2⟩
theorem D.WO {s : Value} {css : List (List Value)} {xs : List α} (h1 : Sl w s xs.length css.flatten) (h2 : DG (D L S w) css xs) (hb : ∀ b ∈ (AF s).toList, S b ∧ b < w.heap.size) (h3 : xs.length ≤ mx) : D (AY E mx L) S w [s] xs := by
 obtain ⟨bss, h6⟩ := Bm.bD (Q := D L S w) (R := fun cs x bs => L.lay false w cs x bs ∧ ∀ b ∈ bs, S b) (fun a b h => h) h2
 have hr : ∀ b ∈ G4 s xs, b ∈ (AF s).toList := by
  intro b hb
  cases xs with
  | nil => simp [G4] at hb
  | cons x xs => simpa [G4] using hb
 refine ⟨_, ⟨s, css, bss, rfl, h6.imp fun _ _ _ _ _ _ h => h.1, h3, h1, fun b h => (hb b (hr b h)).2, rfl⟩, fun b h => ?_⟩
 rcases List.mem_append.1 h with h | h
 ·exact (hb b (hr b h)).1
 ·obtain ⟨l, hl, h⟩ := List.mem_flatten.1 h
  obtain ⟨_, _, _, _, q⟩ := h6.Rh l hl
  exact q.2 b h
end
structure PlaceD where
 me : Int
 clock : Int
 chain : List CNode
 log : List Ver
 BQ : List (List Ver)
 fell : Bool
abbrev NP (E F G : TypeId) : Lay (List (List Ver)) := AY G 5864062014805 (F7 E F)
def F8 (E F N G : TypeId) : Lay PlaceD := Nu (BX HZ (BX HZ (BX (Nz E F N) (BX (F7 E F) (BX (NP E F G) LBool))))) fun p => (p.me, p.clock, p.chain, p.log, p.BQ, p.fell)
theorem HK {α : Type} {L : Lay α} {E mx : Nat} : (AY E mx L).n = 1 := rfl
section
variable {E F N G : TypeId} {S : Nat → Prop} {w : World} {cs : List Value} {p : PlaceD}
theorem NQ : (F8 E F N G).n = 6 := rfl
theorem D.place : D (F8 E F N G) S w cs p ↔ ∃ a c a1 c1 a2 c2, cs = [i64 p.me, i64 p.clock, .slice a p.chain.length c, .slice a1 p.log.length c1, .slice a2 p.BQ.length c2, .bool p.fell] ∧
  D (Nz E F N) S w [.slice a p.chain.length c] p.chain ∧ D (F7 E F) S w [.slice a1 p.log.length c1] p.log ∧ D (NP E F G) S w [.slice a2 p.BQ.length c2] p.BQ := by
 unfold F8
 rw [D.map]
 simp only [D.pair]
 constructor
 ·rintro ⟨c1, d1, rfl, h1, c2, d2, rfl, h2, c3, d3, rfl, h3, c4, d4, rfl, h4, c5, d5, rfl, h5, h6⟩
  obtain rfl := D.int.1 h1
  obtain rfl := D.int.1 h2
  obtain rfl := D.bool.1 h6
  obtain ⟨a, c, rfl, h3⟩ := h3.It
  obtain ⟨a1, c1, rfl, h4⟩ := h4.It
  obtain ⟨a2, c2, rfl, h5⟩ := h5.It
  exact ⟨a, c, a1, c1, a2, c2, rfl, h3, h4, h5⟩
 ·rintro ⟨a, c, a1, c1, a2, c2, rfl, h3, h4, h5⟩
  exact ⟨[_], _, rfl, D.int.2 rfl, [_], _, rfl, D.int.2 rfl, [_], _, rfl, h3, [_], _, rfl, h4, [_], [_], rfl, h5, D.bool.2 rfl⟩
theorem O.Fi {S1 S2 S3 : Nat → Prop} {s t u : Value} (h1 : O (Nz E F N) S1 w [s] p.chain) (h2 : O (F7 E F) S2 w [t] p.log) (h3 : O (NP E F G) S3 w [u] p.BQ) (d12 : ∀ b, b < w.heap.size → S1 b → ¬ S2 b) (d13 : ∀ b, b < w.heap.size → S1 b → ¬ S3 b) (d23 : ∀ b, b < w.heap.size → S2 b → ¬ S3 b) :
  O (F8 E F N G) (fun b => S1 b ∨ S2 b ∨ S3 b) w [i64 p.me, i64 p.clock, s, t, u, .bool p.fell] p := by
 unfold F8
 rw [O.map]
 have k5 := O.pair (p := (p.BQ, p.fell)) (S2 := fun _ => False) h3 (O.bool.2 rfl) (fun _ _ _ h => h)
 have k4 := O.pair (p := (p.log, p.BQ, p.fell)) h2 k5 (fun b hb h h' => h'.elim (d23 b hb h) id)
 have k3 := O.pair (p := (p.chain, p.log, p.BQ, p.fell)) h1 k4 (fun b hb h h' => h'.elim (d12 b hb h) fun h' => h'.elim (d13 b hb h) id)
 have k2 := O.pair (p := (p.clock, p.chain, p.log, p.BQ, p.fell)) (S1 := fun _ => False) (O.int.2 rfl) k3 (fun _ _ h => h.elim)
 have k1 := O.pair (p := (p.me, p.clock, p.chain, p.log, p.BQ, p.fell)) (S1 := fun _ => False) (O.int.2 rfl) k2 (fun _ _ h => h.elim)
 exact k1.wide fun b h _ => by
  rcases h with h | h | h | h | h | h
  ·exact h.elim
  ·exact h.elim
  ·exact .inl h
  ·exact .inr (.inl h)
  ·exact .inr (.inr h)
  ·exact h.elim
theorem O.ID (h : O (F8 E F N G) S w cs p) : ∃ a c a1 c1 a2 c2 S1 S2 S3, cs = [i64 p.me, i64 p.clock, .slice a p.chain.length c, .slice a1 p.log.length c1, .slice a2 p.BQ.length c2, .bool p.fell] ∧
  O (Nz E F N) S1 w [.slice a p.chain.length c] p.chain ∧ O (F7 E F) S2 w [.slice a1 p.log.length c1] p.log ∧ O (NP E F G) S3 w [.slice a2 p.BQ.length c2] p.BQ ∧
  (∀ b, S1 b → S b ∧ ¬ S2 b ∧ ¬ S3 b ∧ b < w.heap.size) ∧ (∀ b, S2 b → S b ∧ ¬ S1 b ∧ ¬ S3 b ∧ b < w.heap.size) ∧ (∀ b, S3 b → S b ∧ ¬ S1 b ∧ ¬ S2 b ∧ b < w.heap.size) := by
 unfold F8 at h
 rw [O.map] at h
 obtain ⟨e1, f1, A1, B1, rfl, h1, k1, x1, y1⟩ := h.DH
 obtain ⟨e2, f2, A2, B2, rfl, h2, k2, x2, y2⟩ := k1.DH
 obtain ⟨e3, f3, A3, B3, rfl, h3, k3, x3, y3⟩ := k2.DH
 obtain ⟨e4, f4, A4, B4, rfl, h4, k4, x4, y4⟩ := k3.DH
 obtain ⟨e5, f5, A5, B5, rfl, h5, k5, x5, y5⟩ := k4.DH
 obtain rfl := O.int.1 h1
 obtain rfl := O.int.1 h2
 obtain rfl := O.bool.1 k5
 obtain ⟨a, c, rfl, h3⟩ := h3.It
 obtain ⟨a1, c1, rfl, h4⟩ := h4.It
 obtain ⟨a2, c2, rfl, h5⟩ := h5.It
 refine ⟨a, c, a1, c1, a2, c2, A3, A4, A5, rfl, h3, h4, h5, fun b hb => ?_, fun b hb => ?_, fun b hb => ?_⟩
 ·have q3 := x3 b hb
  exact ⟨(y1 b (y2 b q3.1).1).1, fun h => q3.2.1 (x4 b h).1, fun h => q3.2.1 (y4 b (x5 b h).1).1, q3.2.2⟩
 ·have q4 := x4 b hb
  have q3 := y3 b q4.1
  exact ⟨(y1 b (y2 b q3.1).1).1, q3.2.1, fun h => q4.2.1 (x5 b h).1, q4.2.2⟩
 ·have q5 := x5 b hb
  have q4 := y4 b q5.1
  have q3 := y3 b q4.1
  exact ⟨(y1 b (y2 b q3.1).1).1, q3.2.1, q4.2.1, q5.2.2⟩
end
end Go.Ev
