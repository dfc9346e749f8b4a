/- A part of the proof, without conditions. -/
import Derived.Laws.CopyRow
import Derived.Test.YtjhhommnkaemlaaGreatEvO
set_option linter.unusedVariables false
set_option linter.unusedSimpArgs false
set_option linter.deprecated false
namespace Go.Ev
open Go Go.RowKit
section
variable {P : Program}
theorem VJ {t e : TypeId} {z : Nat × Nat} (h : EZ P t = Option.some (e, z)) {b o len : Nat} (h1 : 1 ≤ len) (w : World) :
  sl P t (.slice (Option.some ⟨b, o, none⟩) len 1) (Option.some (i64 1)) none none w = Option.some (.slice (Option.some ⟨b, o, none⟩) (len - 1) 0, w) := by
 obtain ⟨hu, hs⟩ := IX h
 simp only [sl, run_sliceAt_slice w t _ _ _ _ hu, run_slice_l w t _ len 1 hu .i64 1 (by omega) (by omega), Bj hs, Result.andThen_ok, sliced, ro]
 simp
end
section
variable {α : Type} {L : Lay α} {S S' : Nat → Prop} {w : World} {E : TypeId} {mx : Nat}
theorem O.VK {a : Option Addr} {n c : Nat} {xs : List α} (h : O (AP E mx L) S w [.slice a n c] xs) (h0 : 0 < L.n) {i : Nat} {x : α} (hi : xs[i]? = some x) :
  ∃ g cur cs S1, a = some ⟨g, 0, none⟩ ∧ S g ∧ g < w.heap.size ∧ hp w g = some (.cells cur E (0, 0)) ∧ (i + 1) * L.n ≤ cur.size ∧ (cur.toList.drop (i * L.n)).take L.n = cs ∧ At w g (i * L.n) cs ∧ O L S1 w cs x ∧ (∀ b, S1 b → S b ∧ b ≠ g ∧ b < w.heap.size) ∧
   ∀ (w' : World) (cs' : List Value) (x' : α) (S2 : Nat → Prop), O L S2 w' cs' x' → hp w' g = some (.cells (AH cur.toList (i * L.n) cs').toArray E (0, 0)) → (∀ b, b < w.heap.size → S b → b ≠ g → ¬ S1 b → hp w' b = hp w b) →
    (∀ b, b < w'.heap.size → S2 b → S1 b ∨ ¬ (b < w.heap.size ∧ S b)) → O (AP E mx L) (fun b => (S b ∧ ¬ S1 b) ∨ S2 b) w' [.slice a n c] (xs.set i x') := by
 obtain ⟨bs, ⟨s', css, bss, he, h3, hm, h1, rfl⟩, hn, hS⟩ := h
 obtain rfl : .slice a n c = s' := by simpa using he
 obtain ⟨cs, bx, h4, h5, h6⟩ := h3.get hi
 have hil : i < xs.length := (List.getElem?_eq_some_iff.1 hi).1
 have hcl : ∀ c ∈ css, c.length = L.n := fun c hc => by obtain ⟨x, _, z, _, h⟩ := h3.SB c hc; exact L.len h
 obtain ⟨e1, e2, ho⟩ := h1
 rcases ho with ⟨_, hz⟩ | ⟨g, cap, cur, hs, hg, hh, hc, hcm, hcs, ht⟩
 ·omega
 simp only [Value.slice.injEq] at hs
 obtain ⟨rfl, rfl, rfl⟩ := hs
 have hlen := h3.length
 have hfl := Bi hcl
 have him : (i + 1) * L.n ≤ xs.length * L.n := Nat.mul_le_mul_right _ hil
 have hcm2 : xs.length * L.n ≤ c * L.n := Nat.mul_le_mul_right _ hc
 have hgm : g ∈ (Av (.slice (some ⟨g, 0, none⟩) xs.length c)).toList := by simp [Av]
 have hAt : ∀ (j : Nat) v, cs[j]? = some v → cur.toList[i * L.n + j]? = some v := fun j v hv => by
  have h7 := flat_get css i cs hcl h4 j v hv
  rw [← ht, List.getElem?_take] at h7
  split at h7
  ·exact h7
  ·contradiction
 have hbx : ∀ b ∈ bx, b ∈ bss.flatten := fun b hb => List.mem_flatten.2 ⟨bx, List.mem_of_getElem? h5, hb⟩
 rw [List.nodup_append] at hn
 have hnf : (bss.flatMap id).Nodup := by simpa [List.flatMap] using hn.2.1
 have nbx : bx.Nodup := by
  obtain ⟨l1, l2, hl⟩ := List.append_of_mem (List.mem_of_getElem? h5)
  have := hn.2.1
  rw [hl, List.flatten_append, List.flatten_cons, List.nodup_append, List.nodup_append] at this
  exact this.2.1.1
 have hgl : g < w.heap.size := Aq hh
 refine ⟨g, cur, cs, (· ∈ bx), rfl, hS g (List.mem_append_left _ hgm), hgl, hh, by omega, ?_, fun j v hv => ?_, ⟨bx, h6, nbx, fun b hb => hb⟩, fun b hb => ⟨hS b (List.mem_append_right _ (hbx b hb)), fun e => hn.2.2 g hgm b (hbx b hb) e.symm, L.lt h6 b hb⟩, ?_⟩
 ·apply List.ext_getElem?
  intro j
  have hcl' := hcl cs (List.mem_of_getElem? h4)
  rw [List.getElem?_take]
  rcases Nat.lt_or_ge j L.n with hj | hj
  ·rw [if_pos hj, List.getElem?_drop, hAt j (cs[j]'(by omega)) (List.getElem?_eq_getElem (by omega)), List.getElem?_eq_getElem (by omega)]
  ·rw [if_neg (by omega), List.getElem?_eq_none (by omega)]
 ·rw [hh, Bm, ← BQ]; exact hAt j v hv
 ·rintro w' cs' x' S2 ⟨b2, k1, k2, k3⟩ hw hk hdis
  have lcs' := L.len k1
  have hilb : i < bss.length := by omega
  have hilc : i < css.length := by omega
  have hkeep : Bc (L.lay true w') (css.set i cs') (xs.set i x') (bss.set i b2) := by
   have hq : ∀ {css : List (List Value)} {xs : List α} {bss : List (List Nat)} (i : Nat), Bc (L.lay true w) css xs bss → (∀ (j : Nat) (bl : List Nat), j ≠ i → bss[j]? = some bl → ∀ b ∈ bl, hp w' b = hp w b) → Bc (L.lay true w') (css.set i cs') (xs.set i x') (bss.set i b2) := by
    intro css
    induction css with
    | nil => intro xs bss i h _; cases xs <;> cases bss <;> first | exact h | exact h.elim
    | cons d css ih =>
     intro xs bss i h hb
     cases xs with
     | nil => exact h.elim
     | cons y xs =>
      cases bss with
      | nil => exact h.elim
      | cons e bss =>
       cases i with
       | zero => exact ⟨k1, h.2.imp fun p q r hp hq hr hl => L.Aj hl fun b hbr => by
         obtain ⟨j, hj⟩ := List.getElem?_of_mem hr
         exact hb (j + 1) r (by omega) (by simpa using hj) b hbr⟩
       | succ i => exact ⟨L.Aj h.1 fun b hbr => hb 0 e (by omega) rfl b hbr, ih i h.2 fun j bl hj hl b hbb => hb (j + 1) bl (by omega) (by simpa using hl) b hbb⟩
   refine hq i h3 fun j bl hj hl b hb => ?_
   have hbf : b ∈ bss.flatten := List.mem_flatten.2 ⟨bl, List.mem_of_getElem? hl, hb⟩
   refine hk b ?_ (hS b (List.mem_append_right _ hbf)) (fun e => hn.2.2 g hgm b hbf e.symm) fun hbb => DH (f := id) hnf hl h5 hj b hb hbb
   obtain ⟨y, _, z, _, h⟩ := h3.PT bl (List.mem_of_getElem? hl)
   exact L.lt h b hb
  refine ⟨(Av (.slice (some ⟨g, 0, none⟩) xs.length c)).toList ++ (bss.set i b2).flatten, ⟨_, css.set i cs', bss.set i b2, rfl, hkeep, by simpa using hm, ⟨?_, by simpa using e2, .inr ⟨g, c, _, by rw [List.length_set], by omega, hw, by simpa using hc, hcm, ?_, ?_⟩⟩, rfl⟩, ?_, ?_⟩
  ·rw [Bi (n := L.n), List.length_set, List.length_set, hlen.1]
   intro d hd
   rcases List.mem_or_eq_of_mem_set hd with h | h
   ·exact hcl d h
   ·rw [h]; exact lcs'
  ·rw [Aa]
   simp only [List.size_toArray, List.length_append, List.length_take, List.length_drop, Array.length_toList, lcs']
   rw [Nat.succ_mul] at him
   omega
  ·rw [Nat.succ_mul] at him
   have hcz : cur.toList.length = cur.size := by simp
   rw [LQ i hcl hilc lcs', ← ht, List.length_set, List.toList_toArray, JY (by rw [lcs']; omega) (by omega), Aa, lcs']
  ·rw [List.nodup_append]
   have hmem : ∀ b ∈ (bss.set i b2).flatten, b ∈ b2 ∨ ∃ j bl, j ≠ i ∧ bss[j]? = some bl ∧ b ∈ bl := by
    intro b hb
    obtain ⟨l, hl, hb⟩ := List.mem_flatten.1 hb
    obtain ⟨j, hj⟩ := List.getElem?_of_mem hl
    rw [List.getElem?_set] at hj
    split at hj
    ·obtain rfl : b2 = l := by simpa [hilb] using hj
     exact .inl hb
    ·exact .inr ⟨j, l, by omega, hj, hb⟩
   have k4 : ∀ b ∈ b2, b ∈ bx ∨ ¬ (b < w.heap.size ∧ S b) := fun b hb => hdis b (L.lt k1 b hb) (k3 b hb)
   refine ⟨by simp [Av], ?_, ?_⟩
   ·have hq : ∀ {bss : List (List Nat)} (i : Nat), bss.flatten.Nodup → (∀ b ∈ b2, ∀ (j : Nat) (bl : List Nat), j ≠ i → bss[j]? = some bl → b ∉ bl) → (bss.set i b2).flatten.Nodup := by
     intro bss
     induction bss with
     | nil => intro i h _; simp
     | cons e bss ih =>
      intro i h hb
      rw [List.flatten_cons, List.nodup_append] at h
      cases i with
      | zero =>
       rw [List.set_cons_zero, List.flatten_cons, List.nodup_append]
       refine ⟨k2, h.2.1, fun p hp q hq e => ?_⟩
       subst e
       obtain ⟨l, hl, hq⟩ := List.mem_flatten.1 hq
       obtain ⟨j, hj⟩ := List.getElem?_of_mem hl
       exact hb p hp (j + 1) l (by omega) (by simpa using hj) hq
      | succ i =>
       rw [List.set_cons_succ, List.flatten_cons, List.nodup_append]
       refine ⟨h.1, ih i h.2.1 fun b hbb j bl hj hl => hb b hbb (j + 1) bl (by omega) (by simpa using hl), fun p hp q hq e' => ?_⟩
       subst e'
       obtain ⟨l, hl, hq⟩ := List.mem_flatten.1 hq
       obtain ⟨j, hj⟩ := List.getElem?_of_mem hl
       rw [List.getElem?_set] at hj
       split at hj
       ·split at hj
        ·obtain rfl := Option.some.inj hj
         exact hb p hq 0 e (by omega) rfl hp
        ·contradiction
       ·exact h.2.2 p hp p (List.mem_flatten.2 ⟨l, List.mem_of_getElem? hj, hq⟩) rfl
    refine hq i hn.2.1 fun b hb j bl hj hl hbl => ?_
    rcases k4 b hb with h | h
    ·exact DH (f := id) hnf hl h5 hj b hbl h
    ·refine h ⟨?_, hS b (List.mem_append_right _ (List.mem_flatten.2 ⟨bl, List.mem_of_getElem? hl, hbl⟩))⟩
     obtain ⟨y, _, z, _, h⟩ := h3.PT bl (List.mem_of_getElem? hl)
     exact L.lt h b hbl
   ·intro p hp q hq e
    subst e
    have hpg : p = g := by simpa [Av] using hp
    subst hpg
    rcases hmem p hq with h | ⟨j, bl, _, hl, h⟩
    ·rcases k4 p h with h | h
     ·exact hn.2.2 p hgm p (hbx p h) rfl
     ·exact h ⟨hgl, hS p (List.mem_append_left _ hgm)⟩
    ·exact hn.2.2 p hgm p (List.mem_flatten.2 ⟨bl, List.mem_of_getElem? hl, h⟩) rfl
  ·intro b hb
   rcases List.mem_append.1 hb with hb | hb
   ·have hbg : b = g := by simpa [Av] using hb
    subst hbg
    exact .inl ⟨hS b (List.mem_append_left _ hgm), fun h => hn.2.2 b hgm b (hbx b h) rfl⟩
   ·obtain ⟨l, hl, hb⟩ := List.mem_flatten.1 hb
    obtain ⟨j, hj⟩ := List.getElem?_of_mem hl
    rw [List.getElem?_set] at hj
    split at hj
    ·obtain rfl : b2 = l := by simpa [hilb] using hj
     exact .inr (k3 b hb)
    ·rename_i hji
     exact .inl ⟨hS b (List.mem_append_right _ (List.mem_flatten.2 ⟨l, List.mem_of_getElem? hj, hb⟩)), fun h => DH (f := id) hnf hj h5 (fun e => hji e.symm) b hb h⟩
theorem O.OA {a : Option Addr} {n c : Nat} {xs : List α} (h : O (AP E mx L) S w [.slice a n c] xs) (h0 : 0 < L.n) {i : Nat} {x : α} (hi : xs[i]? = some x) :
  ∃ g cur cs S1, a = some ⟨g, 0, none⟩ ∧ S g ∧ g < w.heap.size ∧ hp w g = some (.cells (Bh cur (i * L.n) cs).toArray E (0, 0)) ∧ i * L.n + L.n ≤ cur.length ∧ O L S1 w cs x ∧ (∀ b, S1 b → S b ∧ b ≠ g ∧ b < w.heap.size) ∧
   ∀ (w' : World) (cs' : List Value) (x' : α) (S2 : Nat → Prop), O L S2 w' cs' x' → hp w' g = some (.cells (Bh cur (i * L.n) cs').toArray E (0, 0)) → (∀ b, b < w.heap.size → S b → b ≠ g → ¬ S1 b → hp w' b = hp w b) →
    (∀ b, b < w'.heap.size → S2 b → S1 b ∨ ¬ (b < w.heap.size ∧ S b)) → O (AP E mx L) (fun b => (S b ∧ ¬ S1 b) ∨ S2 b) w' [.slice a n c] (xs.set i x') := by
 obtain ⟨g, cur, cs, S1, h1, h2, h3, h4, h5, h6, h7, h8, h9, h10⟩ := h.VK h0 hi
 refine ⟨g, cur.toList, cs, S1, h1, h2, h3, ?_, by rw [Nat.succ_mul] at h5; simpa using h5, h8, h9, h10⟩
 rw [NF h6, h4]
end
end Go.Ev
