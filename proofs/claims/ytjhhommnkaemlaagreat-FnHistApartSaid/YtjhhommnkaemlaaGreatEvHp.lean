/- A part of the proof: an evaluator of the model, its laws, and contracts of functions; no condition. -/
import Derived.Test.YtjhhommnkaemlaaGreatEvHm
set_option linter.unusedVariables false
set_option linter.unusedSimpArgs false
set_option linter.deprecated false
namespace Go.Ev
open Go Go.RowKit
theorem Pf {b : Book} {d : Done} (hk : d.kind = 1) (hf : Bj b.wr d.tag = none) (hl : Cy 0 (view b d) < d.tag.t) : AZ b d = some ⟨b.vs, b.wr ++ [(d.tag, d.Ao, d.key, view b d)]⟩ := by
 unfold AZ
 rw [if_pos (by rw [hk]; rfl), if_neg]
 rw [hf]
 simp only [Option.isSome_none, Bool.false_or, decide_eq_true_eq]
 omega
theorem PU {b : Book} {d : Done} (hk : d.kind ≠ 1) (hl : GX ((view b d).getD d.key.toNat ⟨0, 0⟩) d.tag) (ht : d.tag.t ≤ 0) : AZ b d = some b := by
 unfold AZ
 rw [if_neg (by simpa using hk), Kr.2 hl, if_neg (by simp), if_neg (by simpa using ht)]
theorem PV {b : Book} {d : Done} (hk : d.kind ≠ 1) (hl : GX ((view b d).getD d.key.toNat ⟨0, 0⟩) d.tag) (ht : 0 < d.tag.t) {s : Int} {past : List Tag} (hf : Bj b.wr d.tag = some (s, d.key, past)) (h3 : d.kind = 3 → s = d.Ao) :
  AZ b d = some ⟨b.vs.set d.Ao.toNat (Bm (AQ (view b d) past) d.key.toNat d.tag), b.wr⟩ := by
 unfold AZ
 rw [if_neg (by simpa using hk), Kr.2 hl, if_neg (by simp), if_pos (by simpa using ht), hf]
 dsimp only
 rw [if_neg]
 simp only [bne_self_eq_false, Bool.false_or, Bool.and_eq_true, beq_iff_eq, bne_iff_ne, ne_eq, not_and, Decidable.not_not]
 exact h3
def Oo : Wr → Wr → Prop
 | [], [] => True
 | (t, s, k, p) :: xs, (t', s', k', p') :: ys => (t = t' ∧ s = s' ∧ k = k' ∧ Pw p p') ∧ Oo xs ys
 | _, _ => False
theorem Pg (t' : Tag) (x : Int × Int × List Tag) (wr : Wr) (t : Tag) : Bj ((t', x) :: wr) t = if t' == t then some x else Bj wr t := by
 unfold Bj
 rw [List.find?_cons]
 cases h : t' == t <;> simp
theorem Oo.find : ∀ {xs ys : Wr} (t : Tag), Oo xs ys → (Bj ys t = none → Bj xs t = none) ∧ ∀ s k p, Bj ys t = some (s, k, p) → ∃ p', Bj xs t = some (s, k, p') ∧ Pw p' p
 | [], [], t, _ => ⟨fun h => h, fun s k p h => by cases h⟩
 | (t1, s1, k1, p1) :: xs, (t2, s2, k2, p2) :: ys, t, ⟨⟨e1, e2, e3, hp⟩, h⟩ => by
  subst e1 e2 e3
  rw [Pg t1 (s1, k1, p2), Pg t1 (s1, k1, p1)]
  cases hc : t1 == t
  ·exact Oo.find t h
  ·exact ⟨fun h => (by cases h), fun s k p h => (by cases h; exact ⟨p1, rfl, hp⟩)⟩
 | [], _ :: _, _, h => h.elim
 | _ :: _, [], _, h => h.elim
theorem Oo.snoc : ∀ {xs ys : Wr} {t : Tag} {s k : Int} {p p' : List Tag}, Oo xs ys → Pw p p' → Oo (xs ++ [(t, s, k, p)]) (ys ++ [(t, s, k, p')])
 | [], [], t, s, k, p, p', _, hp => ⟨⟨rfl, rfl, rfl, hp⟩, trivial⟩
 | (t1, s1, k1, p1) :: xs, (t2, s2, k2, p2) :: ys, t, s, k, p, p', h, hp => ⟨h.1, Oo.snoc h.2 hp⟩
 | [], _ :: _, _, _, _, _, _, h, _ => h.elim
 | _ :: _, [], _, _, _, _, _, h, _ => h.elim
structure Apart (s : Int) (a b : Book) : Prop where
 le : ∀ i, 0 ≤ i → Pw (vw a i) (vw b i)
 z : vw a s = List.replicate 4 ⟨0, 0⟩
 w : Oo a.wr b.wr
def Bq (s : Int) (d : Done) : Bool := d.Ao != s || d.kind == 1
theorem PX {s : Int} (hs0 : 0 ≤ s) {a b b' : Book} (h : Apart s a b) (ha : a.Ok) (hb : b.Ok) {d : Done} (hd : CG d = true) (hs : AZ b d = some b') :
  (Bq s d = true → ∃ a', AZ a d = some a' ∧ Apart s a' b') ∧ (Bq s d = false → Apart s a b') := by
 have hd0 := (B6.1 hd).1.1
 have hle := h.le d.Ao hd0
 have hva : vw a d.Ao = view a d := rfl
 have hvb : vw b d.Ao = view b d := rfl
 rw [hva, hvb] at hle
 constructor
 ·intro hkeep
  rcases GY hs with ⟨hk, hf, hl, rfl⟩ | ⟨hk, hl, ht, rfl⟩ | ⟨hk, hl, ht, s', past, hf, h3, rfl⟩
  ·refine ⟨_, Pf hk ((h.w.find _).1 hf) (Int.lt_of_le_of_lt (Nk hle (Int.le_refl 0)) hl), h.le, h.z, h.w.snoc hle⟩
  ·exact ⟨a, PU hk ((Pw.get _ hle).trans hl) ht, h⟩
  ·obtain ⟨p', hf', hp⟩ := (h.w.find _).2 _ _ _ hf
   refine ⟨_, PV hk ((Pw.get _ hle).trans hl) ht hf' h3, ?_, ?_, h.w⟩
   ·intro i hi
    rw [Px ha hd _ _ hi, Px hb hd _ _ hi]
    split
    ·exact Pw.with (Pw.join hle hp) _ (GX.refl _)
    ·exact h.le i hi
   ·have hne : d.Ao ≠ s := by
     intro e
     simp only [Bq, e, bne_self_eq_false, Bool.false_or, beq_iff_eq] at hkeep
     exact hk hkeep
    have : vw ⟨a.vs.set d.Ao.toNat (Bm (AQ (view a d) p') d.key.toNat d.tag), a.wr⟩ s = vw a s := by
     have hl := (B6.1 hd).1
     unfold vw
     rw [List.getD_eq_getElem?_getD, List.getElem?_set_ne (by omega), ← List.getD_eq_getElem?_getD]
    rw [this]
    exact h.z
 ·intro hdrop
  refine ⟨fun i hi => (h.le i hi).trans (Py hb hd hs hi), h.z, ?_⟩
  rcases GY hs with ⟨hk, _, _, rfl⟩ | ⟨hk, _, _, rfl⟩ | ⟨hk, _, _, s', past, _, _, rfl⟩
  ·exfalso
   simp only [Bq, hk, beq_self_eq_true, Bool.or_true] at hdrop
   cases hdrop
  ·exact h.w
  ·exact h.w
theorem LS {s : Int} (hs0 : 0 ≤ s) : ∀ (l : List Done) (a b : Book), Apart s a b → a.Ok → b.Ok → l.all CG = true → (Eg b l).2 = l.length → (Eg a (l.filter (Bq s))).2 = (l.filter (Bq s)).length ∧ Apart s (Eg a (l.filter (Bq s))).1 (Eg b l).1
 | [], a, b, h, _, _, _, _ => ⟨rfl, h⟩
 | d :: l, a, b, h, ha, hb, hl, hn => by
  rw [List.all_cons, Bool.and_eq_true] at hl
  cases hs : AZ b d with
  | none => rw [ET hs] at hn; simp at hn
  | some b' =>
   rw [DC hs] at hn ⊢
   have hn' : (Eg b' l).2 = l.length := by simpa using hn
   have hst := PX hs0 h ha hb hl.1 hs
   have hb' := EU hb hl.1 hs
   cases hk : Bq s d
   ·rw [List.filter_cons_of_neg (by rw [hk]; simp)]
    exact LS hs0 l a b' (hst.2 hk) ha hb' hl.2 hn'
   ·obtain ⟨a', ha', hA⟩ := hst.1 hk
    rw [List.filter_cons_of_pos hk, DC ha']
    have := LS hs0 l a' b' hA (EU ha hl.1 ha') hb' hl.2 hn'
    exact ⟨by rw [List.length_cons, this.1], this.2⟩
def Jc (wr : Wr) (v : List Tag) : Prop := ∀ k : Nat, 0 < (v.getD k ⟨0, 0⟩).t → ∃ s past, Bj wr (v.getD k ⟨0, 0⟩) = some (s, (k : Int), past) ∧ Pw past v
theorem Q0 {wr m : Wr} {t : Tag} {x : Int × Int × List Tag} (h : Bj wr t = some x) : Bj (wr ++ m) t = some x := by
 unfold Bj at h ⊢
 rw [List.find?_append]
 cases e : wr.find? (fun p => p.1 == t) with
 | none => rw [e] at h; cases h
 | some y => rw [e] at h; exact h
theorem Jc.app {wr m : Wr} {v : List Tag} (h : Jc wr v) : Jc (wr ++ m) v := fun k hk => by
 obtain ⟨s, past, h1, h2⟩ := h k hk
 exact ⟨s, past, Q0 h1, h2⟩
structure Closed (b : Book) : Prop where
 v : ∀ i, 0 ≤ i → i ≤ 3 → Jc b.wr (vw b i)
 r : ∀ p ∈ b.wr, Jc b.wr p.2.2.2
theorem X0 {i : Int} (h3 : i ≤ 3) : vw AW i = List.replicate 4 ⟨0, 0⟩ := by
 unfold vw AW
 rw [List.getD_eq_getElem?_getD, List.getElem?_replicate, if_pos (by omega), Option.getD_some]
end Go.Ev
