/- A part of the proof: an evaluator of the model, its laws, and contracts of functions; no condition. -/
import Derived.Test.YtjhhommnkaemlaaGreatEvHj
set_option linter.unusedVariables false
set_option linter.unusedSimpArgs false
set_option linter.deprecated false
namespace Go.Ev
open Go Go.RowKit
def JP (a b : Tag) : Prop := a.t < b.t ∨ (a.t = b.t ∧ a.p ≤ b.p)
theorem KF {a b : Tag} : AE b a = false ↔ JP a b := by
 simp only [AE, JP, Bool.or_eq_false_iff, decide_eq_false_iff_not, Bool.and_eq_false_iff, beq_eq_false_iff_ne, ne_eq]
 omega
theorem JP.refl (a : Tag) : JP a a := .inr ⟨rfl, Int.le_refl _⟩
theorem JP.trans {a b c : Tag} (h : JP a b) (k : JP b c) : JP a c := by unfold JP at *; omega
theorem RH (a b : Tag) : JP a (Br a b) := by
 unfold Br
 cases h : AE a b
 ·exact JP.refl a
 ·rw [if_pos rfl]
  simp only [AE, Bool.or_eq_true, Bool.and_eq_true, decide_eq_true_eq, beq_iff_eq] at h
  unfold JP; omega
theorem Ud (a b : Tag) : JP b (Br a b) := by
 unfold Br
 cases h : AE a b
 ·exact KF.1 h
 ·exact JP.refl b
theorem Qq (a b : Tag) : Br a b = a ∨ Br a b = b := by
 unfold Br
 cases AE a b
 ·exact .inl rfl
 ·exact .inr rfl
theorem RI {t : Tag} (h : Cs t = true) : JP ⟨0, 0⟩ t := by
 simp only [Cs, Bool.or_eq_true, Bool.and_eq_true, decide_eq_true_eq, beq_iff_eq] at h
 unfold JP
 show (0 : Int) < t.t ∨ ((0 : Int) = t.t ∧ (0 : Int) ≤ t.p)
 omega
def Pw : List Tag → List Tag → Prop
 | [], [] => True
 | x :: xs, y :: ys => JP x y ∧ Pw xs ys
 | _, _ => False
theorem Pw.refl : ∀ xs : List Tag, Pw xs xs
 | [] => trivial
 | x :: xs => ⟨JP.refl x, Pw.refl xs⟩
theorem Pw.trans : ∀ {xs ys zs : List Tag}, Pw xs ys → Pw ys zs → Pw xs zs
 | [], [], [], _, _ => trivial
 | x :: xs, y :: ys, z :: zs, h, k => ⟨h.1.trans k.1, Pw.trans h.2 k.2⟩
 | [], _ :: _, _, h, _ => h.elim
 | _ :: _, [], _, h, _ => h.elim
 | [], [], _ :: _, _, k => k.elim
 | _ :: _, _ :: _, [], _, k => k.elim
theorem Pw.get : ∀ {xs ys : List Tag} (k : Nat) {z : Tag}, Pw xs ys → JP (xs.getD k z) (ys.getD k z)
 | [], [], k, z, _ => by simp only [List.getD_nil]; exact JP.refl z
 | x :: xs, y :: ys, 0, z, h => h.1
 | x :: xs, y :: ys, k + 1, z, h => by simpa only [List.getD_cons_succ] using Pw.get k h.2
 | [], _ :: _, _, _, h => h.elim
 | _ :: _, [], _, _, h => h.elim
theorem Pw.RJ : ∀ {xs ys : List Tag}, xs.length = ys.length → Pw xs (AU xs ys)
 | [], [], _ => trivial
 | x :: xs, y :: ys, h => ⟨RH x y, Pw.RJ (by simpa using h)⟩
 | [], _ :: _, h => by simp at h
 | _ :: _, [], h => by simp at h
theorem Pw.set : ∀ {xs ys : List Tag} (k : Nat) {t u : Tag}, Pw xs ys → JP t u → Pw (xs.set k t) (ys.set k u)
 | [], [], k, _, _, _, _ => trivial
 | x :: xs, y :: ys, 0, _, _, h, ht => ⟨ht, h.2⟩
 | x :: xs, y :: ys, k + 1, _, _, h, ht => ⟨h.1, Pw.set k h.2 ht⟩
 | [], _ :: _, _, _, _, h, _ => h.elim
 | _ :: _, [], _, _, _, h, _ => h.elim
theorem O1 : ∀ (xs : List Tag) (k : Nat) (z : Tag), xs.set k (xs.getD k z) = xs
 | [], k, z => rfl
 | x :: xs, 0, z => rfl
 | x :: xs, k + 1, z => by rw [List.getD_cons_succ, List.set_cons_succ, O1 xs k z]
theorem Pw.Ue (p : List Tag) (k : Nat) (t : Tag) : Pw p (Bl p k t) := by
 have := Pw.set k (Pw.refl p) (RH (p.getD k ⟨0, 0⟩) t)
 rwa [O1] at this
theorem RK {p : List Tag} {k : Nat} (h : k < p.length) (t z : Tag) : (p.set k t).getD k z = t := by
 rw [List.getD_eq_getElem?_getD, List.getElem?_set_self h, Option.getD_some]
theorem RL {p : List Tag} {k : Nat} (h : k < p.length) (t : Tag) : JP t ((Bl p k t).getD k ⟨0, 0⟩) := by
 rw [Bl, RK h]
 exact Ud _ _
theorem O2 : ∀ {xs ys : List Tag}, Pw xs ys → under xs ys = true
 | [], [], _ => rfl
 | x :: xs, y :: ys, h => by rw [under, KF.2 h.1, O2 h.2]; rfl
 | [], _ :: _, h => h.elim
 | _ :: _, [], h => h.elim
structure Book.Tg (b : Book) : Prop where
 v : ∀ v ∈ b.vs, ∀ t ∈ v, Cs t = true
 r : ∀ p ∈ b.wr, ∀ t ∈ p.2.2.2, Cs t = true
theorem NC {Q : Tag → Prop} : ∀ {xs ys : List Tag}, (∀ t ∈ xs, Q t) → (∀ t ∈ ys, Q t) → ∀ t ∈ AU xs ys, Q t
 | x :: xs, y :: ys, h, k, t, ht => by
  rw [AU] at ht
  rcases List.mem_cons.1 ht with rfl | ht
  ·rcases Qq x y with e | e <;> rw [e]
   ·exact h x List.mem_cons_self
   ·exact k y List.mem_cons_self
  ·exact NC (fun t ht => h t (List.mem_cons_of_mem _ ht)) (fun t ht => k t (List.mem_cons_of_mem _ ht)) t ht
 | [], _, _, _, t, ht => by simp [AU] at ht
 | _ :: _, [], _, _, t, ht => by simp [AU] at ht
theorem O3 {Q : Tag → Prop} {xs : List Tag} {z : Tag} (h : ∀ t ∈ xs, Q t) (hz : Q z) (k : Nat) : Q (xs.getD k z) := by
 rw [List.getD_eq_getElem?_getD]
 cases e : xs[k]? with
 | none => exact hz
 | some t => exact h t (List.mem_of_getElem? e)
theorem QT {Q : Tag → Prop} {p : List Tag} {k : Nat} {t : Tag} (h : ∀ t ∈ p, Q t) (hz : Q ⟨0, 0⟩) (ht : Q t) : ∀ u ∈ Bl p k t, Q u := by
 intro u hu
 rcases List.mem_or_eq_of_mem_set hu with hu | rfl
 ·exact h u hu
 ·rcases Qq (p.getD k ⟨0, 0⟩) t with e | e <;> rw [e]
  ·exact O3 h hz k
  ·exact ht
theorem O4 {b : Book} (h : b.Tg) (d : Done) : ∀ t ∈ view b d, Cs t = true := by
 unfold view
 rw [List.getD_eq_getElem?_getD]
 cases e : b.vs[d.Ar.toNat]? with
 | none => intro t ht; simp at ht
 | some v => exact h.v v (List.mem_of_getElem? e)
theorem GX {b b' : Book} {d : Done} (h : Bb b d = some b') :
  (d.kind = 1 ∧ BD b.wr d.tag = none ∧ ET 0 (view b d) < d.tag.t ∧ b' = ⟨b.vs, b.wr ++ [(d.tag, d.Ar, d.key, view b d)]⟩) ∨
  (d.kind ≠ 1 ∧ JP ((view b d).getD d.key.toNat ⟨0, 0⟩) d.tag ∧ d.tag.t ≤ 0 ∧ b' = b) ∨
  (d.kind ≠ 1 ∧ JP ((view b d).getD d.key.toNat ⟨0, 0⟩) d.tag ∧ 0 < d.tag.t ∧ ∃ s past, BD b.wr d.tag = some (s, d.key, past) ∧ (d.kind = 3 → s = d.Ar) ∧ b' = ⟨b.vs.set d.Ar.toNat (Bl (AU (view b d) past) d.key.toNat d.tag), b.wr⟩) := by
 unfold Bb at h
 split at h
 ·rename_i hk
  split at h
  ·cases h
  ·rename_i hn
   cases h
   simp only [Bool.or_eq_true, not_or, decide_eq_true_eq, Int.not_le, Option.isSome_iff_ne_none, ne_eq, Decidable.not_not] at hn
   exact .inl ⟨by simpa using hk, hn.1, hn.2, rfl⟩
 ·rename_i hk
  have hk' : d.kind ≠ 1 := by simpa using hk
  split at h
  ·cases h
  ·rename_i hl
   have hl' : JP ((view b d).getD d.key.toNat ⟨0, 0⟩) d.tag := KF.1 (by simpa using hl)
   split at h
   ·rename_i ht
    have ht' : 0 < d.tag.t := by simpa using ht
    split at h
    ·cases h
    ·rename_i s k past hf
     split at h
     ·cases h
     ·rename_i hc
      cases h
      simp only [Bool.or_eq_true, not_or, bne_iff_ne, ne_eq, Decidable.not_not, Bool.and_eq_true, beq_iff_eq, not_and] at hc
      obtain ⟨rfl, hc⟩ := hc
      exact .inr (.inr ⟨hk', hl', ht', s, past, hf, hc, rfl⟩)
   ·rename_i ht
    cases h
    exact .inr (.inl ⟨hk', hl', by simpa using ht, rfl⟩)
theorem O5 {b b' : Book} (h : b.Tg) {d : Done} (hd : B9 d = true) (hs : Bb b d = some b') : b'.Tg := by
 have hv := O4 h d
 have ht := (BH.1 hd).2.2.2.1
 rcases GX hs with ⟨_, _, _, rfl⟩ | ⟨_, _, _, rfl⟩ | ⟨_, _, _, s, past, hf, _, rfl⟩
 ·refine ⟨h.v, fun p hp => ?_⟩
  rcases List.mem_append.1 hp with hp | hp
  ·exact h.r p hp
  ·obtain rfl := List.mem_singleton.1 hp
   exact hv
 ·exact h
 ·refine ⟨fun v hvm => ?_, h.r⟩
  rcases List.mem_or_eq_of_mem_set hvm with hvm | rfl
  ·exact h.v v hvm
  ·exact QT (NC hv (h.r _ (EE hf))) rfl ht
theorem PN : ∀ (l : List Done) (b : Book), b.Tg → l.all B9 = true → (CG b l).1.Tg
 | [], b, h, _ => h
 | d :: l, b, h, hl => by
  rw [List.all_cons, Bool.and_eq_true] at hl
  cases hs : Bb b d with
  | none => rw [Ca hs]; exact h
  | some b' => rw [BC hs]; exact PN l b' (O5 h hl.1 hs) hl.2
theorem Lv : AR.Tg := ⟨fun v hv t ht => by
 obtain rfl := List.eq_of_mem_replicate hv
 obtain rfl := List.eq_of_mem_replicate ht
 rfl, fun p hp => by cases hp⟩
def vw (b : Book) (s : Int) : List Tag := b.vs.getD s.toNat []
theorem RM {b : Book} (h : b.Ok) {d : Done} (hd : B9 d = true) (m : List Tag) (wr : Wr) {s : Int} (h0 : 0 ≤ s) : vw ⟨b.vs.set d.Ar.toNat m, wr⟩ s = if s = d.Ar then m else vw b s := by
 have hs := (BH.1 hd).1
 have hl : d.Ar.toNat < b.vs.length := by have := h.1; omega
 unfold vw
 split
 ·rename_i e
  rw [e, List.getD_eq_getElem?_getD, List.getElem?_set_self hl, Option.getD_some]
 ·rename_i e
  rw [List.getD_eq_getElem?_getD, List.getElem?_set_ne (by omega), ← List.getD_eq_getElem?_getD]
theorem PO {b b' : Book} (h : b.Ok) {d : Done} (hd : B9 d = true) (hs : Bb b d = some b') {s : Int} (h0 : 0 ≤ s) : Pw (vw b s) (vw b' s) := by
 have hv := E8 h hd
 rcases GX hs with ⟨_, _, _, rfl⟩ | ⟨_, _, _, rfl⟩ | ⟨_, _, _, s', past, hf, _, rfl⟩
 ·exact Pw.refl _
 ·exact Pw.refl _
 ·rw [RM h hd _ _ h0]
  split
  ·rename_i e
   subst e
   exact (Pw.RJ (by rw [show vw b d.Ar = view b d from rfl, hv, h.2.2 _ (EE hf)])).trans (Pw.Ue _ _ _)
  ·exact Pw.refl _
theorem Lw : ∀ (l : List Done) (b : Book), b.Ok → l.all B9 = true → ∀ {s : Int}, 0 ≤ s → Pw (vw b s) (vw (CG b l).1 s)
 | [], b, _, _, s, _ => Pw.refl _
 | d :: l, b, h, hl, s, h0 => by
  rw [List.all_cons, Bool.and_eq_true] at hl
  cases hs : Bb b d with
  | none => rw [Ca hs]; exact Pw.refl _
  | some b' => rw [BC hs]; exact (PO h hl.1 hs h0).trans (Lw l b' (Fa h hl.1 hs) hl.2 h0)
theorem Qr : ∀ (l m : List Done) (b : Book), (CG b l).2 = l.length → CG b (l ++ m) = ((CG (CG b l).1 m).1, l.length + (CG (CG b l).1 m).2)
 | [], m, b, _ => by simp [CG]
 | d :: l, m, b, h => by
  cases hs : Bb b d with
  | none => rw [Ca hs] at h; simp at h
  | some b' =>
   rw [BC hs] at h
   rw [List.cons_append, BC hs, BC hs, Qr l m b' (by simpa using h)]
   simp only [List.length_cons, Prod.mk.injEq, true_and]
   omega
theorem PQ {b b' : Book} (h : b.Ok) (hg : b.Tg) {d : Done} (hd : B9 d = true) (hs : Bb b d = some b') (hk : d.kind ≠ 1) : JP d.tag ((vw b' d.Ar).getD d.key.toNat ⟨0, 0⟩) := by
 have hv := E8 h hd
 obtain ⟨h1, h2, h3, h4, h5⟩ := BH.1 hd
 rcases GX hs with ⟨e, _, _, rfl⟩ | ⟨_, _, ht, rfl⟩ | ⟨_, _, _, s', past, hf, _, rfl⟩
 ·exact absurd e hk
 ·have hz : d.tag = ⟨0, 0⟩ := by
   simp only [Cs, Bool.or_eq_true, Bool.and_eq_true, decide_eq_true_eq, beq_iff_eq] at h4
   exact QF (by show d.tag.t = 0; omega) (by show d.tag.p = 0; omega)
  rw [hz]
  exact RI (O3 (O4 hg d) rfl _)
 ·rw [RM h hd _ _ h1.1, if_pos rfl]
  exact RL (by rw [C4 _ _ (by rw [hv, h.2.2 _ (EE hf)]), hv]; omega) _
theorem O6 : ∀ (l : List Done) (b : Book), b.Ok → b.Tg → l.all B9 = true → (CG b l).2 = l.length → ∀ d ∈ l, d.kind ≠ 1 → JP d.tag ((vw (CG b l).1 d.Ar).getD d.key.toNat ⟨0, 0⟩)
 | [], b, _, _, _, _, d, hd, _ => by cases hd
 | a :: l, b, h, hg, hl, hn, d, hd, hk => by
  rw [List.all_cons, Bool.and_eq_true] at hl
  cases hs : Bb b a with
  | none => rw [Ca hs] at hn; simp at hn
  | some b' =>
   rw [BC hs] at hn ⊢
   have hok' := Fa h hl.1 hs
   rcases List.mem_cons.1 hd with rfl | hd
   ·exact (PQ h hg hl.1 hs hk).trans (Pw.get _ (Lw l b' hok' hl.2 (BH.1 hl.1).1.1))
   ·exact O6 l b' hok' (O5 hg hl.1 hs) hl.2 (by simpa using hn) d hd hk
end Go.Ev
