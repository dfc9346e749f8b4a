/- A part of the proof: an evaluator of the model, its laws, and contracts of functions; no condition. -/
import Derived.Test.YtjhhommnkaemlaaGreatEvHj
set_option linter.unusedVariables false
set_option linter.unusedSimpArgs false
set_option linter.deprecated false
namespace Go.Ev
open Go Go.RowKit
def GX (a b : Tag) : Prop := a.t < b.t ∨ (a.t = b.t ∧ a.p ≤ b.p)
theorem Kr {a b : Tag} : AF b a = false ↔ GX a b := by
 simp only [AF, GX, Bool.or_eq_false_iff, decide_eq_false_iff_not, Bool.and_eq_false_iff, beq_eq_false_iff_ne, ne_eq]
 omega
theorem GX.refl (a : Tag) : GX a a := .inr ⟨rfl, Int.le_refl _⟩
theorem GX.trans {a b c : Tag} (h : GX a b) (k : GX b c) : GX a c := by unfold GX at *; omega
theorem GX.time {a b : Tag} (h : GX a b) : a.t ≤ b.t := by unfold GX at h; omega
theorem Pv (a b : Tag) : GX a (Bn a b) := by
 unfold Bn
 cases h : AF a b
 ·exact GX.refl a
 ·rw [if_pos rfl]
  simp only [AF, Bool.or_eq_true, Bool.and_eq_true, decide_eq_true_eq, beq_iff_eq] at h
  unfold GX; omega
theorem TN (a b : Tag) : GX b (Bn a b) := by
 unfold Bn
 cases h : AF a b
 ·exact Kr.1 h
 ·exact GX.refl b
theorem SO (a b : Tag) : Bn a b = a ∨ Bn a b = b := by
 unfold Bn
 cases AF a b
 ·exact .inl rfl
 ·exact .inr rfl
theorem Ro {a b c : Tag} (h : GX a c) (k : GX b c) : GX (Bn a b) c := by rcases SO a b with e | e <;> rw [e] <;> assumption
theorem Nj {a b c d : Tag} (h : GX a c) (k : GX b d) : GX (Bn a b) (Bn c d) := Ro (h.trans (Pv c d)) (k.trans (TN c d))
def Pw : List Tag → List Tag → Prop
 | [], [] => True
 | x :: xs, y :: ys => GX x y ∧ Pw xs ys
 | _, _ => False
theorem Pw.refl : ∀ xs : List Tag, Pw xs xs
 | [] => trivial
 | x :: xs => ⟨GX.refl x, Pw.refl xs⟩
theorem Pw.trans : ∀ {xs ys zs : List Tag}, Pw xs ys → Pw ys zs → Pw xs zs
 | [], [], [], _, _ => trivial
 | x :: xs, y :: ys, z :: zs, h, k => ⟨h.1.trans k.1, Pw.trans h.2 k.2⟩
 | [], _ :: _, _, h, _ => h.elim
 | _ :: _, [], _, h, _ => h.elim
 | [], [], _ :: _, _, k => k.elim
 | _ :: _, _ :: _, [], _, k => k.elim
theorem Pw.get : ∀ {xs ys : List Tag} (k : Nat) {z : Tag}, Pw xs ys → GX (xs.getD k z) (ys.getD k z)
 | [], [], k, z, _ => by simp only [List.getD_nil]; exact GX.refl z
 | x :: xs, y :: ys, 0, z, h => h.1
 | x :: xs, y :: ys, k + 1, z, h => by simpa only [List.getD_cons_succ] using Pw.get k h.2
 | [], _ :: _, _, _, h => h.elim
 | _ :: _, [], _, _, h => h.elim
theorem Pw.Rp : ∀ {xs ys : List Tag}, xs.length = ys.length → Pw xs (AQ xs ys)
 | [], [], _ => trivial
 | x :: xs, y :: ys, h => ⟨Pv x y, Pw.Rp (by simpa using h)⟩
 | [], _ :: _, h => by simp at h
 | _ :: _, [], h => by simp at h
theorem Pw.join : ∀ {xs ys us vs : List Tag}, Pw xs us → Pw ys vs → Pw (AQ xs ys) (AQ us vs)
 | [], _, [], _, _, _ => by simp only [AQ]; trivial
 | x :: xs, [], u :: us, [], _, _ => by simp only [AQ]; trivial
 | x :: xs, y :: ys, u :: us, v :: vs, h, k => ⟨Nj h.1 k.1, Pw.join h.2 k.2⟩
 | [], _, _ :: _, _, h, _ => h.elim
 | _ :: _, _, [], _, h, _ => h.elim
 | _ :: _, [], _ :: _, _ :: _, _, k => k.elim
 | _ :: _, _ :: _, _ :: _, [], _, k => k.elim
theorem Pw.set : ∀ {xs ys : List Tag} (k : Nat) {t u : Tag}, Pw xs ys → GX t u → Pw (xs.set k t) (ys.set k u)
 | [], [], k, _, _, _, _ => trivial
 | x :: xs, y :: ys, 0, _, _, h, ht => ⟨ht, h.2⟩
 | x :: xs, y :: ys, k + 1, _, _, h, ht => ⟨h.1, Pw.set k h.2 ht⟩
 | [], _ :: _, _, _, _, h, _ => h.elim
 | _ :: _, [], _, _, _, h, _ => h.elim
theorem ON : ∀ (xs : List Tag) (k : Nat) (z : Tag), xs.set k (xs.getD k z) = xs
 | [], k, z => rfl
 | x :: xs, 0, z => rfl
 | x :: xs, k + 1, z => by rw [List.getD_cons_succ, List.set_cons_succ, ON xs k z]
theorem Pw.TO (p : List Tag) (k : Nat) (t : Tag) : Pw p (Bm p k t) := by
 have := Pw.set k (Pw.refl p) (Pv (p.getD k ⟨0, 0⟩) t)
 rwa [ON] at this
theorem Pw.with {p q : List Tag} (h : Pw p q) (k : Nat) {t u : Tag} (ht : GX t u) : Pw (Bm p k t) (Bm q k u) := Pw.set k h (Nj (Pw.get k h) ht)
theorem Nk : ∀ {xs ys : List Tag} {m n : Int}, Pw xs ys → m ≤ n → Cy m xs ≤ Cy n ys
 | [], [], m, n, _, h => h
 | x :: xs, y :: ys, m, n, h, hm => by
  have := h.1.time
  rw [Cy, Cy]
  exact Nk h.2 (by split <;> split <;> omega)
 | [], _ :: _, _, _, h, _ => h.elim
 | _ :: _, [], _, _, h, _ => h.elim
structure Book.Tg (b : Book) : Prop where
 v : ∀ v ∈ b.vs, ∀ t ∈ v, El t = true
 r : ∀ p ∈ b.wr, ∀ t ∈ p.2.2.2, El t = true
theorem GY {b b' : Book} {d : Done} (h : AZ b d = some b') :
  (d.kind = 1 ∧ Bj b.wr d.tag = none ∧ Cy 0 (view b d) < d.tag.t ∧ b' = ⟨b.vs, b.wr ++ [(d.tag, d.Ao, d.key, view b d)]⟩) ∨
  (d.kind ≠ 1 ∧ GX ((view b d).getD d.key.toNat ⟨0, 0⟩) d.tag ∧ d.tag.t ≤ 0 ∧ b' = b) ∨
  (d.kind ≠ 1 ∧ GX ((view b d).getD d.key.toNat ⟨0, 0⟩) d.tag ∧ 0 < d.tag.t ∧ ∃ s past, Bj b.wr d.tag = some (s, d.key, past) ∧ (d.kind = 3 → s = d.Ao) ∧ b' = ⟨b.vs.set d.Ao.toNat (Bm (AQ (view b d) past) d.key.toNat d.tag), b.wr⟩) := by
 unfold AZ at h
 split at h
 ·rename_i hk
  split at h
  ·cases h
  ·rename_i hn
   cases h
   simp only [Bool.or_eq_true, not_or, decide_eq_true_eq, Int.not_le, Option.isSome_iff_ne_none, ne_eq, Decidable.not_not] at hn
   exact .inl ⟨by simpa using hk, hn.1, hn.2, rfl⟩
 ·rename_i hk
  have hk' : d.kind ≠ 1 := by simpa using hk
  split at h
  ·cases h
  ·rename_i hl
   have hl' : GX ((view b d).getD d.key.toNat ⟨0, 0⟩) d.tag := Kr.1 (by simpa using hl)
   split at h
   ·rename_i ht
    have ht' : 0 < d.tag.t := by simpa using ht
    split at h
    ·cases h
    ·rename_i s k past hf
     split at h
     ·cases h
     ·rename_i hc
      cases h
      simp only [Bool.or_eq_true, not_or, bne_iff_ne, ne_eq, Decidable.not_not, Bool.and_eq_true, beq_iff_eq, not_and] at hc
      obtain ⟨rfl, hc⟩ := hc
      exact .inr (.inr ⟨hk', hl', ht', s, past, hf, hc, rfl⟩)
   ·rename_i ht
    cases h
    exact .inr (.inl ⟨hk', hl', by simpa using ht, rfl⟩)
def vw (b : Book) (s : Int) : List Tag := b.vs.getD s.toNat []
theorem Px {b : Book} (h : b.Ok) {d : Done} (hd : CG d = true) (m : List Tag) (wr : Wr) {s : Int} (h0 : 0 ≤ s) : vw ⟨b.vs.set d.Ao.toNat m, wr⟩ s = if s = d.Ao then m else vw b s := by
 have hs := (B6.1 hd).1
 have hl : d.Ao.toNat < b.vs.length := by have := h.1; omega
 unfold vw
 split
 ·rename_i e
  rw [e, List.getD_eq_getElem?_getD, List.getElem?_set_self hl, Option.getD_some]
 ·rename_i e
  rw [List.getD_eq_getElem?_getD, List.getElem?_set_ne (by omega), ← List.getD_eq_getElem?_getD]
theorem Py {b b' : Book} (h : b.Ok) {d : Done} (hd : CG d = true) (hs : AZ b d = some b') {s : Int} (h0 : 0 ≤ s) : Pw (vw b s) (vw b' s) := by
 have hv := Gj h hd
 rcases GY hs with ⟨_, _, _, rfl⟩ | ⟨_, _, _, rfl⟩ | ⟨_, _, _, s', past, hf, _, rfl⟩
 ·exact Pw.refl _
 ·exact Pw.refl _
 ·rw [Px h hd _ _ h0]
  split
  ·rename_i e
   subst e
   exact (Pw.Rp (by rw [show vw b d.Ao = view b d from rfl, hv, h.2.2 _ (Ho hf)])).trans (Pw.TO _ _ _)
  ·exact Pw.refl _
end Go.Ev
