/- A part of the proof, without conditions. -/
import Derived.Test.YtjhhommnkaemlaaGreatEvHj
set_option linter.unusedVariables false
set_option linter.unusedSimpArgs false
set_option linter.deprecated false
namespace Go.Ev
open Go Go.RowKit
def JG (a b : Tag) : Prop := a.t < b.t ∨ (a.t = b.t ∧ a.p ≤ b.p)
theorem IM {a b : Tag} : AG b a = false ↔ JG a b := by
 simp only [AG, JG, Bool.or_eq_false_iff, decide_eq_false_iff_not, Bool.and_eq_false_iff, beq_eq_false_iff_ne, ne_eq]
 omega
theorem JG.refl (a : Tag) : JG a a := .inr ⟨rfl, Int.le_refl _⟩
theorem JG.trans {a b c : Tag} (h : JG a b) (k : JG b c) : JG a c := by unfold JG at *; omega
theorem Rq (a b : Tag) : JG a (Bl a b) := by
 unfold Bl
 cases h : AG a b
 ·exact JG.refl a
 ·rw [if_pos rfl]
  simp only [AG, Bool.or_eq_true, Bool.and_eq_true, decide_eq_true_eq, beq_iff_eq] at h
  unfold JG; omega
theorem TW (a b : Tag) : JG b (Bl a b) := by
 unfold Bl
 cases h : AG a b
 ·exact IM.1 h
 ·exact JG.refl b
theorem Ku (a b : Tag) : Bl a b = a ∨ Bl a b = b := by
 unfold Bl
 cases AG a b
 ·exact .inl rfl
 ·exact .inr rfl
theorem Nn {a b : Tag} (h : JG b a) : Bl a b = a := by unfold Bl; rw [IM.2 h]; rfl
def Pw : List Tag → List Tag → Prop
 | [], [] => True
 | x :: xs, y :: ys => JG x y ∧ Pw xs ys
 | _, _ => False
theorem Pw.refl : ∀ xs : List Tag, Pw xs xs
 | [] => trivial
 | x :: xs => ⟨JG.refl x, Pw.refl xs⟩
theorem Pw.trans : ∀ {xs ys zs : List Tag}, Pw xs ys → Pw ys zs → Pw xs zs
 | [], [], [], _, _ => trivial
 | x :: xs, y :: ys, z :: zs, h, k => ⟨h.1.trans k.1, Pw.trans h.2 k.2⟩
 | [], _ :: _, _, h, _ => h.elim
 | _ :: _, [], _, h, _ => h.elim
 | [], [], _ :: _, _, k => k.elim
 | _ :: _, _ :: _, [], _, k => k.elim
theorem Pw.Rr : ∀ {xs ys : List Tag}, xs.length = ys.length → Pw xs (AF xs ys)
 | [], [], _ => trivial
 | x :: xs, y :: ys, h => ⟨Rq x y, Pw.Rr (by simpa using h)⟩
 | [], _ :: _, h => by simp at h
 | _ :: _, [], h => by simp at h
theorem Pw.Rs : ∀ {xs ys : List Tag}, xs.length = ys.length → Pw ys (AF xs ys)
 | [], [], _ => trivial
 | x :: xs, y :: ys, h => ⟨TW x y, Pw.Rs (by simpa using h)⟩
 | [], _ :: _, h => by simp at h
 | _ :: _, [], h => by simp at h
theorem Pw.Np : ∀ {xs ys : List Tag}, Pw ys xs → AF xs ys = xs
 | [], [], _ => rfl
 | x :: xs, y :: ys, h => by rw [AF, Nn h.1, Pw.Np h.2]
 | [], _ :: _, h => h.elim
 | _ :: _, [], h => h.elim
theorem Pw.set : ∀ {xs ys : List Tag} (k : Nat) {t u : Tag}, Pw xs ys → JG t u → Pw (xs.set k t) (ys.set k u)
 | [], [], k, _, _, _, _ => trivial
 | x :: xs, y :: ys, 0, _, _, h, ht => ⟨ht, h.2⟩
 | x :: xs, y :: ys, k + 1, _, _, h, ht => ⟨h.1, Pw.set k h.2 ht⟩
 | [], _ :: _, _, _, _, h, _ => h.elim
 | _ :: _, [], _, _, _, h, _ => h.elim
theorem Li : ∀ (xs : List Tag) (k : Nat) (z : Tag), xs.set k (xs.getD k z) = xs
 | [], k, z => rfl
 | x :: xs, 0, z => rfl
 | x :: xs, k + 1, z => by rw [List.getD_cons_succ, List.set_cons_succ, Li xs k z]
theorem Pw.TX (p : List Tag) (k : Nat) (t : Tag) : Pw p (Bb p k t) := by
 have := Pw.set k (Pw.refl p) (Rq (p.getD k ⟨0, 0⟩) t)
 rwa [Li] at this
theorem QD {p : List Tag} {k : Nat} {t : Tag} (h : JG t (p.getD k ⟨0, 0⟩)) : Bb p k t = p := by rw [Bb, Nn h, Li]
theorem Rt {p : List Tag} {k : Nat} (h : k < p.length) (t z : Tag) : (p.set k t).getD k z = t := by
 rw [List.getD_eq_getElem?_getD, List.getElem?_set_self h, Option.getD_some]
structure Book.Tg (b : Book) : Prop where
 v : ∀ v ∈ b.vs, ∀ t ∈ v, DC t = true
 r : ∀ p ∈ b.wr, ∀ t ∈ p.2.2.2, DC t = true
theorem Nq {Q : Tag → Prop} : ∀ {xs ys : List Tag}, (∀ t ∈ xs, Q t) → (∀ t ∈ ys, Q t) → ∀ t ∈ AF xs ys, Q t
 | x :: xs, y :: ys, h, k, t, ht => by
  rw [AF] at ht
  rcases List.mem_cons.1 ht with rfl | ht
  ·rcases Ku x y with e | e <;> rw [e]
   ·exact h x List.mem_cons_self
   ·exact k y List.mem_cons_self
  ·exact Nq (fun t ht => h t (List.mem_cons_of_mem _ ht)) (fun t ht => k t (List.mem_cons_of_mem _ ht)) t ht
 | [], _, _, _, t, ht => by simp [AF] at ht
 | _ :: _, [], _, _, t, ht => by simp [AF] at ht
theorem Lj {Q : Tag → Prop} {xs : List Tag} {z : Tag} (h : ∀ t ∈ xs, Q t) (hz : Q z) (k : Nat) : Q (xs.getD k z) := by
 rw [List.getD_eq_getElem?_getD]
 cases e : xs[k]? with
 | none => exact hz
 | some t => exact h t (List.mem_of_getElem? e)
theorem QE {Q : Tag → Prop} {p : List Tag} {k : Nat} {t : Tag} (h : ∀ t ∈ p, Q t) (hz : Q ⟨0, 0⟩) (ht : Q t) : ∀ u ∈ Bb p k t, Q u := by
 intro u hu
 rcases List.mem_or_eq_of_mem_set hu with hu | rfl
 ·exact h u hu
 ·rcases Ku (p.getD k ⟨0, 0⟩) t with e | e <;> rw [e]
  ·exact Lj h hz k
  ·exact ht
theorem Ru {b : Book} (h : b.Tg) (d : Done) : ∀ t ∈ view b d, DC t = true := by
 unfold view
 rw [List.getD_eq_getElem?_getD]
 cases e : b.vs[d.Ar.toNat]? with
 | none => intro t ht; simp at ht
 | some v => exact h.v v (List.mem_of_getElem? e)
theorem JW {b b' : Book} {d : Done} (h : AZ b d = some b') :
  (d.kind = 1 ∧ BE b.wr d.tag = none ∧ EP 0 (view b d) < d.tag.t ∧ b' = ⟨b.vs, b.wr ++ [(d.tag, d.Ar, d.key, view b d)]⟩) ∨
  (d.kind ≠ 1 ∧ JG ((view b d).getD d.key.toNat ⟨0, 0⟩) d.tag ∧ d.tag.t ≤ 0 ∧ b' = b) ∨
  (d.kind ≠ 1 ∧ JG ((view b d).getD d.key.toNat ⟨0, 0⟩) d.tag ∧ 0 < d.tag.t ∧ ∃ s past, BE b.wr d.tag = some (s, d.key, past) ∧ (d.kind = 3 → s = d.Ar) ∧ b' = ⟨b.vs.set d.Ar.toNat (Bb (AF (view b d) past) d.key.toNat d.tag), b.wr⟩) := by
 unfold AZ at h
 split at h
 ·rename_i hk
  split at h
  ·cases h
  ·rename_i hn
   cases h
   simp only [Bool.or_eq_true, not_or, decide_eq_true_eq, Int.not_le, Option.isSome_iff_ne_none, ne_eq, Decidable.not_not] at hn
   exact .inl ⟨by simpa using hk, hn.1, hn.2, rfl⟩
 ·rename_i hk
  have hk' : d.kind ≠ 1 := by simpa using hk
  split at h
  ·cases h
  ·rename_i hl
   have hl' : JG ((view b d).getD d.key.toNat ⟨0, 0⟩) d.tag := IM.1 (by simpa using hl)
   split at h
   ·rename_i ht
    have ht' : 0 < d.tag.t := by simpa using ht
    split at h
    ·cases h
    ·rename_i s k past hf
     split at h
     ·cases h
     ·rename_i hc
      cases h
      simp only [Bool.or_eq_true, not_or, bne_iff_ne, ne_eq, Decidable.not_not, Bool.and_eq_true, beq_iff_eq, not_and] at hc
      obtain ⟨rfl, hc⟩ := hc
      exact .inr (.inr ⟨hk', hl', ht', s, past, hf, hc, rfl⟩)
   ·rename_i ht
    cases h
    exact .inr (.inl ⟨hk', hl', by simpa using ht, rfl⟩)
theorem Rv {b b' : Book} (h : b.Tg) {d : Done} (hd : Cw d = true) (hs : AZ b d = some b') : b'.Tg := by
 have hv := Ru h d
 have ht := (BS.1 hd).2.2.2.1
 rcases JW hs with ⟨_, _, _, rfl⟩ | ⟨_, _, _, rfl⟩ | ⟨_, _, _, s, past, hf, _, rfl⟩
 ·refine ⟨h.v, fun p hp => ?_⟩
  rcases List.mem_append.1 hp with hp | hp
  ·exact h.r p hp
  ·obtain rfl := List.mem_singleton.1 hp
   exact hv
 ·exact h
 ·refine ⟨fun v hvm => ?_, h.r⟩
  rcases List.mem_or_eq_of_mem_set hvm with hvm | rfl
  ·exact h.v v hvm
  ·exact QE (Nq hv (h.r _ (EB hf))) rfl ht
theorem Rx : ∀ (l : List Done) (b : Book), b.Tg → l.all Cw = true → (DB b l).1.Tg
 | [], b, h, _ => h
 | d :: l, b, h, hl => by
  rw [List.all_cons, Bool.and_eq_true] at hl
  cases hs : AZ b d with
  | none => rw [Dz hs]; exact h
  | some b' => rw [BT hs]; exact Rx l b' (Rv h hl.1 hs) hl.2
theorem Ry : AU.Tg := ⟨fun v hv t ht => by
 obtain rfl := List.eq_of_mem_replicate hv
 obtain rfl := List.eq_of_mem_replicate ht
 rfl, fun p hp => by cases hp⟩
def vw (b : Book) (s : Int) : List Tag := b.vs.getD s.toNat []
theorem TY {b : Book} (h : b.Ok) {d : Done} (hd : Cw d = true) (m : List Tag) (wr : Wr) {s : Int} (h0 : 0 ≤ s) : vw ⟨b.vs.set d.Ar.toNat m, wr⟩ s = if s = d.Ar then m else vw b s := by
 have hs := (BS.1 hd).1
 have hl : d.Ar.toNat < b.vs.length := by have := h.1; omega
 unfold vw
 split
 ·rename_i e
  rw [e, List.getD_eq_getElem?_getD, List.getElem?_set_self hl, Option.getD_some]
 ·rename_i e
  rw [List.getD_eq_getElem?_getD, List.getElem?_set_ne (by omega), ← List.getD_eq_getElem?_getD]
theorem Qd : ∀ (l m : List Done) (b : Book), (DB b l).2 = l.length → DB b (l ++ m) = ((DB (DB b l).1 m).1, l.length + (DB (DB b l).1 m).2)
 | [], m, b, _ => by simp [DB]
 | d :: l, m, b, h => by
  cases hs : AZ b d with
  | none => rw [Dz hs] at h; simp at h
  | some b' =>
   rw [BT hs] at h
   rw [List.cons_append, BT hs, BT hs, Qd l m b' (by simpa using h)]
   simp only [List.length_cons, Prod.mk.injEq, true_and]
   omega
end Go.Ev
