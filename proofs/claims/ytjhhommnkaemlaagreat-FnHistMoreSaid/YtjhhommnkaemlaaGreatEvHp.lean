/- A part of the proof, without conditions. -/
import Derived.Test.YtjhhommnkaemlaaGreatEvHm
set_option linter.unusedVariables false
set_option linter.unusedSimpArgs false
set_option linter.deprecated false
namespace Go.Ev
open Go Go.RowKit
theorem PV {b : Book} {d : Done} (hk : d.kind ≠ 1) (hl : JG ((view b d).getD d.key.toNat ⟨0, 0⟩) d.tag) (ht : d.tag.t ≤ 0) : AZ b d = some b := by
 unfold AZ
 rw [if_neg (by simpa using hk), IM.2 hl, if_neg (by simp), if_neg (by simpa using ht)]
theorem PX {b : Book} {d : Done} (hk : d.kind ≠ 1) (hl : JG ((view b d).getD d.key.toNat ⟨0, 0⟩) d.tag) (ht : 0 < d.tag.t) {s : Int} {past : List Tag} (hf : BE b.wr d.tag = some (s, d.key, past)) (h3 : d.kind = 3 → s = d.Ar) :
  AZ b d = some ⟨b.vs.set d.Ar.toNat (Bb (AF (view b d) past) d.key.toNat d.tag), b.wr⟩ := by
 unfold AZ
 rw [if_neg (by simpa using hk), IM.2 hl, if_neg (by simp), if_pos (by simpa using ht), hf]
 dsimp only
 rw [if_neg]
 simp only [bne_self_eq_false, Bool.false_or, Bool.and_eq_true, beq_iff_eq, bne_iff_ne, ne_eq, not_and, Decidable.not_not]
 exact h3
def VG : Wr → Wr → Prop
 | [], [] => True
 | (t, s, k, p) :: xs, (t', s', k', p') :: ys => (t = t' ∧ s = s' ∧ k = k' ∧ Pw p p') ∧ VG xs ys
 | _, _ => False
structure Apart (s : Int) (a b : Book) : Prop where
 le : ∀ i, 0 ≤ i → Pw (vw a i) (vw b i)
 z : vw a s = List.replicate 4 ⟨0, 0⟩
 w : VG a.wr b.wr
def Hm (wr : Wr) (v : List Tag) : Prop := ∀ k : Nat, 0 < (v.getD k ⟨0, 0⟩).t → ∃ s past, BE wr (v.getD k ⟨0, 0⟩) = some (s, (k : Int), past) ∧ Pw past v
theorem Q2 {wr m : Wr} {t : Tag} {x : Int × Int × List Tag} (h : BE wr t = some x) : BE (wr ++ m) t = some x := by
 unfold BE at h ⊢
 rw [List.find?_append]
 cases e : wr.find? (fun p => p.1 == t) with
 | none => rw [e] at h; cases h
 | some y => rw [e] at h; exact h
theorem Hm.app {wr m : Wr} {v : List Tag} (h : Hm wr v) : Hm (wr ++ m) v := fun k hk => by
 obtain ⟨s, past, h1, h2⟩ := h k hk
 exact ⟨s, past, Q2 h1, h2⟩
structure Closed (b : Book) : Prop where
 v : ∀ i, 0 ≤ i → i ≤ 3 → Hm b.wr (vw b i)
 r : ∀ p ∈ b.wr, Hm b.wr p.2.2.2
theorem LX : ∀ (xs ys : List Tag) (j : Nat) (z : Tag), (AF xs ys).getD j z = xs.getD j z ∨ (AF xs ys).getD j z = ys.getD j z ∨ (AF xs ys).getD j z = z
 | x :: xs, y :: ys, 0, z => by
  rw [AF, List.getD_cons_zero, List.getD_cons_zero, List.getD_cons_zero]
  rcases Ku x y with e | e
  ·exact .inl e
  ·exact .inr (.inl e)
 | x :: xs, y :: ys, j + 1, z => by
  rw [AF, List.getD_cons_succ, List.getD_cons_succ, List.getD_cons_succ]
  exact LX xs ys j z
 | [], _, _, _ => by rw [AF]; exact .inr (.inr rfl); all_goals simp
 | _ :: _, [], _, _ => by rw [AF]; exact .inr (.inr rfl); all_goals simp
theorem PY (p : List Tag) (k : Nat) (t : Tag) (j : Nat) : (Bb p k t).getD j ⟨0, 0⟩ = p.getD j ⟨0, 0⟩ ∨ ((Bb p k t).getD j ⟨0, 0⟩ = t ∧ j = k) := by
 unfold Bb
 by_cases e : j = k
 ·subst e
  by_cases hl : j < p.length
  ·rw [Rt hl]
   rcases Ku (p.getD j ⟨0, 0⟩) t with e | e
   ·exact .inl e
   ·exact .inr ⟨e, rfl⟩
  ·rw [List.set_eq_of_length_le (by omega)]
   exact .inl rfl
 ·rw [List.getD_eq_getElem?_getD, List.getElem?_set_ne (fun h => e h.symm), ← List.getD_eq_getElem?_getD]
  exact .inl rfl
theorem Pj {b b' : Book} (h : Closed b) (hb : b.Ok) {d : Done} (hd : Cw d = true) (hs : AZ b d = some b') : Closed b' := by
 have hv := Gj hb hd
 have ho := BS.1 hd
 have hcv := h.v d.Ar ho.1.1 ho.1.2
 rcases JW hs with ⟨hk, hf, hl, rfl⟩ | ⟨hk, hl, ht, rfl⟩ | ⟨hk, hl, ht, s', past, hf, h3, rfl⟩
 ·refine ⟨fun i h0 h3 => (h.v i h0 h3).app, fun p hp => ?_⟩
  rcases List.mem_append.1 hp with hp | hp
  ·exact (h.r p hp).app
  ·obtain rfl := List.mem_singleton.1 hp
   exact Hm.app hcv
 ·exact h
 ·refine ⟨fun i h0 h3' => ?_, h.r⟩
  rw [TY hb hd _ _ h0]
  split
  ·have hpl : past.length = 4 := hb.2.2 _ (EB hf)
   have c1 := Pw.TX (AF (view b d) past) d.key.toNat d.tag
   have c2 : Pw (view b d) (Bb (AF (view b d) past) d.key.toNat d.tag) := (Pw.Rr (by omega)).trans c1
   have c3 : Pw past (Bb (AF (view b d) past) d.key.toNat d.tag) := (Pw.Rs (by omega)).trans c1
   intro k hk0
   rcases PY (AF (view b d) past) d.key.toNat d.tag k with e | ⟨e, rfl⟩
   ·rcases LX (view b d) past k ⟨0, 0⟩ with e2 | e2 | e2
    ·rw [e, e2] at hk0 ⊢
     obtain ⟨s0, p0, f1, f2⟩ := hcv k hk0
     exact ⟨s0, p0, f1, f2.trans c2⟩
    ·rw [e, e2] at hk0 ⊢
     obtain ⟨s0, p0, f1, f2⟩ := h.r _ (EB hf) k hk0
     exact ⟨s0, p0, f1, f2.trans c3⟩
    ·rw [e, e2] at hk0
     exact absurd hk0 (by decide)
   ·rw [e]
    exact ⟨s', past, by rw [hf]; simp only [Option.some.injEq, Prod.mk.injEq, true_and, and_true]; omega, c3⟩
  ·exact h.v i h0 h3'
theorem NH : ∀ (l : List Done) (b : Book), Closed b → b.Ok → l.all Cw = true → Closed (DB b l).1
 | [], b, h, _, _ => h
 | d :: l, b, h, hb, hl => by
  rw [List.all_cons, Bool.and_eq_true] at hl
  cases hs : AZ b d with
  | none => rw [Dz hs]; exact h
  | some b' => rw [BT hs]; exact NH l b' (Pj h hb hl.1 hs) (Gk hb hl.1 hs) hl.2
theorem Ym {i : Int} (h3 : i ≤ 3) : vw AU i = List.replicate 4 ⟨0, 0⟩ := by
 unfold vw AU
 rw [List.getD_eq_getElem?_getD, List.getElem?_replicate, if_pos (by omega), Option.getD_some]
theorem Tr : Closed AU := ⟨fun i h0 h3 k hk => by
 rw [Ym h3] at hk
 have := Lj (Q := fun t => t.t = 0) (xs := List.replicate 4 (⟨0, 0⟩ : Tag)) (z := ⟨0, 0⟩) (fun t ht => by rw [List.eq_of_mem_replicate ht]) rfl k
 rw [this] at hk
 exact absurd hk (by decide), fun p hp => by cases hp⟩
theorem VH {α : Type} : ∀ (l : List α) (k : Nat) (z : α), l.set k (l.getD k z) = l
 | [], _, _ => rfl
 | x :: l, 0, z => rfl
 | x :: l, k + 1, z => by rw [List.getD_cons_succ, List.set_cons_succ, VH l k z]
theorem Pk {b : Book} (h : Closed b) (hb : b.Ok) {s : Int} {key : Nat} (h0 : 0 ≤ s) (h3 : s ≤ 3) : AZ b ⟨s, 2, key, (vw b s).getD key ⟨0, 0⟩⟩ = some b := by
 have hview : view b ⟨s, 2, key, (vw b s).getD key ⟨0, 0⟩⟩ = vw b s := rfl
 by_cases ht : ((vw b s).getD key ⟨0, 0⟩).t ≤ 0
 ·exact PV (by show (2 : Int) ≠ 1; decide) (by rw [hview]; exact JG.refl _) ht
 ·obtain ⟨s', past, f1, f2⟩ := h.v s h0 h3 key (by omega)
  rw [PX (s := s') (past := past) (by show (2 : Int) ≠ 1; decide) (by rw [hview]; exact JG.refl _) (by show 0 < ((vw b s).getD key ⟨0, 0⟩).t; omega) f1 (by show (2 : Int) = 3 → _; intro h; cases h)]
  rw [hview]
  show some (Book.mk (b.vs.set s.toNat (Bb (AF (vw b s) past) (key : Int).toNat ((vw b s).getD key ⟨0, 0⟩))) b.wr) = some b
  rw [Pw.Np f2, QD (by rw [Int.toNat_natCast]; exact JG.refl _)]
  unfold vw
  rw [VH]
end Go.Ev
