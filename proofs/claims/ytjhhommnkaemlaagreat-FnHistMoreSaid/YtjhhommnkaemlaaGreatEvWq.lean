/- A part of the proof, without conditions. -/
import Derived.Test.YtjhhommnkaemlaaGreatEvWp
import Derived.Test.YtjhhommnkaemlaaGreatEvRi
import Derived.Test.YtjhhommnkaemlaaGreatEvY
import Derived.Test.YtjhhommnkaemlaaGreatEvK
set_option linter.unusedVariables false
set_option linter.unusedSimpArgs false
set_option linter.deprecated false
set_option maxHeartbeats 1000000
namespace Go.Ev
open Go Go.RowKit
section
variable {α : Type} {L : Lay α} {S : Nat → Prop} {w : World} {E mx : Nat} {P : Program}
theorem O.Vr {t ty y : Nat} (h0 : 0 < L.n) (hE : EZ P t = some (E, L.n, y)) {a : Option Addr} {n c : Nat} {xs : List α} (h : O (AP E mx L) S w [.slice a n c] xs) {k : Nat} (hk : k < n) :
  ∃ (a' : Option Addr) (c' : Nat) (w' : World), (∀ w', sl P t (.slice a n c) none (Option.some (i64 k)) none w' = Option.some (.slice a k c, w')) ∧ (∀ w', sl P t (.slice a n c) (Option.some (i64 (k + 1 : Nat))) none none w' = Option.some (.slice a' (n - (k + 1)) c', w')) ∧
   Au P #[t, t] ty #[.slice a k c, .slice a' (n - (k + 1)) c'] w = some (.slice a (n - 1) c, w') ∧ D (AP E mx L) (fun b => S b ∧ b < w.heap.size) w' [.slice a (n - 1) c] (xs.take k ++ xs.drop (k + 1)) ∧ Mod S w w' := by
 obtain ⟨rfl, hmx, hmx2⟩ := h.n
 obtain ⟨css0, hown, hels0, hS0, _⟩ := h.un
 obtain ⟨css, S1, S2, a', c', L1, L2, d1, d2, sl1, sl2, A1, A2, dB⟩ := h.RK (P := P) (t := t) h0 hE (j := k) (k := k + 1) (by omega) (by omega)
 obtain ⟨hlen, hn9, hrow⟩ := hown
 rcases hrow with ⟨_, hz⟩ | ⟨g, cap, cur, hs, hg0, hg, hcap, hcap2, hsz, htk⟩
 ·omega
 simp only [Value.slice.injEq] at hs
 obtain ⟨rfl, _, rfl⟩ := hs
 have hgl := Aq hg
 have l1 := L1.lay
 have l2 := L2.lay
 have f1 : (css.take k).flatten.length = k * L.n := by
  rw [Bi l1.2, l1.1, List.length_take]
  congr 1
  omega
 have f2 : (css.drop (k + 1)).flatten.length = (xs.length - (k + 1)) * L.n := by
  rw [Bi l2.2, l2.1, List.length_drop]
 have hgS : S g ∧ ¬ S1 g ∧ ¬ S2 g ∧ g < w.heap.size := dB g (by simp [Av])
 have hpre : cur.toList.take (k * L.n) = (css.take k).flatten := by
  by_cases hk0 : k = 0
  ·subst hk0; simp
  ·rcases A1 with A1 | ⟨b, o, hb, _, A1⟩
   ·have := congrArg List.length A1
    rw [List.length_take] at this
    simp only [List.length_nil] at this
    omega
   ·simp only [Option.some.injEq, Addr.mk.injEq, and_true] at hb
    obtain ⟨rfl, rfl⟩ := hb
    have hm : k * L.n ≤ c * L.n := Nat.mul_le_mul_right _ (by omega)
    refine List.ext_getElem? fun j => ?_
    by_cases hj : j < k * L.n
    ·rw [List.getElem?_take_of_lt hj]
     obtain ⟨v, hv⟩ : ∃ v, (css.take k).flatten[j]? = some v := ⟨_, List.getElem?_eq_getElem (by omega)⟩
     have := A1 j v hv
     rw [hg, Bm, ← BQ, Nat.zero_add] at this
     rw [this, hv]
    ·rw [List.getElem?_eq_none (by rw [List.length_take]; omega), List.getElem?_eq_none (by omega)]
 have hall : ∀ w' : World, (∀ b, b ≠ g → hp w' b = hp w b) → BU (D L (fun b => S b ∧ b < w.heap.size) w') (css.take k ++ css.drop (k + 1)) (xs.take k ++ xs.drop (k + 1)) := fun w' hw =>
  BU.T8 (L1.d2.imp fun _ _ q => (q.Aj fun b hb hbl => hw b (fun e => hgS.2.1 (e ▸ hb))).wide fun b hb _ => ⟨(d1 b hb).1, (d1 b hb).2.2⟩) (L2.d2.imp fun _ _ q => (q.Aj fun b hb hbl => hw b (fun e => hgS.2.2.1 (e ▸ hb))).wide fun b hb _ => ⟨(d2 b hb).1, (d2 b hb).2.2⟩)
 have hll : (xs.take k ++ xs.drop (k + 1)).length = xs.length - 1 := by rw [List.length_append, List.length_take, List.length_drop]; omega
 by_cases hlast : xs.length - (k + 1) = 0
 ·have hd : css.drop (k + 1) = [] := List.eq_nil_of_length_eq_zero (by rw [l2.1, List.length_drop]; exact hlast)
  refine ⟨a', c', w, sl1, sl2, ?_, ?_, Mod.rfl⟩
  ·rw [hlast, Ge (P := P) (ty := ty) hE _ a' k c c' (by omega) w]
   rw [show xs.length - 1 = k by omega]
  ·rw [show xs.length - 1 = (xs.take k ++ xs.drop (k + 1)).length by omega]
   refine D.T9 (css := css.take k ++ css.drop (k + 1)) ⟨_, _, rfl, by omega, ?_⟩ (hall w fun _ _ => rfl) (fun b hb => ?_) (by omega)
   ·rw [hd, List.append_nil]
    rcases A1 with A1 | ⟨b, o, hb, _, A1⟩
    ·left
     apply List.eq_nil_of_length_eq_zero
     rw [f1]
     have := congrArg List.length A1
     rw [List.length_take] at this
     simp only [List.length_nil] at this
     rw [show k = 0 by omega, Nat.zero_mul]
    ·exact .inr ⟨b, o, hb, A1⟩
   ·have := dB b (by simpa [Av] using hb)
    exact ⟨⟨this.1, this.2.2.2⟩, this.2.2.2⟩
 ·obtain ⟨b2, o2, rfl, hb2, A2⟩ : ∃ b o, a' = some ⟨b, o, none⟩ ∧ (S b ∧ ¬ S1 b ∧ ¬ S2 b ∧ b < w.heap.size) ∧ At w b o (css.drop (k + 1)).flatten := by
   rcases A2 with A2 | A2
   ·have := congrArg List.length A2
    rw [List.length_drop] at this
    simp only [List.length_nil] at this
    omega
   ·exact A2
  have hm : k * L.n + (xs.length - (k + 1)) * L.n ≤ c * L.n := by
   rw [← Nat.add_mul]
   exact Nat.mul_le_mul_right _ (by omega)
  have ha := RB (P := P) (ty := ty) (n := k) (cap := c) (m := xs.length - (k + 1)) (c := c') hE hg A2 f2 L2.VC (by omega) (by omega)
  rw [show k + (xs.length - (k + 1)) = xs.length - 1 by omega] at ha
  refine ⟨some ⟨b2, o2, none⟩, c', _, sl1, sl2, ha, ?_, (Mod.rfl (S := S)).AL (.inr hgS.1) _⟩
  rw [show xs.length - 1 = (xs.take k ++ xs.drop (k + 1)).length by omega]
  refine D.T9 (css := css.take k ++ css.drop (k + 1)) ⟨_, _, rfl, by omega, .inr ⟨g, 0, rfl, fun j v hj => ?_⟩⟩ (hall _ fun b hb => Ac hb) (fun b hb => ?_) (by omega)
  ·rw [B8, hg]
   show Bn (some (.cells _ E (0, 0))) (0 + j) = _
   rw [Bm, ← BQ, Nat.zero_add]
   rw [hpre, List.flatten_append] at *
   have hjl : j < ((css.take k).flatten ++ (css.drop (k + 1)).flatten).length := (List.getElem?_eq_some_iff.1 hj).1
   show (((css.take k).flatten ++ (css.drop (k + 1)).flatten ++ _).toArray.toList)[j]? = _
   rw [List.toList_toArray, List.getElem?_append_left hjl]
   exact hj
  ·have := dB b (by simpa [Av] using hb)
   exact ⟨⟨this.1, this.2.2.2⟩, by simpa using this.2.2.2⟩
end
end Go.Ev
