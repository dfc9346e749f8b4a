/- A part of the proof, without conditions. -/
import Derived.Test.YtjhhommnkaemlaaGreatEvH
set_option linter.unusedVariables false
set_option linter.unusedSimpArgs false
set_option linter.deprecated false
namespace Go.Ev
open Go Go.RowKit
def Lay.Flat {α : Type} (L : Lay α) : Prop := ∀ o w cs a bs, L.lay o w cs a bs → bs = [] ∧ ∀ o' w', L.lay o' w' cs a []
theorem BH : Ey.Flat := by rintro o w cs a bs ⟨rfl, rfl⟩; exact ⟨rfl, fun _ _ => ⟨rfl, rfl⟩⟩
theorem BR : GH.Flat := by rintro o w cs a bs ⟨rfl, rfl⟩; exact ⟨rfl, fun _ _ => ⟨rfl, rfl⟩⟩
theorem Sk : Tq.Flat := by rintro o w cs a bs ⟨rfl, h, rfl⟩; exact ⟨rfl, fun _ _ => ⟨rfl, h, rfl⟩⟩
theorem QZ : LBool.Flat := by rintro o w cs a bs ⟨rfl, rfl⟩; exact ⟨rfl, fun _ _ => ⟨rfl, rfl⟩⟩
theorem Bs {α β : Type} {L : Lay α} {M : Lay β} (h1 : L.Flat) (h2 : M.Flat) : (BC L M).Flat := by
 rintro o w cs a bs ⟨c, d, b1, b2, rfl, h3, h4, rfl⟩
 obtain ⟨rfl, k1⟩ := h1 _ _ _ _ _ h3
 obtain ⟨rfl, k2⟩ := h2 _ _ _ _ _ h4
 exact ⟨rfl, fun o' w' => ⟨c, d, [], [], rfl, k1 o' w', k2 o' w', rfl⟩⟩
theorem IY {α β : Type} {L : Lay α} {f : β → α} (h : L.Flat) : (LR L f).Flat := fun o w cs a bs k => h o w cs (f a) bs k
section
variable {α : Type} {L : Lay α} {S S1 : Nat → Prop} {w : World} {E mx E' mx' : Nat}
theorem VA {α : Type} (ys : List α) : (ys.map fun _ => ([] : List Nat)).flatten = [] := by induction ys <;> simp_all
theorem D.flat (hf : L.Flat) (h0 : 0 < L.n) {a : Option Addr} {n c : Nat} {ys : List α} (h : D (AP E mx L) S w [.slice a n c] ys) : ∃ css, FP L (fun _ => False) w css ys ∧ (ys = [] ∨ ∃ b o, a = some ⟨b, o, none⟩ ∧ At w b o css.flatten) := by
 obtain ⟨bs, ⟨s', css, bss, he, h3, hm, ⟨a', c', e1, _, h1⟩, _⟩, _⟩ := h
 obtain ⟨rfl⟩ : .slice a n c = s' := by simpa using he
 simp only [Value.slice.injEq] at e1
 obtain ⟨rfl, rfl, rfl⟩ := e1
 refine ⟨css, ⟨ys.map fun _ => [], ?_, ?_, ?_⟩, ?_⟩
 ·have : ∀ {css : List (List Value)} {ys : List α} {bss : List (List Nat)}, Bc (L.lay false w) css ys bss → Bc (L.lay true w) css ys (ys.map fun _ => []) := by
   intro css ys bss h
   refine Bc.ind (M := fun css ys _ => Bc (L.lay true w) css ys (ys.map fun _ => [])) trivial ?_ h
   intro a l b m c n h1 _ ih
   exact ⟨(hf _ _ _ _ _ h1).2 _ _, ih⟩
  exact this h3
 ·rw [VA]; simp
 ·rw [VA]; simp
 ·cases ys with
  | nil => exact .inl rfl
  | cons y ys =>
   right
   rcases h1 with h1 | h1
   ·cases css with
    | nil => exact h3.elim
    | cons d css =>
     cases bss with
     | nil => exact h3.elim
     | cons e bss =>
      have h5 := L.len h3.1
      have h6 : d = [] := (List.append_eq_nil_iff.1 (by simpa using h1 : d ++ css.flatten = [])).1
      rw [h6] at h5
      simp at h5
      omega
   ·exact h1
theorem O.IZ {P : Program} (hf : L.Flat) {t ty y : Nat} (hE : EZ P t = some (E, L.n, y)) {z : List Value} (hz : Cg P E = some z) (hzs : z.length = L.n) (h0 : 0 < L.n) {sv : Value} {xs ys : List α} {a : Option Addr} {n c : Nat}
  (ho : O (AP E mx L) S w [sv] xs) (hx : D (AP E' mx' L) S1 w [.slice a n c] ys) (hl : xs.length + ys.length ≤ mx) (hy : mx * y ≤ 140737488355328) (hm2 : mx ≤ 140737488355328) :
  Ae (Au P #[t, t] ty #[sv, .slice a n c] w) fun r => ∃ a' c', r.1 = .slice a' (xs.length + ys.length) c' ∧
   O (AP E mx L) (fun b => S b ∨ (w.heap.size ≤ b ∧ b < r.2.heap.size)) r.2 [r.1] (xs ++ ys) ∧ Mod S w r.2 := by
 obtain ⟨hn, _⟩ := hx.n
 obtain ⟨css, h1, h2⟩ := D.flat hf h0 hx
 rcases h2 with rfl | ⟨b, o, rfl, hA⟩
 ·obtain ⟨a', c', hs, ho'⟩ := ho.Gn
  obtain rfl : sv = .slice a' xs.length c' := by simpa using hs
  have hle : xs.length ≤ c' := by
   obtain ⟨css', ⟨_, _, h3⟩, _⟩ := ho.un
   rcases h3 with ⟨h3, h4⟩ | ⟨g, cap, cur, h3, _, _, h4, _⟩
   ·omega
   ·simp only [Value.slice.injEq] at h3
    omega
  simp only [List.length_nil] at hn
  subst hn
  rw [Ge hE a' a xs.length c' c hle w]
  refine ⟨_, rfl, a', c', rfl, ?_, Mod.rfl⟩
  rw [List.append_nil]
  exact ho.wide fun b h _ => .inl h
 ·by_cases hz0 : ys.length = 0
  ·have : ys = [] := List.eq_nil_of_length_eq_zero hz0
   subst this
   obtain ⟨a', c', hs, ho'⟩ := ho.Gn
   obtain rfl : sv = .slice a' xs.length c' := by simpa using hs
   have hle : xs.length ≤ c' := by
    obtain ⟨css', ⟨_, _, h3⟩, _⟩ := ho.un
    rcases h3 with ⟨h3, h4⟩ | ⟨g, cap, cur, h3, _, _, h4, _⟩
    ·omega
    ·simp only [Value.slice.injEq] at h3
     omega
   simp only [List.length_nil] at hn
   subst hn
   rw [Ge hE a' (some ⟨b, o, none⟩) xs.length c' c hle w]
   refine ⟨_, rfl, a', c', rfl, ?_, Mod.rfl⟩
   rw [List.append_nil]
   exact ho.wide fun b h _ => .inl h
  ·refine Ae.mono (O.apps hE hz hzs h0 ho h1 (fun _ _ _ h => h) hA hn (by omega) (by omega) hy hm2) ?_
   rintro ⟨s, w1⟩ ⟨a', c', h3, h4, h5⟩
   rw [hn] at h3
   exact ⟨a', c', h3, h4.wide fun b h _ => h.elim .inl fun h => h.elim (fun h => h.elim) .inr, h5⟩
theorem O.empty {g : Nat} (h : hp w g = some (.cells #[] E (0, 0))) : O (AP E mx L) (fun b => b = g) w [.slice (some ⟨g, 0, none⟩) 0 0] ([] : List α) := by
 have hO : Il w 0 E L.n (.slice (some ⟨g, 0, none⟩) 0 0) ([] : List α).length ([] : List (List Value)).flatten :=
  ⟨by simp, by simp, .inr ⟨g, 0, #[], rfl, Nat.zero_le _, h, by simp, by omega, by simp, by simp⟩⟩
 have := O.mk (mx := mx) (S1 := fun _ => False) hO FP.nil (fun _ _ h => h) (by simp)
 exact this.wide fun b h _ => h.elim (fun h => h.elim) fun h => by simpa [Av] using h
end
section
variable {α : Type} {L : Lay α} {S S1 : Nat → Prop} {w : World} {E mx : Nat}
theorem Qo {z : List Value} {x0 : α} (h : O L (fun _ => False) w z x0) : ∀ n : Nat, FP L (fun _ => False) w (List.replicate n z) (List.replicate n x0)
 | 0 => FP.nil
 | n + 1 => by
  have := (FP.one h).app (Qo h n) (fun _ _ h => h.elim)
  rw [List.replicate_succ, List.replicate_succ]
  exact this.wide fun b h _ => h.elim id id
theorem I0 (z : List Value) : ∀ n : Nat, IW z n = (List.replicate n z).flatten
 | 0 => rfl
 | n + 1 => by rw [IW, I0 z n, List.replicate_succ, List.flatten_cons]
theorem O.make {P : Program} {t y : Nat} (hE : EZ P t = some (E, L.n, y)) {z : List Value} (hz : Cg P E = some z) (hzs : z.length = L.n) (h0 : 0 < L.n) {n : Nat} {x0 : α} (hx : ∀ w, O L (fun _ => False) w z x0) (hn : n ≤ mx) (hy : mx * y ≤ 140737488355328) (hm2 : mx ≤ 140737488355328) :
  Ae (ms P t (i64 n) (i64 n) w) fun r => r.1 = .slice (some ⟨w.heap.size, 0, none⟩) n n ∧ O (AP E mx L) (fun b => b = w.heap.size) r.2 [r.1] (List.replicate n x0) ∧ r.2.heap.size = w.heap.size + 1 ∧ Ext w r.2 := by
 have hb1 : n * y ≤ mx * y := Nat.mul_le_mul_right _ hn
 have hb2 : y * (n : Int) ≤ 281474976710656 := by
  have : (y * n : Nat) ≤ 140737488355328 := by rw [Nat.mul_comm]; omega
  have h2 : ((y * n : Nat) : Int) = (y : Int) * (n : Int) := by simp
  rw [← h2]; omega
 rw [Vz (P := P) hE hz hzs h0 (by omega) (Int.le_refl _) hb2 (by omega) w]
 refine ⟨_, rfl, by simp, ?_, by simp, Ext.alloc w _⟩
 have hO : Il (w.alloc (.cells (IW z (n : Int).toNat).toArray E)) 0 E L.n (.slice (some ⟨w.heap.size, 0, none⟩) n n) (List.replicate n x0).length (List.replicate n z).flatten := by
  refine ⟨?_, by simp; omega, .inr ⟨w.heap.size, n, _, by simp, Nat.zero_le _, An rfl, by simp, by omega, ?_, ?_⟩⟩
  ·rw [← I0, Lk, hzs, List.length_replicate]
  ·rw [List.size_toArray, Lk, hzs]; simp
  ·rw [List.length_replicate, List.toList_toArray, Int.toNat_natCast, I0, List.take_of_length_le]
   rw [← I0, Lk, hzs]; omega
 have := O.mk (mx := mx) hO (Qo (hx _) n) (fun _ _ h => h) (by simpa using hn)
 simp only [Int.toNat_natCast] at *
 exact this.wide fun b h _ => h.elim (fun h => h.elim) fun h => by simpa [Av] using h
end
theorem Xe {l : List Value} (h : l.length = 6) : ∃ a b c d e f, l = [a, b, c, d, e, f] := by
 match l, h with
 | [a, b, c, d, e, f], _ => exact ⟨a, b, c, d, e, f, rfl⟩
def Gf (xs : List Ver) (v : Ver) : List Ver :=
 match xs[v.key.toNat]? with
 | some u => if AG u.tag v.tag then xs.set v.key.toNat v else xs
 | none => xs
theorem LH {xs : List Ver} {v u : Ver} (h : xs[v.key.toNat]? = some u) (hl : AG u.tag v.tag = true) : Gf xs v = xs.set v.key.toNat v := by simp [Gf, h, hl]
theorem PQ {xs : List Ver} {v u : Ver} (h : xs[v.key.toNat]? = some u) (hl : AG u.tag v.tag = false) : Gf xs v = xs := by simp [Gf, h, hl]
section
variable {w : World} {E F B : Nat}
theorem Tn {s : Value} {ts : List Tag} (h : Bx E B w s ts) : ∃ a c, s = .slice a ts.length c ∧ O (GD E) (In B w.heap.size) w [.slice a ts.length c] ts := by
 obtain ⟨a, c, h1, h2⟩ := (Ow h).Gn
 obtain rfl : s = .slice a ts.length c := by simpa using h1
 exact ⟨a, c, rfl, h2⟩
end
end Go.Ev
