/- A part of the proof, without conditions. -/
import Derived.Test.YtkhbpmhagpljiaaGreatDoorEvI
import Derived.Test.YtkhbpmhagpljiaaGreatDoorEvT
import Derived.Test.YtkhbpmhagpljiaaGreatDoorEvF2
import Derived.Test.YtkhbpmhagpljiaaGreatDoorEvF5
import Derived.Test.YtkhbpmhagpljiaaGreatDoorEvJ
import Derived.Test.YtkhbpmhagpljiaaGreatDoorEvO
import Derived.Test.YtkhbpmhagpljiaaGreatDoorEvX
import Derived.Test.YtkhbpmhagpljiaaGreatDoorEvHj
import Derived.Test.YtkhbpmhagpljiaaGreatDoorEvL
import Derived.Test.YtkhbpmhagpljiaaGreatDoorEvLt
import Derived.Test.YtkhbpmhagpljiaaGreatDoorEvN
set_option linter.unusedVariables false
set_option linter.unusedSimpArgs false
set_option linter.deprecated false
set_option maxRecDepth 100000
namespace Go.Proofs.YtkhbpmhagpljiaaGreatDoor.X
open Go Go.Ev Go.RowKit
theorem AH (n a b : Int) (w : World) : Ad (EV P 50 #[i64 n, i64 a, i64 b] w) fun r => r = (.bool (decide (a ≤ n) && decide (n ≤ b)), w) := by
 refine Ad.enter plain mixed (Om _ _ _ _) (by kernel_rfl) (n := 3) (by kernel_rfl) rfl ?_
 cases h : decide (a ≤ n) <;> simp (disch := first | omega | (simp only [World.size_alloc, size_setRow, Ae]; done) | (simp only [World.size_alloc, size_setRow, Ae]; omega) | (simp only [List.length_set, Array.length_toList]; omega)) [-Option.bind_some, h]
theorem C5 (n a b : Int) (w : World) : Ad (EV P 36 #[i64 n, i64 a, i64 b] w) fun r => r = (.bool (decide (a ≤ n) && decide (n ≤ b)), w) := by
 refine Ad.enter plain mixed (Ll _ _ _ _) (by kernel_rfl) (n := 3) (by kernel_rfl) rfl ?_
 cases h : decide (a ≤ n) <;> simp (disch := first | omega | (simp only [World.size_alloc, size_setRow, Ae]; done) | (simp only [World.size_alloc, size_setRow, Ae]; omega) | (simp only [List.length_set, Array.length_toList]; omega)) [-Option.bind_some, h]
theorem LQ (n : Int) (w : World) : Ad (EV P 57 #[i64 n] w) fun r => r = (.bool (decide (0 ≤ n) && decide (n ≤ 2)), w) := by
 refine Ad.enter plain mixed (KE _ _) (by kernel_rfl) (n := 1) (by kernel_rfl) rfl ?_
 simp (disch := first | omega | (simp only [World.size_alloc, size_setRow, Ae]; done) | (simp only [World.size_alloc, size_setRow, Ae]; omega) | (simp only [List.length_set, Array.length_toList]; omega)) [-Option.bind_some]
 refine Ad.bind (C5 n 0 2 w) ?_
 rintro _ rfl
 simp (disch := first | omega | (simp only [World.size_alloc, size_setRow, Ae]; done) | (simp only [World.size_alloc, size_setRow, Ae]; omega) | (simp only [List.length_set, Array.length_toList]; omega)) [-Option.bind_some]
theorem LR (x : Tag) (w : World) : Ad (EV P 49 #[x.v] w) fun r => r.1 = .bool (Cq x) ∧ Ext w r.2 := by
 refine Ad.enter plain mixed (KC _ _) (by kernel_rfl) (n := 1) (by kernel_rfl) rfl ?_
 cases h : ((x.t == 0) && (x.p == 0))
 ·simp (disch := first | omega | (simp only [World.size_alloc, size_setRow, Ae]; done) | (simp only [World.size_alloc, size_setRow, Ae]; omega) | (simp only [List.length_set, Array.length_toList]; omega)) [-Option.bind_some, Ar, h]
  refine Ad.bind (AH _ _ _ _) ?_
  rintro _ rfl
  cases h1 : (decide (1 ≤ x.t) && decide (x.t ≤ 999))
  ·simp (disch := first | omega | (simp only [World.size_alloc, size_setRow, Ae]; done) | (simp only [World.size_alloc, size_setRow, Ae]; omega) | (simp only [List.length_set, Array.length_toList]; omega)) [-Option.bind_some, h1, Ext.alloc, Cq, h]
  ·simp (disch := first | omega | (simp only [World.size_alloc, size_setRow, Ae]; done) | (simp only [World.size_alloc, size_setRow, Ae]; omega) | (simp only [List.length_set, Array.length_toList]; omega)) [-Option.bind_some, Ar]
   refine Ad.bind (AH _ _ _ _) ?_
   rintro _ rfl
   simp (disch := first | omega | (simp only [World.size_alloc, size_setRow, Ae]; done) | (simp only [World.size_alloc, size_setRow, Ae]; omega) | (simp only [List.length_set, Array.length_toList]; omega)) [-Option.bind_some, Ext.alloc, Cq, h, h1]
 ·simp (disch := first | omega | (simp only [World.size_alloc, size_setRow, Ae]; done) | (simp only [World.size_alloc, size_setRow, Ae]; omega) | (simp only [List.length_set, Array.length_toList]; omega)) [-Option.bind_some, Ar, h, Ext.alloc, Cq]
theorem Jf (x : Tag) (w : World) : Ad (EV P 38 #[x.v] w) fun r => r.1 = .bool (Cq x) ∧ Ext w r.2 := by
 refine Ad.enter plain mixed (MI _ _) (by kernel_rfl) (n := 1) (by kernel_rfl) rfl ?_
 cases h : ((x.t == 0) && (x.p == 0))
 ·simp (disch := first | omega | (simp only [World.size_alloc, size_setRow, Ae]; done) | (simp only [World.size_alloc, size_setRow, Ae]; omega) | (simp only [List.length_set, Array.length_toList]; omega)) [-Option.bind_some, Ar, h]
  refine Ad.bind (C5 _ _ _ _) ?_
  rintro _ rfl
  cases h1 : (decide (1 ≤ x.t) && decide (x.t ≤ 999))
  ·simp (disch := first | omega | (simp only [World.size_alloc, size_setRow, Ae]; done) | (simp only [World.size_alloc, size_setRow, Ae]; omega) | (simp only [List.length_set, Array.length_toList]; omega)) [-Option.bind_some, h1, Ext.alloc, Cq, h]
  ·simp (disch := first | omega | (simp only [World.size_alloc, size_setRow, Ae]; done) | (simp only [World.size_alloc, size_setRow, Ae]; omega) | (simp only [List.length_set, Array.length_toList]; omega)) [-Option.bind_some, Ar]
   refine Ad.bind (LQ _ _) ?_
   rintro _ rfl
   simp (disch := first | omega | (simp only [World.size_alloc, size_setRow, Ae]; done) | (simp only [World.size_alloc, size_setRow, Ae]; omega) | (simp only [List.length_set, Array.length_toList]; omega)) [-Option.bind_some, Ext.alloc, Cq, h, h1]
 ·simp (disch := first | omega | (simp only [World.size_alloc, size_setRow, Ae]; done) | (simp only [World.size_alloc, size_setRow, Ae]; omega) | (simp only [List.length_set, Array.length_toList]; omega)) [-Option.bind_some, Ar, h, Ext.alloc, Cq]
theorem AN (x y : Tag) (w : World) : Ad (EV P 133 #[x.v, y.v] w) fun r => r.1 = .bool (Bv x y) ∧ Ext w r.2 := by
 refine Ad.enter plain mixed (LJ _ _ _) (by kernel_rfl) (n := 2) (by kernel_rfl) rfl ?_
 cases h1 : decide (x.t < y.t)
 ·cases h2 : (x.t == y.t)
  ·simp (disch := first | omega | (simp only [World.size_alloc, size_setRow, Ae]; done) | (simp only [World.size_alloc, size_setRow, Ae]; omega) | (simp only [List.length_set, Array.length_toList]; omega)) [-Option.bind_some, Ah, Ar, h1, h2, Bv]
   (repeat (first | exact Ext.rfl | assumption | (refine Ext.al ?_ _) | (refine Ext.dw ?_) | (refine Ext.set ?_ (by first | omega | (simp only [World.size_alloc, size_setRow, Ae]; omega)) _) | (refine Ext.tr ?_ (by assumption))))
  ·simp (disch := first | omega | (simp only [World.size_alloc, size_setRow, Ae]; done) | (simp only [World.size_alloc, size_setRow, Ae]; omega) | (simp only [List.length_set, Array.length_toList]; omega)) [-Option.bind_some, Ah, Ar, h1, h2, Bv]
   (repeat (first | exact Ext.rfl | assumption | (refine Ext.al ?_ _) | (refine Ext.dw ?_) | (refine Ext.set ?_ (by first | omega | (simp only [World.size_alloc, size_setRow, Ae]; omega)) _) | (refine Ext.tr ?_ (by assumption))))
 ·simp (disch := first | omega | (simp only [World.size_alloc, size_setRow, Ae]; done) | (simp only [World.size_alloc, size_setRow, Ae]; omega) | (simp only [List.length_set, Array.length_toList]; omega)) [-Option.bind_some, Ah, Ar, h1, Bv]
  (repeat (first | exact Ext.rfl | assumption | (refine Ext.al ?_ _) | (refine Ext.dw ?_) | (refine Ext.set ?_ (by first | omega | (simp only [World.size_alloc, size_setRow, Ae]; omega)) _) | (refine Ext.tr ?_ (by assumption))))
theorem Jg (x y : Tag) (w : World) : Ad (EV P 145 #[x.v, y.v] w) fun r => r.1 = (Ft x y).v ∧ Ext w r.2 := by
 refine Ad.enter plain mixed (Nd _ _ _) (by kernel_rfl) (n := 2) (by kernel_rfl) rfl ?_
 simp (disch := first | omega | (simp only [World.size_alloc, size_setRow, Ae]; done) | (simp only [World.size_alloc, size_setRow, Ae]; omega) | (simp only [List.length_set, Array.length_toList]; omega)) [-Option.bind_some, Ah, Ar]
 refine Ad.bind (AN x y _) ?_
 rintro ⟨_, w1⟩ ⟨rfl, hE⟩
 have hs := hE.size
 simp only [World.size_alloc] at hs
 cases h : Bv x y
 ·simp (disch := first | omega | (simp only [World.size_alloc, size_setRow, Ae]; done) | (simp only [World.size_alloc, size_setRow, Ae]; omega) | (simp only [List.length_set, Array.length_toList]; omega)) [-Option.bind_some, Ah, Ar, Ft, h, hE.Ai]
  (repeat (first | exact Ext.rfl | assumption | (refine Ext.al ?_ _) | (refine Ext.dw ?_) | (refine Ext.set ?_ (by first | omega | (simp only [World.size_alloc, size_setRow, Ae]; omega)) _) | (refine Ext.tr ?_ (by assumption))))
 ·simp (disch := first | omega | (simp only [World.size_alloc, size_setRow, Ae]; done) | (simp only [World.size_alloc, size_setRow, Ae]; omega) | (simp only [List.length_set, Array.length_toList]; omega)) [-Option.bind_some, Ah, Ar, Ft, h, hE.Ai]
  (repeat (first | exact Ext.rfl | assumption | (refine Ext.al ?_ _) | (refine Ext.dw ?_) | (refine Ext.set ?_ (by first | omega | (simp only [World.size_alloc, size_setRow, Ae]; omega)) _) | (refine Ext.tr ?_ (by assumption))))
theorem KL {s : ByteArray} (hs : s.size ≤ 140737488351232) : ∀ (d k : Nat) (e : Env) (w : World), k + d = s.size → e 0 = .string s → e 3 = i64 k →
  Ad (CN e w) fun r => r = (.bool ((s.toList.drop k).all HJ && decide ((s.size : Int) ≤ 8)), w) := by
 intro d
 induction d with
 | zero =>
  intro k e w hd h0 h3
  rw [ET]
  simp (disch := first | omega | (simp only [World.size_alloc, size_setRow, Ae]; done) | (simp only [World.size_alloc, size_setRow, Ae]; omega) | (simp only [List.length_set, Array.length_toList]; omega)) [-Option.bind_some, h0, h3, show ¬ k < s.size by omega]
  rw [List.drop_eq_nil_of_le (by rw [NO]; omega)]
  simp
 | succ d ih =>
  intro k e w hd h0 h3
  rw [ET]
  have hlt : k < s.size := by omega
  obtain ⟨b, hb, hdx⟩ := Al (l := s.toList) (k := k) (by rw [NO]; omega)
  have hix := fun w => VC (P := P) (t := 9) (by kernel_rfl) s (i := k) (by omega) (b := b) (by simpa using hb) w
  rw [hdx]
  cases hb1 : decide ((b.toNat : Int) < 33)
  ·cases hb2 : decide ((b.toNat : Int) > 126)
   ·simp (disch := first | omega | (simp only [World.size_alloc, size_setRow, Ae]; done) | (simp only [World.size_alloc, size_setRow, Ae]; omega) | (simp only [List.length_set, Array.length_toList]; omega)) [-Option.bind_some, h0, h3, hlt, hix, hb1, hb2]
    refine Ad.mono (ih (k + 1) _ w (by omega) h0 (congrArg i64 (HH (by omega) (by omega)))) ?_
    rintro _ rfl
    simp only [decide_eq_false_iff_not] at hb1 hb2
    have hby : HJ b = true := by simp only [HJ, Bool.and_eq_true, decide_eq_true_eq]; omega
    simp [hby]
   ·simp (disch := first | omega | (simp only [World.size_alloc, size_setRow, Ae]; done) | (simp only [World.size_alloc, size_setRow, Ae]; omega) | (simp only [List.length_set, Array.length_toList]; omega)) [-Option.bind_some, h0, h3, hlt, hix, hb1, hb2]
    simp only [decide_eq_true_eq] at hb2
    have hby : HJ b = false := by simp only [HJ, Bool.and_eq_false_iff, decide_eq_false_iff_not]; omega
    simp [hby]
  ·simp (disch := first | omega | (simp only [World.size_alloc, size_setRow, Ae]; done) | (simp only [World.size_alloc, size_setRow, Ae]; omega) | (simp only [List.length_set, Array.length_toList]; omega)) [-Option.bind_some, h0, h3, hlt, hix, hb1]
   simp only [decide_eq_true_eq] at hb1
   have hby : HJ b = false := by simp only [HJ, Bool.and_eq_false_iff, decide_eq_false_iff_not]; omega
   simp [hby]
theorem KM {s : ByteArray} (hs : s.size ≤ 140737488351232) (w : World) : Ad (EV P 128 #[.string s] w) fun r => r = (.bool (Tc s), w) := by
 refine Ad.enter plain mixed (J1 _ _) (by kernel_rfl) (n := 1) (by kernel_rfl) rfl ?_
 simp (disch := first | omega | (simp only [World.size_alloc, size_setRow, Ae]; done) | (simp only [World.size_alloc, size_setRow, Ae]; omega) | (simp only [List.length_set, Array.length_toList]; omega)) [-Option.bind_some]
 exact KL hs s.size 0 _ w (by omega) rfl rfl
theorem KN {s u : Value} {xs ys : List Tag} {b c t t' : Nat} (hx4 : xs.length = 4) (hy4 : ys.length = 4) : ∀ (d k : Nat) (e : Env) (w : World), k + d = 4 → e 2 = pt b 0 → e 3 = pt c 0 → e 5 = i64 k →
  hp w b = some (.cells #[s] t (0, 0)) → hp w c = some (.cells #[u] t' (0, 0)) → BZ w s xs → BZ w u ys →
  Ad (CO e w) fun r => r.1 = .bool (under (xs.drop k) (ys.drop k)) ∧ Ext w r.2 := by
 intro d
 induction d with
 | zero =>
  intro k e w hd h2 h3 h5 hx hy ha hb
  rw [EU]
  obtain rfl : k = 4 := by omega
  simp (disch := first | omega | (simp only [World.size_alloc, size_setRow, Ae]; done) | (simp only [World.size_alloc, size_setRow, Ae]; omega) | (simp only [List.length_set, Array.length_toList]; omega)) [-Option.bind_some, h5]
  rw [List.drop_eq_nil_of_le (by omega)]
  exact ⟨rfl, by (repeat (first | exact Ext.rfl | assumption | (refine Ext.al ?_ _) | (refine Ext.dw ?_) | (refine Ext.set ?_ (by first | omega | (simp only [World.size_alloc, size_setRow, Ae]; omega)) _) | (refine Ext.tr ?_ (by assumption))))⟩
 | succ d ih =>
  intro k e w hd h2 h3 h5 hx hy ha hb
  rw [EU]
  have hlt : k < xs.length := by omega
  obtain ⟨x, hxk, hdx⟩ := Al hlt
  obtain ⟨y, hyk, hdy⟩ := Al (show k < ys.length by omega)
  obtain ⟨b1, o1, c1, hs1, hA⟩ := ha.at hxk
  obtain ⟨b2, o2, c2, hs2, hB⟩ := hb.at hyk
  have p0 := hA 0 _ rfl
  have p1 := hA 1 _ rfl
  have q0 := hB 0 _ rfl
  have q1 := hB 1 _ rfl
  simp only [Nat.add_zero] at p0 q0
  subst hs1
  subst hs2
  simp (disch := first | omega | (simp only [World.size_alloc, size_setRow, Ae]; done) | (simp only [World.size_alloc, size_setRow, Ae]; omega) | (simp only [List.length_set, Array.length_toList]; omega)) [-Option.bind_some, h2, h3, h5, hx, hy, hx4, hy4, show (k : Int) < 4 by omega, JT, p0, p1, q0, q1]
  refine Ad.bind (AN y x _) ?_
  rintro ⟨_, w1⟩ ⟨rfl, hE⟩
  have hE' : Ext w w1 := (Cs w).tr hE
  cases hl : Bv y x
  ·simp (disch := first | omega | (simp only [World.size_alloc, size_setRow, Ae]; done) | (simp only [World.size_alloc, size_setRow, Ae]; omega) | (simp only [List.length_set, Array.length_toList]; omega)) [-Option.bind_some]
   refine Ad.mono (ih (k + 1) _ w1 (by omega) h2 h3 (congrArg i64 (HH (by omega) (by omega))) ((hE'.Ai (Ao hx)).trans hx) ((hE'.Ai (Ao hy)).trans hy) (ha.mono (Ext.Aj hE')) (hb.mono (Ext.Aj hE'))) ?_
   rintro r ⟨h6, h7⟩
   exact ⟨by rw [h6, hdx, hdy]; simp [under, hl], hE'.tr h7⟩
  ·simp (disch := first | omega | (simp only [World.size_alloc, size_setRow, Ae]; done) | (simp only [World.size_alloc, size_setRow, Ae]; omega) | (simp only [List.length_set, Array.length_toList]; omega)) [-Option.bind_some]
   exact ⟨by rw [hdx, hdy]; simp [under, hl], hE'⟩
theorem EO {s u : Value} {xs ys : List Tag} (hx4 : xs.length = 4) (hy4 : ys.length = 4) {w : World} (ha : BZ w s xs) (hb : BZ w u ys) : Ad (EV P 136 #[.agg #[s], .agg #[u]] w) fun r => r.1 = .bool (under xs ys) ∧ Ext w r.2 := by
 have ha' := ha
 have hb' := hb
 obtain ⟨aa, ca, hs, hm⟩ := ha.len
 obtain ⟨ab, cb, hu, _⟩ := hb.len
 subst hs
 subst hu
 refine Ad.enter plain mixed (J3 _ _ _) (by kernel_rfl) (n := 2) (by kernel_rfl) rfl ?_
 simp (disch := first | omega | (simp only [World.size_alloc, size_setRow, Ae]; done) | (simp only [World.size_alloc, size_setRow, Ae]; omega) | (simp only [List.length_set, Array.length_toList]; omega)) [-Option.bind_some]
 refine Ad.mono (KN hx4 hy4 4 0 _ _ (by omega) rfl rfl rfl ((Ah (by simp)).trans (Ar rfl)) (Ar (by simp)) (ha'.mono (Ext.Aj (by (repeat (first | exact Ext.rfl | assumption | (refine Ext.al ?_ _) | (refine Ext.dw ?_) | (refine Ext.set ?_ (by first | omega | (simp only [World.size_alloc, size_setRow, Ae]; omega)) _) | (refine Ext.tr ?_ (by assumption))))))) (hb'.mono (Ext.Aj (by (repeat (first | exact Ext.rfl | assumption | (refine Ext.al ?_ _) | (refine Ext.dw ?_) | (refine Ext.set ?_ (by first | omega | (simp only [World.size_alloc, size_setRow, Ae]; omega)) _) | (refine Ext.tr ?_ (by assumption)))))))) ?_
 rintro r ⟨h1, h2⟩
 exact ⟨h1, (Ext.al (Ext.al Ext.rfl _) _).tr h2⟩
theorem Nh {s : Value} {vs : List Ver} {b1 b2 b3 t1 B : Nat} {w0 : World} (hb1 : b1 < B) (hb2 : b2 < B) (hb3 : b3 < B) (h0b2 : w0.heap.size ≤ b2) (h0b3 : w0.heap.size ≤ b3) (h21 : b2 ≠ b1) (h31 : b3 ≠ b1) (h32 : b3 ≠ b2) : ∀ (d k : Nat) (e : Env) (w : World) (sv c0 : Value), k + d = vs.length → e 1 = pt b1 0 → e 2 = pt b2 0 → e 3 = pt b3 0 → e 4 = i64 k →
  hp w b1 = some (.cells #[s] t1 (0, 0)) → hp w b2 = some (.cells #[c0] 106 (0, 0)) → hp w b3 = some (.cells #[sv] 106 (0, 0)) → Jn w0 s vs → Ext w0 w → B ≤ w.heap.size →
  C6 39 B w sv (Ct (vs.take k)) →
  Ad (DY e w) fun r => ∃ s', r.1 = .agg #[s'] ∧ C6 39 B r.2 s' (Ct vs) ∧ Ext w0 r.2 := by
 intro d
 induction d with
 | zero =>
  intro k e w sv c0 hd h1 h2 h3 h4 hx1 hx2 hx3 ha hE hBw hf
  obtain ⟨aa, ca, hs, hm⟩ := ha.len
  rw [FR]
  subst hs
  obtain ⟨ab, cb, hsv, _⟩ := hf.r.len
  subst hsv
  simp (disch := first | omega | (simp only [World.size_alloc, size_setRow, Ae]; done) | (simp only [World.size_alloc, size_setRow, Ae]; omega) | (simp only [List.length_set, Array.length_toList]; omega)) [-Option.bind_some, h1, h2, h3, h4, hx1, hx2, hx3, show ¬ k < vs.length by omega]
  rw [List.take_of_length_le (by omega)] at hf ⊢
  refine ⟨hf.Aj fun b hb => Ac ?_, by (repeat (first | exact Ext.rfl | assumption | (refine Ext.al ?_ _) | (refine Ext.dw ?_) | (refine Ext.set ?_ (by first | omega | (simp only [World.size_alloc, size_setRow, Ae]; omega)) _) | (refine Ext.tr ?_ (by assumption))))⟩
  have := (hf.lt b hb).1
  omega
 | succ d ih =>
  intro k e w sv c0 hd h1 h2 h3 h4 hx1 hx2 hx3 ha hE hBw hf
  rw [FR]
  have hlt : k < vs.length := by omega
  obtain ⟨v, hv, hdx⟩ := Al hlt
  obtain ⟨_, _, _, hm⟩ := ha.len
  obtain ⟨bb, oo, cc, cs, hs1, hA0, hcs0⟩ := ha.at hv
  have hA := hA0.mono (Ext.Aj hE)
  obtain ⟨sp, rfl, _, _⟩ := hcs0
  have p1 := hA 1 _ rfl
  have p2 := hA 2 _ rfl
  have hbl := Ao hx3
  have hbb : bb < w.heap.size := hA.lt
  subst hs1
  obtain ⟨ab, cb, hsv, hfl⟩ := hf.r.len
  subst hsv
  have htl : (Ct (vs.take k)).length = k := by simp [Ct]; omega
  simp (disch := first | omega | (simp only [World.size_alloc, size_setRow, Ae]; done) | (simp only [World.size_alloc, size_setRow, Ae]; omega) | (simp only [List.length_set, Array.length_toList]; omega)) [-Option.bind_some, Ah, h1, h3, h4, hx1, hx3, hlt, Cd, p1, p2]
  refine Ad.bind (QK (x := v.tag) Dj (by kernel_rfl) (hf.Aj fun b hb => (Ah (by simp only [Ae]; exact (hf.lt b hb).2)).trans (BU w b)) (by simp only [World.size_alloc, Ae]; omega) ?_ (by omega)) ?_
  ·intro j u hj
   rw [Ar (by simp only [Ae]), Bn, ← Cr, Nat.zero_add]
   exact hj
  rintro ⟨s', w1⟩ ⟨hf1, hBut⟩
  have hk1 : ∀ b, b < B → hp w1 b = hp w b := fun b hb => (hBut.Ai b (by simp only [World.size_alloc, Ae]; omega) (fun e => absurd (hf.lt b (Option.mem_toList.2 e)).1 (by omega))).trans ((Ah (by simp only [Ae]; omega)).trans (BU w b))
  have hE1 : Ext w0 w1 := Ext.ZA (b := (dw w).alloc _) (by (repeat (first | exact Ext.rfl | assumption | (refine Ext.al ?_ _) | (refine Ext.dw ?_) | (refine Ext.set ?_ (by first | omega | (simp only [World.size_alloc, size_setRow, Ae]; omega)) _) | (refine Ext.tr ?_ (by assumption))))) hBut fun x hx => by have := (hf.lt x (Option.mem_toList.2 hx)).1; omega
  have hsz : w.heap.size < w1.heap.size := by have := hBut.size; simp only [World.size_alloc, Ae] at this; omega
  obtain ⟨ac, c3, hsv, hfl1⟩ := hf1.r.len
  subst hsv
  simp (disch := first | omega | (simp only [World.size_alloc, size_setRow, Ae]; done) | (simp only [World.size_alloc, size_setRow, Ae]; omega) | (simp only [List.length_set, Array.length_toList]; omega)) [-Option.bind_some, hk1, hx3]
  refine Ad.mono (ih (k + 1) _ _ _ c0 (by omega) h1 h2 h3 (congrArg i64 (HH (by omega) (by omega))) ((Ac (by omega)).trans ((hk1 _ hb1).trans hx1)) ((Ac (by omega)).trans ((hk1 _ hb2).trans hx2)) (by rw [El, hk1 _ hb3, hx3]; rfl) ha (by (repeat (first | exact Ext.rfl | assumption | (refine Ext.al ?_ _) | (refine Ext.dw ?_) | (refine Ext.set ?_ (by first | omega | (simp only [World.size_alloc, size_setRow, Ae]; omega)) _) | (refine Ext.tr ?_ (by assumption))))) (by simp; omega) ?_) fun _ h => h
  rw [HV hv]
  have : Ct (vs.take k ++ [v]) = Ct (vs.take k) ++ [v.tag] := by simp [Ct]
  rw [this]
  have hf2 : ∀ cs, C6 39 B (w1.setRow b3 cs) _ (Ct (vs.take k) ++ [v.tag]) := fun cs => hf1.Aj fun b hb => Ac (by have := (hf1.lt b hb).1; omega)
  simpa using hf2 _
theorem Ni {s : Value} {vs : List Ver} {w : World} (ha : Jn w s vs) : Ad (EV P 137 #[.agg #[s]] w) fun r => ∃ s', r.1 = .agg #[s'] ∧ C6 39 w.heap.size r.2 s' (Ct vs) ∧ Ext w r.2 := by
 have ha' := ha
 obtain ⟨aa, ca, hs, hm⟩ := ha.len
 subst hs
 refine Ad.enter plain mixed (LM _ _) (by kernel_rfl) (n := 1) (by kernel_rfl) rfl ?_
 simp (disch := first | omega | (simp only [World.size_alloc, size_setRow, Ae]; done) | (simp only [World.size_alloc, size_setRow, Ae]; omega) | (simp only [List.length_set, Array.length_toList]; omega)) [-Option.bind_some, Ar]
 refine Ad.mono (Nh (s := .slice aa vs.length ca) (vs := vs) (b1 := w.heap.size) (b2 := w.heap.size + 1) (b3 := w.heap.size + 2) (B := w.heap.size + 3) (w0 := w) (t1 := 156) (by omega) (by omega) (by omega) (by omega) (by omega) (by omega) (by omega) (by omega) vs.length 0 _ _ _ _ (by omega) rfl rfl rfl rfl
  (by simp (disch := first | omega | (simp only [World.size_alloc, size_setRow, Ae]; done) | (simp only [World.size_alloc, size_setRow, Ae]; omega) | (simp only [List.length_set, Array.length_toList]; omega)) [-Option.bind_some, Ah, Ar, Ac]; first | done | rfl) (by simp (disch := first | omega | (simp only [World.size_alloc, size_setRow, Ae]; done) | (simp only [World.size_alloc, size_setRow, Ae]; omega) | (simp only [List.length_set, Array.length_toList]; omega)) [-Option.bind_some, Ah, Ar, Ac]; first | done | rfl) (by simp (disch := first | omega | (simp only [World.size_alloc, size_setRow, Ae]; done) | (simp only [World.size_alloc, size_setRow, Ae]; omega) | (simp only [List.length_set, Array.length_toList]; omega)) [-Option.bind_some, Ar]; first | done | rfl) ha' (by (repeat (first | exact Ext.rfl | assumption | (refine Ext.al ?_ _) | (refine Ext.dw ?_) | (refine Ext.set ?_ (by first | omega | (simp only [World.size_alloc, size_setRow, Ae]; omega)) _) | (refine Ext.tr ?_ (by assumption))))) (by simp) ⟨Kp.nil _ _ _ _, by simp [Ct]⟩) ?_
 rintro ⟨_, w1⟩ ⟨s', rfl, hf, hE⟩
 exact ⟨s', rfl, hf.from (by omega), hE⟩
theorem Ov (n : Int) (w : World) : Ad (EV P 37 #[i64 n] w) fun r => r = (.bool (UN n), w) := by
 refine Ad.enter plain mixed (MH _ _) (by kernel_rfl) (n := 1) (by kernel_rfl) rfl ?_
 simp (disch := first | omega | (simp only [World.size_alloc, size_setRow, Ae]; done) | (simp only [World.size_alloc, size_setRow, Ae]; omega) | (simp only [List.length_set, Array.length_toList]; omega)) [-Option.bind_some]
 refine Ad.bind (C5 _ _ _ _) ?_
 rintro _ rfl
 simp (disch := first | omega | (simp only [World.size_alloc, size_setRow, Ae]; done) | (simp only [World.size_alloc, size_setRow, Ae]; omega) | (simp only [List.length_set, Array.length_toList]; omega)) [-Option.bind_some]
 rfl
theorem Nj {s u : Value} {xs ys : List Tag} {b1 b2 b3 b4 t1 t2 B : Nat} {w0 : World} (hx4 : xs.length = 4) (hy4 : ys.length = 4) (hb1 : b1 < B) (hb2 : b2 < B) (hb3 : b3 < B) (hb4 : b4 < B) (h03 : w0.heap.size ≤ b3) (h04 : w0.heap.size ≤ b4) (h41 : b4 ≠ b1) (h42 : b4 ≠ b2) (h43 : b4 ≠ b3) :
  ∀ (d k : Nat) (e : Env) (w : World) (sv c0 : Value), k + d = 4 → e 2 = pt b1 0 → e 3 = pt b2 0 → e 4 = pt b3 0 → e 5 = pt b4 0 → e 6 = i64 k →
  hp w b1 = some (.cells #[s] t1 (0, 0)) → hp w b2 = some (.cells #[u] t2 (0, 0)) → hp w b3 = some (.cells #[c0] 106 (0, 0)) → hp w b4 = some (.cells #[sv] 106 (0, 0)) → BZ w0 s xs → BZ w0 u ys → Ext w0 w → B ≤ w.heap.size →
  C6 39 B w sv ((CS xs ys).take k) →
  Ad (DX e w) fun r => ∃ s', r.1 = .agg #[s'] ∧ C6 39 B r.2 s' (CS xs ys) ∧ Ext w0 r.2 := by
 have hjl : (CS xs ys).length = 4 := by rw [G4 (by omega), hx4]
 intro d
 induction d with
 | zero =>
  intro k e w sv c0 hd h2 h3 h4 h5 h6 hx1 hx2 hx3 hx4 ha hb hE hBw hf
  rw [FQ]
  obtain rfl : k = 4 := by omega
  rw [List.take_of_length_le (by omega)] at hf
  obtain ⟨ab, cb, hsv, _⟩ := hf.r.len
  subst hsv
  simp (disch := first | omega | (simp only [World.size_alloc, size_setRow, Ae]; done) | (simp only [World.size_alloc, size_setRow, Ae]; omega) | (simp only [List.length_set, Array.length_toList]; omega)) [-Option.bind_some, h4, h5, h6, hx3, hx4]
  refine ⟨hf.Aj fun b hb => Ac ?_, by (repeat (first | exact Ext.rfl | assumption | (refine Ext.al ?_ _) | (refine Ext.dw ?_) | (refine Ext.set ?_ (by first | omega | (simp only [World.size_alloc, size_setRow, Ae]; omega)) _) | (refine Ext.tr ?_ (by assumption))))⟩
  have := (hf.lt b hb).1
  omega
 | succ d ih =>
  intro k e w sv c0 hd h2 h3 h4 h5 h6 hx1 hx2 hx3 hx4' ha hb hE hBw hf
  rw [FQ]
  have hlt : k < xs.length := by omega
  have hlt' : k < ys.length := by omega
  obtain ⟨x, hxk, _⟩ := Al hlt
  obtain ⟨y, hyk, _⟩ := Al hlt'
  obtain ⟨d1, o1, c1, hs1, hA⟩ := (ha.mono (Ext.Aj hE)).at hxk
  obtain ⟨d2, o2, c2, hs2, hB⟩ := (hb.mono (Ext.Aj hE)).at hyk
  have p0 := hA 0 _ rfl
  have p1 := hA 1 _ rfl
  have q0 := hB 0 _ rfl
  have q1 := hB 1 _ rfl
  simp only [Nat.add_zero] at p0 q0
  subst hs1
  subst hs2
  obtain ⟨ab, cb, hsv, hfl⟩ := hf.r.len
  subst hsv
  have htl : ((CS xs ys).take k).length = k := by rw [List.length_take]; omega
  rw [htl] at hf hx4' hfl
  simp (disch := first | omega | (simp only [World.size_alloc, size_setRow, Ae]; done) | (simp only [World.size_alloc, size_setRow, Ae]; omega) | (simp only [List.length_set, Array.length_toList]; omega)) [-Option.bind_some, h2, h3, h5, h6, hx1, hx2, hx4', hx4, hy4, show (k : Int) < 4 by omega, JT, p0, p1, q0, q1]
  refine Ad.bind (Jg x y _) ?_
  rintro ⟨_, w1⟩ ⟨rfl, hE1⟩
  have hE1' : Ext w w1 := (Cs w).tr hE1
  have z1 := hE1'.size
  have Y4 := (hE1'.Ai (Ao hx4')).trans hx4'
  have ly4 := Ao Y4
  have hf1 := hf.Aj (w' := w1) fun b hb => hE1'.Ai (hf.lt b hb).2
  simp (disch := first | omega | (simp only [World.size_alloc, size_setRow, Ae]; done) | (simp only [World.size_alloc, size_setRow, Ae]; omega) | (simp only [List.length_set, Array.length_toList]; omega)) [-Option.bind_some, Ah, Y4]
  refine Ad.bind (QK (x := Ft x y) Dj (by kernel_rfl) (hf1.Aj fun b hb => Ah (hf1.lt b hb).2) (by simp only [World.size_alloc]; omega) ?_ (by omega)) ?_
  ·intro j u hj
   rw [Ar rfl, Bn, ← Cr, Nat.zero_add]
   exact hj
  rintro ⟨s', w2⟩ ⟨hf2, hBut⟩
  have hk2 : ∀ b, b < B → hp w2 b = hp w b := fun b hb => (hBut.Ai b (by simp only [World.size_alloc]; omega) (fun e => absurd (hf.lt b (Option.mem_toList.2 e)).1 (by omega))).trans ((Ah (by omega)).trans (hE1'.Ai (by omega)))
  have hE2 : Ext w0 w2 := Ext.ZA (b := w1.alloc _) ((hE.tr hE1').al _) hBut fun x hx => by have := (hf.lt x (Option.mem_toList.2 hx)).1; omega
  have hsz : w1.heap.size < w2.heap.size := by have := hBut.size; simp only [World.size_alloc] at this; omega
  obtain ⟨ac, c3, hsv, hfl1⟩ := hf2.r.len
  have e1 : ((CS xs ys).take k ++ [Ft x y]).length = k + 1 := by rw [List.length_append, htl]; rfl
  try dsimp only at hsv
  rw [e1] at hsv
  subst hsv
  simp (disch := first | omega | (simp only [World.size_alloc, size_setRow, Ae]; done) | (simp only [World.size_alloc, size_setRow, Ae]; omega) | (simp only [List.length_set, Array.length_toList]; omega)) [-Option.bind_some, hk2, hx4']
  refine Ad.mono (ih (k + 1) _ _ _ c0 (by omega) h2 h3 h4 h5 (congrArg i64 (HH (by omega) (by omega))) ((Ac (Ne.symm h41)).trans ((hk2 _ hb1).trans hx1)) ((Ac (Ne.symm h42)).trans ((hk2 _ hb2).trans hx2)) ((Ac (Ne.symm h43)).trans ((hk2 _ hb3).trans hx3)) (by rw [El, hk2 _ hb4, hx4']; rfl) ha hb (by (repeat (first | exact Ext.rfl | assumption | (refine Ext.al ?_ _) | (refine Ext.dw ?_) | (refine Ext.set ?_ (by first | omega | (simp only [World.size_alloc, size_setRow, Ae]; omega)) _) | (refine Ext.tr ?_ (by assumption))))) (by simp; omega) ?_) fun _ h => h
  rw [HV (NP hxk hyk)]
  have hf3 : ∀ cs, C6 39 B (w2.setRow b4 cs) _ ((CS xs ys).take k ++ [Ft x y]) := fun cs => hf2.Aj fun b hb => Ac (by have := (hf2.lt b hb).1; omega)
  exact hf3 _
theorem Nk {s u : Value} {xs ys : List Tag} (hx4 : xs.length = 4) (hy4 : ys.length = 4) {w : World} (ha : BZ w s xs) (hb : BZ w u ys) : Ad (EV P 135 #[.agg #[s], .agg #[u]] w) fun r => ∃ s', r.1 = .agg #[s'] ∧ C6 39 w.heap.size r.2 s' (CS xs ys) ∧ Ext w r.2 := by
 have ha' := ha
 have hb' := hb
 obtain ⟨aa, ca, hs, hm⟩ := ha.len
 obtain ⟨ab, cb, hu, _⟩ := hb.len
 subst hs
 subst hu
 refine Ad.enter plain mixed (LL _ _ _) (by kernel_rfl) (n := 2) (by kernel_rfl) rfl ?_
 simp (disch := first | omega | (simp only [World.size_alloc, size_setRow, Ae]; done) | (simp only [World.size_alloc, size_setRow, Ae]; omega) | (simp only [List.length_set, Array.length_toList]; omega)) [-Option.bind_some, Ar]
 refine Ad.mono (Nj (s := .slice aa xs.length ca) (u := .slice ab ys.length cb) (xs := xs) (ys := ys) (b1 := w.heap.size) (b2 := w.heap.size + 1) (b3 := w.heap.size + 2) (b4 := w.heap.size + 3) (B := w.heap.size + 4) (w0 := w) (t1 := 106) (t2 := 106) hx4 hy4 (by omega) (by omega) (by omega) (by omega) (by omega) (by omega) (by omega) (by omega) (by omega) 4 0 _ _ _ _ (by omega) rfl rfl rfl rfl rfl
  (by simp (disch := first | omega | (simp only [World.size_alloc, size_setRow, Ae]; done) | (simp only [World.size_alloc, size_setRow, Ae]; omega) | (simp only [List.length_set, Array.length_toList]; omega)) [-Option.bind_some, Ah, Ar, Ac]; first | done | rfl) (by simp (disch := first | omega | (simp only [World.size_alloc, size_setRow, Ae]; done) | (simp only [World.size_alloc, size_setRow, Ae]; omega) | (simp only [List.length_set, Array.length_toList]; omega)) [-Option.bind_some, Ah, Ar, Ac]; first | done | rfl) (by simp (disch := first | omega | (simp only [World.size_alloc, size_setRow, Ae]; done) | (simp only [World.size_alloc, size_setRow, Ae]; omega) | (simp only [List.length_set, Array.length_toList]; omega)) [-Option.bind_some, Ah, Ar, Ac]; first | done | rfl) (by simp (disch := first | omega | (simp only [World.size_alloc, size_setRow, Ae]; done) | (simp only [World.size_alloc, size_setRow, Ae]; omega) | (simp only [List.length_set, Array.length_toList]; omega)) [-Option.bind_some, Ar]; first | done | rfl) ha' hb' (by (repeat (first | exact Ext.rfl | assumption | (refine Ext.al ?_ _) | (refine Ext.dw ?_) | (refine Ext.set ?_ (by first | omega | (simp only [World.size_alloc, size_setRow, Ae]; omega)) _) | (refine Ext.tr ?_ (by assumption))))) (by simp) ⟨Kp.nil _ _ _ _, by simp⟩) ?_
 rintro ⟨_, w1⟩ ⟨s', rfl, hf, hE⟩
 exact ⟨s', rfl, hf.from (by omega), hE⟩
end Go.Proofs.YtkhbpmhagpljiaaGreatDoor.X
set_option maxHeartbeats 1000000
namespace Go.Proofs.YtkhbpmhagpljiaaGreatDoor.X
open Go Go.Ev Go.RowKit
abbrev Ci : Lay (List Tag) := HN 39
abbrev Ck : Lay Ver := KQ 39
abbrev AO : Lay (List Ver) := Fv 39 110
theorem At.new {w : World} {cs : List Value} {E : TypeId} : At (w.alloc (.cells cs.toArray E)) w.heap.size 0 cs := by
 intro j v hv
 rw [Ar rfl, Bn, ← Cr, Nat.zero_add]
 simpa using hv
theorem AZ {S : Nat → Prop} {cs : List Value} {v : Ver} {w : World} (ha : D Ck S w cs v) :
  Ad (EV P 66 #[.agg cs.toArray] w) fun r => ∃ ds, r.1 = .agg ds.toArray ∧ O Ck (In w.heap.size r.2.heap.size) r.2 ds v ∧ Ext w r.2 := by
 obtain ⟨a, c, rfl, h1, h2⟩ := D.Ch.1 ha
 have hn := h1.n
 refine Ad.enter plain mixed (Lr _ _) (by kernel_rfl) (n := 1) (by kernel_rfl) rfl ?_
 simp (disch := first | exact xD | fail) [-Option.bind_some, qs]
 refine Ad.bind (O.Js (L := Fu) (mx := 8796093021952) BV Dj He rfl (by decide) (O.empty (g := w.heap.size + 1 + 1) (by first | assumption | rfl | (simp (disch := first | exact xD | fail) [-Option.bind_some, qs]; done))) (h1.ext xE) (by simp; omega) (by decide) (by decide)) ?_
 rintro ⟨_, w1⟩ ⟨a1, c1, rfl, o1, M1⟩
 have zM1 := M1.size
 try simp only [qz] at zM1
 dsimp only at o1 M1
 have zM1 := M1.size
 simp only [World.size_alloc, List.nil_append, List.length_nil, Nat.zero_add] at o1 zM1
 have X1 := M1.Ai w.heap.size (by simp only [World.size_alloc]; omega) (by omega)
 have X2 := M1.Ai (w.heap.size + 1) (by simp only [World.size_alloc]; omega) (by omega)
 simp (disch := first | exact xD | fail) [-Option.bind_some, qs, M1.Ai]
 refine ⟨(O.Ch.2 ⟨a1, c1, rfl, o1.Aj (by intro b hS hb; (try dsimp only at hS); (try simp only [In, qz] at hS hb); first | rfl | (simp (disch := first | exact xF | fail) only [qk]; done)), h2⟩).wide xV, ?_⟩
 exact Ext.set (Ext.set (Mod.after (a := w) xE M1 (by intro x hx h; omega)) (by omega) _) (by omega) _
theorem Ib {a : Option Addr} {c g1 g2 g3 : Nat} {S : Nat → Prop} {xs : List Ver} {w0 : World} (h12 : g1 < g3) (h32 : g2 < g3) (h03 : w0.heap.size ≤ g1) (h02 : w0.heap.size ≤ g2) (hne : g1 ≠ g2) :
  ∀ (d k : Nat) (e : Env) (w : World) (a3 : Option Addr) (c3 : Nat) (sv : Value), k + d = xs.length → e 1 = pt g1 0 → e 2 = pt g2 0 → e 3 = pt g3 0 → e 4 = i64 k → hp w g1 = some (.cells #[.slice a xs.length c] 156 (0, 0)) → hp w g2 = some (.cells #[sv] 156 (0, 0)) → hp w g3 = some (.cells #[.slice a3 k c3] 156 (0, 0)) →
  D AO S w0 [.slice a xs.length c] xs → Ext w0 w → O AO (In (g3 + 1) w.heap.size) w [.slice a3 k c3] (xs.take k) →
  Ad (B9 e w) fun r => ∃ a' c', r.1 = .agg #[.slice a' xs.length c'] ∧ O AO (In (g3 + 1) r.2.heap.size) r.2 [.slice a' xs.length c'] xs ∧ Ext w0 r.2 := by
 intro d
 induction d with
 | zero =>
  intro k e w a3 c3 sv hd e1 e2 e3 e4 X1 X2 X3 ha E0 ho
  have zE0 := E0.size
  try simp only [qz] at zE0
  rw [DQ]
  obtain rfl : k = xs.length := by omega
  rw [List.take_length] at ho
  simp (disch := first | exact xD | fail) [-Option.bind_some, e1, e2, e3, e4, X1, X2, X3]
  exact ⟨_, _, ⟨rfl, rfl⟩, ho.Aj (by intro b hS hb; (try dsimp only at hS); (try simp only [In] at hS hb); first | rfl | (simp (disch := first | exact xF | fail) only [qk]; done)), xE⟩
 | succ d ih =>
  intro k e w a3 c3 sv hd e1 e2 e3 e4 X1 X2 X3 ha E0 ho
  have zE0 := E0.size
  try simp only [qz] at zE0
  rw [DQ]
  have hlt : k < xs.length := by omega
  obtain ⟨x, hx, _⟩ := Al hlt
  have hn := ha.n
  obtain ⟨b1, o1, cs1, rfl, A1, D1, _, l1⟩ := (ha.ext E0).at (by decide) hx
  obtain ⟨a2, c2, rfl, hp2, ht⟩ := D.Ch.1 D1
  have p0 := A1 0 _ rfl
  have p1 := A1 1 _ rfl
  have p2 := A1 2 _ rfl
  have p3 := A1 3 _ rfl
  have p4 := A1 4 _ rfl
  have p5 := A1 5 _ rfl
  simp only [Cf, Nat.add_zero] at p0 p1 p2 p3 p4 p5
  have htk : (xs.take k).length = k := by rw [List.length_take]; omega
  have y1 := Ao X1
  have y2 := Ao X2
  have y3 := Ao X3
  simp (disch := first | exact xD | fail) [-Option.bind_some, qs, Cd, e1, e3, e4, X1, X3, hlt, p0, p1, p2, p3, p4, p5]
  refine Ad.bind (AZ (D1.ext xE)) ?_
  rintro ⟨_, w1⟩ ⟨ds, rfl, o2, E1⟩
  try dsimp only at ds o2 E1
  have zE1 := E1.size
  try simp only [qz] at zE1
  have zds := O.Ch.1 o2
  obtain ⟨a4, c4, rfl, _, _⟩ := zds
  simp (disch := first | exact xD | fail) [-Option.bind_some, qs, X3, E1.Ai]
  refine Ad.bind (O.app (L := Ck) (mx := 1954687338211) Ds DI rfl (by decide) (ho.Aj (by intro b hS hb; (try dsimp only at hS); (try simp only [In] at hS hb); first | rfl | (simp (disch := first | exact xF | fail) only [E1.Ai, qk]; done))) (o2.Aj (by intro b hS hb; (try dsimp only at hS); (try simp only [In, qz] at hS hb); first | rfl | (simp (disch := first | exact xF | fail) only [qk]; done))) (by intro b hb h1 h2; simp only [In, World.size_alloc, Ae] at *; omega) At.new (by omega) (by decide) (by decide)) ?_
  rintro ⟨_, w2⟩ ⟨a5, c5, rfl, o3, M2⟩
  have zM2 := M2.size
  try simp only [qz] at zM2
  try dsimp only at o3 M2
  have zM2 := M2.size
  simp only [World.size_alloc] at zM2
  rw [htk, ← HV hx] at o3
  rw [htk]
  have Y1 : hp w2 g1 = hp w g1 := (M2.Ai g1 (by simp only [World.size_alloc]; omega) (by simp only [In]; omega)).trans (by first | assumption | rfl | (simp (disch := first | exact xD | fail) [-Option.bind_some, qs, X1, E1.Ai]; done))
  have Y2 : hp w2 g2 = hp w g2 := (M2.Ai g2 (by simp only [World.size_alloc]; omega) (by simp only [In]; omega)).trans (by first | assumption | rfl | (simp (disch := first | exact xD | fail) [-Option.bind_some, qs, X2, E1.Ai]; done))
  have Y3 : hp w2 g3 = hp w g3 := (M2.Ai g3 (by simp only [World.size_alloc]; omega) (by simp only [In]; omega)).trans (by first | assumption | rfl | (simp (disch := first | exact xD | fail) [-Option.bind_some, qs, X3, E1.Ai]; done))
  simp (disch := first | exact xD | fail) [-Option.bind_some, Y3, X3]
  have E3 : Ext w0 w2 := Mod.after (E0.tr xE) M2 (by intro x hx h; simp only [In] at h; omega)
  have zE3 := E3.size
  try simp only [qz] at zE3
  refine Ad.mono (ih (k + 1) _ _ a5 c5 sv (by omega) xA xA xA xA (by first | assumption | rfl | (simp (disch := first | exact xD | fail) [-Option.bind_some, qs, Y1, X1]; done)) (by first | assumption | rfl | (simp (disch := first | exact xD | fail) [-Option.bind_some, qs, Y2, X2]; done)) (by first | assumption | rfl | (simp (disch := first | exact xD | fail) [-Option.bind_some, Y3, X3]; done)) ha xE (((o3.wide ?_).Aj (S := In (g3 + 1) w2.heap.size) (by intro b hS hb; (try dsimp only at hS); (try simp only [In] at hS hb); first | rfl | (simp (disch := first | exact xF | fail) only [qk]; done))).wide ?_)) fun _ h => h
  ·intro b h1 h2
   simp only [In, World.size_alloc, Ae] at *
   omega
  ·intro b h1 h2
   simp only [In, size_setRow] at *
   omega
theorem Fl {a : Option Addr} {n c : Nat} {S : Nat → Prop} {xs : List Ver} {w : World} (ha : D AO S w [.slice a n c] xs) :
  Ad (EV P 107 #[.agg #[.slice a n c]] w) fun r => ∃ a' c', r.1 = .agg #[.slice a' xs.length c'] ∧ O AO (In w.heap.size r.2.heap.size) r.2 [.slice a' xs.length c'] xs ∧ Ext w r.2 := by
 obtain ⟨rfl, hm, _⟩ := ha.n
 refine Ad.enter plain mixed (H9 _ _) (by kernel_rfl) (n := 1) (by kernel_rfl) rfl ?_
 simp (disch := first | exact xD | fail) [-Option.bind_some, qs]
 refine Ad.mono (Ib (g1 := w.heap.size) (g2 := w.heap.size + 1) (g3 := w.heap.size + 2) (w0 := w) (by omega) (by omega) (by omega) (by omega) (by omega) xs.length 0 _ _ _ _ (.slice none 0 0) (by omega) rfl rfl rfl rfl (by first | assumption | rfl | (simp (disch := first | exact xD | fail) [-Option.bind_some, qs]; done)) (by first | assumption | rfl | (simp (disch := first | exact xD | fail) [-Option.bind_some, qs]; done)) (by first | assumption | rfl | (simp (disch := first | exact xD | fail) [-Option.bind_some, qs]; done)) ha xE O.nil) ?_
 rintro ⟨_, w1⟩ ⟨a1, c1, rfl, o1, E1⟩
 have zE1 := E1.size
 try simp only [] at zE1
 exact ⟨a1, c1, rfl, o1.wide xV, E1⟩
theorem Ow {a : Option Addr} {n c : Nat} {S S1 : Nat → Prop} {xs : List Ver} {cs : List Value} {v : Ver} {w : World} (ho : O AO S w [.slice a n c] xs) (hv : D Ck S1 w cs v) (h0 : 0 ≤ v.key) (h1 : v.key.toNat < xs.length) :
  Ad (EV P 146 #[.agg #[.slice a n c], .agg cs.toArray] w) fun r => r.1 = .agg #[.slice a xs.length c] ∧ O AO (fun b => S b ∨ In w.heap.size r.2.heap.size b) r.2 [.slice a xs.length c] (GJ xs v) ∧ Mod S w r.2 := by
 obtain ⟨rfl, hm, _⟩ := ho.n
 obtain ⟨av, cv, rfl, hv1, hv2⟩ := D.Ch.1 hv
 obtain ⟨u, hu, _⟩ := Al h1
 obtain ⟨g, cur, ds, S2, rfl, hSg, hgl, hg, hle, hx1, hS2, put⟩ := ho.row (by decide) hu
 obtain ⟨au, cu, rfl, hu1, hu2⟩ := O.Ch.1 hx1
 simp only [Cf] at hg hle put
 have hk : v.key < xs.length := by omega
 refine Ad.enter plain mixed (Nf _ _ _) (by kernel_rfl) (n := 2) (by kernel_rfl) rfl ?_
 simp (disch := first | exact xD | fail) [-Option.bind_some, qs, -Aa, -Ab, qm, Cd, hg]
 refine Ad.bind (AN u.tag v.tag _) ?_
 rintro ⟨_, w1⟩ ⟨rfl, E1⟩
 try dsimp only at E1
 have zE1 := E1.size
 try simp only [qz] at zE1
 cases hl : Bv u.tag v.tag
 ·rw [Qi hu hl]
  simp (disch := first | exact xD | fail) [-Option.bind_some, qs, -Aa, -Ab, qm, GD, E1.Ai]
  exact ⟨(ho.Aj (by intro b hS hb; (try dsimp only at hS); (try simp only [In, qz] at hS hb); first | rfl | (simp (disch := first | exact xF | fail) only [E1.Ai, qk]; done))).wide (fun b h _ => .inl h), xM⟩
 ·rw [Mn hu hl]
  simp (disch := first | exact xD | fail) [-Option.bind_some, qs, -Aa, -Ab, Cd, E1.Ai]
  refine Ad.bind (AZ (hv.ext xE)) ?_
  rintro ⟨_, w2⟩ ⟨es, rfl, o2, E2⟩
  try dsimp only at es o2 E2
  have zE2 := E2.size
  try simp only [qz] at zE2
  have zds := O.Ch.1 o2
  obtain ⟨ae, ce, rfl, _, _⟩ := zds
  simp (disch := first | exact xD | fail) [-Option.bind_some, qs, -Aa, -Ab, qm, GD, hg, E1.Ai, E2.Ai]
  refine ⟨(put _ _ v _ (o2.Aj (by intro b hS hb; (try dsimp only at hS); (try simp only [In, qz] at hS hb); first | rfl | (simp (disch := first | exact xF | fail) only [qk]; done))) (by first | assumption | rfl | (simp (disch := first | exact xD | fail) [-Option.bind_some, qs, -Aa, -Ab, hg, E1.Ai, E2.Ai]; done)) (by intro b _ _ _ _; first | rfl | (simp (disch := first | exact xF | fail) only [E1.Ai, E2.Ai, qk]; done)) ?_).wide ?_, xM⟩
  ·intro b h1 h2
   simp only [In, size_setRow, Ae] at *
   right
   omega
  ·intro b h1 h2
   simp only [In, size_setRow, Ae] at *
   exact h1.imp id (by omega)
abbrev NN : Lay CNode := Jq 39 110
abbrev AW : Lay (List CNode) := Mm 39 110 159
def Vc : Ver := ⟨0, ⟨0, 0⟩, [], ⟨#[]⟩, false⟩
def Jh : CNode := ⟨List.replicate 4 Vc, []⟩
theorem SR (w : World) : O Ck (fun _ => False) w [i64 0, i64 0, i64 0, .slice none 0 0, .string ⟨#[]⟩, .bool false] Vc :=
 O.Ch.2 ⟨none, 0, rfl, O.nil, by decide⟩
theorem Ox (w : World) : Ad (EV P 127 #[] w) fun r => ∃ a c, r.1 = .agg #[.slice a 4 c] ∧ O AO (In w.heap.size r.2.heap.size) r.2 [.slice a 4 c] (List.replicate 4 Vc) ∧ Ext w r.2 := by
 refine Ad.post fun Q hQ => ?_
 refine Ad.enter plain mixed (MZ _) (by kernel_rfl) (n := 0) (by kernel_rfl) rfl ?_
 simp (disch := first | exact xD | fail) [-Option.bind_some]
 refine Ad.bind (O.make (L := Ck) (mx := 1954687338211) (n := 4) Ds DI rfl (by decide) SR (by decide) (by decide) (by decide)) ?_
 rintro ⟨_, w1⟩ ⟨rfl, o1, z1, E1⟩
 have zE1 := E1.size
 try simp only [qz] at zE1
 try dsimp only at o1 z1 E1
 have X1 := E1.Ai (b := w.heap.size) (by simp)
 simp only [World.size_alloc] at z1 o1
 simp (disch := first | exact xD | fail) [-Option.bind_some, qs, -Aa, -Ab, qm, E1.Ai]
 exact hQ _ ⟨_, _, rfl, (o1.Aj (by intro b hS hb; (try dsimp only at hS); (try simp only [In, qz] at hS hb); first | rfl | (simp (disch := first | exact xF | fail) only [qk]; done))).wide xV, xE⟩
def BP (n : Int) : List CNode := if (decide (1 ≤ n) && decide (n ≤ 4)) then List.replicate n.toNat Jh else []
theorem T8 {α : Type} (k : Nat) (x : α) : List.replicate k x ++ [x] = List.replicate (k + 1) x := by rw [List.replicate_succ']
theorem J6 {g2 g3 B n : Nat} {w0 : World} (h2 : g2 < B) (h02 : w0.heap.size ≤ g2) (h3 : w0.heap.size ≤ g3) (h23 : g2 ≠ g3) (hn4 : n ≤ 4) :
  ∀ (d k : Nat) (e : Env) (w : World) (a3 : Option Addr) (c3 : Nat) (sv : Value), k + d = n → e 0 = i64 n → e 2 = pt g2 0 → e 3 = pt g3 0 → e 4 = i64 k → hp w g2 = some (.cells #[sv] 98 (0, 0)) → hp w g3 = some (.cells #[.slice a3 k c3] 98 (0, 0)) → Ext w0 w → B ≤ w.heap.size →
  O AW (fun b => In B w.heap.size b ∧ b ≠ g3) w [.slice a3 k c3] (List.replicate k Jh) →
  Ad (CM e w) fun r => ∃ a' c', r.1 = .agg #[.slice a' n c'] ∧ O AW (In B r.2.heap.size) r.2 [.slice a' n c'] (List.replicate n Jh) ∧ Ext w0 r.2 := by
 intro d
 induction d with
 | zero =>
  intro k e w a3 c3 sv hd e0 e2 e3 ei X2 X3 E0 hB ho
  have zE0 := E0.size
  try simp only [qz] at zE0
  rw [ES]
  obtain rfl : k = n := by omega
  refine Ad.post fun Q hQ => ?_
  simp (disch := first | exact xD | fail) [-Option.bind_some, -Aa, -Ab, qm, e0, e2, e3, ei, X2, X3]
  exact hQ _ ⟨_, _, rfl, (ho.Aj (by intro b hS hb; (try dsimp only at hS); (try simp only [In] at hS hb); first | rfl | (simp (disch := first | exact xF | fail) only [qk]; done))).wide xV, xE⟩
 | succ d ih =>
  intro k e w a3 c3 sv hd e0 e2 e3 ei X2 X3 E0 hB ho
  have zE0 := E0.size
  try simp only [qz] at zE0
  rw [ES]
  have hlt : k < n := by omega
  have y2 := Ao X2
  have y3 := Ao X3
  refine Ad.post fun Q hQ => ?_
  simp (disch := first | exact xD | fail) [-Option.bind_some, qs, -Aa, -Ab, e0, e3, ei, X3, hlt]
  refine Ad.bind (Ox _) ?_
  rintro ⟨_, w1⟩ ⟨a1, c1, rfl, o1, E1⟩
  try dsimp only at a1 c1 o1 E1
  have zE1 := E1.size
  try simp only [qz] at zE1
  simp (disch := first | exact xD | fail) [-Option.bind_some, qs, -Aa, -Ab, X3, E1.Ai]
  refine Ad.bind (O.app (L := NN) (x := Jh) (mx := 2932031007317) (S1 := In (dw w).heap.size w1.heap.size) Lt Lu rfl (by decide) (ho.Aj (by intro b hS hb; (try dsimp only at hS); (try simp only [In] at hS hb); first | rfl | (simp (disch := first | exact xF | fail) only [E1.Ai, qk]; done))) ((O.F7 (v := Jh) (S2 := fun _ => False) (o1.Aj (by intro b hS hb; (try dsimp only at hS); (try simp only [In, qz] at hS hb); first | rfl | (simp (disch := first | exact xF | fail) only [qk]; done))) O.nil (fun _ _ _ h => h)).wide (by intro b h _; exact h.elim id fun h => h.elim)) (by intro b hb h1 h2; simp only [In, World.size_alloc, Ae] at *; omega) At.new (by rw [List.length_replicate]; omega) (by decide) (by decide)) ?_
  rintro ⟨_, w2⟩ ⟨a5, c5, rfl, o3, M2⟩
  have zM2 := M2.size
  try simp only [qz] at zM2
  try dsimp only at o3 M2
  have zM2 := M2.size
  simp only [World.size_alloc] at zM2
  rw [T8, List.length_replicate] at o3
  rw [List.length_replicate]
  have Y2 : hp w2 g2 = hp w g2 := (M2.Ai g2 xN xN).trans (by first | assumption | rfl | (simp (disch := first | exact xD | fail) [-Option.bind_some, qs, X2, E1.Ai]; done))
  have Y3 : hp w2 g3 = hp w g3 := (M2.Ai g3 xN xN).trans (by first | assumption | rfl | (simp (disch := first | exact xD | fail) [-Option.bind_some, qs, X3, E1.Ai]; done))
  simp (disch := first | exact xD | fail) [-Option.bind_some, -Aa, -Ab, qm, X3, Y3]
  have E3 : Ext w0 w2 := Mod.after (E0.tr xE) M2 xI
  have zE3 := E3.size
  try simp only [qz] at zE3
  refine Ad.mono (ih (k + 1) _ _ a5 c5 sv (by omega) xA xA xA xA (by first | assumption | rfl | (simp (disch := first | exact xD | fail) [-Option.bind_some, qs, -Aa, -Ab, Y2, X2]; done)) (by first | assumption | rfl | (simp (disch := first | exact xD | fail) [-Option.bind_some, -Aa, -Ab, Y3, X3]; done)) xE xN (((o3.wide (S' := fun b => In B w2.heap.size b ∧ b ≠ g3) ?_).Aj (by intro b hS hb; (try dsimp only at hS); (try simp only [In] at hS hb); first | rfl | (simp (disch := first | exact xF | fail) only [qk]; done))).wide ?_)) hQ
  ·intro b h1 h2
   simp only [In, World.size_alloc, Ae] at *
   omega
  ·intro b h1 h2
   simp only [In, World.size_alloc, size_setRow, Ae] at *
   omega
theorem Hf (n : Int) {w : World} : Ad (EV P 108 #[i64 n] w) fun r => ∃ a c, r.1 = .agg #[.slice a (BP n).length c] ∧ O AW (In w.heap.size r.2.heap.size) r.2 [.slice a (BP n).length c] (BP n) ∧ Ext w r.2 := by
 refine Ad.post fun Q hQ => ?_
 refine Ad.enter plain mixed (JZ _ _) (by kernel_rfl) (n := 1) (by kernel_rfl) rfl ?_
 simp (disch := first | exact xD | fail) [-Option.bind_some, qs, -Aa, -Ab, qm]
 refine Ad.bind (AH _ _ _ _) ?_
 rintro _ rfl
 cases h : (decide (1 ≤ n) && decide (n ≤ 4))
 ·have e : BP n = [] := by simp [BP, h]
  rw [e] at hQ
  simp (disch := first | exact xD | fail) [-Option.bind_some, qs, -Aa, -Ab, qm]
  exact hQ _ ⟨_, _, rfl, O.nil, xE⟩
 have e : BP n = List.replicate n.toNat Jh := by simp [BP, h]
 simp only [Bool.and_eq_true, decide_eq_true_eq] at h
 obtain ⟨m, rfl⟩ : ∃ m : Nat, n = m := ⟨n.toNat, by omega⟩
 rw [e, List.length_replicate, Int.toNat_natCast] at hQ
 simp (disch := first | exact xD | fail) [-Option.bind_some, -Aa, -Ab]
 refine Ad.mono (J6 (g2 := w.heap.size) (g3 := w.heap.size + 1) (B := w.heap.size + 1) (n := m) (w0 := w) (by omega) (by omega) (by omega) (by omega) (by omega) m 0 _ _ none 0 (.slice none 0 0) (by omega) rfl rfl rfl rfl (by first | assumption | rfl | (simp (disch := first | exact xD | fail) [-Option.bind_some, qs, -Aa, -Ab]; done)) (by first | assumption | rfl | (simp (disch := first | exact xD | fail) [-Option.bind_some, qs, -Aa, -Ab]; done)) xE xN O.nil) ?_
 rintro ⟨_, w4⟩ ⟨a4, c4, rfl, o4, E4⟩
 have zE4 := E4.size
 try simp only [] at zE4
 exact hQ _ ⟨_, _, rfl, o4.wide xV, E4⟩
theorem SS {x : Int} {b c : Nat} {e : TypeId} {w : World} (h : hp w b = some (.cells #[.int .u8 x] e (0, 0))) : cv P 22 9 (.slice (some ⟨b, 0, none⟩) 1 c) w = some (.string (A8 [UInt8.ofNat x.toNat]), w) := by
 rw [← PF]
 exact Ph (e := 5) (ns := [x]) (by kernel_rfl) (by kernel_rfl) (by kernel_rfl) (fun j v hv => by
  rw [h, Bn, ← Cr, Nat.zero_add]
  exact hv)
theorem E8 (n : Nat) (hn : n ≤ 4611686018427387904) : ∀ w : World, Ad (EV P 41 #[i64 n] w) fun r => r.1 = .string (A8 (Bx n)) ∧ Ext w r.2 := by
 induction n using Nat.strongRecOn with
 | _ n ih =>
  intro w
  have hd := BL n
  refine Ad.post fun Q hQ => ?_
  by_cases h : n < 10
  ·refine Ad.enter plain mixed (Ij _ _) (by kernel_rfl) (n := 1) (by kernel_rfl) rfl ?_
   have h8 : IntKind.u8.wrap (48 + (n : Int)) = 48 + n := PG (by omega) (by omega)
   have ht : UInt8.ofNat (48 + (n : Int)).toNat = dg n := by unfold dg; congr 1
   simp (disch := first | exact xD | fail) [-Option.bind_some, qs, -Aa, -Ab, show ¬ (n : Int) < -9223372036854775807 by omega, show ¬ (n : Int) < 0 by omega, show (n : Int) < 10 by omega, h8]
   have hc := SS (x := 48 + (n : Int)) (b := w.heap.size) (c := 1) (e := 5) (w := w.alloc (.cells #[.int .u8 (48 + (n : Int))] 5)) (Ar rfl)
   rw [ht, ← Ez h] at hc
   simp (disch := first | exact xD | fail) [-Option.bind_some, -Aa, -Ab, hc]
   exact hQ _ ⟨rfl, xE⟩
  ·have hq : (n : Int).tdiv 10 = ((n / 10 : Nat) : Int) := HC n 10
   have hm : (n : Int).tmod 10 = ((n % 10 : Nat) : Int) := Fm n 10
   have h8 : IntKind.u8.wrap (48 + ((n % 10 : Nat) : Int)) = 48 + ((n % 10 : Nat) : Int) := PG (by omega) (by omega)
   have ht : UInt8.ofNat (48 + ((n % 10 : Nat) : Int)).toNat = dg (n % 10) := by unfold dg; congr 1
   have hl := BL (n / 10)
   have hdg := Fc h
   have hih := ih (n / 10) (by omega) (by omega)
   have hm10 : n % 10 < 10 := Nat.mod_lt _ (by omega)
   have hqn : n / 10 ≤ n := Nat.div_le_self _ _
   generalize n / 10 = q at *
   generalize n % 10 = m at *
   refine Ad.enter plain mixed (Ij _ _) (by kernel_rfl) (n := 1) (by kernel_rfl) rfl ?_
   simp (disch := first | exact xD | fail) [-Option.bind_some, -Aa, -Ab, show ¬ (n : Int) < -9223372036854775807 by omega, show ¬ (n : Int) < 0 by omega, show ¬ (n : Int) < 10 by omega]
   refine IY _ _ ?_
   simp (disch := first | exact xD | fail) [-Option.bind_some, qs, -Aa, -Ab, Qb, Kb, hq, hm, h8]
   constructor
   ·refine Ad.mono (hih _) ?_
    rintro ⟨_, w1⟩ ⟨rfl, E1⟩
    try dsimp only at E1
    have zE1 := E1.size
    try simp only [qz] at zE1
    simp (disch := first | exact xD | fail) [-Option.bind_some, -Aa, -Ab]
    have hc := SS (x := 48 + (m : Int)) (b := w1.heap.size) (c := 1) (e := 5) (w := w1.alloc (.cells #[.int .u8 (48 + (m : Int))] 5)) (Ar rfl)
    rw [ht] at hc
    simp (disch := first | exact xD | fail) [-Option.bind_some, qs, -Aa, -Ab, hc, Bp, Ay, ← hdg, Gw]
    exact hQ _ ⟨rfl, xE⟩
   ·have hc0 : ∀ w' : World, hp w' w.heap.size = some (.cells #[.int .u8 (48 + (m : Int))] 5 (0, 0)) → cv P 22 9 (.slice (some ⟨w.heap.size, 0, none⟩) 1 1) w' = some (.string (A8 [dg m]), w') := by
     intro w' hx
     have := SS (x := 48 + (m : Int)) (c := 1) hx
     rwa [ht] at this
    have hc := hc0 ((dw w).alloc (.cells #[.int .u8 (48 + (m : Int))] 5)) (Ar rfl)
    simp (disch := first | exact xD | fail) [-Option.bind_some, -Aa, -Ab, hc]
    refine Ad.mono (hih _) ?_
    rintro ⟨_, w1⟩ ⟨rfl, E1⟩
    try dsimp only at E1
    have zE1 := E1.size
    try simp only [qz] at zE1
    have hc1 := hc0 w1 (by first | assumption | rfl | (simp (disch := first | exact xD | fail) [-Option.bind_some, qs, -Aa, -Ab, E1.Ai]; done))
    simp (disch := first | exact xD | fail) [-Option.bind_some, qs, -Aa, -Ab, hc1, Bp, Ay, ← hdg, Gw]
    exact hQ _ ⟨rfl, xE⟩
theorem HT {t : Tag} (h : Cq t = true) : (0 ≤ t.t ∧ t.t ≤ 999) ∧ (0 ≤ t.p ∧ t.p ≤ 2) := by
 simp only [Cq, Bool.or_eq_true, Bool.and_eq_true, beq_iff_eq, decide_eq_true_eq] at h
 omega
theorem LS {t : Tag} (h : Cq t = true) : (Eo t).length ≤ 2000 := by
 have := HT h
 have h1 := BL t.t.toNat
 have h2 := BL t.p.toNat
 simp only [Eo, List.length_append, List.length_cons]
 omega
theorem Oy {t : Tag} (ht : Cq t = true) (w : World) : Ad (EV P 42 #[t.v] w) fun r => r.1 = .string (A8 (Eo t)) ∧ Ext w r.2 := by
 have hr := HT ht
 obtain ⟨a, ha⟩ : ∃ a : Nat, t.t = a := ⟨t.t.toNat, by omega⟩
 obtain ⟨b, hb⟩ : ∃ b : Nat, t.p = b := ⟨t.p.toNat, by omega⟩
 have h1 := BL a
 have h2 := BL b
 have e : Eo t = Bx a ++ [46] ++ Bx b := by rw [Eo, ha, hb]; simp
 rw [e]
 refine Ad.post fun Q hQ => ?_
 refine Ad.enter plain mixed (MJ _ _) (by kernel_rfl) (n := 1) (by kernel_rfl) rfl ?_
 simp (disch := first | exact xD | fail) [-Option.bind_some, qs, -Aa, -Ab, ha, hb]
 refine Ad.bind (E8 a (by omega) _) ?_
 rintro ⟨_, w1⟩ ⟨rfl, E1⟩
 try dsimp only at E1
 have zE1 := E1.size
 try simp only [qz] at zE1
 simp (disch := first | exact xD | fail) [-Option.bind_some, qs, -Aa, -Ab, CJ, Bp, Ay, E1.Ai]
 refine Ad.bind (E8 b (by omega) _) ?_
 rintro ⟨_, w2⟩ ⟨rfl, E2⟩
 try dsimp only at E2
 have zE2 := E2.size
 try simp only [qz] at zE2
 simp (disch := first | exact xD | fail) [-Option.bind_some, -Aa, -Ab, Bp, Ay]
 exact hQ _ ⟨by simp, xE⟩
def J7 (ns : List CNode) : List Ver := match ns[ns.length - 1]? with
 | some n => n.store
 | none => []
theorem Il {a : Option Addr} {n c : Nat} {S : Nat → Prop} {vs : List Ver} {w : World} (h4 : vs.length = 4) (ha : D AO S w [.slice a n c] vs) :
  Ad (EV P 137 #[.agg #[.slice a n c]] w) fun r => ∃ a' c', r.1 = .agg #[.slice a' (Ct vs).length c'] ∧ O Ci (In w.heap.size r.2.heap.size) r.2 [.slice a' (Ct vs).length c'] (Ct vs) ∧ Ext w r.2 := by
 refine Ad.mono (Ni  (D.Jn ha)) ?_
 rintro r ⟨s', h1, f2, E2⟩
 have zE2 := E2.size
 try simp only [qz] at zE2
 obtain ⟨a3, c3, hs', o3⟩ := (Tf f2).HK
 obtain rfl := (List.cons.inj hs').1
 exact ⟨a3, c3, h1, o3, E2⟩
theorem Rq (ts : Array TypeId) (t : TypeId) (a b : Int) (w : World) : QF P ts t #[i64 a, i64 b] w = some (i64 (if b < a then b else a), w) := by
 simp only [QF, Builtin.min_, List.foldlM, Builtin.min2, pure_bind]
 rfl
theorem LU {a : Option Addr} {c g1 g2 g3 g5 B k : Nat} {S : Nat → Prop} {xs : List CNode} {x : CNode} {w0 : World} {R : Value × World → Prop} (h12 : g1 < g2) (h32 : g2 < g3) (h02 : w0.heap.size ≤ g1) (h3B : g3 < B) (hB5 : B ≤ g5)
  (ha : D AW S w0 [.slice a xs.length c] xs) (hlt : k < xs.length) (hx : xs[k]? = some x)
  (nx : ∀ (e : Env) (w : World) (a3 : Option Addr) (c3 : Nat) (sv : Value), e 1 = pt g1 0 → e 2 = pt g2 0 → e 3 = pt g3 0 → e 4 = i64 ((k + 1 : Nat) : Int) → hp w g1 = some (.cells #[.slice a xs.length c] 98 (0, 0)) → hp w g2 = some (.cells #[sv] 98 (0, 0)) → hp w g3 = some (.cells #[.slice a3 (k + 1) c3] 98 (0, 0)) →
   Ext w0 w → O AW (fun b => In w0.heap.size w.heap.size b ∧ b ≠ g1 ∧ b ≠ g2 ∧ b ≠ g3) w [.slice a3 (k + 1) c3] (xs.take (k + 1)) → Ad (CF e w) R) :
  ∀ (d j : Nat) (e : Env) (w : World) (a3 a5 a6 : Option Addr) (c3 c5 c6 : Nat) (sv : Value), j + d = x.wait.length → e 1 = pt g1 0 → e 2 = pt g2 0 → e 3 = pt g3 0 → e 4 = i64 k → e 5 = pt g5 0 → e 6 = i64 j →
   hp w g1 = some (.cells #[.slice a xs.length c] 98 (0, 0)) → hp w g2 = some (.cells #[sv] 98 (0, 0)) → hp w g3 = some (.cells #[.slice a3 k c3] 98 (0, 0)) → hp w g5 = some (.cells #[.slice a5 x.store.length c5, .slice a6 j c6] 159 (0, 0)) →
   Ext w0 w → O AW (fun b => In w0.heap.size B b ∧ b ≠ g1 ∧ b ≠ g2 ∧ b ≠ g3) w [.slice a3 k c3] (xs.take k) → O AO (In B g5) w [.slice a5 x.store.length c5] x.store → O AO (In (g5 + 1) w.heap.size) w [.slice a6 j c6] (x.wait.take j) →
   Ad (DJ e w) R := by
 have hn := ha.n
 have htk : (xs.take k).length = k := by rw [List.length_take]; omega
 intro d
 induction d with
 | zero =>
  intro j e w a3 a5 a6 c3 c5 c6 sv hd e1 e2 e3 e4 e5 e6 X1 X2 X3 X5 E0 ho o5 o6
  have zE0 := E0.size
  try simp only [qz] at zE0
  rw [FM]
  obtain rfl : j = x.wait.length := by omega
  rw [List.take_length] at o6
  obtain ⟨b1, o1, cs1, rfl, A1, D1, _, l1⟩ := (ha.ext E0).at (by decide) hx
  obtain ⟨a2, c2, a4, c4, rfl, h2, h3⟩ := D.node.1 D1
  have p0 := A1 0 _ rfl
  have p1 := A1 1 _ rfl
  simp only [BH, Nat.add_zero] at p0 p1
  have y1 := Ao X1
  have y2 := Ao X2
  have y3 := Ao X3
  have y5 := Ao X5
  have zE0 := E0.size
  refine Ad.post fun Q hQ => ?_
  simp (disch := first | exact xD | fail) [-Option.bind_some, qs, -Aa, -Ab, e1, e3, e4, e5, e6, X1, X3, X5, CR, p1]
  refine Ad.bind (O.app (L := NN) (mx := 2932031007317) Lt Lu rfl (by decide) (ho.Aj (by intro b hS hb; (try dsimp only at hS); (try simp only [In] at hS hb); first | rfl | (simp (disch := first | exact xF | fail) only [qk]; done))) (O.F7 (v := x) (o5.Aj (by intro b hS hb; (try dsimp only at hS); (try simp only [In] at hS hb); first | rfl | (simp (disch := first | exact xF | fail) only [qk]; done))) (o6.Aj (by intro b hS hb; (try dsimp only at hS); (try simp only [In] at hS hb); first | rfl | (simp (disch := first | exact xF | fail) only [qk]; done))) xI) ?_ At.new (by omega) (by decide) (by decide)) ?_
  ·intro b hb h1 h2
   simp only [In, World.size_alloc] at *
   omega
  rintro ⟨_, w3⟩ ⟨a7, c7, rfl, o7, M3⟩
  have zM3 := M3.size
  try simp only [qz] at zM3
  try dsimp only at o7 M3
  have zM3 := M3.size
  simp only [World.size_alloc] at zM3
  rw [htk, ← HV hx] at o7
  rw [htk]
  have Y1 : hp w3 g1 = hp w g1 := (M3.Ai g1 xN xN).trans (by first | assumption | rfl | (simp (disch := first | exact xD | fail) [-Option.bind_some, qs, X1]; done))
  have Y2 : hp w3 g2 = hp w g2 := (M3.Ai g2 xN xN).trans (by first | assumption | rfl | (simp (disch := first | exact xD | fail) [-Option.bind_some, qs, X2]; done))
  have Y3 : hp w3 g3 = hp w g3 := (M3.Ai g3 xN xN).trans (by first | assumption | rfl | (simp (disch := first | exact xD | fail) [-Option.bind_some, qs, X3]; done))
  simp (disch := first | exact xD | fail) [-Option.bind_some, -Aa, -Ab, qm, X3, Y3]
  have E3 : Ext w0 w3 := Mod.after (E0.tr xE) M3 xI
  have zE3 := E3.size
  try simp only [qz] at zE3
  refine Ad.mono (nx _ _ a7 c7 sv xA xA xA xA (by first | assumption | rfl | (simp (disch := first | exact xD | fail) [-Option.bind_some, qs, -Aa, -Ab, Y1, X1]; done)) (by first | assumption | rfl | (simp (disch := first | exact xD | fail) [-Option.bind_some, qs, -Aa, -Ab, Y2, X2]; done)) (by first | assumption | rfl | (simp (disch := first | exact xD | fail) [-Option.bind_some, -Aa, -Ab, Y3, X3]; done)) xE (((o7.wide (S' := fun b => In w0.heap.size w3.heap.size b ∧ b ≠ g1 ∧ b ≠ g2 ∧ b ≠ g3) ?_).Aj (by intro b hS hb; (try dsimp only at hS); (try simp only [In] at hS hb); first | rfl | (simp (disch := first | exact xF | fail) only [qk]; done))).wide ?_)) hQ
  ·intro b h1 h2
   simp only [In, World.size_alloc] at *
   omega
  ·intro b h1 h2
   simp only [In, World.size_alloc, size_setRow] at *
   omega
 | succ d ih =>
  intro j e w a3 a5 a6 c3 c5 c6 sv hd e1 e2 e3 e4 e5 e6 X1 X2 X3 X5 E0 ho o5 o6
  have zE0 := E0.size
  try simp only [qz] at zE0
  rw [FM]
  have hlj : j < x.wait.length := by omega
  obtain ⟨v, hv, _⟩ := Al hlj
  obtain ⟨b1, o1, cs1, rfl, A1, D1, _, l1⟩ := (ha.ext E0).at (by decide) hx
  obtain ⟨a2, c2, a4, c4, rfl, h2, h3⟩ := D.node.1 D1
  have p0 := A1 0 _ rfl
  have p1 := A1 1 _ rfl
  simp only [BH, Nat.add_zero] at p0 p1
  have hn3 := h3.n
  obtain ⟨b2, o2, cs2, rfl, A2, D2, _, l2⟩ := h3.at (by decide) hv
  have D2' := D2
  obtain ⟨av, cv, rfl, hq1, ht1⟩ := D.Ch.1 D2
  have q0 := A2 0 _ rfl
  have q1 := A2 1 _ rfl
  have q2 := A2 2 _ rfl
  have q3 := A2 3 _ rfl
  have q4 := A2 4 _ rfl
  have q5 := A2 5 _ rfl
  simp only [Cf, Nat.add_zero] at q0 q1 q2 q3 q4 q5
  have htj : (x.wait.take j).length = j := by rw [List.length_take]; omega
  have y1 := Ao X1
  have y2 := Ao X2
  have y3 := Ao X3
  have y5 := Ao X5
  have zE0 := E0.size
  refine Ad.post fun Q hQ => ?_
  simp (disch := first | exact xD | fail) [-Option.bind_some, qs, -Aa, -Ab, e1, e4, e5, e6, X1, X5, CR, Cd, show (j : Int) < x.wait.length by omega, p1, q0, q1, q2, q3, q4, q5]
  refine Ad.bind (AZ (D2'.ext xE)) ?_
  rintro ⟨_, w1⟩ ⟨ds, rfl, o8, E1⟩
  try dsimp only at ds o8 E1
  have zE1 := E1.size
  try simp only [qz] at zE1
  have zo := O.Ch.1 o8
  obtain ⟨a8, c8, rfl, _, _⟩ := zo
  simp (disch := first | exact xD | fail) [-Option.bind_some, qs, -Aa, -Ab, X5, E1.Ai]
  refine Ad.bind (O.app (L := Ck) (mx := 1954687338211) Ds DI rfl (by decide) (o6.Aj (by intro b hS hb; (try dsimp only at hS); (try simp only [In] at hS hb); first | rfl | (simp (disch := first | exact xF | fail) only [E1.Ai, qk]; done))) (o8.Aj (by intro b hS hb; (try dsimp only at hS); (try simp only [In, qz] at hS hb); first | rfl | (simp (disch := first | exact xF | fail) only [qk]; done))) ?_ At.new (by omega) (by decide) (by decide)) ?_
  ·intro b hb h1 h2
   simp only [In, World.size_alloc, Ae] at *
   omega
  rintro ⟨_, w3⟩ ⟨a7, c7, rfl, o7, M3⟩
  have zM3 := M3.size
  try simp only [qz] at zM3
  try dsimp only at o7 M3
  have zM3 := M3.size
  simp only [World.size_alloc] at zM3
  rw [htj, ← HV hv] at o7
  rw [htj]
  have Y1 : hp w3 g1 = hp w g1 := (M3.Ai g1 xN xN).trans (by first | assumption | rfl | (simp (disch := first | exact xD | fail) [-Option.bind_some, qs, X1, E1.Ai]; done))
  have Y2 : hp w3 g2 = hp w g2 := (M3.Ai g2 xN xN).trans (by first | assumption | rfl | (simp (disch := first | exact xD | fail) [-Option.bind_some, qs, X2, E1.Ai]; done))
  have Y3 : hp w3 g3 = hp w g3 := (M3.Ai g3 xN xN).trans (by first | assumption | rfl | (simp (disch := first | exact xD | fail) [-Option.bind_some, qs, X3, E1.Ai]; done))
  have Y5 : hp w3 g5 = hp w g5 := (M3.Ai g5 xN xN).trans (by first | assumption | rfl | (simp (disch := first | exact xD | fail) [-Option.bind_some, qs, X5, E1.Ai]; done))
  simp (disch := first | exact xD | fail) [-Option.bind_some, -Aa, -Ab, qm, X5, Y5]
  have E3 : Ext w0 w3 := Mod.after (E0.tr xE) M3 xI
  have zE3 := E3.size
  try simp only [qz] at zE3
  refine Ad.mono (ih (j + 1) _ _ a3 a5 a7 c3 c5 c7 sv (by omega) xA xA xA xA xA xA (by first | assumption | rfl | (simp (disch := first | exact xD | fail) [-Option.bind_some, qs, -Aa, -Ab, Y1, X1]; done)) (by first | assumption | rfl | (simp (disch := first | exact xD | fail) [-Option.bind_some, qs, -Aa, -Ab, Y2, X2]; done)) (by first | assumption | rfl | (simp (disch := first | exact xD | fail) [-Option.bind_some, qs, -Aa, -Ab, Y3, X3]; done)) (by first | assumption | rfl | (simp (disch := first | exact xD | fail) [-Option.bind_some, -Aa, -Ab, Y5, X5]; done)) xE (ho.Aj ?_) (o5.Aj ?_) (((o7.wide (S' := In (g5 + 1) w3.heap.size) ?_).Aj (by intro b hS hb; (try dsimp only at hS); (try simp only [In] at hS hb); first | rfl | (simp (disch := first | exact xF | fail) only [qk]; done))).wide ?_)) hQ
  ·intro b hS hb
   simp only [In] at hS
   exact (show hp _ b = hp w3 b from (by first | assumption | rfl | (simp (disch := first | exact xD | fail) [-Option.bind_some, qs, E1.Ai, M3.Ai]; done))).trans ((M3.Ai b xN xN).trans (by first | assumption | rfl | (simp (disch := first | exact xD | fail) [-Option.bind_some, qs, E1.Ai]; done)))
  ·intro b hS hb
   simp only [In] at hS
   exact (show hp _ b = hp w3 b from (by first | assumption | rfl | (simp (disch := first | exact xD | fail) [-Option.bind_some, qs, E1.Ai, M3.Ai]; done))).trans ((M3.Ai b xN xN).trans (by first | assumption | rfl | (simp (disch := first | exact xD | fail) [-Option.bind_some, qs, E1.Ai]; done)))
  ·intro b h1 h2
   simp only [In, World.size_alloc, Ae] at *
   omega
  ·intro b h1 h2
   simp only [In, World.size_alloc, size_setRow, Ae] at *
   omega
theorem LV {a : Option Addr} {c g1 g2 g3 : Nat} {S : Nat → Prop} {xs : List CNode} {w0 : World} (h12 : g1 < g2) (h32 : g2 < g3) (h02 : w0.heap.size ≤ g1) (ha : D AW S w0 [.slice a xs.length c] xs) :
  ∀ (d k : Nat) (e : Env) (w : World) (a3 : Option Addr) (c3 : Nat) (sv : Value), k + d = xs.length → e 1 = pt g1 0 → e 2 = pt g2 0 → e 3 = pt g3 0 → e 4 = i64 k → hp w g1 = some (.cells #[.slice a xs.length c] 98 (0, 0)) → hp w g2 = some (.cells #[sv] 98 (0, 0)) → hp w g3 = some (.cells #[.slice a3 k c3] 98 (0, 0)) →
  Ext w0 w → O AW (fun b => In w0.heap.size w.heap.size b ∧ b ≠ g1 ∧ b ≠ g2 ∧ b ≠ g3) w [.slice a3 k c3] (xs.take k) →
  Ad (CF e w) fun r => ∃ a' c', r.1 = .agg #[.slice a' xs.length c'] ∧ O AW (In w0.heap.size r.2.heap.size) r.2 [.slice a' xs.length c'] xs ∧ Ext w0 r.2 := by
 have hn := ha.n
 intro d
 induction d with
 | zero =>
  intro k e w a3 c3 sv hd e1 e2 e3 e4 X1 X2 X3 E0 ho
  have zE0 := E0.size
  try simp only [qz] at zE0
  rw [FL]
  obtain rfl : k = xs.length := by omega
  rw [List.take_length] at ho
  have y1 := Ao X1
  have y2 := Ao X2
  have y3 := Ao X3
  refine Ad.post fun Q hQ => ?_
  simp (disch := first | exact xD | fail) [-Option.bind_some, -Aa, -Ab, qm, e1, e2, e3, e4, X1, X2, X3]
  exact hQ _ ⟨_, _, rfl, (ho.Aj (by intro b hS hb; (try dsimp only at hS); (try simp only [In] at hS hb); first | rfl | (simp (disch := first | exact xF | fail) only [qk]; done))).wide xV, xE⟩
 | succ d ih =>
  intro k e w a3 c3 sv hd e1 e2 e3 e4 X1 X2 X3 E0 ho
  have zE0 := E0.size
  try simp only [qz] at zE0
  rw [FL]
  have hlt : k < xs.length := by omega
  obtain ⟨x, hx, _⟩ := Al hlt
  have l2 := fun (g5 B : Nat) (h3B : g3 < B) (hB5 : B ≤ g5) => LU (c := c) h12 h32 h02 h3B hB5 ha hlt hx (fun e w a3 c3 sv e1 e2 e3 e4 X1 X2 X3 E0 ho => ih (k + 1) e w a3 c3 sv (by omega) e1 e2 e3 e4 X1 X2 X3 E0 ho)
  obtain ⟨b1, o1, cs1, rfl, A1, D1, _, l1⟩ := (ha.ext E0).at (by decide) hx
  obtain ⟨a2, c2, a4, c4, rfl, h2, h3⟩ := D.node.1 D1
  have p0 := A1 0 _ rfl
  have p1 := A1 1 _ rfl
  simp only [BH, Nat.add_zero] at p0 p1
  have y1 := Ao X1
  have y2 := Ao X2
  have y3 := Ao X3
  have zE0 := E0.size
  refine Ad.post fun Q hQ => ?_
  simp (disch := first | exact xD | fail) [-Option.bind_some, qs, -Aa, -Ab, e1, e4, X1, hlt, CR, p0]
  refine Ad.bind (Fl (h2.ext xE)) ?_
  rintro ⟨_, w1⟩ ⟨a5, c5, rfl, o5, E1⟩
  try dsimp only at a5 c5 o5 E1
  have zE1 := E1.size
  try simp only [qz] at zE1
  simp (disch := first | exact xD | fail) [-Option.bind_some, -Aa, -Ab, qm]
  refine Ad.mono (l2 w1.heap.size w.heap.size (by omega) (by omega) x.wait.length 0 _ _ a3 a5 none c3 c5 0 sv (by omega) xA xA xA xA xA xA (by first | assumption | rfl | (simp (disch := first | exact xD | fail) [-Option.bind_some, qs, -Aa, -Ab, X1, E1.Ai]; done)) (by first | assumption | rfl | (simp (disch := first | exact xD | fail) [-Option.bind_some, qs, -Aa, -Ab, X2, E1.Ai]; done)) (by first | assumption | rfl | (simp (disch := first | exact xD | fail) [-Option.bind_some, qs, -Aa, -Ab, X3, E1.Ai]; done)) (by first | assumption | rfl | (simp (disch := first | exact xD | fail) [-Option.bind_some, qs, -Aa, -Ab]; done)) xE ((ho.Aj (by intro b hS hb; (try dsimp only at hS); (try simp only [In] at hS hb); first | rfl | (simp (disch := first | exact xF | fail) only [E1.Ai, qk]; done))).wide xV) (o5.Aj (by intro b hS hb; (try dsimp only at hS); (try simp only [In] at hS hb); first | rfl | (simp (disch := first | exact xF | fail) only [qk]; done))) ?_) hQ
  exact O.nil
theorem Im {a : Option Addr} {n c : Nat} {S : Nat → Prop} {xs : List CNode} {w : World} (ha : D AW S w [.slice a n c] xs) :
  Ad (EV P 86 #[.agg #[.slice a n c]] w) fun r => ∃ a' c', r.1 = .agg #[.slice a' xs.length c'] ∧ O AW (In w.heap.size r.2.heap.size) r.2 [.slice a' xs.length c'] xs ∧ Ext w r.2 := by
 obtain ⟨rfl, hm, _⟩ := ha.n
 refine Ad.post fun Q hQ => ?_
 refine Ad.enter plain mixed (Ly _ _) (by kernel_rfl) (n := 1) (by kernel_rfl) rfl ?_
 simp (disch := first | exact xD | fail) [-Option.bind_some, qs, -Aa, -Ab, qm]
 refine Ad.mono (LV (g1 := w.heap.size) (g2 := w.heap.size + 1) (g3 := w.heap.size + 1 + 1) (w0 := w) (by omega) (by omega) (by omega) ha xs.length 0 _ _ none 0 (.slice none 0 0) (by omega) rfl rfl rfl rfl (by first | assumption | rfl | (simp (disch := first | exact xD | fail) [-Option.bind_some, qs, -Aa, -Ab]; done)) (by first | assumption | rfl | (simp (disch := first | exact xD | fail) [-Option.bind_some, qs, -Aa, -Ab]; done)) (by first | assumption | rfl | (simp (disch := first | exact xD | fail) [-Option.bind_some, qs, -Aa, -Ab]; done)) xE O.nil) ?_
 rintro r ⟨a4, c4, h1, o4, E4⟩
 have zE4 := E4.size
 try simp only [qz] at zE4
 exact hQ _ ⟨_, _, h1, o4, E4⟩
def EP (ns : List CNode) : List CNode := ns ++ [⟨J7 ns, []⟩]
theorem Nl {a : Option Addr} {n c : Nat} {S : Nat → Prop} {ns : List CNode} {w : World} (h0 : 0 < ns.length) (h4 : ns.length < 4) (ho : O AW S w [.slice a n c] ns) :
  Ad (EV P 118 #[.agg #[.slice a n c]] w) fun r => ∃ a' c', r.1 = .agg #[.slice a' (EP ns).length c'] ∧ O AW (fun b => S b ∨ In w.heap.size r.2.heap.size b) r.2 [.slice a' (EP ns).length c'] (EP ns) ∧ Mod S w r.2 := by
 obtain ⟨rfl, hm, _⟩ := ho.n
 have ho := ho.wide (S' := fun b => S b ∧ b < w.heap.size) (fun b h1 h2 => ⟨h1, h2⟩)
 obtain ⟨x, hx, _⟩ := Al (l := ns) (k := ns.length - 1) (by omega)
 have hj : EP ns = ns ++ [⟨x.store, []⟩] := by rw [EP, J7, hx]
 have hjl : (EP ns).length = ns.length + 1 := by rw [hj, List.length_append]; rfl
 obtain ⟨b1, o1, cs1, ha1, A1, D1, _, l1⟩ := ho.d.at (by decide) hx
 obtain ⟨a2, c2, a4, c4, rfl, h2, h3⟩ := D.node.1 D1
 subst ha1
 have p0 := A1 0 _ rfl
 have p1 := A1 1 _ rfl
 simp only [BH, Nat.add_zero] at p0 p1
 refine Ad.post fun Q hQ => ?_
 refine Ad.enter plain mixed (LG _ _) (by kernel_rfl) (n := 1) (by kernel_rfl) rfl ?_
 simp (disch := first | exact xD | fail) [-Option.bind_some, qs, -Aa, -Ab, CR, show (ns.length : Int) - 1 = ((ns.length - 1 : Nat) : Int) by omega, p0]
 refine Ad.bind (Fl (h2.ext xE)) ?_
 rintro ⟨_, w2⟩ ⟨a2, c2, rfl, o2, E2⟩
 try dsimp only at a2 c2 o2 E2
 have zE2 := E2.size
 try simp only [qz] at zE2
 simp (disch := first | exact xD | fail) [-Option.bind_some, qs, -Aa, -Ab, E2.Ai]
 refine Ad.bind (O.app (L := NN) (x := ⟨x.store, []⟩) (mx := 2932031007317) Lt Lu rfl (by decide) (ho.Aj (by intro b hS hb; (try dsimp only at hS); (try simp only [In, qz] at hS hb); first | rfl | (simp (disch := first | exact xF | fail) only [E2.Ai, qk]; done))) (O.F7 (v := ⟨x.store, []⟩) (S2 := fun _ => False) (o2.Aj (by intro b hS hb; (try dsimp only at hS); (try simp only [In, qz] at hS hb); first | rfl | (simp (disch := first | exact xF | fail) only [qk]; done))) O.nil (fun _ _ _ h => h)) ?_ At.new (by omega) (by decide) (by decide)) ?_
 ·intro b hb h1 h2
  simp only [In, World.size_alloc, Ae, or_false] at *
  omega
 rintro ⟨_, w3⟩ ⟨a3, c3, rfl, o3, M3⟩
 have zM3 := M3.size
 try simp only [qz] at zM3
 try dsimp only at o3 M3
 have zM3 := M3.size
 simp only [World.size_alloc] at zM3
 have M4 : Mod S w w3 := Mod.AX (Mod.of xE _) M3 (fun x _ h => h.1)
 have zM4 := M4.size
 try simp only [qz] at zM4
 have Y1 : hp w3 w.heap.size = some (.cells #[.slice (some ⟨b1, o1, none⟩) ns.length c] 98 (0, 0)) := (M3.Ai w.heap.size xN (fun h => by omega)).trans (by first | assumption | rfl | (simp (disch := first | exact xD | fail) [-Option.bind_some, qs, -Aa, -Ab, E2.Ai]; done))
 have Y2 : hp w3 (w.heap.size + 1) = some (.cells #[.slice none 0 0] 98 (0, 0)) := (M3.Ai (w.heap.size + 1) xN (fun h => by omega)).trans (by first | assumption | rfl | (simp (disch := first | exact xD | fail) [-Option.bind_some, qs, -Aa, -Ab, E2.Ai]; done))
 rw [hjl, hj] at hQ
 simp (disch := first | exact xD | fail) [-Option.bind_some, qs, -Aa, -Ab, qm, Y1, Y2]
 refine hQ _ ⟨a3, c3, rfl, (o3.Aj ?_).wide ?_, (M4.AM (.inl (by omega)) _).AM (.inl (by omega)) _⟩
 ·intro b hS hb
  simp only [In, World.size_alloc, Ae, or_false] at *
  rw [Ac (by omega), Ac (by omega)]
 ·intro b h1 h2
  simp only [In, World.size_alloc, size_setRow, Ae, or_false] at *
  rcases h1 with h | h | h
  ·exact .inl h.1
  ·exact .inr (by omega)
  ·exact .inr (by omega)
theorem Fm (a b : Nat) : (a : Int).tmod (b : Int) = ((a % b : Nat) : Int) := by
 rw [Int.tmod_eq_emod_of_nonneg (by omega)]; rfl
theorem HC (a b : Nat) : (a : Int).tdiv (b : Int) = ((a / b : Nat) : Int) := by
 rw [Int.tdiv_eq_ediv_of_nonneg (by omega)]; rfl
theorem IJ {w : World} {s : Value} {ns : List Int} (h : En w s ns) {i : Nat} (hi : i < ns.length) : ∃ (b o c m : Nat), s = .slice (some ⟨b, o, none⟩) ns.length c ∧ AP (hp w b) (o + i) = some (.int .u8 (m : Int)) ∧ m ≤ 255 ∧ b < w.heap.size := by
 obtain ⟨a, c, h1, h2, h3, h4, h5⟩ := h
 rcases h5 with h5 | ⟨b, o, h5, h6⟩
 ·subst h5; simp at hi
 ·subst h5
  have hm := h4 ns[i] (List.getElem_mem hi)
  obtain ⟨m, hmm⟩ := Int.eq_ofNat_of_zero_le hm.1
  have hc := h6 i (.int .u8 (m : Int)) (by rw [List.getElem?_map, List.getElem?_eq_getElem hi, hmm]; rfl)
  refine ⟨b, o, c, m, h1, hc, by omega, ?_⟩
  rcases Nat.lt_or_ge b w.heap.size with h' | h'
  ·exact h'
  ·rw [hp, Array.getElem?_eq_none h'] at hc; simp [AP] at hc
theorem QD {s : Value} {ns : List Int} (h : ns.length ≠ 0) : Gp s ns = (Az s).toList := by
 cases ns with
 | nil => exact absurd rfl h
 | cons n ns => rfl
theorem Ji {b p t : Nat} {k : Nat} (hk : 1 ≤ k) (hk2 : k ≤ 1000000) (hp0 : p ≤ 1000000000000) {s : Value} {ns : List Int} {w : World} (hr : XK t w b s p) (hs : En w s ns) (hn : ns.length ≤ 1000000000000) (hb : ∀ x ∈ Gp s ns, x ≠ b) :
  Ad (EV P 25 #[pt b 0, i64 k] w) fun r => ∃ m : Nat, r.1 = i64 m ∧ m < k ∧ XK t r.2 b s ((p + 1 : Nat) : Int) ∧ But w r.2 (some b) := by
 have hs' := hs
 obtain ⟨a, c, rfl, hc, hcm, _, _⟩ := hs
 unfold XK at *
 have hwr : ∀ x : Int, 0 ≤ x → x ≤ 9000000000000000000 → IntKind.i64.wrap x = x := fun x h0 h1 => HH (by omega) (by omega)
 have b1 : But w (w.setRow b #[.slice a ns.length c, i64 ((p : Int) + 1)]) (some b) := But.set w b _
 have hx1 : hp (w.setRow b #[.slice a ns.length c, i64 ((p : Int) + 1)]) b = some (.cells #[.slice a ns.length c, i64 (((p + 1 : Nat)) : Int)] t (0, 0)) := by rw [El, hr]; rfl
 refine Ad.enter plain mixed (Iz _ _ _) (by kernel_rfl) (n := 2) (by kernel_rfl) rfl ?_
 have kk : ¬ (k : Int) < 1 := by omega
 have kn : (k : Int) ≠ 0 := by omega
 by_cases h0 : ns.length = 0
 ·have hz : ((ns.length : Int) == 0) = true := by simp only [beq_iff_eq]; omega
  simp (disch := first | omega | (simp only [World.size_alloc, size_setRow, Ae]; done) | (simp only [World.size_alloc, size_setRow, Ae]; omega) | (simp only [List.length_set, Array.length_toList]; omega)) [-Option.bind_some, Md, hr, hwr, hz, kk]
  exact ⟨0, rfl, by omega, b1⟩
 have hz : ((ns.length : Int) == 0) = false := by simp only [beq_eq_false_iff_ne, ne_eq]; omega
 by_cases h1 : p < ns.length
 ·obtain ⟨d, o, c', m, hs, hcell, hm, hd⟩ := IJ hs' h1
  have hdb : d ≠ b := hb d (by rw [QD h0]; simp [hs, Az])
  simp only [Value.slice.injEq, true_and] at hs
  obtain ⟨rfl, rfl⟩ := hs
  have hm1 : (m : Int).tmod (k : Int) = ((m % k : Nat) : Int) := Fm m k
  simp (disch := first | omega | (simp only [World.size_alloc, size_setRow, Ae]; done) | (simp only [World.size_alloc, size_setRow, Ae]; omega) | (simp only [List.length_set, Array.length_toList]; omega)) [-Option.bind_some, Ac, Md, hr, hwr, hz, h1, kk, Hd, hcell, Ac, Kb, hm1]
  exact ⟨m % k, rfl, Nat.mod_lt _ (by omega), b1⟩
 have g1 : p % ns.length < ns.length := Nat.mod_lt _ (by omega)
 have g2 : (p * 7 + 3) % ns.length < ns.length := Nat.mod_lt _ (by omega)
 obtain ⟨d, o, c', m1, hs, hcell1, hm1, hd⟩ := IJ hs' g1
 obtain ⟨d2, o2, c2, m2, hs2, hcell2, hm2, hd2⟩ := IJ hs' g2
 have hdb : d ≠ b := hb d (by rw [QD h0]; simp [hs, Az])
 have he := hs.symm.trans hs2
 simp only [Value.slice.injEq, Option.some.injEq, Addr.mk.injEq, true_and, and_true] at he hs
 obtain ⟨⟨rfl, rfl⟩, rfl⟩ := he
 obtain ⟨rfl, rfl⟩ := hs
 have t1 : (p : Int).tmod (ns.length : Int) = ((p % ns.length : Nat) : Int) := Fm _ _
 have t2 : ((p : Int) * 7 + 3).tmod (ns.length : Int) = (((p * 7 + 3) % ns.length : Nat) : Int) := Fm (p * 7 + 3) _
 have t3 : (p : Int).tdiv (ns.length : Int) = ((p / ns.length : Nat) : Int) := HC _ _
 have t4 : p / ns.length ≤ p := Nat.div_le_self _ _
 generalize p % ns.length = q1 at *
 generalize (p * 7 + 3) % ns.length = q2 at *
 generalize p / ns.length = q3 at *
 have hn0 : (ns.length : Int) ≠ 0 := by omega
 simp (disch := first | omega | (simp only [World.size_alloc, size_setRow, Ae]; done) | (simp only [World.size_alloc, size_setRow, Ae]; omega) | (simp only [List.length_set, Array.length_toList]; omega)) [-Option.bind_some, Ac, Md, hr, hwr, hz, h1, kk, Hd, hcell1, hcell2, Ac, Kb, Qb, t1, t2, t3]
 obtain ⟨X, hX⟩ : ∃ X : Nat, X = m1 * 131 + m2 * 1117 + p * 29 + q3 * 53 := ⟨_, rfl⟩
 have hXi : (m1 : Int) * 131 + m2 * 1117 + p * 29 + q3 * 53 = (X : Int) := by omega
 have hXd : (X : Int).tdiv 64 = ((X / 64 : Nat) : Int) := HC X 64
 rw [hXi, hXd, hwr _ (by omega) (by omega)]
 have hxo := fun x y w => (VB (P := P) 3 x y (a := X) (b := X / 64) (by omega) (by omega) w).1
 rw [hxo]
 generalize (X ^^^ X / 64 : Nat) = Y
 have hY : (Y : Int).tmod (k : Int) = ((Y % k : Nat) : Int) := Fm Y k
 simp (disch := first | omega | (simp only [World.size_alloc, size_setRow, Ae]; done) | (simp only [World.size_alloc, size_setRow, Ae]; omega) | (simp only [List.length_set, Array.length_toList]; omega)) [-Option.bind_some, Kb, hY]
 exact ⟨Y % k, rfl, Nat.mod_lt _ (by omega), by simp (disch := first | omega | (simp only [World.size_alloc, size_setRow, Ae]; done) | (simp only [World.size_alloc, size_setRow, Ae]; omega) | (simp only [List.length_set, Array.length_toList]; omega)) [-Option.bind_some, hr], b1.tr (But.of (Cs _) _)⟩
def R (w : World) (B g p : Nat) : Prop := ∃ s ns, XK 71 w g s p ∧ En w s ns ∧ ns.length ≤ 1000000000000 ∧ (∀ x ∈ Gp s ns, x < B) ∧ B ≤ g
theorem R.lt {w : World} {B g p : Nat} (h : R w B g p) : B ≤ g ∧ g < w.heap.size := by
 obtain ⟨s, ns, h1, h2, h3, h4, h5⟩ := h
 exact ⟨h5, Ao h1⟩
theorem R.Aj {w w' : World} {B g p : Nat} (h : R w B g p) (k : ∀ b, b < B ∨ b = g → b < w.heap.size → hp w' b = hp w b) : R w' B g p := by
 obtain ⟨s, ns, h1, h2, h3, h4, h5⟩ := h
 refine ⟨s, ns, (k g (.inr rfl) (Ao h1)).trans h1, ?_, h3, h4, h5⟩
 obtain ⟨a, c, q1, q2, q3, q4, q5⟩ := h2
 refine ⟨a, c, q1, q2, q3, q4, ?_⟩
 cases ns with
 | nil => exact .inl rfl
 | cons n ns =>
  rcases q5 with q5 | ⟨d, o, q6, q7⟩
  ·cases q5
  ·subst q1; subst q6
   have hd := h4 d (by simp [Gp, Az])
   exact .inr ⟨d, o, rfl, q7.same (k d (.inl hd) (At.lt (l := ns.map (Value.int .u8)) q7))⟩
theorem R.ext {w w' : World} {B g p : Nat} (h : R w B g p) (k : Ext w w') : R w' B g p := h.Aj fun b _ hb => k.Ai hb
theorem Ak {B g p k : Nat} (hk : 1 ≤ k) (hk2 : k ≤ 1000000) (hp0 : p ≤ 1000000000000) {w : World} (hr : R w B g p) :
  Ad (EV P 25 #[pt g 0, i64 k] w) fun r => ∃ m : Nat, r.1 = i64 m ∧ m < k ∧ R r.2 B g (p + 1) ∧ Mod (fun b => b = g) w r.2 := by
 obtain ⟨s, ns, h1, h2, h3, h4, h5⟩ := hr
 have hb : ∀ x ∈ Gp s ns, x ≠ g := fun x hx => by have := h4 x hx; omega
 refine Ad.mono (Ji hk hk2 hp0 h1 h2 h3 hb) ?_
 rintro r ⟨m, e1, e2, e3, M⟩
 have M' : Mod (fun b => b = g) w r.2 := ⟨M.os, M.tape, M.output, M.size, fun b hb hne => M.Ai b hb (by simpa using fun h => hne h.symm)⟩
 have R0 : R w B g p := ⟨s, ns, h1, h2, h3, h4, h5⟩
 refine ⟨m, e1, e2, ⟨s, ns, e3, ?_, h3, h4, h5⟩, M'⟩
 obtain ⟨a, c, q1, q2, q3, q4, q5⟩ := h2
 refine ⟨a, c, q1, q2, q3, q4, ?_⟩
 cases ns with
 | nil => exact .inl rfl
 | cons n ns =>
  rcases q5 with q5 | ⟨d, o, q6, q7⟩
  ·cases q5
  ·subst q1; subst q6
   have hd := h4 d (by simp [Gp, Az])
   exact .inr ⟨d, o, rfl, q7.same (M'.Ai d (At.lt (l := ns.map (Value.int .u8)) q7) (by omega))⟩
theorem LW {s : Value} {ns : List Int} {w : World} (hs : En w s ns) (hn : ns.length ≤ 1000000000000) :
  Ad (EV P 13 #[s] w) fun r => ∃ g, r.1 = pt g 0 ∧ R r.2 w.heap.size g 0 ∧ Ext w r.2 := by
 have hlt : ∀ x ∈ Gp s ns, x < w.heap.size := by
  intro x hx
  obtain ⟨a, c, q1, q2, q3, q4, q5⟩ := hs
  cases ns with
  | nil => simp [Gp] at hx
  | cons n ns =>
   rcases q5 with q5 | ⟨d, o, q6, q7⟩
   ·cases q5
   ·subst q1; subst q6
    simp only [Gp, Az, Option.toList_some, List.mem_singleton] at hx
    rw [hx]
    exact At.lt (l := ns.map (Value.int .u8)) q7
 have fin : ∀ (e : Env) (s : Value) (ns : List Int), e 0 = s → En w s ns → ns.length ≤ 1000000000000 → (∀ x ∈ Gp s ns, x < w.heap.size) → Ad (Dd e w) fun r => ∃ g, r.1 = pt g 0 ∧ R r.2 w.heap.size g 0 ∧ Ext w r.2 := by
  intro e s ns e0 hs hn hlt
  have hs' := hs
  obtain ⟨a, c, rfl, q2, q3, q4, q5⟩ := hs
  refine Ad.post fun Q hQ => ?_
  rw [Iy]
  simp (disch := first | exact xD | fail) [-Option.bind_some, -Aa, -Ab, e0]
  refine hQ _ ⟨w.heap.size, rfl, ⟨_, ns, ?_, hs'.mono (Ext.Aj xE), hn, hlt, by omega⟩, xE⟩
  show hp _ _ = _
  exact (by first | assumption | rfl | (simp (disch := first | exact xD | fail) [-Option.bind_some, qs, -Aa, -Ab]; done))
 have hs' := hs
 obtain ⟨a, c, rfl, q2, q3, q4, q5⟩ := hs
 refine Ad.post fun Q hQ => ?_
 refine Ad.enter plain mixed (Ky _ _) (by kernel_rfl) (n := 1) (by kernel_rfl) rfl ?_
 by_cases hl : 2000 < ns.length
 ·have hts : En w (.slice a 2000 c) (ns.take 2000) := by
   refine ⟨a, c, by rw [List.length_take]; congr 1; omega, by rw [List.length_take]; omega, q3, fun n hn => q4 n (List.mem_of_mem_take hn), ?_⟩
   rcases q5 with q5 | ⟨d, o, q6, q7⟩
   ·subst q5; simp at hl
   ·refine .inr ⟨d, o, q6, fun j v hv => q7 j v ?_⟩
    rw [List.map_take, List.getElem?_take] at hv
    split at hv
    ·exact hv
    ·cases hv
  simp (disch := first | exact xD | fail) [-Option.bind_some, -Aa, -Ab, show (2000 : Int) < ns.length by omega, Tb (P := P) Sn]
  refine Ad.mono (fin _ (.slice a 2000 c) (ns.take 2000) rfl hts (by rw [List.length_take]; omega) ?_) hQ
  intro x hx
  refine hlt x ?_
  cases ns with
  | nil => simp at hl
  | cons n ns =>
   cases a with
   | none => simp [Gp, Az] at hx
   | some _ => simpa [Gp, Az] using hx
 ·simp (disch := first | exact xD | fail) [-Option.bind_some, -Aa, -Ab, show ¬ (2000 : Int) < ns.length by omega]
  exact Ad.mono (fin _ _ ns rfl hs' hn hlt) hQ
theorem BA {B g p b k c : Nat} {ints : List Int} (hk : 1 ≤ k) (hk2 : k ≤ 1000000) (hp0 : p ≤ 1000000000000) {w : World} (hl : ints.length = k) (hA : At w b 0 (ints.map fun n => i64 n)) (hbg : b ≠ g) (hr : R w B g p) :
  Ad (EV P 54 #[pt g 0, .slice (some ⟨b, 0, none⟩) k c] w) fun r => ∃ n ∈ ints, r.1 = i64 n ∧ R r.2 B g (p + 1) ∧ Mod (fun b => b = g) w r.2 := by
 refine Ad.post fun Q hQ => ?_
 refine Ad.enter plain mixed (I0 _ _ _) (by kernel_rfl) (n := 2) (by kernel_rfl) rfl ?_
 simp (disch := first | exact xD | fail) [-Option.bind_some, -Aa, -Ab]
 refine Ad.bind (Ak hk hk2 hp0 hr) ?_
 rintro ⟨_, w1⟩ ⟨m, rfl, hm, R1, M1⟩
 have zM1 := M1.size
 try simp only [] at zM1
 try dsimp only at R1 M1
 obtain ⟨n, hn, _⟩ := Al (l := ints) (k := m) (by omega)
 have hA1 := hA m (i64 n) (by rw [List.getElem?_map, hn]; rfl)
 have hbl : b < w.heap.size := by
  rcases Nat.lt_or_ge b w.heap.size with h | h
  ·exact h
  ·rw [hp, Array.getElem?_eq_none h] at hA1; simp [AP] at hA1
 rw [Nat.zero_add] at hA1
 simp (disch := first | exact xD | fail) [-Option.bind_some, -Aa, -Ab, WK, hA1, M1.Ai]
 exact hQ _ ⟨n, List.mem_of_getElem? hn, rfl, R1, M1⟩
def addNode (n : CNode) (v : Ver) (last : Bool) : CNode := ⟨n.store.set v.key.toNat v, if last then n.wait else n.wait ++ [v]⟩
def GF (ns : List CNode) (i : Nat) (v : Ver) : List CNode := match ns[i]? with
 | some n => (match n.store[v.key.toNat]? with
  | some u => if Bv u.tag v.tag then ns.set i (addNode n v (decide (ns.length ≤ i + 1))) else ns
  | none => ns)
 | none => ns
theorem Jj {a : Option Addr} {n c i : Nat} {S S1 : Nat → Prop} {ns : List CNode} {cs : List Value} {v : Ver} {x : CNode} {w : World} (ho : O AW S w [.slice a n c] ns) (hv : D Ck S1 w cs v) (hd : ∀ b, b < w.heap.size → S1 b → ¬ S b)
  (hx : ns[i]? = some x) (h0 : 0 ≤ v.key) (h1 : v.key.toNat < x.store.length) (h6 : x.wait.length ≤ 1000000) (h4 : ns.length ≤ 1000000) :
  Ad (EV P 138 #[.agg #[.slice a n c], i64 i, .agg cs.toArray] w) fun r => r.1 = .agg #[.slice a ns.length c] ∧ O AW (fun b => S b ∨ In w.heap.size r.2.heap.size b) r.2 [.slice a ns.length c] (GF ns i v) ∧ Mod S w r.2 := by
 obtain ⟨rfl, hm, _⟩ := ho.n
 have ho' := ho
 obtain ⟨av, cv, rfl, hv1, hv2⟩ := D.Ch.1 hv
 obtain ⟨u, hu, _⟩ := Al h1
 have hlt : i < ns.length := (List.getElem?_eq_some_iff.1 hx).1
 obtain ⟨g, cur, ds, S2, rfl, hSg, hgl, hg, hle, hx1, hS2, put⟩ := ho.row (by decide) hx
 obtain ⟨a2, c2, a3, c3, Ss, Sw, rfl, o2, o3, hSs, hSw⟩ := O.KT hx1
 simp only [BH] at hg hle put
 have o2' := o2
 obtain ⟨g2, cur2, ds2, S3, rfl, hSg2, hgl2, hg2, hle2, hx2, hS3, put2⟩ := o2.row (by decide) hu
 obtain ⟨au, cu, rfl, hu1, hu2⟩ := O.Ch.1 hx2
 simp only [Cf] at hg2 hle2 put2
 have hk : v.key < x.store.length := by omega
 have hne : g2 ≠ g := (hS2 g2 (hSs g2 hSg2).1).2.1
 refine Ad.post fun Q hQ => ?_
 refine Ad.enter plain mixed (Nc _ _ _ _) (by kernel_rfl) (n := 3) (by kernel_rfl) rfl ?_
 simp (disch := first | exact xD | fail) [-Option.bind_some, qs, -Aa, -Ab, qm, CR, Cd, hg, hg2]
 refine Ad.bind (AN u.tag v.tag _) ?_
 rintro ⟨_, w1⟩ ⟨rfl, E1⟩
 try dsimp only at E1
 have zE1 := E1.size
 try simp only [qz] at zE1
 cases hl : Bv u.tag v.tag
 ·have e : GF ns i v = ns := by rw [GF, hx]; simp [hu, hl]
  rw [e] at hQ
  simp (disch := first | exact xD | fail) [-Option.bind_some, qs, -Aa, -Ab, qm, E1.Ai]
  exact hQ _ ⟨rfl, (ho'.Aj (by intro b hS hb; (try dsimp only at hS); (try simp only [In, qz] at hS hb); first | rfl | (simp (disch := first | exact xF | fail) only [E1.Ai, qk]; done))).wide (fun b h _ => .inl h), xM⟩
 ·have e : GF ns i v = ns.set i (addNode x v (decide (ns.length ≤ i + 1))) := by rw [GF, hx]; simp [hu, hl]
  rw [e] at hQ
  have hst : GJ x.store v = x.store.set v.key.toNat v := Mn hu hl
  simp (disch := first | exact xD | fail) [-Option.bind_some, qs, -Aa, -Ab, qm, CR, hg, E1.Ai]
  refine Ad.bind (Ow (o2'.Aj (by intro b hS hb; (try dsimp only at hS); (try simp only [In, qz] at hS hb); first | rfl | (simp (disch := first | exact xF | fail) only [E1.Ai, qk]; done))) (hv.ext xE) h0 h1) ?_
  rintro ⟨_, w2⟩ ⟨rfl, o4, M2⟩
  have zM2 := M2.size
  try simp only [qz] at zM2
  try dsimp only at o4 M2
  have zM2 := M2.size
  simp only [Ae] at zM2
  have nS : ∀ b, w.heap.size ≤ b → ¬ Ss b := fun b hb h => by have := (hSs b h).2.2; omega
  have G2 : hp w2 g = hp w g := (M2.Ai g xN (fun h => (hS2 g (hSs g h).1).2.1 rfl)).trans (by first | assumption | rfl | (simp (disch := first | exact xD | fail) [-Option.bind_some, qs, hg, E1.Ai]; done))
  have Y1 : hp w2 w.heap.size = some (.cells #[.slice (some ⟨g, 0, none⟩) ns.length c] 98 (0, 0)) := (M2.Ai w.heap.size xN (nS _ (by omega))).trans (by first | assumption | rfl | (simp (disch := first | exact xD | fail) [-Option.bind_some, qs, -Aa, -Ab, E1.Ai]; done))
  have Y2 : hp w2 (w.heap.size + 1) = some (.cells #[i64 v.key, i64 v.tag.t, i64 v.tag.p, .slice av v.past.length cv, .string v.text, .bool v.gone] 110 (0, 0)) := (M2.Ai (w.heap.size + 1) xN (nS _ (by omega))).trans (by first | assumption | rfl | (simp (disch := first | exact xD | fail) [-Option.bind_some, qs, -Aa, -Ab, E1.Ai]; done))
  have Y3 : hp w2 (w.heap.size + 1 + 1) = some (.cells #[.slice none 0 0] 98 (0, 0)) := (M2.Ai (w.heap.size + 1 + 1) xN (nS _ (by omega))).trans (by first | assumption | rfl | (simp (disch := first | exact xD | fail) [-Option.bind_some, qs, -Aa, -Ab, E1.Ai]; done))
  have hw : IntKind.i64.wrap ((ns.length : Int) - 1) = (ns.length : Int) - 1 := HH (by omega) (by omega)
  have MA : Mod S w w2 := Mod.AX (Mod.of xE S) M2 (fun x _ h => (hS2 x (hSs x h).1).1)
  rw [hst] at o4
  by_cases hlast : i + 1 < ns.length
  ·simp (disch := first | exact xD | fail) [-Option.bind_some, qs, -Aa, -Ab, qm, CR, Y1, Y2, G2, hg, hw, show (i : Int) < (ns.length : Int) - 1 by omega]
   have hg2' : hp (w2.setRow g (Bo cur (i * 2) [.slice (some ⟨g2, 0, none⟩) x.store.length c2, .slice a3 x.wait.length c3]).toArray) g = some (.cells (Bo cur (i * 2) [.slice (some ⟨g2, 0, none⟩) x.store.length c2, .slice a3 x.wait.length c3]).toArray 159 (0, 0)) := (by first | assumption | rfl | (simp (disch := first | exact xD | fail) [-Option.bind_some, -Aa, -Ab, G2, hg]; done))
   have hvk : D Ck S1 (dw (w2.setRow g (Bo cur (i * 2) [.slice (some ⟨g2, 0, none⟩) x.store.length c2, .slice a3 x.wait.length c3]).toArray)) [i64 v.key, i64 v.tag.t, i64 v.tag.p, .slice av v.past.length cv, .string v.text, .bool v.gone] v := by
    refine hv.Aj fun b hb hbl => ?_
    have q1 : b ≠ g := fun h => hd b hbl hb (h ▸ hSg)
    have q2 : ¬ Ss b := fun h => hd b hbl hb (hS2 b (hSs b h).1).1
    rw [BU, Ac q1]
    exact (M2.Ai b xN q2).trans (by first | assumption | rfl | (simp (disch := first | exact xD | fail) [-Option.bind_some, qs, E1.Ai]; done))
   refine Ad.bind (AZ hvk) ?_
   rintro ⟨_, w3⟩ ⟨es, rfl, o5, E3⟩
   try dsimp only at es o5 E3
   have zE3 := E3.size
   try simp only [qz] at zE3
   have zds := O.Ch.1 o5
   obtain ⟨ae, ce, rfl, _, _⟩ := zds
   have zE3 := E3.size
   simp only [size_setRow, Ae] at zE3
   have hkw : ∀ b, b < w.heap.size → b ≠ g → ¬ Ss b → hp w3 b = hp w b := by
    intro b q1 q2 q3
    refine (E3.Ai (by simp only [size_setRow, Ae]; omega)).trans ?_
    rw [BU, Ac q2]
    exact (M2.Ai b xN q3).trans (by first | assumption | rfl | (simp (disch := first | exact xD | fail) [-Option.bind_some, qs, E1.Ai]; done))
   have hkn : ∀ b, b ≠ g → b < w2.heap.size → hp w3 b = hp w2 b := by
    intro b q1 q2
    refine (E3.Ai (by simp only [size_setRow, Ae]; omega)).trans ?_
    rw [BU, Ac q1]
   have hg3 : hp w3 g = some (.cells (Bo cur (i * 2) [.slice (some ⟨g2, 0, none⟩) x.store.length c2, .slice a3 x.wait.length c3]).toArray 159 (0, 0)) := (E3.Ai (by simp only [size_setRow, Ae]; omega)).trans ((BU _ _).trans hg2')
   simp (disch := first | exact xD | fail) [-Option.bind_some, qs, -Aa, -Ab, qm, Y1, hg2', E3.Ai]
   refine Ad.bind (O.app (L := Ck) (S := fun b => Sw b) (mx := 1954687338211) (xs := x.wait) (x := v) Ds DI rfl (by decide) (o3.Aj ?_) (o5.Aj (by intro b hS hb; (try dsimp only at hS); (try simp only [In, qz] at hS hb); first | rfl | (simp (disch := first | exact xF | fail) only [qk]; done))) ?_ At.new (by omega) (by decide) (by decide)) ?_
   ·intro b hS hb
    rw [Ah (by omega)]
    exact hkw b hb (hS2 b (hSw b hS).1).2.1 (hSw b hS).2.1
   ·intro b hb q1 q2
    have := (hSw b q1).2.2
    simp only [In, size_setRow, Ae] at q2
    omega
   rintro ⟨_, w4⟩ ⟨a7, c7, rfl, o7, M7⟩
   have zM7 := M7.size
   try simp only [qz] at zM7
   try dsimp only at o7 M7
   have zM7 := M7.size
   simp only [World.size_alloc] at zM7
   have nW : ∀ b, w.heap.size ≤ b → ¬ Sw b := fun b hb h => by have := (hSw b h).2.2; omega
   have hg4 : hp w4 g = some (.cells (Bo cur (i * 2) [.slice (some ⟨g2, 0, none⟩) x.store.length c2, .slice a3 x.wait.length c3]).toArray 159 (0, 0)) := (M7.Ai g xN (fun h => (hS2 g (hSw g h).1).2.1 rfl)).trans ((Ah (by omega)).trans hg3)
   have hk7 : ∀ b, b < w3.heap.size → ¬ Sw b → hp w4 b = hp w3 b := fun b q1 q2 => (M7.Ai b xN q2).trans (Ah q1)
   have Z1 : hp w4 w.heap.size = some (.cells #[.slice (some ⟨g, 0, none⟩) ns.length c] 98 (0, 0)) := (hk7 _ (by omega) (nW _ (by omega))).trans ((hkn _ (by omega) (by omega)).trans Y1)
   have Z3 : hp w4 (w.heap.size + 1 + 1) = some (.cells #[.slice none 0 0] 98 (0, 0)) := (hk7 _ (by omega) (nW _ (by omega))).trans ((hkn _ (by omega) (by omega)).trans Y3)
   simp (disch := first | exact xD | fail) [-Option.bind_some, qs, -Aa, -Ab, qm, Z1, Z3, hg4, GC]
   have hns : decide (ns.length ≤ i + 1) = false := by simp only [decide_eq_false_iff_not]; omega
   rw [hns] at hQ
   have MB : Mod S w w3 := ((MA.AM (.inr hSg) _).TI).ex E3
   have MC : Mod S w w4 := Mod.AX (MB.al _) M7 (fun x _ h => (hS2 x (hSw x h).1).1)
   refine hQ _ ⟨rfl, (put _ _ (addNode x v false) _ (O.F7 (v := addNode x v false) (o4.Aj ?_) (o7.Aj ?_) ?_) (by first | assumption | rfl | (simp (disch := first | exact xD | fail) [-Option.bind_some, qs, -Aa, -Ab, hg4]; done)) ?_ ?_).wide ?_, (MC.AM (.inr hSg) _).AM (.inl (by omega)) _⟩
   ·intro b hS hb
    have q1 : b ≠ g ∧ b ≠ w.heap.size + 1 + 1 ∧ ¬ Sw b := by
     rcases hS with h | h
     ·have := hS2 b (hSs b h).1
      exact ⟨this.2.1, by omega, (hSs b h).2.1⟩
     ·simp only [In, Ae] at h
      exact ⟨by omega, by omega, nW b (by omega)⟩
    rw [Ac q1.2.1, Ac q1.1]
    exact (hk7 b (by omega) q1.2.2).trans (hkn b q1.1 hb)
   ·intro b hS hb
    have q1 : b ≠ g ∧ b ≠ w.heap.size + 1 + 1 := by
     rcases hS with h | h
     ·have := hS2 b (hSw b h).1
      exact ⟨this.2.1, by omega⟩
     ·simp only [In, World.size_alloc, size_setRow, Ae] at h
      omega
    rw [Ac q1.2, Ac q1.1]
   ·intro b hb h1 h2
    simp only [In, World.size_alloc, size_setRow, Ae] at h1 h2
    rcases h1 with h | h
    ·have := hSs b h
     rcases h2 with k | k
     ·exact this.2.1 k
     ·omega
    ·rcases h2 with k | k
     ·exact nW b (by omega) k
     ·omega
   ·intro b hb hS hne hn
    have q2 : ¬ Ss b := fun h => hn (hSs b h).1
    have q3 : ¬ Sw b := fun h => hn (hSw b h).1
    rw [Ac (by omega), Ac hne]
    exact (hk7 b (by omega) q3).trans (hkw b hb hne q2)
   ·intro b hb h
    simp only [In, World.size_alloc, size_setRow, Ae] at h
    rcases h with (h | h) | (h | h)
    ·exact .inl (hSs b h).1
    ·exact .inr (by omega)
    ·exact .inl (hSw b h).1
    ·exact .inr (by omega)
   ·intro b h hb
    simp only [In, World.size_alloc, size_setRow, Ae] at h hb ⊢
    rcases h with h | (h | h) | (h | h)
    ·exact .inl h
    ·exact .inl (hS2 b (hSs b h).1).1
    ·exact .inr (by omega)
    ·exact .inl (hS2 b (hSw b h).1).1
    ·exact .inr (by omega)
  ·simp (disch := first | exact xD | fail) [-Option.bind_some, qs, -Aa, -Ab, qm, Y1, Y3, G2, hg, hw, GC, show ¬ (i : Int) < (ns.length : Int) - 1 by omega]
   have hns : decide (ns.length ≤ i + 1) = true := by simp only [decide_eq_true_eq]; omega
   rw [hns] at hQ
   refine hQ _ ⟨rfl, (put _ _ (addNode x v true) _ (O.F7 (v := addNode x v true) (o4.Aj ?_) (o3.Aj ?_) ?_) (by first | assumption | rfl | (simp (disch := first | exact xD | fail) [-Option.bind_some, qs, -Aa, -Ab, G2, hg]; done)) ?_ ?_).wide ?_, (MA.AM (.inr hSg) _).AM (.inl (by omega)) _⟩
   ·intro b hS hb
    have q1 : b ≠ g ∧ b ≠ w.heap.size + 1 + 1 := by
     rcases hS with h | h
     ·have := hS2 b (hSs b h).1
      exact ⟨this.2.1, by omega⟩
     ·simp only [In, Ae] at h
      omega
    rw [Ac q1.2, Ac q1.1]
   ·intro b hS hb
    have q1 := hSw b hS
    rw [Ac (by omega), Ac (hS2 b q1.1).2.1]
    exact (M2.Ai b xN q1.2.1).trans (by first | assumption | rfl | (simp (disch := first | exact xD | fail) [-Option.bind_some, qs, E1.Ai]; done))
   ·intro b hb h1 h2
    have := hSw b h2
    simp only [In, Ae] at h1
    rcases h1 with h | h
    ·exact this.2.1 h
    ·omega
   ·intro b hb hS hne hn
    have q2 : ¬ Ss b := fun h => hn (hSs b h).1
    rw [Ac (by omega), Ac hne]
    exact (M2.Ai b xN q2).trans (by first | assumption | rfl | (simp (disch := first | exact xD | fail) [-Option.bind_some, qs, E1.Ai]; done))
   ·intro b hb h
    simp only [In, Ae] at h
    rcases h with (h | h) | h
    ·exact .inl (hSs b h).1
    ·exact .inr (by omega)
    ·exact .inl (hSw b h).1
   ·intro b h hb
    simp only [In, size_setRow, Ae] at h hb ⊢
    rcases h with h | (h | h) | h
    ·exact .inl h
    ·exact .inl (hS2 b (hSs b h).1).1
    ·exact .inr (by omega)
    ·exact .inl (hS2 b (hSw b h).1).1
theorem Jk (ns : List CNode) (i : Nat) (v : Ver) : (GF ns i v).length = ns.length := by
 unfold GF
 split
 ·split
  ·split
   ·rw [List.length_set]
   ·rfl
  ·rfl
 ·rfl
def FY (ns : List CNode) (i : Int) : Bool := (decide (0 ≤ i) && decide (i ≤ (ns.length : Int) - 2)) && (match ns[i.toNat]?, ns[i.toNat + 1]? with
 | some n, some m => decide (0 < n.wait.length) && decide (m.wait.length < 6)
 | _, _ => false)
theorem Nm {ns : List CNode} {i : Int} (h : FY ns i = true) : ∃ (k : Nat) (n m : CNode) (v : Ver) (l : List Ver), i = k ∧ k + 1 < ns.length ∧ ns[k]? = some n ∧ ns[k + 1]? = some m ∧ n.wait = v :: l ∧ m.wait.length < 6 := by
 simp only [FY, Bool.and_eq_true, decide_eq_true_eq] at h
 obtain ⟨⟨h1, h2⟩, h3⟩ := h
 obtain ⟨k, rfl⟩ := Int.eq_ofNat_of_zero_le h1
 simp only [Int.toNat_natCast] at h3
 obtain ⟨n, hn, _⟩ := Al (l := ns) (k := k) (by omega)
 obtain ⟨m, hm, _⟩ := Al (l := ns) (k := k + 1) (by omega)
 rw [hn, hm] at h3
 simp only [Bool.and_eq_true, decide_eq_true_eq] at h3
 cases hw : n.wait with
 | nil => rw [hw] at h3; simp at h3
 | cons v l => exact ⟨k, n, m, v, l, rfl, by omega, hn, hm, hw, h3.2⟩
theorem Oz {a : Option Addr} {n c : Nat} {i : Int} {S : Nat → Prop} {ns : List CNode} (h4 : ns.length ≤ 1000000) {w : World} (ha : D AW S w [.slice a n c] ns) :
  Ad (EV P 113 #[.agg #[.slice a n c], i64 i] w) fun r => r.1 = .bool (FY ns i) ∧ Ext w r.2 := by
 obtain ⟨rfl, hm, _⟩ := ha.n
 have hw : IntKind.i64.wrap ((ns.length : Int) - 2) = (ns.length : Int) - 2 := HH (by omega) (by omega)
 refine Ad.post fun Q hQ => ?_
 refine Ad.enter plain mixed (MY _ _ _) (by kernel_rfl) (n := 2) (by kernel_rfl) rfl ?_
 simp (disch := first | exact xD | fail) [-Option.bind_some, qs, -Aa, -Ab, hw]
 refine Ad.bind (AH _ _ _ _) ?_
 rintro _ rfl
 cases hi : (decide (0 ≤ i) && decide (i ≤ (ns.length : Int) - 2))
 ·have h1 : FY ns i = false := by simp only [FY, hi, Bool.false_and]
  rw [h1] at hQ
  simp (disch := first | exact xD | fail) [-Option.bind_some, -Aa, -Ab]
  exact hQ _ ⟨rfl, xE⟩
 have hi' := hi
 simp only [Bool.and_eq_true, decide_eq_true_eq] at hi'
 obtain ⟨k, rfl⟩ := Int.eq_ofNat_of_zero_le hi'.1
 obtain ⟨x, hx, _⟩ := Al (l := ns) (k := k) (by omega)
 obtain ⟨y, hy, _⟩ := Al (l := ns) (k := k + 1) (by omega)
 have h1 : FY ns k = (decide (0 < x.wait.length) && decide (y.wait.length < 6)) := by simp only [FY, hi, Int.toNat_natCast, hx, hy, Bool.true_and]
 rw [h1] at hQ
 obtain ⟨b1, o1, cs1, ha1, A1, D1, _, l1⟩ := ha.at (by decide) hx
 obtain ⟨b2, o2, cs2, ha2, A2, D2, _, l2⟩ := ha.at (by decide) hy
 subst ha1
 cases ha2
 obtain ⟨a2, c2, a3, c3, rfl, h2, h3⟩ := D.node.1 D1
 obtain ⟨a4, c4, a5, c5, rfl, h4, h5⟩ := D.node.1 D2
 have p0 := A1 0 _ rfl
 have p1 := A1 1 _ rfl
 simp only [BH, Nat.add_zero] at p0 p1
 have q0 := A2 0 _ rfl
 have q1 := A2 1 _ rfl
 simp only [BH, Nat.add_zero] at q0 q1
 cases hz : decide (0 < x.wait.length)
 ·rw [hz] at hQ
  simp only [decide_eq_false_iff_not] at hz
  simp (disch := first | exact xD | fail) [-Option.bind_some, qs, -Aa, -Ab, CR, hz, p1]
  exact hQ _ ⟨rfl, xE⟩
 ·rw [hz] at hQ
  simp only [decide_eq_true_eq] at hz
  simp (disch := first | exact xD | fail) [-Option.bind_some, qs, -Aa, -Ab, CR, hz, show ((k : Int) + 1).toNat = k + 1 by omega, p1, q1]
  refine hQ _ ⟨?_, xE⟩
  show Value.bool _ = Value.bool _
  congr 1
  rw [Bool.eq_iff_iff]
  simp
  omega
theorem Ic {a : Option Addr} {n c : Nat} {S : Nat → Prop} {v : Ver} {l : List Ver} {w : World} (ho : O AO S w [.slice a n c] (v :: l)) :
  ∃ g cs S1, a = some ⟨g, 0, none⟩ ∧ S g ∧ g < w.heap.size ∧ At w g 0 cs ∧ cs.length = 6 ∧ O Ck S1 w cs v ∧ (∀ b, S1 b → S b ∧ b ≠ g ∧ b < w.heap.size) ∧ (∃ S3 css, Gr Ck S3 w css l ∧ At w g 6 css.flatten ∧ ∀ b, S3 b → S b ∧ ¬ S1 b ∧ b ≠ g ∧ b < w.heap.size) ∧
   True := by
 obtain ⟨rfl, hm, _⟩ := ho.n
 obtain ⟨css, hO, hE, hb, hmx⟩ := ho.un
 obtain ⟨hl, hn9, hO⟩ := hO
 simp only [List.length_cons] at hl hn9 hm hmx
 rcases hO with ⟨h1, h0⟩ | ⟨g, cap, cur, h1, _, hh, hc, hcm, hcs, ht⟩
 ·simp at h0
 cases h1
 simp only [List.length_cons] at hc hcs ht
 have hb' := hb g (by simp [Az])
 obtain ⟨cl1, cl2⟩ := hE.lay
 cases css with
 | nil => simp at cl1
 | cons cs css =>
 obtain ⟨S1, S2, L1, L2, k1, k2⟩ := hE.cut 1
 simp only [List.take_succ_cons, List.take_zero, List.drop_succ_cons, List.drop_zero] at L1 L2
 have hcs6 : cs.length = 6 := cl2 cs List.mem_cons_self
 rw [List.flatten_cons] at hl ht
 have hnl : css.flatten.length = l.length * 6 := by rw [List.length_append, hcs6, Cf] at hl; omega
 rw [Cf] at ht hcs
 have hA0 : At w g 0 (cs ++ css.flatten) := by
  intro j u hu
  rw [hh, Bn, ← Cr, Nat.zero_add]
  rw [← ht, List.getElem?_take] at hu
  split at hu
  ·simpa using hu
  ·contradiction
 have hA1 : At w g 0 cs := fun j u hu => hA0 j u (by rw [List.getElem?_append_left (List.getElem?_eq_some_iff.1 hu).1]; exact hu)
 have hA2 : At w g 6 css.flatten := by
  intro j u hu
  have := hA0 (6 + j) u (by rw [List.getElem?_append_right (by omega), hcs6, Nat.add_sub_cancel_left]; exact hu)
  rwa [Nat.zero_add] at this
 have ov : O Ck S1 w cs v := by
  obtain ⟨bss, q1, q2, q3⟩ := L1
  cases bss with
  | nil => exact q1.elim
  | cons bl bss =>
   cases bss with
   | nil => exact ⟨bl, q1.1, by simpa using q2, fun b hb => q3 b (by simpa using hb)⟩
   | cons _ _ => exact q1.2.elim
 refine ⟨g, cs, S1, rfl, hb'.1, hb'.2, hA1, hcs6, ov, fun b h => ⟨(k1 b h).1.1, fun e => (k1 b h).1.2.1 (by simp [Az, e]), (k1 b h).2.2⟩, ⟨S2, css, L2, hA2, fun b h => ⟨(k2 b h).1.1, (k2 b h).2.1, fun e => (k2 b h).1.2.1 (by simp [Az, e]), (k2 b h).2.2⟩⟩, trivial⟩
def GY (ns : List CNode) (k : Nat) : List CNode := match ns[k]? with
 | some n => (match n.wait with
  | v :: l => GF (ns.set k ⟨n.store, l⟩) (k + 1) v
  | [] => ns)
 | none => ns
theorem J8 {ns : List CNode} {k : Nat} {n : CNode} {v : Ver} {l : List Ver} (hn : ns[k]? = some n) (hw : n.wait = v :: l) : GY ns k = GF (ns.set k ⟨n.store, l⟩) (k + 1) v := by
 rw [GY, hn]
 simp only [hw]
theorem Nn {a : Option Addr} {n c k : Nat} {S : Nat → Prop} {ns : List CNode} {x y : CNode} {v : Ver} {l : List Ver} {w : World} (hl4 : ns.length ≤ 1000) (hvk : 0 ≤ v.key ∧ v.key ≤ 3) (ys4 : y.store.length = 4) (hx : ns[k]? = some x) (hy : ns[k + 1]? = some y) (hxw : x.wait = v :: l) (hy6 : y.wait.length < 6) (ho : O AW S w [.slice a n c] ns) :
  Ad (EV P 114 #[.agg #[.slice a n c], i64 k] w) fun r => r.1 = .agg #[.slice a ns.length c] ∧ O AW (fun b => S b ∨ In w.heap.size r.2.heap.size b) r.2 [.slice a ns.length c] (GY ns k) ∧ Mod S w r.2 := by
 obtain ⟨rfl, hm, _⟩ := ho.n
 have ho := ho.wide (S' := fun b => S b ∧ b < w.heap.size) (fun b h1 h2 => ⟨h1, h2⟩)
 have hkl : k < ns.length := (List.getElem?_eq_some_iff.1 hx).1
 rw [J8 hx hxw]
 obtain ⟨g, cur, ds, S2, rfl, hSg, hgl, hg, hle, hx1, hS2, put⟩ := ho.OM (by decide) hx
 obtain ⟨a2, c2, a3, c3, Ss, Sw, rfl, o2, o3, hSs, hSw⟩ := O.KT hx1
 simp only [BH] at hg hle put
 rw [hxw] at o3 hg
 obtain ⟨gw, cs, S1, rfl, hSgw, hgwl, Aw, hcs6, ov, hS1, ⟨S3, css, L3, A3, hS3⟩, _⟩ := Ic o3
 have ov' := ov
 obtain ⟨av, cv, hcs, ov1, ovt⟩ := O.Ch.1 ov
 subst hcs
 have p0 := Aw 0 _ rfl
 have p1 := Aw 1 _ rfl
 have p2 := Aw 2 _ rfl
 have p3 := Aw 3 _ rfl
 have p4 := Aw 4 _ rfl
 have p5 := Aw 5 _ rfl
 simp only [Nat.add_zero] at p0 p1 p2 p3 p4 p5
 have hne : gw ≠ g := (hS2 gw (hSw gw hSgw).1).2.1
 refine Ad.post fun Q hQ => ?_
 refine Ad.enter plain mixed (LC _ _ _) (by kernel_rfl) (n := 2) (by kernel_rfl) rfl ?_
 obtain ⟨q, d, ct, hq6⟩ : ∃ q d, (∀ w', sl P 99 (.slice (some ⟨gw, 0, none⟩) (l.length + 1) c3) (some (i64 1)) none none w' = some (.slice (some ⟨gw, q, none⟩) l.length d, w')) ∧ (0 < l.length → q = 6) := by
  by_cases hc1 : c3 = 1
  ·have h0 : l.length = 0 := by have := o3.clip.1; simp only [List.length_cons] at this; omega
   subst hc1
   exact ⟨0, 0, fun w' => by have := Xg (P := P) Ds (b := gw) (o := 0) (len := l.length + 1) (by omega) w'; exact this, fun h => by omega⟩
  ·exact ⟨6, c3 - 1, fun w' => YS (P := P) Ds (b := gw) (o := 0) (len := l.length + 1) (cap := c3) (n := 1) (by omega) (by omega) (by simp; omega) w', fun _ => rfl⟩
 have hlm : l.length ≤ 1954687338211 := by have := o3.n.2.1; simp only [List.length_cons] at this; omega
 have ap : ∀ (gE : Nat) (wb : World), Ext w wb → hp wb gE = some (.cells #[] 110 (0, 0)) → w.heap.size ≤ gE →
   Ad (Aq P #[99, 99] 99 #[.slice (some ⟨gE, 0, none⟩) 0 0, .slice (some ⟨gw, q, none⟩) l.length d] wb) fun r => ∃ a' c', r.1 = .slice a' l.length c' ∧ O AO (fun b => S3 b ∨ (gE ≤ b ∧ b < r.2.heap.size)) r.2 [.slice a' l.length c'] l ∧ Mod (fun b => b = gE) wb r.2 := by
  intro gE wb Eb hE hge
  have hEl := Ao hE
  by_cases hl0 : l.length = 0
  ·have hnil : l = [] := List.eq_nil_of_length_eq_zero hl0
   rw [hnil]
   have an := HI (P := P) (ty := 99) Ds (some ⟨gE, 0, none⟩) (some ⟨gw, q, none⟩) 0 0 d (by omega) wb
   exact ⟨_, an, _, _, rfl, (O.empty (L := Ck) (mx := 1954687338211) hE).wide (fun b (h : b = gE) hb => .inr ⟨by omega, hb⟩), Mod.rfl⟩
  ·obtain rfl := hq6 (by omega)
   refine Ad.mono (O.apps (L := Ck) (mx := 1954687338211) (xs := []) (ys := l) (S1 := S3) (ty := 99) (m := l.length) (c := d) Ds DI rfl (by decide) (O.empty (g := gE) hE) (L3.Aj fun b _ hb => Eb.Ai hb) ?_ (A3.mono (Ext.Aj Eb)) rfl (by omega) (by simp; omega) (by decide) (by decide)) ?_
   ·intro b hb h1 h2
    have := (hS3 b h2).2.2.2
    have h1 : b = gE := h1
    omega
   ·rintro r ⟨a', c', h1, h2, h3⟩
    simp only [List.length_nil, Nat.zero_add, List.nil_append] at h1 h2
    rw [h1] at h2
    refine ⟨a', c', h1, h2.wide ?_, h3.RB ?_⟩
    ·intro b hb hb2
     rcases hb with h | h | h
     ·have h : b = gE := h
      exact .inr (by omega)
     ·exact .inl h
     ·exact .inr (by have := Eb.size; omega)
    ·intro b hb h
     exact h
 simp (disch := first | exact xD | fail) [-Option.bind_some, qs, -Aa, -Ab, qm, CR, Cd, hg, ct, p0, p1, p2, p3, p4, p5]
 refine Ad.bind (ap _ _ xE (by first | assumption | rfl | (simp (disch := first | exact xD | fail) [-Option.bind_some, qs, -Aa, -Ab]; done)) (by omega)) ?_
 rintro ⟨_, w2⟩ ⟨a7, c7, rfl, o7, M2⟩
 have zM2 := M2.size
 try simp only [qz] at zM2
 try dsimp only at o7 M2
 have zM2 := M2.size
 simp only [World.size_alloc, size_setRow, Ae] at zM2
 have F2 : Ext w w2 := Mod.after xE M2 (fun b h1 h2 => by omega)
 have G2 : hp w2 g = some (.cells (Bo cur (k * 2) [.slice a2 x.store.length c2, .slice (some ⟨gw, 0, none⟩) (v :: l).length c3]).toArray 159 (0, 0)) := (F2.Ai hgl).trans hg
 have Y1 : hp w2 w.heap.size = some (.cells #[.slice (some ⟨g, 0, none⟩) ns.length c] 98 (0, 0)) := (M2.Ai _ xN (by omega)).trans (by first | assumption | rfl | (simp (disch := first | exact xD | fail) [-Option.bind_some, qs, -Aa, -Ab]; done))
 have Y2 : hp w2 (w.heap.size + 1) = some (.cells #[.slice none 0 0] 98 (0, 0)) := (M2.Ai _ xN (by omega)).trans (by first | assumption | rfl | (simp (disch := first | exact xD | fail) [-Option.bind_some, qs, -Aa, -Ab]; done))
 have Y3 : hp w2 (w.heap.size + 1 + 1) = some (.cells #[i64 v.key, i64 v.tag.t, i64 v.tag.p, .slice av v.past.length cv, .string v.text, .bool v.gone] 110 (0, 0)) := (M2.Ai _ xN (by omega)).trans (by first | assumption | rfl | (simp (disch := first | exact xD | fail) [-Option.bind_some, qs, -Aa, -Ab]; done))
 simp (disch := first | exact xD | fail) [-Option.bind_some, qs, -Aa, -Ab, qm, Y1, Y3, G2]
 obtain ⟨W3, hW3⟩ : ∃ W3 : World, W3 = w2.setRow g (Bo cur (k * 2) [.slice a2 x.store.length c2, .slice a7 l.length c7]).toArray := ⟨_, rfl⟩
 rw [← hW3]
 have sW : W3.heap.size = w2.heap.size := by rw [hW3, size_setRow]
 have kW : ∀ b, b ≠ g → hp W3 b = hp w2 b := fun b q => by rw [hW3, Ac q]
 have gW : hp W3 g = some (.cells (Bo cur (k * 2) [.slice a2 x.store.length c2, .slice a7 l.length c7]).toArray 159 (0, 0)) := by
  rw [hW3]
  exact (by first | assumption | rfl | (simp (disch := first | exact xD | fail) [-Option.bind_some, -Aa, -Ab, G2]; done))
 have MM : Mod S w W3 := by
  rw [hW3]
  exact (Mod.of F2 S).AM (.inr hSg.1) _
 have oW := put W3 _ ⟨x.store, l⟩ _ (O.F7 (v := ⟨x.store, l⟩) (o2.Aj (w' := W3) (fun b hS hb => (kW b (hS2 b (hSs b hS).1).2.1).trans (F2.Ai hb))) (o7.Aj (w' := W3) (fun b hS hb => kW b (by rcases hS with h | h; exact (hS3 b h).2.2.1 |> fun q e => (hS2 b (hSw b (hS3 b h).1).1).2.1 e; omega))) (fun b _ h1 h2 => by rcases h2 with h | h; exact (hSs b h1).2.1 (hS3 b h).1; have := (hSs b h1).2.2; omega)) gW
  (fun b hb _ hne' hn => (kW b hne').trans (F2.Ai hb)) (fun b _ h => by rcases h with h | h | h; exact .inl (hSs b h).1; exact .inl (hSw b (hS3 b h).1).1; exact .inr (by omega))
 have hv3 := ov'.d.Aj (w' := W3) (fun b hS hb => (kW b (hS2 b (hSw b (hS1 b hS).1).1).2.1).trans (F2.Ai hb))
 obtain ⟨ns', hns'⟩ : ∃ ns' : List CNode, ns' = ns.set k ⟨x.store, l⟩ := ⟨_, rfl⟩
 have hl' : ns'.length = ns.length := by rw [hns', List.length_set]
 have hy' : ns'[k + 1]? = some y := by rw [hns', List.getElem?_set_ne (by omega)]; exact hy
 rw [← hns'] at oW hQ
 rw [← hl'] at oW hQ
 rw [← hl']
 refine Ad.bind (Jj (i := k + 1) oW hv3 ?_ hy' hvk.1 (by omega) (by omega) (by omega)) ?_
 ·intro b hb h1 h
  have q := hS1 b h1
  rcases h with h | h | h | h
  ·exact h.2 (hSw b q.1).1
  ·exact (hSs b h).2.1 q.1
  ·exact (hS3 b h).2.1 h1
  ·have := q.2.2
   omega
 rintro ⟨_, w5⟩ ⟨rfl, o6, M5⟩
 have zM5 := M5.size
 try simp only [] at zM5
 try dsimp only at o6 M5
 have zM5 := M5.size
 have Y5 : hp w5 (w.heap.size + 1) = some (.cells #[.slice none 0 0] 98 (0, 0)) := by
  refine (M5.Ai _ (by omega) ?_).trans ((kW _ (by omega)).trans Y2)
  rintro (h | h | h | h)
  ·have := h.1.2; omega
  ·have := (hSs _ h).2.2; omega
  ·have := (hS3 _ h).2.2.2; omega
  ·omega
 simp (disch := first | exact xD | fail) [-Option.bind_some, -Aa, -Ab, qm, Y5]
 have sub : ∀ b, (((S b ∧ b < w.heap.size) ∧ ¬ S2 b) ∨ (Ss b ∨ (S3 b ∨ (w.heap.size + 1 + 1 + 1 ≤ b ∧ b < w2.heap.size)))) → S b ∨ (w.heap.size + 1 + 1 + 1 ≤ b ∧ b < w2.heap.size) := by
  rintro b (h | h | h | h)
  ·exact .inl h.1.1
  ·exact .inl (hS2 b (hSs b h).1).1.1
  ·exact .inl (hS2 b (hSw b (hS3 b h).1).1).1.1
  ·exact .inr h
 refine hQ _ ⟨rfl, (o6.Aj ?_).wide ?_, (Mod.AX MM M5 ?_).AM (.inl (by omega)) _⟩
 ·intro b hS hb
  have : b ≠ w.heap.size + 1 := by
   rintro rfl
   rcases hS with (h | h | h | h) | h
   ·have := h.1.2; omega
   ·have := (hSs _ h).2.2; omega
   ·have := (hS3 _ h).2.2.2; omega
   ·omega
   ·simp only [In] at h; omega
  rw [Ac this]
 ·intro b h1 h2
  simp only [In, size_setRow] at *
  rcases h1 with h | h
  ·rcases sub b h with h | h
   ·exact .inl h
   ·exact .inr (by omega)
  ·exact .inr (by omega)
 ·intro b hb h
  rcases sub b h with h | h
  ·exact h
  ·omega
theorem Np {B g p : Nat} (hp0 : p ≤ 950000000000) {w : World} (hr : R w B g p) :
  Ad (EV P 55 #[pt g 0] w) fun r => ∃ (t : Tag) (p' : Nat), r.1 = t.v ∧ 0 ≤ t.t ∧ t.t ≤ 9 ∧ p' ≤ p + 3 ∧ R r.2 B g p' ∧ Mod (fun b => b = g) w r.2 := by
 have hl := hr.lt
 refine Ad.post fun Q hQ => ?_
 refine Ad.enter plain mixed (Lp _ _) (by kernel_rfl) (n := 1) (by kernel_rfl) rfl ?_
 simp (disch := first | exact xD | fail) [-Option.bind_some, -Aa, -Ab]
 refine Ad.bind (Ak (k := 3) (by omega) (by omega) (by omega) (hr.ext xE)) ?_
 rintro ⟨_, w1⟩ ⟨m, rfl, hm, R1, M1⟩
 have zM1 := M1.size
 try simp only [qz] at zM1
 try dsimp only at R1 M1
 have zM1 := M1.size
 simp only [World.size_alloc] at zM1
 have X1 : hp w1 w.heap.size = some (.cells #[i64 0, i64 0] 39 (0, 0)) := (M1.Ai w.heap.size xN (by omega)).trans (by first | assumption | rfl | (simp (disch := first | exact xD | fail) [-Option.bind_some, qs, -Aa, -Ab]; done))
 have N1 : Mod (fun b => b = g) w w1 := (Mod.of xE _).tr M1
 cases hz : ((m : Int) == 0)
 ·simp (disch := first | exact xD | fail) [-Option.bind_some, -Aa, -Ab, hz]
  refine Ad.bind (Ak (k := 9) (by omega) (by omega) (by omega) (R1.ext xE)) ?_
  rintro ⟨_, w2⟩ ⟨m2, rfl, hm2, R2, M2⟩
  have zM2 := M2.size
  try simp only [] at zM2
  try dsimp only at R2 M2
  have zM2 := M2.size
  simp (disch := first | exact xD | fail) [-Option.bind_some, qs, -Aa, -Ab]
  refine Ad.bind (Ak (k := 3) (by omega) (by omega) (by omega) (R2.ext xE)) ?_
  rintro ⟨_, w3⟩ ⟨m3, rfl, hm3, R3, M3⟩
  have zM3 := M3.size
  try simp only [] at zM3
  try dsimp only at R3 M3
  have zM3 := M3.size
  have X3 : hp w3 w.heap.size = some (.cells #[i64 0, i64 0] 39 (0, 0)) := (M3.Ai w.heap.size xN (by omega)).trans ((M2.Ai w.heap.size xN (by omega)).trans X1)
  have hw : IntKind.i64.wrap (1 + (m2 : Int)) = 1 + (m2 : Int) := HH (by omega) (by omega)
  simp (disch := first | exact xD | fail) [-Option.bind_some, -Aa, -Ab, qm, X3]
  have N3 := (N1.tr M2).tr M3
  refine hQ _ ⟨⟨1 + m2, m3⟩, p + 1 + 1 + 1, rfl, ?_, ?_, by omega, R3.Aj (fun b h hb => Ac (by omega)), N3.AM (.inl (by omega)) _⟩
  ·show (0 : Int) ≤ 1 + m2
   omega
  ·show (1 : Int) + m2 ≤ 9
   omega
 ·simp (disch := first | exact xD | fail) [-Option.bind_some, -Aa, -Ab, qm, hz, X1]
  exact hQ _ ⟨⟨0, 0⟩, p + 1, rfl, by decide, by decide, by omega, R1.Aj (fun b h hb => Ac (by omega)), N1.AM (.inl (by omega)) _⟩
theorem KO {B g p b k c : Nat} {strs : List ByteArray} (hk : 1 ≤ k) (hk2 : k ≤ 1000000) (hp0 : p ≤ 1000000000000) {w : World} (hl : strs.length = k) (hA : At w b 0 (strs.map Value.string)) (hbg : b ≠ g) (hr : R w B g p) :
  Ad (EV P 48 #[pt g 0, .slice (some ⟨b, 0, none⟩) k c] w) fun r => ∃ n ∈ strs, r.1 = .string n ∧ R r.2 B g (p + 1) ∧ Mod (fun b => b = g) w r.2 := by
 refine Ad.post fun Q hQ => ?_
 refine Ad.enter plain mixed (JO _ _ _) (by kernel_rfl) (n := 2) (by kernel_rfl) rfl ?_
 simp (disch := first | exact xD | fail) [-Option.bind_some, -Aa, -Ab]
 refine Ad.bind (Ak hk hk2 hp0 hr) ?_
 rintro ⟨_, w1⟩ ⟨m, rfl, hm, R1, M1⟩
 have zM1 := M1.size
 try simp only [] at zM1
 try dsimp only at R1 M1
 obtain ⟨n, hn, _⟩ := Al (l := strs) (k := m) (by omega)
 have hA1 := hA m (.string n) (by rw [List.getElem?_map, hn]; rfl)
 have hbl : b < w.heap.size := by
  rcases Nat.lt_or_ge b w.heap.size with h | h
  ·exact h
  ·rw [hp, Array.getElem?_eq_none h] at hA1; simp [AP] at hA1
 rw [Nat.zero_add] at hA1
 simp (disch := first | exact xD | fail) [-Option.bind_some, -Aa, -Ab, Km, hA1, M1.Ai]
 exact hQ _ ⟨n, List.mem_of_getElem? hn, rfl, R1, M1⟩
def OA : List ByteArray := [⟨#[]⟩, ⟨#[97]⟩, ⟨#[98]⟩, ⟨#[120, 35, 49]⟩, ⟨#[61]⟩, ⟨#[45]⟩, ⟨#[108, 111, 110, 103, 116, 101, 120, 116]⟩, ⟨#[122, 122]⟩]
theorem LX {B g p : Nat} (hp0 : p ≤ 900000000000) {w : World} (hr : R w B g p) :
  Ad (EV P 106 #[pt g 0] w) fun r => ∃ n ∈ OA, r.1 = .string n ∧ R r.2 B g (p + 1) ∧ Mod (fun b => b = g) w r.2 := by
 have hl := hr.lt
 refine Ad.post fun Q hQ => ?_
 refine Ad.enter plain mixed (KG _ _) (by kernel_rfl) (n := 1) (by kernel_rfl) rfl ?_
 simp (disch := first | exact xD | fail) [-Option.bind_some, -Aa, -Ab]
 refine Ad.bind (KO (strs := OA) (k := 8) (by omega) (by omega) (by omega) rfl (At.new (cs := OA.map Value.string)) (by omega) (hr.ext xE)) ?_
 rintro ⟨_, w1⟩ ⟨n, hn, rfl, R1, M1⟩
 have zM1 := M1.size
 try simp only [qz] at zM1
 try dsimp only at R1 M1
 simp (disch := first | exact xD | fail) [-Option.bind_some, -Aa, -Ab]
 exact hQ _ ⟨n, hn, rfl, R1, (Mod.of xE _).tr M1⟩
theorem J9 {B g p : Nat} (hp0 : p ≤ 900000000000) {w : World} (hr : R w B g p) :
  Ad (EV P 33 #[pt g 0] w) fun r => ∃ (t : Tag) (p' : Nat), r.1 = t.v ∧ p' ≤ p + 4 ∧ R r.2 B g p' ∧ Mod (fun b => b = g) w r.2 := by
 have hl := hr.lt
 refine Ad.post fun Q hQ => ?_
 refine Ad.enter plain mixed (IX _ _) (by kernel_rfl) (n := 1) (by kernel_rfl) rfl ?_
 simp (disch := first | exact xD | fail) [-Option.bind_some, -Aa, -Ab]
 refine Ad.bind (Ak (k := 8) (by omega) (by omega) (by omega) (hr.ext xE)) ?_
 rintro ⟨_, w1⟩ ⟨m, rfl, hm, R1, M1⟩
 have zM1 := M1.size
 try simp only [qz] at zM1
 try dsimp only at R1 M1
 have zM1 := M1.size
 simp only [World.size_alloc] at zM1
 have X1 : hp w1 w.heap.size = some (.cells #[i64 0, i64 0] 39 (0, 0)) := (M1.Ai w.heap.size xN (by omega)).trans (by first | assumption | rfl | (simp (disch := first | exact xD | fail) [-Option.bind_some, qs, -Aa, -Ab]; done))
 have N1 : Mod (fun b => b = g) w w1 := (Mod.of xE _).tr M1
 have y1 := R1.lt
 cases hz : ((m : Int) == 0)
 ·simp (disch := first | exact xD | fail) [-Option.bind_some, -Aa, -Ab, hz]
  refine Ad.bind (Np (by omega) (R1.ext xE)) ?_
  rintro ⟨_, w2⟩ ⟨t, p2, rfl, _, _, hp2, R2, M2⟩
  have zM2 := M2.size
  try simp only [] at zM2
  try dsimp only at R2 M2
  have zM2 := M2.size
  have X2 : hp w2 w.heap.size = some (.cells #[i64 0, i64 0] 39 (0, 0)) := (M2.Ai w.heap.size xN (by omega)).trans X1
  simp (disch := first | exact xD | fail) [-Option.bind_some, -Aa, -Ab, qm, X2]
  refine hQ _ ⟨t, p2, rfl, by omega, R2.Aj (fun b h hb => Ac (by omega)), (N1.tr M2).AM (.inl (by omega)) _⟩
 ·simp (disch := first | exact xD | fail) [-Option.bind_some, -Aa, -Ab, hz]
  refine Ad.bind (BA (ints := [0, -1, 1000, 999]) (k := 4) (by omega) (by omega) (by omega) rfl (At.new (cs := [i64 0, i64 (-1), i64 1000, i64 999])) (by omega) (R1.ext xE)) ?_
  rintro ⟨_, w2⟩ ⟨n1, _, rfl, R2, M2⟩
  have zM2 := M2.size
  try simp only [qz] at zM2
  try dsimp only at R2 M2
  have zM2 := M2.size
  simp only [World.size_alloc] at zM2
  simp (disch := first | exact xD | fail) [-Option.bind_some, -Aa, -Ab]
  have N2 := (N1.al _).tr M2
  refine Ad.bind (BA (ints := [0, 1, 3, -1]) (k := 4) (by omega) (by omega) (by omega) rfl (At.new (cs := [i64 0, i64 1, i64 3, i64 (-1)])) (by omega) (R2.ext xE)) ?_
  rintro ⟨_, w3⟩ ⟨n2, _, rfl, R3, M3⟩
  have zM3 := M3.size
  try simp only [qz] at zM3
  try dsimp only at R3 M3
  have zM3 := M3.size
  simp only [World.size_alloc] at zM3
  have N3 := (N2.al _).tr M3
  have X3 : hp w3 w.heap.size = some (.cells #[i64 0, i64 0] 39 (0, 0)) := (M3.Ai w.heap.size xN (by omega)).trans ((Ah (by omega)).trans ((M2.Ai w.heap.size xN (by omega)).trans ((Ah (by omega)).trans X1)))
  simp (disch := first | exact xD | fail) [-Option.bind_some, -Aa, -Ab, qm, X3]
  refine hQ _ ⟨⟨n1, n2⟩, p + 1 + 1 + 1, rfl, by omega, R3.Aj (fun b h hb => Ac (by omega)), N3.AM (.inl (by omega)) _⟩
theorem Nq {w : World} : Ad (EV P 89 #[] w) fun r => ∃ a c, r.1 = .agg #[.slice a 4 c] ∧ O Ci (In w.heap.size r.2.heap.size) r.2 [.slice a 4 c] (List.replicate 4 ⟨0, 0⟩) ∧ Ext w r.2 := by
 refine Ad.post fun Q hQ => ?_
 refine Ad.enter plain mixed (LA _) (by kernel_rfl) (n := 0) (by kernel_rfl) rfl ?_
 simp (disch := first | exact xD | fail) [-Option.bind_some, -Aa, -Ab]
 refine Ad.bind (O.make (L := Fu) (mx := 8796093021952) (n := 4) (x0 := (⟨0, 0⟩ : Tag)) Dj He rfl (by decide) (fun w => O.tag.2 rfl) (by decide) (by decide) (by decide)) ?_
 rintro ⟨_, w1⟩ ⟨rfl, o1, z1, E1⟩
 have zE1 := E1.size
 try simp only [qz] at zE1
 try dsimp only at o1 z1 E1
 have X1 := E1.Ai (b := w.heap.size) (by simp)
 simp only [World.size_alloc] at z1 o1
 simp (disch := first | exact xD | fail) [-Option.bind_some, qs, -Aa, -Ab, qm, E1.Ai]
 exact hQ _ ⟨_, _, rfl, (o1.Aj (by intro b hS hb; (try dsimp only at hS); (try simp only [In, qz] at hS hb); first | rfl | (simp (disch := first | exact xF | fail) only [qk]; done))).wide xV, xE⟩
theorem LY {Q : Value × World → Prop} {g2 g3 i ca co : Nat} {aa ao : Option Addr} {Sa : Nat → Prop} {xs l : List Ver} {x : Ver} {w0 : World} (hx4 : xs.length = 4) (hl4 : l.length ≤ 100) (hi : i < 4) (hx : xs[i]? = some x)
  (X2 : hp w0 g2 = some (.cells #[.slice aa 4 ca] 156 (0, 0))) (ha : D AO Sa w0 [.slice aa 4 ca] xs)
  (hnext : ∀ (e' : Env) (W : World) (a' : Option Addr) (c' : Nat) (l' : List Ver), e' 2 = pt g2 0 → e' 3 = pt g3 0 → e' 6 = i64 i → e' 5 = .slice a' l'.length c' → l'.length = l.length + 1 → (∀ v ∈ l', v ∈ l ∨ v = x) → O AO (fun b => w0.heap.size ≤ b) W [.slice a' l'.length c'] l' → Ext w0 W → Ad (CH e' W) Q) :
  ∀ (d k : Nat) (e : Env) (w : World), k + d = l.length → e 2 = pt g2 0 → e 3 = pt g3 0 → e 6 = i64 i → e 5 = .slice ao l.length co → e 7 = i64 k → Ext w0 w → O AO (fun b => w0.heap.size ≤ b) w [.slice ao l.length co] l → Ad (D8 e w) Q := by
 have hi0 : (i : Int) < 4 := by omega
 have ins : ∀ (k : Nat) (w : World), k ≤ l.length → Ext w0 w → O AO (fun b => w0.heap.size ≤ b) w [.slice ao l.length co] l → True := fun _ _ _ _ _ => trivial
 intro d
 induction d with
 | zero =>
  intro k e w hd e2 e3 e6 e5 e7 E0 ho
  have zE0 := E0.size
  try simp only [qz] at zE0
  rw [FU]
  have hk : ¬ k < l.length := by omega
  have hk0 : ¬ (k : Int) < l.length := by omega
  have hkl : k ≤ l.length := by omega
  have y2 := Ao X2
  have X2' : hp w g2 = some (.cells #[.slice aa 4 ca] 156 (0, 0)) := (E0.Ai y2).trans X2
  obtain ⟨css, S1, S2, a9, c9, L1, L2, d1, d2, sl1, sl2, A1, A2, dB⟩ := ho.parts (by decide) Ds (k := k) hkl
  simp (disch := first | exact xD | fail) [-Option.bind_some, -Aa, -Ab, e2, e5, e6, e7, hk0, sl1, sl2]
  refine Ad.bind (O.PO (P := P) (L := Ck) (mx := 1954687338211) (xs := []) (ys := l.take k) (ty := 99) Ds DI rfl (by decide) (O.empty (L := Ck) (mx := 1954687338211) (g := w.heap.size) (by first | assumption | rfl | (simp (disch := first | exact xD | fail) [-Option.bind_some, qs, -Aa, -Ab]; done))) (L1.Aj (by intro b hS hb; (try dsimp only at hS); (try simp only [In, qz] at hS hb); first | rfl | (simp (disch := first | exact xF | fail) only [qk]; done))) (fun b hb h1 h2 => by have := (d1 b h2).2.2; have h1 : b = w.heap.size := h1; omega) (A1.imp id fun ⟨b, o, h1, h2, h4⟩ => ⟨b, o, h1, h4.mono (Ext.Aj xE)⟩) (by rw [List.length_take]; omega) (by simp; omega) (by decide) (by decide)) ?_
  rintro ⟨_, w1⟩ ⟨a1, c1, rfl, o1, M1⟩
  have zM1 := M1.size
  try simp only [qz] at zM1
  try dsimp only at o1 M1
  have zM1 := M1.size
  simp only [World.size_alloc, Ae, List.length_nil, Nat.zero_add, List.nil_append] at zM1 o1
  have F1 : Ext w w1 := Mod.after xE M1 (fun b h1 h2 => by have h2 : b = w.heap.size := h2; omega)
  have Z2 : hp w1 g2 = some (.cells #[.slice aa 4 ca] 156 (0, 0)) := (F1.Ai (by have := E0.size; omega)).trans X2'
  obtain ⟨b1, o4, cs1, hab, A4, D4, _, l4⟩ := (ha.ext (E0.tr F1)).at (by decide) hx
  obtain ⟨a5, c5, rfl, _, _⟩ := D.Ch.1 D4
  subst hab
  have p0 := A4 0 _ rfl
  have p1 := A4 1 _ rfl
  have p2 := A4 2 _ rfl
  have p3 := A4 3 _ rfl
  have p4 := A4 4 _ rfl
  have p5 := A4 5 _ rfl
  simp only [Cf, Nat.add_zero] at p0 p1 p2 p3 p4 p5
  simp (disch := first | exact xD | fail) [-Option.bind_some, -Aa, -Ab, Z2, Cd, p0, p1, p2, p3, p4, p5]
  refine Ad.bind (AZ D4) ?_
  rintro ⟨_, w2⟩ ⟨es, rfl, o2, E2⟩
  try dsimp only at es o2 E2
  have zE2 := E2.size
  try simp only [qz] at zE2
  have zds := O.Ch.1 o2
  obtain ⟨ae, ce, rfl, _, _⟩ := zds
  simp (disch := first | exact xD | fail) [-Option.bind_some, -Aa, -Ab]
  refine Ad.bind (O.app (P := P) (L := Ck) (x := x) (mx := 1954687338211) (xs := l.take k) (sv := .slice a1 k c1) (ty := 99) (S1 := In w1.heap.size w2.heap.size) Ds DI rfl (by decide) (o1.Aj (fun b hS hb => (by first | assumption | rfl | (simp (disch := first | exact xD | fail) [-Option.bind_some, qs, E2.Ai]; done)))) (o2.Aj (by intro b hS hb; (try dsimp only at hS); (try simp only [In] at hS hb); first | rfl | (simp (disch := first | exact xF | fail) only [qk]; done))) (fun b hb h1 h2 => by simp only [In] at h2; rcases h1 with h | h | h; have h : b = w.heap.size := h; omega; have := (d1 b h).2.2; omega; omega) At.new (by rw [List.length_take]; omega) (by decide) (by decide)) ?_
  rintro ⟨_, w3⟩ ⟨a3, c3, rfl, o3, M3⟩
  have zM3 := M3.size
  try simp only [qz] at zM3
  try dsimp only at o3 M3
  have zM3 := M3.size
  simp only [World.size_alloc, List.length_take, Nat.min_eq_left hkl] at zM3 o3
  have zE2' := E2.size
  have zE0 := E0.size
  have F3 : Ext w0 w3 := Mod.after ((E0.tr F1).tr xE) M3 (fun b h1 h2 => by rcases h2 with h | h | h; have h : b = w.heap.size := h; omega; have := (d1 b h).1; omega; omega)
  have kr : ∀ b, ¬ S1 b → b < w.heap.size → hp w3 b = hp w b := fun b hn hb => (M3.Ai b xN (fun h => by rcases h with h | h | h; have h : b = w.heap.size := h; omega; exact hn h; omega)).trans (by first | assumption | rfl | (simp (disch := first | exact xD | fail) [-Option.bind_some, qs, F1.Ai, E2.Ai]; done))
  have k3 : ∀ b, S2 b → b < w.heap.size → hp w3 b = hp w b := fun b hS hb => (M3.Ai b xN (fun h => by rcases h with h | h | h; have h : b = w.heap.size := h; omega; exact (d2 b hS).2.1 h; omega)).trans (by first | assumption | rfl | (simp (disch := first | exact xD | fail) [-Option.bind_some, qs, F1.Ai, E2.Ai]; done))
  simp only [List.length_take, Nat.min_eq_left hkl]
  refine Ad.bind (O.PO (P := P) (L := Ck) (mx := 1954687338211) (ys := l.drop k) (ty := 99) Ds DI rfl (by decide) o3 (L2.Aj (fun b hS hb => k3 b hS hb)) (fun b hb h1 h2 => ?_) (A2.imp id fun ⟨b, o, h1, h2, h4⟩ => ⟨b, o, h1, h4.same (kr b h2.2.1 h2.2.2.2)⟩) (by rw [List.length_drop] <;> omega) (by simp only [List.length_append, List.length_take, List.length_cons, List.length_nil]; omega) (by decide) (by decide)) ?_
  ·have q := d2 b h2
   rcases h1 with (h | h | h) | h | h
   ·have h : b = w.heap.size := h
    omega
   ·exact q.2.1 h
   ·omega
   ·simp only [In] at h
    omega
   ·omega
  rintro ⟨_, w5⟩ ⟨a5', c5', rfl, o5, M5⟩
  have zM5 := M5.size
  try simp only [] at zM5
  try dsimp only at o5 M5
  have zM5 := M5.size
  have F5 : Ext w0 w5 := Mod.after F3 M5 (fun b h1 h2 => by
   rcases h2 with (h | h | h) | h | h
   ·have h : b = w.heap.size := h
    omega
   ·have := (d1 b h).1
    omega
   ·omega
   ·simp only [In] at h
    omega
   ·omega)
  obtain ⟨l', hl'⟩ : ∃ l' : List Ver, l' = l.take k ++ [x] ++ l.drop k := ⟨_, rfl⟩
  have hl7 : l'.length = l.length + 1 := by rw [hl']; simp only [List.length_append, List.length_take, List.length_drop, List.length_cons, List.length_nil]; omega
  have hl8 : (l.take k ++ [x]).length = k + 1 := by simp only [List.length_append, List.length_take, List.length_cons, List.length_nil]; omega
  rw [← hl', hl8] at o5
  rw [hl8]
  have hm5 : k + 1 + (l.length - k) = l'.length := by omega
  refine hnext _ w5 a5' c5' l' xA xA xA ?_ hl7 ?_ ((?_ : O AO _ w5 [.slice a5' l'.length c5'] l').wide (S := fun b => ((b = w.heap.size ∨ S1 b ∨ w.heap.size + 1 ≤ b ∧ b < w1.heap.size) ∨ In w1.heap.size w2.heap.size b ∨ w2.heap.size + 1 ≤ b ∧ b < w3.heap.size) ∨ S2 b ∨ w3.heap.size ≤ b ∧ b < w5.heap.size) ?_) F5
  ·show Value.slice a5' _ c5' = Value.slice a5' _ c5'
   congr 1 <;> omega
  ·intro v hv
   rw [hl'] at hv
   simp only [List.mem_append, List.mem_singleton] at hv
   rcases hv with (h | h) | h
   ·exact .inl (List.mem_of_mem_take h)
   ·exact .inr h
   ·exact .inl (List.mem_of_mem_drop h)
  ·first
    | (rw [hm5] at o5; exact o5)
    | (rw [show k + 1 + 0 = l'.length by omega] at o5; exact o5)
  ·intro b h hb
   rcases h with (h | h) | h | h
   ·rcases h with h | h | h
    ·omega
    ·exact (d1 b h).1
    ·omega
   ·simp only [In] at h
    omega
   ·exact (d2 b h).1
   ·omega
 | succ d ih =>
  intro k e w hd e2 e3 e6 e5 e7 E0 ho
  have zE0 := E0.size
  try simp only [qz] at zE0
  rw [FU]
  have hk : k < l.length := by omega
  have hk0 : (k : Int) < l.length := by omega
  have hkl : k ≤ l.length := by omega
  have y2 := Ao X2
  have X2' : hp w g2 = some (.cells #[.slice aa 4 ca] 156 (0, 0)) := (E0.Ai y2).trans X2
  obtain ⟨u, hu, _⟩ := Al hk
  obtain ⟨b6, o6, cs6, hab6, A6, D6, _, l6⟩ := ho.d.at (by decide) hu
  obtain ⟨a6, c6, rfl, _, _⟩ := D.Ch.1 D6
  subst hab6
  have A6q : At w b6 (o6 + k * 6) [i64 u.key, i64 u.tag.t, i64 u.tag.p, .slice a6 u.past.length c6, .string u.text, .bool u.gone] := A6
  have q0 := A6q 0 _ rfl
  have q1 := A6q 1 _ rfl
  have q2 := A6q 2 _ rfl
  have q3 := A6q 3 _ rfl
  have q4 := A6q 4 _ rfl
  have q5 := A6q 5 _ rfl
  simp only [Nat.add_zero] at q0 q1 q2 q3 q4 q5
  obtain ⟨b7, o7, cs7, hab7, A7, D7, _, l7⟩ := (ha.ext E0).at (by decide) hx
  obtain ⟨a7, c7, rfl, _, _⟩ := D.Ch.1 D7
  subst hab7
  have A7q : At w b7 (o7 + i * 6) [i64 x.key, i64 x.tag.t, i64 x.tag.p, .slice a7 x.past.length c7, .string x.text, .bool x.gone] := A7
  have r0 := A7q 0 _ rfl
  have r1 := A7q 1 _ rfl
  have r2 := A7q 2 _ rfl
  have r3 := A7q 3 _ rfl
  have r4 := A7q 4 _ rfl
  have r5 := A7q 5 _ rfl
  simp only [Nat.add_zero] at r0 r1 r2 r3 r4 r5
  simp (disch := first | exact xD | fail) [-Option.bind_some, qs, -Aa, -Ab, e2, e5, e6, e7, hk0, X2', Cd, q1, q2, r1, r2]
  refine Ad.bind (AN u.tag x.tag _) ?_
  rintro ⟨_, w⟩ ⟨rfl, E9⟩
  try dsimp only at E9
  have zE9 := E9.size
  try simp only [qz] at zE9
  have E9x := (Cs _).tr E9
  have zE9x := E9x.size
  try simp only [qz] at zE9x
  have ho := ho.ext E9x
  have E0 : Ext w0 w := E0.tr E9x
  have zE0 := E0.size
  try simp only [qz] at zE0
  have X2' : hp w g2 = some (.cells #[.slice (some ⟨b7, o7, none⟩) 4 ca] 156 (0, 0)) := (E0.Ai y2).trans X2
  cases hlt : Bv u.tag x.tag
  ·skip
   obtain ⟨css, S1, S2, a9, c9, L1, L2, d1, d2, sl1, sl2, A1, A2, dB⟩ := ho.parts (by decide) Ds (k := k) hkl
   simp (disch := first | exact xD | fail) [-Option.bind_some, -Aa, -Ab, sl1, sl2]
   refine Ad.bind (O.PO (P := P) (L := Ck) (mx := 1954687338211) (xs := []) (ys := l.take k) (ty := 99) Ds DI rfl (by decide) (O.empty (L := Ck) (mx := 1954687338211) (g := w.heap.size) (by first | assumption | rfl | (simp (disch := first | exact xD | fail) [-Option.bind_some, qs, -Aa, -Ab]; done))) (L1.Aj (by intro b hS hb; (try dsimp only at hS); (try simp only [In, qz] at hS hb); first | rfl | (simp (disch := first | exact xF | fail) only [qk]; done))) (fun b hb h1 h2 => by have := (d1 b h2).2.2; have h1 : b = w.heap.size := h1; omega) (A1.imp id fun ⟨b, o, h1, h2, h4⟩ => ⟨b, o, h1, h4.mono (Ext.Aj xE)⟩) (by rw [List.length_take]; omega) (by simp; omega) (by decide) (by decide)) ?_
   rintro ⟨_, w1⟩ ⟨a1, c1, rfl, o1, M1⟩
   have zM1 := M1.size
   try simp only [qz] at zM1
   try dsimp only at o1 M1
   have zM1 := M1.size
   simp only [World.size_alloc, List.length_nil, Nat.zero_add, List.nil_append] at zM1 o1
   have F1 : Ext w w1 := Mod.after xE M1 (fun b h1 h2 => by have h2 : b = w.heap.size := h2; omega)
   have Z2 : hp w1 g2 = some (.cells #[.slice (some ⟨b7, o7, none⟩) 4 ca] 156 (0, 0)) := (F1.Ai (by have := E0.size; omega)).trans X2'
   simp (disch := first | exact xD | fail) [-Option.bind_some, qs, -Aa, -Ab, Z2, Cd, r0, r1, r2, r3, r4, r5, E9.Ai, M1.Ai]
   refine Ad.bind (AZ (D7.ext (E9x.tr F1))) ?_
   rintro ⟨_, w2⟩ ⟨es, rfl, o2, E2⟩
   try dsimp only at es o2 E2
   have zE2 := E2.size
   try simp only [qz] at zE2
   have zds := O.Ch.1 o2
   obtain ⟨ae, ce, rfl, _, _⟩ := zds
   simp (disch := first | exact xD | fail) [-Option.bind_some, -Aa, -Ab]
   refine Ad.bind (O.app (P := P) (L := Ck) (x := x) (mx := 1954687338211) (xs := l.take k) (sv := .slice a1 k c1) (ty := 99) (S1 := In w1.heap.size w2.heap.size) Ds DI rfl (by decide) (o1.Aj (fun b hS hb => (by first | assumption | rfl | (simp (disch := first | exact xD | fail) [-Option.bind_some, qs, E2.Ai]; done)))) (o2.Aj (by intro b hS hb; (try dsimp only at hS); (try simp only [In] at hS hb); first | rfl | (simp (disch := first | exact xF | fail) only [qk]; done))) (fun b hb h1 h2 => by simp only [In] at h2; rcases h1 with h | h | h; have h : b = w.heap.size := h; omega; have := (d1 b h).2.2; omega; omega) At.new (by rw [List.length_take]; omega) (by decide) (by decide)) ?_
   rintro ⟨_, w3⟩ ⟨a3, c3, rfl, o3, M3⟩
   have zM3 := M3.size
   try simp only [qz] at zM3
   try dsimp only at o3 M3
   have zM3 := M3.size
   simp only [World.size_alloc, List.length_take, Nat.min_eq_left hkl] at zM3 o3
   have zE2' := E2.size
   have zE0 := E0.size
   have F3 : Ext w0 w3 := Mod.after ((E0.tr F1).tr xE) M3 (fun b h1 h2 => by rcases h2 with h | h | h; have h : b = w.heap.size := h; omega; have := (d1 b h).1; omega; omega)
   have kr : ∀ b, ¬ S1 b → b < w.heap.size → hp w3 b = hp w b := fun b hn hb => (M3.Ai b xN (fun h => by rcases h with h | h | h; have h : b = w.heap.size := h; omega; exact hn h; omega)).trans (by first | assumption | rfl | (simp (disch := first | exact xD | fail) [-Option.bind_some, qs, F1.Ai, E2.Ai]; done))
   have k3 : ∀ b, S2 b → b < w.heap.size → hp w3 b = hp w b := fun b hS hb => (M3.Ai b xN (fun h => by rcases h with h | h | h; have h : b = w.heap.size := h; omega; exact (d2 b hS).2.1 h; omega)).trans (by first | assumption | rfl | (simp (disch := first | exact xD | fail) [-Option.bind_some, qs, F1.Ai, E2.Ai]; done))
   simp only [List.length_take, Nat.min_eq_left hkl]
   refine Ad.bind (O.PO (P := P) (L := Ck) (mx := 1954687338211) (ys := l.drop k) (ty := 99) Ds DI rfl (by decide) o3 (L2.Aj (fun b hS hb => k3 b hS hb)) (fun b hb h1 h2 => ?_) (A2.imp id fun ⟨b, o, h1, h2, h4⟩ => ⟨b, o, h1, h4.same (kr b h2.2.1 h2.2.2.2)⟩) (by rw [List.length_drop] <;> omega) (by simp only [List.length_append, List.length_take, List.length_cons, List.length_nil]; omega) (by decide) (by decide)) ?_
   ·have q := d2 b h2
    rcases h1 with (h | h | h) | h | h
    ·have h : b = w.heap.size := h
     omega
    ·exact q.2.1 h
    ·omega
    ·simp only [In] at h
     omega
    ·omega
   rintro ⟨_, w5⟩ ⟨a5', c5', rfl, o5, M5⟩
   have zM5 := M5.size
   try simp only [] at zM5
   try dsimp only at o5 M5
   have zM5 := M5.size
   have F5 : Ext w0 w5 := Mod.after F3 M5 (fun b h1 h2 => by
    rcases h2 with (h | h | h) | h | h
    ·have h : b = w.heap.size := h
     omega
    ·have := (d1 b h).1
     omega
    ·omega
    ·simp only [In] at h
     omega
    ·omega)
   obtain ⟨l', hl'⟩ : ∃ l' : List Ver, l' = l.take k ++ [x] ++ l.drop k := ⟨_, rfl⟩
   have hl7 : l'.length = l.length + 1 := by rw [hl']; simp only [List.length_append, List.length_take, List.length_drop, List.length_cons, List.length_nil]; omega
   have hl8 : (l.take k ++ [x]).length = k + 1 := by simp only [List.length_append, List.length_take, List.length_cons, List.length_nil]; omega
   rw [← hl', hl8] at o5
   rw [hl8]
   have hm5 : k + 1 + (l.length - k) = l'.length := by omega
   refine hnext _ w5 a5' c5' l' xA xA xA ?_ hl7 ?_ ((?_ : O AO _ w5 [.slice a5' l'.length c5'] l').wide (S := fun b => ((b = w.heap.size ∨ S1 b ∨ w.heap.size + 1 ≤ b ∧ b < w1.heap.size) ∨ In w1.heap.size w2.heap.size b ∨ w2.heap.size + 1 ≤ b ∧ b < w3.heap.size) ∨ S2 b ∨ w3.heap.size ≤ b ∧ b < w5.heap.size) ?_) F5
   ·show Value.slice a5' _ c5' = Value.slice a5' _ c5'
    congr 1 <;> omega
   ·intro v hv
    rw [hl'] at hv
    simp only [List.mem_append, List.mem_singleton] at hv
    rcases hv with (h | h) | h
    ·exact .inl (List.mem_of_mem_take h)
    ·exact .inr h
    ·exact .inl (List.mem_of_mem_drop h)
   ·first
     | (rw [hm5] at o5; exact o5)
     | (rw [show k + 1 + 0 = l'.length by omega] at o5; exact o5)
   ·intro b h hb
    rcases h with (h | h) | h | h
    ·rcases h with h | h | h
     ·omega
     ·exact (d1 b h).1
     ·omega
    ·simp only [In] at h
     omega
    ·exact (d2 b h).1
    ·omega
  ·simp (disch := first | exact xD | fail) [-Option.bind_some, -Aa, -Ab]
   exact ih (k + 1) _ w (by omega) xA xA xA xA (by first | rfl | (simp; done) | exact congrArg i64 (by omega)) E0 ho
theorem LZ {g2 g3 ca cb : Nat} {aa ab : Option Addr} {Sa Sb : Nat → Prop} {xs ys : List Ver} {w0 : World} (hx4 : xs.length = 4) (hy4 : ys.length = 4)
  (X2 : hp w0 g2 = some (.cells #[.slice aa 4 ca] 156 (0, 0))) (X3 : hp w0 g3 = some (.cells #[.slice ab 4 cb] 156 (0, 0))) (ha : D AO Sa w0 [.slice aa 4 ca] xs) (hb : D AO Sb w0 [.slice ab 4 cb] ys) :
  ∀ (d i : Nat) (e : Env) (w : World) (ao : Option Addr) (co : Nat) (l : List Ver), i + d = 4 → l.length ≤ i → (∀ v ∈ l, v ∈ xs) → e 2 = pt g2 0 → e 3 = pt g3 0 → e 6 = i64 i → e 5 = .slice ao l.length co → Ext w0 w → O AO (fun b => w0.heap.size ≤ b) w [.slice ao l.length co] l →
   Ad (DZ e w) fun r => ∃ (l' : List Ver) (a' : Option Addr) (c' : Nat), r.1 = .slice a' l'.length c' ∧ O AO (fun b => w0.heap.size ≤ b) r.2 [.slice a' l'.length c'] l' ∧ l'.length ≤ 4 ∧ (∀ v ∈ l', v ∈ xs) ∧ Ext w0 r.2 := by
 intro d
 induction d with
 | zero =>
  intro i e w ao co l hd hli hm e2 e3 e6 e5 E0 ho
  have zE0 := E0.size
  try simp only [qz] at zE0
  rw [FT]
  obtain rfl : i = 4 := by omega
  refine Ad.post fun Q hQ => ?_
  simp (disch := first | exact xD | fail) [-Option.bind_some, -Aa, -Ab, e5, e6]
  exact hQ _ ⟨l, ao, co, rfl, ho.Aj (by intro b hS hb; (try dsimp only at hS); (try simp only [In, qz] at hS hb); first | rfl | (simp (disch := first | exact xF | fail) only [E0.Ai, qk]; done)), by omega, hm, xE⟩
 | succ d ih =>
  intro i e w ao co l hd hli hm e2 e3 e6 e5 E0 ho
  have zE0 := E0.size
  try simp only [qz] at zE0
  rw [FT]
  have hlt : i < 4 := by omega
  have hlt0 : (i : Int) < 4 := by omega
  have y2 := Ao X2
  have y3 := Ao X3
  have X2' : hp w g2 = some (.cells #[.slice aa 4 ca] 156 (0, 0)) := (E0.Ai y2).trans X2
  have X3' : hp w g3 = some (.cells #[.slice ab 4 cb] 156 (0, 0)) := (E0.Ai y3).trans X3
  obtain ⟨x, hx, _⟩ := Al (l := xs) (k := i) (by omega)
  obtain ⟨y, hy, _⟩ := Al (l := ys) (k := i) (by omega)
  obtain ⟨b6, o6, cs6, rfl, A6, D6, _, l6⟩ := (ha.ext E0).at (by decide) hx
  obtain ⟨a6, c6, rfl, _, _⟩ := D.Ch.1 D6
  have q0 := A6 0 _ rfl
  have q1 := A6 1 _ rfl
  have q2 := A6 2 _ rfl
  have q3 := A6 3 _ rfl
  have q4 := A6 4 _ rfl
  have q5 := A6 5 _ rfl
  simp only [Cf, Nat.add_zero] at q0 q1 q2 q3 q4 q5
  obtain ⟨b7, o7, cs7, rfl, A7, D7, _, l7⟩ := (hb.ext E0).at (by decide) hy
  obtain ⟨a7, c7, rfl, _, _⟩ := D.Ch.1 D7
  have r0 := A7 0 _ rfl
  have r1 := A7 1 _ rfl
  have r2 := A7 2 _ rfl
  have r3 := A7 3 _ rfl
  have r4 := A7 4 _ rfl
  have r5 := A7 5 _ rfl
  simp only [Cf, Nat.add_zero] at r0 r1 r2 r3 r4 r5
  refine Ad.post fun Q hQ => ?_
  simp (disch := first | exact xD | fail) [-Option.bind_some, -Aa, -Ab, e2, e3, e6, X2', X3', hlt0, Cd, q1, q2, r1, r2]
  refine Ad.bind (AN y.tag x.tag _) ?_
  rintro ⟨_, w1⟩ ⟨rfl, E1⟩
  try dsimp only at E1
  have zE1 := E1.size
  try simp only [qz] at zE1
  have QL : ∀ (e' : Env) (W : World) (a' : Option Addr) (c' : Nat) (l' : List Ver), e' 2 = pt g2 0 → e' 3 = pt g3 0 → e' 6 = i64 i → e' 5 = .slice a' l'.length c' → l'.length ≤ i + 1 → (∀ v ∈ l', v ∈ xs) → O AO (fun b => w0.heap.size ≤ b) W [.slice a' l'.length c'] l' → Ext w0 W → Ad (CH e' W) Q := by
   intro e' W a' c' l' f2 f3 f6 f5 hl' hm' ho' hE
   rw [Je]
   simp (disch := first | exact xD | fail) [-Option.bind_some, qs, -Aa, -Ab, f6]
   exact Ad.mono (ih (i + 1) _ W a' c' l' (by omega) hl' hm' xA xA (by first | rfl | (simp; done) | exact congrArg i64 (by omega)) xA hE ho') hQ
  have E1x := E0.tr ((Cs _).tr E1)
  have zE1x := E1x.size
  try simp only [qz] at zE1x
  have ho1 := ho.ext ((Cs _).tr E1)
  cases hls : Bv y.tag x.tag
  ·simp (disch := first | exact xD | fail) [-Option.bind_some, -Aa, -Ab]
   exact QL _ _ ao co l xA xA xA xA (by omega) hm ho1 E1x
  ·simp (disch := first | exact xD | fail) [-Option.bind_some, -Aa, -Ab]
   refine LY hx4 (by omega) hlt hx X2 ha (fun e' W a' c' l' f2 f3 f6 f5 hl' hm' ho' hE => QL e' W a' c' l' f2 f3 f6 f5 (by omega) (fun v hv => ?_) ho' hE) l.length 0 _ w1 (by omega) xA xA xA xA rfl E1x ho1
   rcases hm' v hv with h | rfl
   ·exact hm v h
   ·exact List.mem_of_getElem? hx
theorem Nr {a b : Option Addr} {n m c d : Nat} {S S' : Nat → Prop} {xs ys : List Ver} {w : World} (hx4 : xs.length = 4) (hy4 : ys.length = 4) (ha : D AO S w [.slice a n c] xs) (hb : D AO S' w [.slice b m d] ys) :
  Ad (EV P 140 #[.agg #[.slice a n c], .agg #[.slice b m d]] w) fun r => ∃ (l : List Ver) (a' : Option Addr) (c' : Nat), r.1 = .slice a' l.length c' ∧ O AO (fun b => w.heap.size ≤ b) r.2 [.slice a' l.length c'] l ∧ l.length ≤ 4 ∧ (∀ v ∈ l, v ∈ xs) ∧ Ext w r.2 := by
 obtain ⟨rfl, _, _⟩ := ha.n
 obtain ⟨rfl, _, _⟩ := hb.n
 rw [hx4, hy4]
 rw [hx4] at ha
 rw [hy4] at hb
 refine Ad.post fun Q hQ => ?_
 refine Ad.enter plain mixed (LN _ _ _) (by kernel_rfl) (n := 2) (by kernel_rfl) rfl ?_
 simp (disch := first | exact xD | fail) [-Option.bind_some, -Aa, -Ab]
 refine Ad.mono (LZ (g2 := w.heap.size) (g3 := w.heap.size + 1) (w0 := (w.alloc (.cells #[.slice a 4 c] 156)).alloc (.cells #[.slice b 4 d] 156)) hx4 hy4 (by first | assumption | rfl | (simp (disch := first | exact xD | fail) [-Option.bind_some, qs, -Aa, -Ab]; done)) (by first | assumption | rfl | (simp (disch := first | exact xD | fail) [-Option.bind_some, qs, -Aa, -Ab]; done)) (ha.ext xE) (hb.ext xE) 4 0 _ _ (some ⟨w.heap.size + 1 + 1, 0, none⟩) 0 [] (by omega) (by simp) (by simp) xA xA rfl rfl xE ((O.empty (L := Ck) (mx := 1954687338211) (g := w.heap.size + 1 + 1) (by first | assumption | rfl | (simp (disch := first | exact xD | fail) [-Option.bind_some, qs, -Aa, -Ab]; done))).wide xV)) ?_
 rintro r ⟨l', a', c', h1, h2, h3, h4, h5⟩
 exact hQ _ ⟨l', a', c', h1, h2.wide (fun b hb _ => by simp only [World.size_alloc] at hb; omega), h3, h4, (Ext.al (Ext.al Ext.rfl _) _).tr h5⟩
def Ns (v : Ver) : Prop := 0 ≤ v.key ∧ v.key ≤ 3 ∧ (0 < v.tag.t → v.past.length = 4)
def Rr (x : CNode) : Prop := x.store.length = 4 ∧ x.wait.length ≤ 6 ∧ (∀ v ∈ x.store, Ns v) ∧ (∀ v ∈ x.wait, Ns v)
theorem Nt {g1 g2 m c : Nat} {a : Option Addr} {S : Nat → Prop} {ms : List CNode} {x : CNode} {e : Env} {w : World} (hm : ms.length = m) (h0 : 0 < m) (h4 : m ≤ 100) (hx : ms[m - 1]? = some x) (e2 : e 2 = pt g1 0) (e4 : e 4 = pt g2 0) (e5 : e 5 = i64 m)
  (X1 : hp w g1 = some (.cells #[.slice a m c] 98 (0, 0))) (X2 : hp w g2 = some (.cells #[.slice none 0 0] 98 (0, 0))) (ho : O AW S w [.slice a m c] ms) (hg1 : ¬ S g1) (hg2 : ¬ S g2) (h12 : g1 ≠ g2) :
  Ad (CG e w) fun r => r.1 = .agg #[.slice a m c] ∧ O AW S r.2 [.slice a m c] (ms.set (m - 1) ⟨x.store, []⟩) ∧ Mod (fun b => S b ∨ b = g2) w r.2 := by
 have y1 := Ao X1
 have y2 := Ao X2
 obtain ⟨g, cur, ds, S2, rfl, hSg, hgl, hg, hle, hx1, hS2, put⟩ := ho.OM (by decide) hx
 obtain ⟨a2, c2, a3, c3, Ss, Sw, rfl, o2, o3, hSs, hSw⟩ := O.KT hx1
 simp only [BH] at hg hle put
 have n1 : g ≠ g1 := fun h => hg1 (h ▸ hSg)
 have n2 : g ≠ g2 := fun h => hg2 (h ▸ hSg)
 rw [Ja]
 refine Ad.post fun Q hQ => ?_
 simp (disch := first | exact xD | fail) [-Option.bind_some, qs, -Aa, -Ab, qm, e2, e4, e5, X1, X2, hg, CR, show (m : Int) - 1 = ((m - 1 : Nat) : Int) by omega]
 have oW := put (w.setRow g (Bo cur ((m - 1) * 2) [.slice a2 x.store.length c2, .slice none 0 0]).toArray) _ ⟨x.store, []⟩ Ss ((O.F7 (v := ⟨x.store, []⟩) (S2 := fun _ => False) (o2.Aj (fun b hS hb => Ac (hS2 b (hSs b hS).1).2.1)) O.nil (fun _ _ _ h => h)).wide (fun b h _ => h.elim id (fun h => h.elim))) (by first | assumption | rfl | (simp (disch := first | exact xD | fail) [-Option.bind_some, -Aa, -Ab, hg]; done))
  (fun b hb _ hne' hn => Ac hne') (fun b _ h => .inl (hSs b h).1)
 refine hQ _ ⟨rfl, (oW.Aj ?_).wide ?_, ((Mod.of Ext.rfl _).AM (.inr (.inl hSg)) _).AM (.inr (.inr rfl)) _⟩
 ·intro b hS hb
  refine Ac ?_
  rintro rfl
  rcases hS with h | h
  ·exact hg2 h.1
  ·exact hg2 (hS2 _ (hSs _ h).1).1
 ·intro b hS hb
  rcases hS with h | h
  ·exact h.1
  ·exact (hS2 _ (hSs _ h).1).1
theorem Nu {a : Option Addr} {n c k : Nat} {S : Nat → Prop} {ns : List CNode} {w : World} (h1 : 1 < ns.length) (h4 : ns.length ≤ 100) (hk : k < ns.length) (hf : ∀ x ∈ ns, Rr x) (ho : O AW S w [.slice a n c] ns) :
  Ad (EV P 117 #[.agg #[.slice a n c], i64 k] w) fun r => ∃ (ms : List CNode) (a' : Option Addr) (c' : Nat), r.1 = .agg #[.slice a' ms.length c'] ∧ O AW (fun b => S b ∨ In w.heap.size r.2.heap.size b) r.2 [.slice a' ms.length c'] ms ∧ ms.length = ns.length - 1 ∧ (∀ y ∈ ms, Rr y) ∧ Mod S w r.2 := by
 obtain ⟨rfl, hm, _⟩ := ho.n
 obtain ⟨css, S1, S2, a9, c9, L1, L2, d1, d2, sl1, sl2, A1, A2, dB⟩ := ho.TE (by decide) Lt (j := k) (k := k + 1) (by omega) (by omega)
 have sl2' : ∀ w', sl P 96 (.slice a ns.length c) (some (i64 ((k : Int) + 1))) none none w' = some (.slice a9 (ns.length - (k + 1)) c9, w') := fun w' => by
  have := sl2 w'
  rwa [show ((k + 1 : Nat) : Int) = (k : Int) + 1 by omega] at this
 refine Ad.post fun Q hQ => ?_
 refine Ad.enter plain mixed (LF _ _ _) (by kernel_rfl) (n := 2) (by kernel_rfl) rfl ?_
 simp (disch := first | exact xD | fail) [-Option.bind_some, qs, -Aa, -Ab, sl1, sl2']
 refine Ad.bind (O.PO (P := P) (L := NN) (mx := 2932031007317) (xs := []) (ys := ns.take k) (ty := 96) Lt Lu rfl (by decide) (O.empty (L := NN) (mx := 2932031007317) (g := w.heap.size + 1 + 1) (by first | assumption | rfl | (simp (disch := first | exact xD | fail) [-Option.bind_some, qs, -Aa, -Ab]; done))) (L1.Aj (by intro b hS hb; (try dsimp only at hS); (try simp only [In, qz] at hS hb); first | rfl | (simp (disch := first | exact xF | fail) only [qk]; done))) (fun b hb h1 h2 => by have := (d1 b h2).2.2; have h1 : b = w.heap.size + 1 + 1 := h1; omega) (A1.imp id fun ⟨b, o, h1, h2, h4⟩ => ⟨b, o, h1, h4.mono (Ext.Aj xE)⟩) (by rw [List.length_take]; omega) (by simp; omega) (by decide) (by decide)) ?_
 rintro ⟨_, w1⟩ ⟨a1, c1, rfl, o1, M1⟩
 have zM1 := M1.size
 try simp only [qz] at zM1
 try dsimp only at o1 M1
 have zM1 := M1.size
 simp only [World.size_alloc, Ae, List.length_nil, Nat.zero_add, List.nil_append] at zM1 o1
 have F1 : Ext w w1 := Mod.after xE M1 (fun b h1 h2 => by have h2 : b = w.heap.size + 1 + 1 := h2; omega)
 have Y1 : hp w1 w.heap.size = some (.cells #[.slice a ns.length c] 98 (0, 0)) := (M1.Ai _ xN (by omega)).trans (by first | assumption | rfl | (simp (disch := first | exact xD | fail) [-Option.bind_some, qs, -Aa, -Ab]; done))
 have Y2 : hp w1 (w.heap.size + 1) = some (.cells #[.slice none 0 0] 98 (0, 0)) := (M1.Ai _ xN (by omega)).trans (by first | assumption | rfl | (simp (disch := first | exact xD | fail) [-Option.bind_some, qs, -Aa, -Ab]; done))
 simp (disch := first | exact xD | fail) [-Option.bind_some, -Aa, -Ab, Y1]
 have htk : (ns.take k).length = k := by rw [List.length_take]; omega
 refine Ad.bind (O.PO (P := P) (L := NN) (mx := 2932031007317) (xs := ns.take k) (ys := ns.drop (k + 1)) (ty := 96) Lt Lu rfl (by decide) o1 (L2.Aj (fun b hS hb => F1.Ai hb)) (fun b hb h1 h2 => ?_) (A2.imp id fun ⟨b, o, h1, h2, h4⟩ => ⟨b, o, h1, h4.mono (Ext.Aj F1)⟩) (by rw [List.length_drop]) (by rw [htk]; omega) (by decide) (by decide)) ?_
 ·have q := d2 b h2
  rcases h1 with h | h | h
  ·have h : b = w.heap.size + 1 + 1 := h
   omega
  ·exact q.2.1 h
  ·omega
 rintro ⟨_, w2⟩ ⟨a3, c3, rfl, o3, M2⟩
 have zM2 := M2.size
 try simp only [] at zM2
 try dsimp only at o3 M2
 have zM2 := M2.size
 obtain ⟨ms, hms⟩ : ∃ ms, ms = ns.take k ++ ns.drop (k + 1) := ⟨_, rfl⟩
 have hml : ms.length = ns.length - 1 := by rw [hms, List.length_append, htk, List.length_drop]; omega
 have hmf : ∀ x ∈ ms, Rr x := by
  intro x hx
  rw [hms, List.mem_append] at hx
  rcases hx with h | h
  ·exact hf x (List.mem_of_mem_take h)
  ·exact hf x (List.mem_of_mem_drop h)
 rw [htk, ← hms, show k + (ns.length - (k + 1)) = ms.length by omega] at o3
 rw [htk, show k + (ns.length - (k + 1)) = ms.length by omega]
 have hS3 : ∀ b, ((b = w.heap.size + 1 + 1 ∨ S1 b ∨ w.heap.size + 1 + 1 + 1 ≤ b ∧ b < w1.heap.size) ∨ S2 b ∨ w1.heap.size ≤ b ∧ b < w2.heap.size) → (S b ∧ b < w.heap.size) ∨ (w.heap.size + 1 + 1 ≤ b ∧ b < w2.heap.size) := by
  rintro b ((h | h | h) | h | h)
  ·exact .inr (by omega)
  ·exact .inl ⟨(d1 b h).1, (d1 b h).2.2⟩
  ·exact .inr (by omega)
  ·exact .inl ⟨(d2 b h).1, (d2 b h).2.2⟩
  ·exact .inr (by omega)
 have Z1 : hp w2 w.heap.size = some (.cells #[.slice a ns.length c] 98 (0, 0)) := (M2.Ai _ (by omega) (fun h => by have := hS3 _ (.inl h); omega)).trans Y1
 have Z2 : hp w2 (w.heap.size + 1) = some (.cells #[.slice none 0 0] 98 (0, 0)) := (M2.Ai _ (by omega) (fun h => by have := hS3 _ (.inl h); omega)).trans Y2
 have N2 : Mod S w w2 := Mod.AX (Mod.of F1 S) M2 (fun b hb h => by rcases hS3 _ (.inl h) with q | q; exact q.1; omega)
 have o3' := o3.wide (S' := fun b => (S b ∧ b < w.heap.size) ∨ (w.heap.size + 1 + 1 ≤ b ∧ b < w2.heap.size)) (fun b h _ => hS3 b h)
 obtain ⟨W3, hW3⟩ : ∃ W3 : World, W3 = w2.setRow w.heap.size #[.slice a3 ms.length c3] := ⟨_, rfl⟩
 have sW : W3.heap.size = w2.heap.size := by rw [hW3, size_setRow]
 have kW : ∀ b, b ≠ w.heap.size → hp W3 b = hp w2 b := fun b q => by rw [hW3, Ac q]
 have V1 : hp W3 w.heap.size = some (.cells #[.slice a3 ms.length c3] 98 (0, 0)) := by
  rw [hW3]
  exact (by first | assumption | rfl | (simp (disch := first | exact xD | fail) [-Option.bind_some, -Aa, -Ab, Z1]; done))
 have V2 : hp W3 (w.heap.size + 1) = some (.cells #[.slice none 0 0] 98 (0, 0)) := (kW _ (by omega)).trans Z2
 have N3 : Mod S w W3 := by
  rw [hW3]
  exact N2.AM (.inl (by omega)) _
 have oW := o3'.Aj (w' := W3) (fun b hS hb => kW b (by omega))
 have fin : ∀ (e : Env) (W : World) (ls : List CNode) (S' : Nat → Prop), ls.length = ms.length → (∀ x ∈ ls, Rr x) → e 2 = pt w.heap.size 0 → e 4 = pt (w.heap.size + 1) 0 → e 5 = i64 ms.length → hp W w.heap.size = some (.cells #[.slice a3 ms.length c3] 98 (0, 0)) → hp W (w.heap.size + 1) = some (.cells #[.slice none 0 0] 98 (0, 0)) →
   O AW S' W [.slice a3 ms.length c3] ls → (∀ b, S' b → (S b ∧ b < w.heap.size) ∨ (w.heap.size + 1 + 1 ≤ b ∧ b < W.heap.size)) → Mod S w W → Ad (CG e W) Q := by
  intro e W ls S' hll hlf e2 e4 e5 U1 U2 ho hS' hM
  obtain ⟨x, hx, _⟩ := Al (l := ls) (k := ms.length - 1) (by omega)
  have zM := hM.size
  refine Ad.mono (Nt hll (by omega) (by omega) hx e2 e4 e5 U1 U2 ho (fun h => by have := hS' _ h; omega) (fun h => by have := hS' _ h; omega) (by omega)) ?_
  rintro r ⟨h1, h2, h3⟩
  have zh := h3.size
  have hle : (ls.set (ms.length - 1) ⟨x.store, []⟩).length = ms.length := by rw [List.length_set]; exact hll
  refine hQ _ ⟨ls.set (ms.length - 1) ⟨x.store, []⟩, a3, c3, by rw [hle]; exact h1, ?_, by rw [hle]; exact hml, ?_, ?_⟩
  ·rw [hle]
   refine h2.wide (fun b h _ => ?_)
   rcases hS' b h with h | h
   ·exact .inl h.1
   ·exact .inr (by simp only [In]; omega)
  ·intro y hy
   rcases List.mem_or_eq_of_mem_set hy with h | rfl
   ·exact hlf y h
   ·have q := hlf x (List.mem_of_getElem? hx)
    exact ⟨q.1, by simp, q.2.2.1, by simp⟩
  ·refine Mod.AX hM h3 (fun b hb h => ?_)
   rcases h with h | h
   ·rcases hS' b h with h | h
    ·exact h.1
    ·omega
   ·omega
 by_cases hk0 : k = 0
 ·simp (disch := first | exact xD | fail) [-Option.bind_some, -Aa, -Ab, qm, Z1, show ¬ 0 < k by omega]
  rw [← hW3]
  exact fin _ W3 ms _ rfl hmf rfl rfl rfl V1 V2 oW (fun b h => by rw [sW]; exact h) N3
 by_cases hkm : ms.length ≤ k
 ·simp (disch := first | exact xD | fail) [-Option.bind_some, -Aa, -Ab, qm, Z1, show 0 < k by omega, show ¬ k < ms.length by omega]
  rw [← hW3]
  exact fin _ W3 ms _ rfl hmf rfl rfl rfl V1 V2 oW (fun b h => by rw [sW]; exact h) N3
 obtain ⟨u, hu, _⟩ := Al (l := ms) (k := k - 1) (by omega)
 obtain ⟨v, hv, _⟩ := Al (l := ms) (k := k) (by omega)
 have qu := hmf u (List.mem_of_getElem? hu)
 have qv := hmf v (List.mem_of_getElem? hv)
 have qun : ms.length ≤ 100 := by omega
 obtain ⟨g, o6, cs6, rfl, A6, D6, _, l6⟩ := o3'.d.at (by decide) hu
 obtain ⟨a5, c5, a6, c6, rfl, h5, h6⟩ := D.node.1 D6
 have p0 := A6 0 _ rfl
 have p1 := A6 1 _ rfl
 simp only [BH, Nat.add_zero] at p0 p1
 obtain ⟨b7, o7, cs7, hb7, A7, D7, _, l7⟩ := o3'.d.at (by decide) hv
 simp only [Option.some.injEq, Addr.mk.injEq, and_true] at hb7
 obtain ⟨rfl, rfl⟩ := hb7
 obtain ⟨a7, c7, a8, c8, rfl, h7, h8⟩ := D.node.1 D7
 have q0 := A7 0 _ rfl
 have q1 := A7 1 _ rfl
 simp only [BH, Nat.add_zero] at q0 q1
 have hgw : g ≠ w.heap.size ∧ g ≠ w.heap.size + 1 := by
  obtain ⟨g', _, _, _, he, hSg', _⟩ := o3'.OM (by decide) hu
  simp only [Option.some.injEq, Addr.mk.injEq, and_true] at he
  omega
 simp (disch := first | exact xD | fail) [-Option.bind_some, qs, -Aa, -Ab, qm, Z1, show 0 < k by omega, show k < ms.length by omega, CR, show (k : Int) - 1 = ((k - 1 : Nat) : Int) by omega, p0, q0]
 rw [← hW3]
 have EW : ∀ b, b ≠ w.heap.size → hp (dw W3) b = hp w2 b := fun b h => (BU _ _).trans (kW b h)
 refine Ad.bind (Nr qu.1 qv.1 (h5.Aj (w' := dw W3) (fun b hS hb => EW b (by omega))) (h7.Aj (w' := dw W3) (fun b hS hb => EW b (by omega)))) ?_
 rintro ⟨_, w4⟩ ⟨ls, a4, c4, rfl, o4, hl4, hlu, E4⟩
 have zE4 := E4.size
 try simp only [qz] at zE4
 try dsimp only at o4 E4
 have zE4 := E4.size
 rw [Ae] at zE4 o4
 have k4 : ∀ b, b < W3.heap.size → hp w4 b = hp W3 b := fun b hb => (E4.Ai (by rw [Ae]; exact hb)).trans (BU _ _)
 obtain ⟨g', cur, ds, Sx, hge, hSg, hgl, hg, hle, hx1, hSx, put⟩ := (oW.Aj (w' := w4) (fun b hS hb => k4 b hb)).OM (by decide) hu
 simp only [Option.some.injEq, Addr.mk.injEq, and_true] at hge
 obtain ⟨rfl, rfl⟩ := hge
 obtain ⟨a9', c9', a6', c6', Ss, Sw, rfl, o5, o6, hSs, hSw⟩ := O.KT hx1
 simp only [BH] at hg hle put
 have U1 : hp w4 w.heap.size = some (.cells #[.slice (some ⟨g, 0, none⟩) ms.length c3] 98 (0, 0)) := (k4 _ (by omega)).trans V1
 have U2 : hp w4 (w.heap.size + 1) = some (.cells #[.slice none 0 0] 98 (0, 0)) := (k4 _ (by omega)).trans V2
 simp (disch := first | exact xD | fail) [-Option.bind_some, -Aa, -Ab, qm, U1, hg]
 have sub : ∀ b, Sx b → b ≠ g ∧ b < w2.heap.size ∧ ((S b ∧ b < w.heap.size) ∨ (w.heap.size + 1 + 1 ≤ b ∧ b < w2.heap.size)) := by
  intro b h
  have q := hSx b h
  exact ⟨q.2.1, by omega, q.1⟩
 have oP := put (w4.setRow g (Bo cur ((k - 1) * 2) [.slice a9' u.store.length c9', .slice a4 ls.length c4]).toArray) _ ⟨u.store, ls⟩ _ (O.F7 (v := ⟨u.store, ls⟩) (o5.Aj (fun b hS hb => Ac (sub b (hSs b hS).1).1)) (o4.Aj (fun b hS hb => Ac (by omega))) (fun b _ h1 h2 => by have := (sub b (hSs b h1).1).2.1; omega)) (by first | assumption | rfl | (simp (disch := first | exact xD | fail) [-Option.bind_some, -Aa, -Ab, hg]; done))
  (fun b hb _ hne' hn => Ac hne') (fun b _ h => by rcases h with h | h; exact .inl (hSs b h).1; exact .inr (by omega))
 refine fin _ _ (ms.set (k - 1) ⟨u.store, ls⟩) _ (by rw [List.length_set]) ?_ rfl rfl rfl ((Ac (by omega)).trans U1) ((Ac (by omega)).trans U2) oP.lt ?_ ?_
 ·intro y hy
  rcases List.mem_or_eq_of_mem_set hy with h | rfl
  ·exact hmf y h
  ·exact ⟨qu.1, by show ls.length ≤ 6; omega, qu.2.2.1, fun v hv => qu.2.2.1 v (hlu v hv)⟩
 ·intro b h
  rw [size_setRow] at h ⊢
  rcases h.1 with h1 | h1 | h1
  ·rcases h1.1 with q | q
   ·exact .inl q
   ·exact .inr (by omega)
  ·rcases (sub b (hSs b h1).1).2.2 with q | q
   ·exact .inl q
   ·exact .inr (by omega)
  ·right
   omega
 ·refine (N3.ex ((Cs _).tr E4)).AM ?_ _
  rcases hSg with h | h
  ·exact .inr h.1
  ·exact .inl (by omega)
def L6 (ns : List CNode) : Prop := 0 < ns.length ∧ ns.length ≤ 4 ∧ ∀ x ∈ ns, Rr x
theorem Vd : Rr Jh := by
 refine ⟨rfl, by decide, fun v hv => ?_, fun v hv => by simp [Jh] at hv⟩
 obtain rfl := List.eq_of_mem_replicate hv
 exact ⟨by decide, by decide⟩
theorem SU {m : Nat} (h : m < 4) : L6 (BP (1 + (m : Int))) := by
 have e : BP (1 + (m : Int)) = List.replicate (m + 1) Jh := by
  rw [BP, if_pos (by simp only [Bool.and_eq_true, decide_eq_true_eq]; omega)]
  congr 1
  omega
 rw [e]
 refine ⟨by simp, by simp; omega, fun x hx => ?_⟩
 obtain rfl := List.eq_of_mem_replicate hx
 exact Vd
theorem O4 {ns : List CNode} {i : Nat} {v : Ver} {x : CNode} (h : L6 ns) (hx : ns[i]? = some x) (h6 : x.wait.length < 6) (hv : Ns v) : L6 (GF ns i v) := by
 have q := h.2.2 x (List.mem_of_getElem? hx)
 unfold GF
 rw [hx]
 dsimp only
 split
 ·split
  ·refine ⟨by rw [List.length_set]; exact h.1, by rw [List.length_set]; exact h.2.1, fun y hy => ?_⟩
   rcases List.mem_or_eq_of_mem_set hy with hy | rfl
   ·exact h.2.2 y hy
   ·refine ⟨?_, ?_, ?_, ?_⟩
    ·simp only [addNode, List.length_set]
     exact q.1
    ·unfold addNode
     dsimp only
     split
     ·omega
     ·rw [List.length_append]; simp only [List.length_cons, List.length_nil]; omega
    ·intro u hu
     simp only [addNode] at hu
     rcases List.mem_or_eq_of_mem_set hu with hu | rfl
     ·exact q.2.2.1 u hu
     ·exact hv
    ·intro u hu
     unfold addNode at hu
     dsimp only at hu
     split at hu
     ·exact q.2.2.2 u hu
     ·rcases List.mem_append.1 hu with hu | hu
      ·exact q.2.2.2 u hu
      ·obtain rfl := List.mem_singleton.1 hu
       exact hv
  ·exact h
 ·exact h
theorem Rs {ns : List CNode} {k : Nat} {x y : CNode} {v : Ver} {l : List Ver} (h : L6 ns) (hx : ns[k]? = some x) (hy : ns[k + 1]? = some y) (hw : x.wait = v :: l) (h6 : y.wait.length < 6) : L6 (GY ns k) := by
 have q := h.2.2 x (List.mem_of_getElem? hx)
 have qw := q.2.2.2
 rw [hw] at qw
 rw [J8 hx hw]
 refine O4 (x := y) ⟨by rw [List.length_set]; exact h.1, by rw [List.length_set]; exact h.2.1, fun z hz => ?_⟩ (by rw [List.getElem?_set_ne (by omega)]; exact hy) h6 (qw v List.mem_cons_self)
 rcases List.mem_or_eq_of_mem_set hz with hz | rfl
 ·exact h.2.2 z hz
 ·refine ⟨q.1, ?_, q.2.2.1, fun u hu => qw u (List.mem_cons_of_mem _ hu)⟩
  have := q.2.1
  rw [hw] at this
  simp only [List.length_cons] at this
  show l.length ≤ 6
  omega
theorem Rt {ns : List CNode} (h : L6 ns) (h4 : ns.length < 4) : L6 (EP ns) := by
 obtain ⟨x, hx, _⟩ := Al (l := ns) (k := ns.length - 1) (by have := h.1; omega)
 have hj : EP ns = ns ++ [⟨x.store, []⟩] := by rw [EP, J7, hx]
 have q := h.2.2 x (List.mem_of_getElem? hx)
 rw [hj]
 refine ⟨by simp, by simp; omega, fun y hy => ?_⟩
 rcases List.mem_append.1 hy with hy | hy
 ·exact h.2.2 y hy
 ·obtain rfl := List.mem_singleton.1 hy
  exact ⟨q.1, by simp, q.2.2.1, by simp⟩
theorem Io {a : Option Addr} {n c : Nat} {S : Nat → Prop} {ns : List CNode} {x : CNode} (hx : ns[0]? = some x) {w : World} (ha : D AW S w [.slice a n c] ns) :
  Ad (EV P 142 #[.agg #[.slice a n c]] w) fun r => r.1 = .bool (decide (x.wait.length < 6)) ∧ Ext w r.2 := by
 have hl0 : 0 < ns.length := (List.getElem?_eq_some_iff.1 hx).1
 obtain ⟨rfl, hm, _⟩ := ha.n
 obtain ⟨b1, o1, cs1, rfl, A1, D1, _, l1⟩ := ha.at (by decide) hx
 obtain ⟨a2, c2, a3, c3, rfl, h2, h3⟩ := D.node.1 D1
 have p0 := A1 0 _ rfl
 have p1 := A1 1 _ rfl
 simp only [BH, Nat.add_zero] at p0 p1
 refine Ad.post fun Q hQ => ?_
 refine Ad.enter plain mixed (LO _ _) (by kernel_rfl) (n := 1) (by kernel_rfl) rfl ?_
 cases h6 : decide (x.wait.length < 6)
 ·rw [h6] at hQ
  simp only [decide_eq_false_iff_not] at h6
  simp (disch := first | exact xD | fail) [-Option.bind_some, qs, -Aa, -Ab, CR, show ¬ (x.wait.length : Int) < 6 by omega, p1]
  exact hQ _ ⟨rfl, xE⟩
 ·rw [h6] at hQ
  simp only [decide_eq_true_eq] at h6
  simp (disch := first | exact xD | fail) [-Option.bind_some, qs, -Aa, -Ab, CR, show (x.wait.length : Int) < 6 by omega, p1]
  exact hQ _ ⟨rfl, xE⟩
abbrev BG : Lay (List Done) := Hb 41
theorem Nv (d : Done) (w : World) : Ad (EV P 31 #[.agg (B6 d).toArray] w) fun r => r.1 = .bool (FA d) ∧ Ext w r.2 := by
 refine Ad.post fun Q hQ => ?_
 refine Ad.enter plain mixed (Lk _ _) (by kernel_rfl) (n := 1) (by kernel_rfl) rfl ?_
 simp (disch := first | exact xD | fail) [-Option.bind_some, qs, -Aa, -Ab]
 refine Ad.bind (AH _ _ _ _) ?_
 rintro _ rfl
 unfold FA at hQ
 cases b1 : (decide (0 ≤ d.Av) && decide (d.Av ≤ 3))
 ·rw [b1] at hQ
  simp (disch := first | exact xD | fail) [-Option.bind_some, -Aa, -Ab]
  exact hQ _ ⟨by simp, xE⟩
 simp (disch := first | exact xD | fail) [-Option.bind_some, qs, -Aa, -Ab]
 refine Ad.bind (AH _ _ _ _) ?_
 rintro _ rfl
 cases b2 : (decide (1 ≤ d.kind) && decide (d.kind ≤ 3))
 ·rw [b2] at hQ
  simp (disch := first | exact xD | fail) [-Option.bind_some, -Aa, -Ab]
  exact hQ _ ⟨by simp, xE⟩
 simp (disch := first | exact xD | fail) [-Option.bind_some, qs, -Aa, -Ab]
 refine Ad.bind (AH _ _ _ _) ?_
 rintro _ rfl
 cases b3 : (decide (0 ≤ d.key) && decide (d.key ≤ 3))
 ·rw [b3] at hQ
  simp (disch := first | exact xD | fail) [-Option.bind_some, -Aa, -Ab]
  exact hQ _ ⟨by simp, xE⟩
 simp (disch := first | exact xD | fail) [-Option.bind_some, qs, -Aa, -Ab]
 refine Ad.bind (LR d.tag _) ?_
 rintro ⟨_, w1⟩ ⟨rfl, E1⟩
 try dsimp only at E1
 have zE1 := E1.size
 try simp only [qz] at zE1
 cases b4 : Cq d.tag
 ·rw [b4] at hQ
  simp (disch := first | exact xD | fail) [-Option.bind_some, -Aa, -Ab]
  exact hQ _ ⟨by simp, xE⟩
 rw [b1, b2, b3, b4] at hQ
 cases b5 : (d.kind == 2)
 ·rw [b5] at hQ
  simp (disch := first | exact xD | fail) [-Option.bind_some, qs, -Aa, -Ab, b5, E1.Ai]
  exact hQ _ ⟨by simp, xE⟩
 ·rw [b5] at hQ
  simp (disch := first | exact xD | fail) [-Option.bind_some, qs, -Aa, -Ab, b5, E1.Ai]
  exact hQ _ ⟨by simp, xE⟩
theorem KP (d : Done) (w : World) : Ad (EV P 35 #[.agg (B6 d).toArray] w) fun r => r.1 = .bool (!FA d) ∧ Ext w r.2 := by
 refine Ad.post fun Q hQ => ?_
 refine Ad.enter plain mixed (JM _ _) (by kernel_rfl) (n := 1) (by kernel_rfl) rfl ?_
 simp (disch := first | exact xD | fail) [-Option.bind_some, qs, -Aa, -Ab]
 refine Ad.bind (C5 _ _ _ _) ?_
 rintro _ rfl
 unfold FA at hQ
 cases b1 : (decide (0 ≤ d.Av) && decide (d.Av ≤ 3))
 ·rw [b1] at hQ
  simp (disch := first | exact xD | fail) [-Option.bind_some, -Aa, -Ab]
  exact hQ _ ⟨by simp, xE⟩
 simp (disch := first | exact xD | fail) [-Option.bind_some, qs, -Aa, -Ab]
 refine Ad.bind (C5 _ _ _ _) ?_
 rintro _ rfl
 cases b2 : (decide (1 ≤ d.kind) && decide (d.kind ≤ 3))
 ·rw [b2] at hQ
  simp (disch := first | exact xD | fail) [-Option.bind_some, -Aa, -Ab]
  exact hQ _ ⟨by simp, xE⟩
 simp (disch := first | exact xD | fail) [-Option.bind_some, qs, -Aa, -Ab]
 refine Ad.bind (Ov _ _) ?_
 rintro _ rfl
 cases b3 : UN d.key
 ·rw [show (decide (0 ≤ d.key) && decide (d.key ≤ 3)) = false from b3] at hQ
  simp (disch := first | exact xD | fail) [-Option.bind_some, -Aa, -Ab]
  exact hQ _ ⟨by simp, xE⟩
 simp (disch := first | exact xD | fail) [-Option.bind_some, qs, -Aa, -Ab]
 refine Ad.bind (Jf d.tag _) ?_
 rintro ⟨_, w1⟩ ⟨rfl, E1⟩
 try dsimp only at E1
 have zE1 := E1.size
 try simp only [qz] at zE1
 cases b4 : Cq d.tag
 ·rw [b4] at hQ
  simp (disch := first | exact xD | fail) [-Option.bind_some, -Aa, -Ab]
  exact hQ _ ⟨by simp, xE⟩
 rw [b1, b2, b4, show (decide (0 ≤ d.key) && decide (d.key ≤ 3)) = true from b3] at hQ
 have hz : ((d.tag.t == 0) && (d.tag.p == 0)) = !decide (0 < d.tag.t) := by
  rw [Bool.eq_iff_iff]
  simp only [Cq, Bool.or_eq_true, Bool.and_eq_true, beq_iff_eq, decide_eq_true_eq] at b4
  simp only [Bool.and_eq_true, beq_iff_eq, Bool.not_eq_true', decide_eq_false_iff_not]
  omega
 cases b6 : decide (0 < d.tag.t)
 ·rw [b6] at hQ hz
  cases b5 : (d.kind == 2)
  ·rw [b5] at hQ
   have b5' : (d.kind != 2) = true := by rw [bne, b5]; rfl
   simp (disch := first | exact xD | fail) [-Option.bind_some, qs, -Aa, -Ab, b5', hz, E1.Ai]
   exact hQ _ ⟨by simp, xE⟩
  ·rw [b5] at hQ
   have b5' : (d.kind != 2) = false := by rw [bne, b5]; rfl
   simp (disch := first | exact xD | fail) [-Option.bind_some, qs, -Aa, -Ab, b5', hz, E1.Ai]
   exact hQ _ ⟨by simp, xE⟩
 ·rw [b6] at hQ hz
  simp (disch := first | exact xD | fail) [-Option.bind_some, qs, -Aa, -Ab, hz, E1.Ai]
  exact hQ _ ⟨by simp, xE⟩
theorem Nw {a : Option Addr} {c : Nat} {S : Nat → Prop} {xs : List Done} {w0 : World} :
  ∀ (d k : Nat) (e : Env) (w : World), k + d = xs.length → e 0 = .slice a xs.length c → e 3 = i64 k → D BG S w0 [.slice a xs.length c] xs → Ext w0 w →
  Ad (Dy e w) fun r => r.1 = .bool ((xs.drop k).all FA && decide (xs.length ≤ 80)) ∧ Ext w0 r.2 := by
 intro d
 induction d with
 | zero =>
  intro k e w hd e0 e3 ha E0
  have zE0 := E0.size
  try simp only [qz] at zE0
  rw [FE]
  obtain rfl : k = xs.length := by omega
  rw [List.drop_of_length_le (by omega), List.all_nil, Bool.true_and]
  have hq : decide ((xs.length : Int) ≤ 80) = decide (xs.length ≤ 80) := by rw [Bool.eq_iff_iff]; simp only [decide_eq_true_eq]; omega
  refine Ad.post fun Q hQ => ?_
  simp (disch := first | exact xD | fail) [-Option.bind_some, -Aa, -Ab, e0, e3, hq]
  exact hQ _ ⟨by simp, xE⟩
 | succ d ih =>
  intro k e w hd e0 e3 ha E0
  have zE0 := E0.size
  try simp only [qz] at zE0
  rw [FE]
  have hlt : k < xs.length := by omega
  obtain ⟨x, hx, hdx⟩ := Al hlt
  have hn := ha.n
  obtain ⟨b1, o1, cs1, rfl, A1, D1, _, l1⟩ := (ha.ext E0).at (by decide) hx
  obtain rfl := D.done.1 D1
  have p0 := A1 0 _ rfl
  have p1 := A1 1 _ rfl
  have p2 := A1 2 _ rfl
  have p3 := A1 3 _ rfl
  have p4 := A1 4 _ rfl
  simp only [Nat.add_zero] at p0 p1 p2 p3 p4
  simp only [Jz] at p0 p1 p2 p3 p4
  rw [hdx, List.all_cons]
  refine Ad.post fun Q hQ => ?_
  simp (disch := first | exact xD | fail) [-Option.bind_some, qs, -Aa, -Ab, e0, e3, hlt, I4, p0, p1, p2, p3, p4]
  refine Ad.bind (Nv x _) ?_
  rintro ⟨_, w1⟩ ⟨rfl, E1⟩
  try dsimp only at E1
  have zE1 := E1.size
  try simp only [qz] at zE1
  cases ho : FA x
  ·rw [ho] at hQ
   simp (disch := first | exact xD | fail) [-Option.bind_some, -Aa, -Ab]
   exact hQ _ ⟨by simp, xE⟩
  ·rw [ho] at hQ
   simp (disch := first | exact xD | fail) [-Option.bind_some, -Aa, -Ab]
   exact Ad.mono (ih (k + 1) _ _ (by omega) xA xA ha xE) (fun r h => hQ r ⟨by rw [h.1]; simp, h.2⟩)
theorem Ip {a : Option Addr} {n c : Nat} {S : Nat → Prop} {xs : List Done} {w : World} (ha : D BG S w [.slice a n c] xs) :
  Ad (EV P 20 #[.slice a n c] w) fun r => r.1 = .bool (CC xs) ∧ Ext w r.2 := by
 obtain ⟨rfl, hm, _⟩ := ha.n
 refine Ad.post fun Q hQ => ?_
 refine Ad.enter plain mixed (Lh _ _) (by kernel_rfl) (n := 1) (by kernel_rfl) rfl ?_
 simp (disch := first | exact xD | fail) [-Option.bind_some, -Aa, -Ab]
 exact Ad.mono (Nw xs.length 0 _ w (by omega) rfl rfl ha Ext.rfl) hQ
theorem GG {a : Option Addr} {c : Nat} {S : Nat → Prop} {f : Value} {xs : List Done} {p : Done → Bool} {w0 : World} (hf : ∀ x ∈ xs, ∀ w, Ext w0 w → Ad (TH P f #[.agg (B6 x).toArray] w) fun r => r.1 = .bool (p x) ∧ Ext w r.2) :
  ∀ (d k : Nat) (e : Env) (w : World), k + d = xs.length → e 0 = .slice a xs.length c → e 1 = f → e 7 = i64 xs.length → e 8 = i64 k → D BG S w0 [.slice a xs.length c] xs → Ext w0 w →
  Ad (BC e w) fun r => ∃ i : Int, r.1 = i64 i ∧ decide (0 ≤ i) = (xs.drop k).any p ∧ Ext w0 r.2 := by
 intro d
 induction d with
 | zero =>
  intro k e w hd e0 e1 e7 e8 ha E0
  have zE0 := E0.size
  try simp only [qz] at zE0
  rw [Cw]
  obtain rfl : k = xs.length := by omega
  rw [List.drop_eq_nil_of_le (by omega)]
  refine Ad.post fun Q hQ => ?_
  simp (disch := first | exact xD | fail) [-Option.bind_some, -Aa, -Ab, e7, e8]
  exact hQ _ ⟨_, rfl, by simp, E0⟩
 | succ d ih =>
  intro k e w hd e0 e1 e7 e8 ha E0
  have zE0 := E0.size
  try simp only [qz] at zE0
  rw [Cw]
  have hlt : k < xs.length := by omega
  obtain ⟨x, hx, hdx⟩ := Al hlt
  have hn := ha.n
  obtain ⟨b1, o1, cs1, rfl, A1, D1, _, l1⟩ := (ha.ext E0).at (by decide) hx
  obtain rfl := D.done.1 D1
  have p0 := A1 0 _ rfl
  have p1 := A1 1 _ rfl
  have p2 := A1 2 _ rfl
  have p3 := A1 3 _ rfl
  have p4 := A1 4 _ rfl
  simp only [Nat.add_zero] at p0 p1 p2 p3 p4
  simp only [Jz] at p0 p1 p2 p3 p4
  rw [hdx, List.any_cons]
  refine Ad.post fun Q hQ => ?_
  simp (disch := first | exact xD | fail) [-Option.bind_some, qs, -Aa, -Ab, e0, e1, e7, e8, hlt, I4, p0, p1, p2, p3, p4]
  refine Ad.bind (hf x (List.mem_of_getElem? hx) _ E0) ?_
  rintro ⟨_, w1⟩ ⟨rfl, E1⟩
  try dsimp only at E1
  have zE1 := E1.size
  try simp only [qz] at zE1
  cases ho : p x
  ·rw [ho] at hQ
   simp (disch := first | exact xD | fail) [-Option.bind_some, -Aa, -Ab]
   exact Ad.mono (ih (k + 1) _ _ (by omega) xA xA xA xA ha xE) (fun r h => hQ r (by simpa using h))
  ·rw [ho] at hQ
   simp (disch := first | exact xD | fail) [-Option.bind_some, -Aa, -Ab]
   exact hQ _ ⟨_, rfl, by simp, xE⟩
theorem Fo {a : Option Addr} {n c : Nat} {S : Nat → Prop} {f : Value} {xs : List Done} {p : Done → Bool} {w : World} (ha : D BG S w [.slice a n c] xs) (hf : ∀ x ∈ xs, ∀ w', Ext w w' → Ad (TH P f #[.agg (B6 x).toArray] w') fun r => r.1 = .bool (p x) ∧ Ext w' r.2) :
  Ad (EV P 34 #[.slice a n c, f] w) fun r => r.1 = .bool (xs.any p) ∧ Ext w r.2 := by
 obtain ⟨rfl, hm, _⟩ := ha.n
 have hi : Ad (EV P 56 #[.slice a xs.length c, f] w) fun r => ∃ i : Int, r.1 = i64 i ∧ decide (0 ≤ i) = xs.any p ∧ Ext w r.2 := by
  refine Ad.enter plain mixed (Gf _ _ _) (by kernel_rfl) (n := 2) (by kernel_rfl) rfl ?_
  simp (disch := first | exact xD | fail) [-Option.bind_some]
  exact GG hf xs.length 0 _ w (by omega) rfl rfl rfl rfl ha Ext.rfl
 refine Ad.enter plain mixed (EZ _ _ _) (by kernel_rfl) (n := 2) (by kernel_rfl) rfl ?_
 simp (disch := first | exact xD | fail) [-Option.bind_some]
 refine Ad.bind hi ?_
 rintro ⟨_, w1⟩ ⟨i, rfl, h2, hE⟩
 simp (disch := first | exact xD | fail) [-Option.bind_some, h2]
 exact hE
theorem Gm {a : Option Addr} {n c : Nat} {S : Nat → Prop} {xs : List Done} {w : World} (ha : D BG S w [.slice a n c] xs) :
  Ad (EV P 14 #[.slice a n c] w) fun r => r.1 = .bool (CC xs) ∧ Ext w r.2 := by
 obtain ⟨rfl, hm, _⟩ := ha.n
 have hq : decide ((xs.length : Int) ≤ 80) = decide (xs.length ≤ 80) := by rw [Bool.eq_iff_iff]; simp only [decide_eq_true_eq]; omega
 refine Ad.post fun Q hQ => ?_
 refine Ad.enter plain mixed (Lg _ _) (by kernel_rfl) (n := 1) (by kernel_rfl) rfl ?_
 cases h : decide (xs.length ≤ 80)
 ·simp (disch := first | exact xD | fail) [-Option.bind_some, -Aa, -Ab, hq, h]
  exact hQ _ ⟨by simp [CC, h], xE⟩
 ·simp (disch := first | exact xD | fail) [-Option.bind_some, -Aa, -Ab, hq, h]
  refine Ad.bind (Fo (p := fun x => !FA x) (ha.ext xE) (fun x _ w' E' => by have := VA (P := P) (g := 35) (by kernel_rfl) [] [] [.agg (B6 x).toArray] w'; exact (by simpa using this : TH P (.func (.func 35) #[] #[]) #[.agg (B6 x).toArray] w' = _) ▸ KP x w')) ?_
  rintro ⟨_, w1⟩ ⟨rfl, E1⟩
  try dsimp only at E1
  have zE1 := E1.size
  try simp only [qz] at zE1
  simp (disch := first | exact xD | fail) [-Option.bind_some, -Aa, -Ab]
  refine hQ _ ⟨?_, xE⟩
  rw [CC, h, Bool.and_true]
  congr 1
  rw [List.all_eq_not_any_not]
abbrev UG : List Int := [0, 1, 28, 2, 29, 14, 24, 3, 30, 22, 20, 15, 25, 17, 4, 8, 31, 27, 13, 23, 21, 19, 16, 7, 26, 12, 18, 6, 11, 5, 10, 9]
abbrev UH : List Int := [0, 1, 56, 2, 57, 49, 28, 3, 61, 58, 42, 50, 38, 29, 17, 4, 62, 47, 59, 36, 45, 43, 51, 22, 53, 39, 33, 30, 24, 18, 12, 5, 63, 55, 48, 27, 60, 41, 37, 16, 46, 35, 44, 21, 52, 32, 23, 11, 54, 26, 40, 15, 34, 20, 31, 10, 25, 14, 19, 9, 13, 8, 7, 6]
abbrev UI : List Int := [1, 10, 100, 1000, 10000, 100000, 1000000, 10000000, 100000000, 1000000000, 10000000000, 100000000000, 1000000000000, 10000000000000, 100000000000000, 1000000000000000, 10000000000000000, 100000000000000000, 1000000000000000000, 10000000000000000000]
structure Glob (W : World) : Prop where
 t32 : At W 4 0 (UG.map fun x => Value.int .u8 x)
 t64 : At W 5 0 (UH.map fun x => Value.int .u8 x)
 t10 : At W 1 0 (UI.map fun x => Value.int .u64 x)
theorem Glob.ext {w w' : World} (h : Glob w) (k : Ext w w') : Glob w' := ⟨h.t32.mono fun b hb => k.Ai hb, h.t64.mono fun b hb => k.Ai hb, h.t10.mono fun b hb => k.Ai hb⟩
theorem YO {n : Nat} (h : n < 100) (h10 : 10 ≤ n) : Bx n = [dg (n / 10), dg (n % 10)] := by
 rw [Fc (by omega), Ez (n := n / 10) (by omega)]
 rfl
theorem T9 {n : Nat} (h : n < 100) (w : World) : Ad (EV P 69 #[i64 n] w) fun r => r = (.string (A8 (Bx n)), w) := by
 refine Ad.post fun Q hQ => ?_
 refine Ad.enter plain mixed (Fy _ _) (by kernel_rfl) (n := 1) (by kernel_rfl) rfl ?_
 by_cases h10 : n < 10
 ·have hs := Sj (P := P) (t := 9) (by kernel_rfl) ⟨#[48, 49, 50, 51, 52, 53, 54, 55, 56, 57, 97, 98, 99, 100, 101, 102, 103, 104, 105, 106, 107, 108, 109, 110, 111, 112, 113, 114, 115, 116, 117, 118, 119, 120, 121, 122]⟩ (i := (n : Int)) (j := (n : Int) + 1) (by omega) (by omega) (by show _ ≤ ((36 : Nat) : Int); omega) w
  rw [show (n : Int).toNat = n by omega, show ((n : Int) + 1).toNat = n + 1 by omega, UZ n h10, ← Ez h10] at hs
  simp (disch := first | exact xD | fail) [-Option.bind_some, qs, -Aa, -Ab, show (n : Int) < 10 by omega, hs]
  exact hQ _ rfl
 ·have hs := Sj (P := P) (t := 9) (by kernel_rfl) FK (i := (n : Int) * 2) (j := (n : Int) * 2 + 2) (by omega) (by omega) (by show _ ≤ ((200 : Nat) : Int); omega) w
  rw [show ((n : Int) * 2).toNat = n * 2 by omega, show ((n : Int) * 2 + 2).toNat = n * 2 + 2 by omega, U0 n h (by omega), ← YO h (by omega)] at hs
  unfold FK at hs
  have hw1 : IntKind.i64.wrap ((n : Int) * 2) = (n : Int) * 2 := HH (by omega) (by omega)
  have hw2 : IntKind.i64.wrap ((n : Int) * 2 + 2) = (n : Int) * 2 + 2 := HH (by omega) (by omega)
  simp (disch := first | exact xD | fail) [-Option.bind_some, -Aa, -Ab, show ¬ (n : Int) < 10 by omega, IL, hw1, hw2, hs]
  exact hQ _ rfl
theorem Ua {n : Nat} (h1 : 100 ≤ n) (h2 : n ≤ 999) (w : World) : Ad (EV P 94 #[.int .u64 n] w) fun r => ∃ L : Nat, r = (i64 L, w) ∧ 7 ≤ L ∧ L ≤ 10 := by
 refine Ad.post fun Q hQ => ?_
 refine Ad.enter plain mixed (IF _ _) (by kernel_rfl) (n := 1) (by kernel_rfl) rfl ?_
 simp (disch := first | exact xD | fail) [-Option.bind_some, -Aa, -Ab, show ¬ (4294967296 : Int) ≤ n by omega]
 rw [Hn]
 simp (disch := first | exact xD | fail) [-Option.bind_some, qs, -Aa, -Ab, show ¬ (65536 : Int) ≤ n by omega]
 rw [Ho]
 by_cases h : 256 ≤ n
 ·obtain ⟨m, hm⟩ : ∃ m : Nat, m = n / 256 := ⟨_, rfl⟩
  have hsh : (n : Int) / 2 ^ min 8 IntKind.u64.bits = (m : Int) := by
   show (n : Int) / 2 ^ 8 = _
   omega
  obtain ⟨b, hb⟩ : ∃ b, b = UInt8.ofNat (if m = 0 then 0 else m.log2 + 1) := ⟨_, rfl⟩
  have hb1 := U5 m (by omega) (by omega)
  rw [← hb] at hb1
  have hat := QB m (by omega)
  rw [← hb] at hat
  have hix := fun w => I3 (P := P) (t := 9) (by kernel_rfl) OY (k := .u8) (i := (m : Int)) (by omega) (b := b) (by simpa using hat) w
  unfold OY at hix
  have hw8 : IntKind.u8.wrap (m : Int) = m := Xi (by omega) (by omega)
  have hw3 : IntKind.i64.wrap (b.toNat : Int) = b.toNat := HH (by omega) (by omega)
  have hw4 : IntKind.i64.wrap (8 + (b.toNat : Int)) = 8 + (b.toNat : Int) := HH (by omega) (by omega)
  simp (disch := first | exact xD | fail) [-Option.bind_some, qs, -Aa, -Ab, show (256 : Int) ≤ n by omega, QA, hsh]
  rw [Eh]
  simp (disch := first | exact xD | fail) [-Option.bind_some, qs, -Aa, -Ab, hw8, hix, hw3, hw4]
  trace_state; exact hQ _ ⟨8 + b.toNat, by rw [Int.natCast_add]; rfl, by omega, by omega⟩
 ·obtain ⟨b, hb⟩ : ∃ b, b = UInt8.ofNat (if n = 0 then 0 else n.log2 + 1) := ⟨_, rfl⟩
  have hb1 := U4 n (by omega) (by omega)
  rw [← hb] at hb1
  have hat := QB n (by omega)
  rw [← hb] at hat
  have hix := fun w => I3 (P := P) (t := 9) (by kernel_rfl) OY (k := .u8) (i := (n : Int)) (by omega) (b := b) (by simpa using hat) w
  unfold OY at hix
  have hw8 : IntKind.u8.wrap (n : Int) = n := Xi (by omega) (by omega)
  have hw3 : IntKind.i64.wrap (b.toNat : Int) = b.toNat := HH (by omega) (by omega)
  simp (disch := first | exact xD | fail) [-Option.bind_some, qs, -Aa, -Ab, show ¬ (256 : Int) ≤ n by omega]
  rw [Eh]
  simp (disch := first | exact xD | fail) [-Option.bind_some, qs, -Aa, -Ab, hw8, hix, hw3]
  exact hQ _ ⟨b.toNat, rfl, by omega, by omega⟩
theorem Ub {L : Nat} (h1 : 7 ≤ L) (h2 : L ≤ 10) (w : World) : Ad (EV P 93 #[i64 L] w) fun r => r = (i64 (if L = 10 then 3 else 2), w) := by
 have hw : IntKind.i64.wrap ((L : Int) * 78913) = (L : Int) * 78913 := HH (by omega) (by omega)
 have hsh : (L : Int) * 78913 / 2 ^ min 18 IntKind.i64.bits = (if L = 10 then 3 else 2) := by
  show (L : Int) * 78913 / 2 ^ 18 = _
  split <;> omega
 refine Ad.post fun Q hQ => ?_
 refine Ad.enter plain mixed (EF _ _) (by kernel_rfl) (n := 1) (by kernel_rfl) rfl ?_
 simp (disch := first | exact xD | fail) [-Option.bind_some, -Aa, -Ab, IL, hw, QA, hsh]
 exact hQ _ rfl
theorem L7 (b : Bool) (w : World) : Ad (EV P 95 #[.bool b] w) fun r => r = (i64 (if b then 1 else 0), w) := by
 refine Ad.post fun Q hQ => ?_
 refine Ad.enter plain mixed (EG _ _) (by kernel_rfl) (n := 1) (by kernel_rfl) rfl ?_
 cases b
 ·simp (disch := first | exact xD | fail) [-Option.bind_some, -Aa, -Ab]
  exact hQ _ rfl
 ·simp (disch := first | exact xD | fail) [-Option.bind_some, -Aa, -Ab]
  exact hQ _ rfl
theorem O5 {n : Nat} (h1 : 100 ≤ n) (h2 : n ≤ 999) {w : World} (G : Glob w) : Ad (EV P 70 #[.int .u64 n] w) fun r => r = (i64 3, w) := by
 have c2 : AP (hp w 1) 2 = some (.int .u64 100) := by have := G.t10 2 _ rfl; simpa using this
 have c3 : AP (hp w 1) 3 = some (.int .u64 1000) := by have := G.t10 3 _ rfl; simpa using this
 refine Ad.post fun Q hQ => ?_
 refine Ad.enter plain mixed (EE _ _) (by kernel_rfl) (n := 1) (by kernel_rfl) rfl ?_
 simp (disch := first | exact xD | fail) [-Option.bind_some, -Aa, -Ab]
 refine Ad.bind (Ua h1 h2 _) ?_
 rintro ⟨_, w1⟩ ⟨L, h, hL1, hL2⟩
 simp only [Prod.mk.injEq] at h
 obtain ⟨rfl, rfl⟩ := h
 refine Ad.bind (Ub hL1 hL2 _) ?_
 rintro ⟨_, w1⟩ h
 simp only [Prod.mk.injEq] at h
 obtain ⟨rfl, rfl⟩ := h
 by_cases hL : L = 10
 ·simp only [hL, if_true]
  simp (disch := first | exact xD | fail) [-Option.bind_some, -Aa, -Ab, SH (P := P) (t := 140) Tryz.underlying140 (by kernel_rfl : QG P 120 = some 1), c3, show ¬ (1000 : Int) ≤ n by omega]
  refine Ad.bind (L7 _ _) ?_
  rintro ⟨_, w2⟩ h
  simp only [Prod.mk.injEq] at h
  obtain ⟨rfl, rfl⟩ := h
  simp (disch := first | exact xD | fail) [-Option.bind_some, qs, -Aa, -Ab]
  exact hQ _ rfl
 ·simp only [hL, if_false]
  simp (disch := first | exact xD | fail) [-Option.bind_some, -Aa, -Ab, SH (P := P) (t := 140) Tryz.underlying140 (by kernel_rfl : QG P 120 = some 1), c2, show (100 : Int) ≤ n by omega]
  refine Ad.bind (L7 _ _) ?_
  rintro ⟨_, w2⟩ h
  simp only [Prod.mk.injEq] at h
  obtain ⟨rfl, rfl⟩ := h
  simp (disch := first | exact xD | fail) [-Option.bind_some, qs, -Aa, -Ab]
  exact hQ _ rfl
theorem YP {n : Nat} (h1 : 100 ≤ n) (h2 : n ≤ 999) : Bx n = [dg (n / 100), dg (n / 10 % 10), dg (n % 10)] := by
 rw [Fc (by omega), Fc (n := n / 10) (by omega), Ez (n := n / 10 / 10) (by omega), Nat.div_div_eq_div_mul]
 rfl
theorem O6 {d : Nat} (h : d < 10) : (dg d).toNat = 48 + d := by
 unfold dg
 rw [UInt8.toNat_ofNat']
 omega
theorem PZ {n : Nat} (h1 : 100 ≤ n) (h2 : n ≤ 999) {w w0 : World} {b c : Nat} {e : TypeId} {z0 z1 z2 z3 : Value} {zs : List Value} (hz : hp w b = some (.cells (z0 :: z1 :: z2 :: z3 :: zs).toArray e (0, 0))) (E0 : Ext w0 w) (hb : w0.heap.size ≤ b) :
  Ad (EV P 71 #[.slice (some ⟨b, 1, none⟩) 3 c, .int .u64 n] w) fun r => r.1 = .tuple #[] ∧ hp r.2 b = some (.cells (z0 :: .int .u8 (48 + ((n / 100 : Nat) : Int)) :: .int .u8 (dg (n / 10 % 10)).toNat :: .int .u8 (dg (n % 10)).toNat :: zs).toArray e (0, 0)) ∧ Ext w0 r.2 := by
 obtain ⟨q, hq⟩ : ∃ q : Nat, q = n / 100 := ⟨_, rfl⟩
 obtain ⟨m, hm⟩ : ∃ m : Nat, m = n % 100 := ⟨_, rfl⟩
 have hd1 : n / 10 % 10 = m / 10 := by omega
 have hd2 : n % 10 = m % 10 := by omega
 rw [hd1, hd2, ← hq]
 have hA : (n : Int).tmod 100 = m := by rw [show (100 : Int) = ((100 : Nat) : Int) from rfl, Fm, hm]
 have hB : (n : Int).tdiv 100 = q := by rw [show (100 : Int) = ((100 : Nat) : Int) from rfl, HC, hq]
 have hwn : IntKind.u32.wrap (n : Int) = n := Sk (by omega) (by omega)
 have hwq : IntKind.u32.wrap (q : Int) = q := Sk (by omega) (by omega)
 have hw2 : IntKind.u32.wrap ((m : Int) * 2) = (m : Int) * 2 := Sk (by omega) (by omega)
 have hw3 : IntKind.u32.wrap ((m : Int) * 2 + 1) = (m : Int) * 2 + 1 := Sk (by omega) (by omega)
 have hw4 : IntKind.u32.wrap (48 + (q : Int)) = 48 + (q : Int) := Sk (by omega) (by omega)
 have hw5 : IntKind.u8.wrap (48 + (q : Int)) = 48 + (q : Int) := Xi (by omega) (by omega)
 obtain ⟨ha1, ha2⟩ := Rg m (by omega)
 have hi1 := fun w => I3 (P := P) (t := 9) (by kernel_rfl) FK (k := .u32) (i := (m : Int) * 2) (by omega) (b := dg (m / 10)) (by rw [show ((m : Int) * 2).toNat = m * 2 by omega]; exact ha1) w
 have hi2 := fun w => I3 (P := P) (t := 9) (by kernel_rfl) FK (k := .u32) (i := (m : Int) * 2 + 1) (by omega) (b := dg (m % 10)) (by rw [show ((m : Int) * 2 + 1).toNat = m * 2 + 1 by omega]; exact ha2) w
 unfold FK at hi1 hi2
 generalize dg (m / 10) = y1 at *
 generalize dg (m % 10) = y2 at *
 clear hd1 hd2 hm hq
 refine Ad.post fun Q hQ => ?_
 refine Ad.enter plain mixed (DH _ _ _) (by kernel_rfl) (n := 2) (by kernel_rfl) rfl ?_
 simp (disch := first | exact xD | fail) [-Option.bind_some, -Aa, -Ab]
 rw [CX]
 simp (disch := first | exact xD | fail) [-Option.bind_some, qs, -Aa, -Ab, hwn]
 rw [CY]
 simp (disch := first | exact xD | fail) [-Option.bind_some, qs, Kb, Qb, IL, hA, hB, hwq, hw2, hw3, hi1, hi2, hz, Hd]
 rw [CZ]
 simp (disch := first | exact xD | fail) [-Option.bind_some, qs, hw4, hw5, hz, Hd]
 exact hQ _ ⟨rfl, by simp (disch := first | exact xD | fail) [-Option.bind_some, hz], xE⟩
theorem YQ {b : Nat} (w : World) : sl P 119 (pt b 0) (some (i64 1)) (some (i64 4)) none w = some (.slice (some ⟨b, 1, none⟩) 3 23, w) := UY Tryz.underlying119 (by kernel_rfl : QG P 5 = some 1) (by decide) (by decide) (by decide) w
theorem O7 {n : Nat} (h2 : n ≤ 999) {w : World} (G : Glob w) : Ad (EV P 59 #[i64 n, i64 10] w) fun r => r.1 = .string (A8 (Bx n)) ∧ Ext w r.2 := by
 refine Ad.post fun Q hQ => ?_
 refine Ad.enter plain mixed (EA _ _ _) (by kernel_rfl) (n := 2) (by kernel_rfl) rfl ?_
 by_cases h : n < 100
 ·simp (disch := first | exact xD | fail) [-Option.bind_some, -Aa, -Ab, show (0 : Int) ≤ n by omega, show (n : Int) < 100 by omega]
  refine Ad.bind (T9 h _) ?_
  rintro ⟨_, w1⟩ h'
  simp only [Prod.mk.injEq] at h'
  obtain ⟨rfl, rfl⟩ := h'
  simp (disch := first | exact xD | fail) [-Option.bind_some, -Aa, -Ab]
  exact hQ _ ⟨rfl, xE⟩
 ·have hwn : IntKind.u64.wrap (n : Int) = n := Wd (by omega) (by omega)
  simp (disch := first | exact xD | fail) [-Option.bind_some, -Aa, -Ab, show (0 : Int) ≤ n by omega, show ¬ (n : Int) < 100 by omega, hwn, show ¬ (n : Int) < 0 by omega]
  rw [DE]
  simp (disch := first | exact xD | fail) [-Option.bind_some, qs, -Aa, -Ab]
  refine Ad.bind (O5 (by omega) h2 (G.ext xE)) ?_
  rintro ⟨_, w1⟩ h'
  simp only [Prod.mk.injEq] at h'
  obtain ⟨rfl, rfl⟩ := h'
  simp (disch := first | exact xD | fail) [-Option.bind_some, qs, -Aa, -Ab, YQ]
  refine Ad.bind (PZ (by omega) h2 (w0 := w) (Ar rfl) xE (Nat.le_refl _)) ?_
  rintro ⟨_, w1⟩ ⟨rfl, hg, E1⟩
  try dsimp only at hg E1
  have zE1 := E1.size
  try simp only [qz] at zE1
  have hA : At w1 w.heap.size 1 ([48 + ((n / 100 : Nat) : Int), (dg (n / 10 % 10)).toNat, (dg (n % 10)).toNat].map (Value.int .u8)) := by
   intro j v hv
   rw [hg, Bn, ← Cr]
   match j, hv with
   | 0, hv => exact hv
   | 1, hv => exact hv
   | 2, hv => exact hv
  have hc : cv P 22 9 (.slice (some ⟨w.heap.size, 1, none⟩) 3 23) w1 = _ := Ph (P := P) (src := 22) (dst := 9) (e := 5) (c := 23) (by kernel_rfl) (by kernel_rfl) (by kernel_rfl) hA
  have hb : bytesOf [48 + ((n / 100 : Nat) : Int), ((dg (n / 10 % 10)).toNat : Int), ((dg (n % 10)).toNat : Int)] = A8 (Bx n) := by
   rw [YP (by omega) h2, O6 (by omega), O6 (by omega)]
   rfl
  rw [hb] at hc
  simp (disch := first | exact xD | fail) [-Option.bind_some, -Aa, -Ab, show ¬ (n : Int) < 0 by omega, hc]
  exact hQ _ ⟨rfl, xE⟩
theorem Uc {n : Nat} (h2 : n ≤ 999) {w : World} (G : Glob w) : Ad (EV P 40 #[i64 n] w) fun r => r.1 = .string (A8 (Bx n)) ∧ Ext w r.2 := by
 refine Ad.post fun Q hQ => ?_
 refine Ad.enter plain mixed (Gd _ _) (by kernel_rfl) (n := 1) (by kernel_rfl) rfl ?_
 simp (disch := first | exact xD | fail) [-Option.bind_some, -Aa, -Ab]
 refine Ad.bind (O7 h2 G) ?_
 rintro ⟨_, w1⟩ ⟨rfl, E1⟩
 try dsimp only at E1
 have zE1 := E1.size
 try simp only [qz] at zE1
 simp (disch := first | exact xD | fail) [-Option.bind_some, -Aa, -Ab]
 exact hQ _ ⟨rfl, xE⟩
theorem OB {n : Nat} (h2 : n ≤ 999) {w : World} (G : Glob w) : Ad (EV P 16 #[i64 n] w) fun r => r.1 = .string (A8 (Bx n)) ∧ Ext w r.2 := by
 refine Ad.post fun Q hQ => ?_
 refine Ad.enter plain mixed (Kz _ _) (by kernel_rfl) (n := 1) (by kernel_rfl) rfl ?_
 simp (disch := first | exact xD | fail) [-Option.bind_some, -Aa, -Ab]
 refine Ad.bind (Uc h2 G) ?_
 rintro ⟨_, w1⟩ ⟨rfl, E1⟩
 try dsimp only at E1
 have zE1 := E1.size
 try simp only [qz] at zE1
 simp (disch := first | exact xD | fail) [-Option.bind_some, -Aa, -Ab]
 exact hQ _ ⟨rfl, xE⟩
theorem Hg {t : Tag} (ht : Cq t = true) {w : World} (G : Glob w) : Ad (EV P 18 #[t.v] w) fun r => r.1 = .string (A8 (Eo t)) ∧ Ext w r.2 := by
 have hr := HT ht
 obtain ⟨a, ha⟩ : ∃ a : Nat, t.t = a := ⟨t.t.toNat, by omega⟩
 obtain ⟨b, hb⟩ : ∃ b : Nat, t.p = b := ⟨t.p.toNat, by omega⟩
 have h1 := BL a
 have h2 := BL b
 have e : Eo t = Bx a ++ [46] ++ Bx b := by rw [Eo, ha, hb]; simp
 rw [e]
 refine Ad.post fun Q hQ => ?_
 refine Ad.enter plain mixed (JJ _ _) (by kernel_rfl) (n := 1) (by kernel_rfl) rfl ?_
 simp (disch := first | exact xD | fail) [-Option.bind_some, qs, -Aa, -Ab, ha, hb]
 refine Ad.bind (OB (n := a) (by omega) (G.ext xE)) ?_
 rintro ⟨_, w1⟩ ⟨rfl, E1⟩
 try dsimp only at E1
 have zE1 := E1.size
 try simp only [qz] at zE1
 simp (disch := first | exact xD | fail) [-Option.bind_some, qs, -Aa, -Ab, CJ, Bp, Ay, E1.Ai]
 refine Ad.bind (OB (n := b) (by omega) (G.ext xE)) ?_
 rintro ⟨_, w2⟩ ⟨rfl, E2⟩
 try dsimp only at E2
 have zE2 := E2.size
 try simp only [qz] at zE2
 simp (disch := first | exact xD | fail) [-Option.bind_some, -Aa, -Ab, Bp, Ay]
 exact hQ _ ⟨by simp, xE⟩
theorem QE {l : List UInt8} (hl : l.length ≤ 281474976710656) (w : World) : Ad (EV P 104 #[.string (A8 l)] w) fun r => r.1 = .string (A8 l) ∧ Ext w r.2 := by
 refine Ad.post fun Q hQ => ?_
 refine Ad.enter plain mixed (EI _ _) (by kernel_rfl) (n := 1) (by kernel_rfl) rfl ?_
 by_cases h : l = []
 ·subst h
  simp (disch := first | exact xD | fail) [-Option.bind_some, -Aa, -Ab, AJ, CJ]
  exact hQ _ ⟨rfl, xE⟩
 ·have hpos : 0 < l.length := List.length_pos_iff.2 h
  have hne : ¬ (l.length : Int) = 0 := by omega
  have hms := fun w => UM (P := P) (t := 22) Sn YD rfl (by decide) (l := (l.length : Int)) (c := (l.length : Int)) (by omega) (by omega) (by omega) (by omega) w
  simp only [Int.toNat_natCast] at hms
  have hz : (HG [Value.int .u8 0] l.length).length = l.length := by rw [Jm]; simp
  have hne' : ((l.length : Int) == 0) = false := beq_eq_false_iff_ne.2 hne
  simp (disch := first | exact xD | fail) [-Option.bind_some, -Aa, -Ab, AJ, hne', hms]
  have hc := VO (P := P) (dT := 22) (sT := 9) (ty := 3) (e := 5) (by kernel_rfl) (by kernel_rfl) (w := w.alloc (.cells (HG [Value.int .u8 0] l.length).toArray 5)) (g := w.heap.size) (s := A8 l) (n := l.length) (c := l.length) (Ar rfl) (AJ l) hz
  simp (disch := first | exact xD | fail) [-Option.bind_some, qs, -Aa, -Ab, hc, OK, Hd]
  have hu := VP (P := P) (pt' := 76) (it := 3) (ty := 9) (e := 5) (by kernel_rfl) (by kernel_rfl) (w := (w.alloc (.cells (HG [Value.int .u8 0] l.length).toArray 5)).setRow w.heap.size (Lib.byteCells (A8 l).data.toList).toArray) (g := w.heap.size) (s := A8 l) (by rw [AJ]; omega) (by rw [AJ]; omega) (by rw [El, Ar rfl]; rfl)
  rw [AJ] at hu
  simp (disch := first | exact xD | fail) [-Option.bind_some, -Aa, -Ab, hu]
  exact hQ _ ⟨rfl, ((Ext.rfl.al _).set (Nat.le_refl _) _).ZL (Nat.le_refl _) _⟩
theorem O8 (l : List UInt8) (c : UInt8) (w : World) : Ad (EV P 73 #[.string (A8 l), .int .u8 c.toNat] w) fun r => r = (i64 (Lib.indexByte l c), w) := by
 have hx : ∀ w, xf P 98 #[.string (A8 l), .int .u8 c.toNat] w = some (i64 (Lib.indexByte l c), w) := by
  intro w
  unfold xf
  rw [run_callFunc_extern (P := P) Tryz.func98 (by kernel_rfl) (by kernel_rfl) (by kernel_rfl) (e := Extern.BytealgIndexByte.indexByte) (by kernel_rfl), Lib.run_indexByteString]
  rw [show (c.toNat : Int).toNat.toUInt8 = c by simp]
  rfl
 refine Ad.post fun Q hQ => ?_
 refine Ad.enter plain mixed (Du _ _ _) (by kernel_rfl) (n := 2) (by kernel_rfl) rfl ?_
 simp (disch := first | exact xD | fail) [-Option.bind_some, -Aa, -Ab, hx]
 exact hQ _ rfl
theorem O9 (l : List UInt8) (c : UInt8) (w : World) : Ad (EV P 60 #[.string (A8 l), .string (A8 [c])] w) fun r => r = (i64 (Lib.indexByte l c), w) := by
 have hix := fun w => Mu (P := P) (t := 9) (by kernel_rfl) [c] (k := .i64) (i := 0) (by decide) (b := c) rfl w
 refine Ad.post fun Q hQ => ?_
 refine Ad.enter plain mixed (EC _ _ _) (by kernel_rfl) (n := 2) (by kernel_rfl) rfl ?_
 by_cases he : [c] = l
 ·subst he
  simp (disch := first | exact xD | fail) [-Option.bind_some, -Aa, -Ab, AJ, Ay]
  exact hQ _ (by rw [show Lib.indexByte [c] c = 0 by simp [Lib.indexByte]])
 have he' : ((A8 [c]).toList == (A8 l).toList) = false := by rw [Ay, Ay]; simpa using he
 simp (disch := first | exact xD | fail) [-Option.bind_some, -Aa, -Ab, AJ, hix, he']
 refine Ad.bind (O8 l c _) ?_
 rintro ⟨_, w1⟩ h
 simp only [Prod.mk.injEq] at h
 obtain ⟨rfl, rfl⟩ := h
 simp (disch := first | exact xD | fail) [-Option.bind_some, -Aa, -Ab]
 exact hQ _ rfl
def Pa (c : UInt8) (l : List UInt8) : Value := match Dw c l with
 | none => .tuple #[.string (A8 l), .string (A8 []), .bool false]
 | some p => .tuple #[.string (A8 p.1), .string (A8 p.2), .bool true]
theorem Ve {l : List UInt8} (hl : l.length ≤ 281474976710656) (c : UInt8) (w : World) : Ad (EV P 43 #[.string (A8 l), .string (A8 [c])] w) fun r => r.1 = Pa c l ∧ Ext w r.2 := by
 refine Ad.post fun Q hQ => ?_
 refine Ad.enter plain mixed (E6 _ _ _) (by kernel_rfl) (n := 2) (by kernel_rfl) rfl ?_
 simp (disch := first | exact xD | fail) [-Option.bind_some, -Aa, -Ab]
 refine Ad.bind (O9 l c _) ?_
 rintro ⟨_, w1⟩ h
 simp only [Prod.mk.injEq] at h
 obtain ⟨rfl, rfl⟩ := h
 rw [Mv]
 unfold Pa at hQ
 cases hc : Dw c l with
 | none =>
  simp (disch := first | exact xD | fail) [-Option.bind_some, -Aa, -Ab, CJ]
  exact hQ _ ⟨by rw [hc], xE⟩
 | some p =>
  obtain ⟨h1, h2⟩ := Ha hc
  have hlen : p.1.length + (p.2.length + 1) = l.length := by rw [h1]; simp
  have hw : IntKind.i64.wrap ((p.1.length : Int) + 1) = (p.1.length : Int) + 1 := HH (by omega) (by omega)
  have ht := fun w => NY (P := P) (t := 9) (by kernel_rfl) l (j := (p.1.length : Int)) (by omega) (by omega) w
  have hf := fun w => F8 (P := P) (t := 9) (by kernel_rfl) l (i := (p.1.length : Int) + 1) (by omega) (by omega) w
  have q1 : l.take (p.1.length : Int).toNat = p.1 := by rw [Int.toNat_natCast]; conv => lhs; rw [h1]; simp
  have q2 : l.drop ((p.1.length : Int) + 1).toNat = p.2 := by rw [show ((p.1.length : Int) + 1).toNat = p.1.length + 1 by omega]; conv => lhs; rw [h1]; simp
  rw [q1] at ht
  rw [q2] at hf
  clear q1 q2
  simp (disch := first | exact xD | fail) [-Option.bind_some, -Aa, -Ab, show (0 : Int) ≤ p.1.length by omega, AJ, hw, ht, hf]
  exact hQ _ ⟨by rw [hc], xE⟩
theorem UJ {l : List UInt8} (hl : l.length ≤ 281474976710656) (c : UInt8) (w : World) : Ad (EV P 22 #[.string (A8 l), .string (A8 [c])] w) fun r => r.1 = Pa c l ∧ Ext w r.2 := by
 refine Ad.post fun Q hQ => ?_
 refine Ad.enter plain mixed (Lj _ _ _) (by kernel_rfl) (n := 2) (by kernel_rfl) rfl ?_
 simp (disch := first | exact xD | fail) [-Option.bind_some, -Aa, -Ab]
 refine Ad.bind (Ve hl c _) ?_
 rintro ⟨_, w1⟩ ⟨rfl, E1⟩
 try dsimp only at E1
 have zE1 := E1.size
 try simp only [qz] at zE1
 unfold Pa at hQ ⊢
 cases hc : Dw c l with
 | none =>
  simp (disch := first | exact xD | fail) [-Option.bind_some, qs, -Aa, -Ab]
  exact hQ _ ⟨by rw [hc], xE⟩
 | some p =>
  simp (disch := first | exact xD | fail) [-Option.bind_some, qs, -Aa, -Ab]
  exact hQ _ ⟨by rw [hc], xE⟩
def Ie (k : Int) : Value := if k = 0 then .nilIface else .iface 128 (.int .i64 k)
theorem BQ (k : Int) (w : World) : mi P 128 (.int .i64 k) w = some (.iface 128 (.int .i64 k), w) := UQ (by kernel_rfl) _ w
theorem Df (x : Int) (w : World) : Ad (EV P 125 #[.int .u8 x] w) fun r => ∃ y, r = (.int .u8 y, w) := by
 refine Ad.post fun Q hQ => ?_
 refine Ad.enter plain mixed (Fz _ _) (by kernel_rfl) (n := 1) (by kernel_rfl) rfl ?_
 simp (disch := first | exact xD | fail) [-Option.bind_some, -Aa, -Ab, Xe]
 exact hQ _ ⟨_, rfl⟩
theorem Vf {g c : Nat} {l s0 : List UInt8} {x : UInt8} (hl : l.length ≤ 281474976710656) : ∀ (d k : Nat) (e : Env) (w : World) (n : Int), k + d = l.length → e 47 = .slice (some ⟨g, 0, none⟩) l.length c → e 48 = i64 l.length → e 49 = i64 k → e 6 = i64 n → e 5 = .string (A8 (x :: s0)) →
  (∀ (j : Nat) b, l[j]? = some b → AP (hp w g) j = some (.int .u8 b.toNat)) →
  Ad (BD e w) fun r => r.2 = w ∧ ∃ m q, r.1 = .tuple #[i64 m, Ie q] ∧ (q = 0 ∨ q = 2) ∧ ∀ v, GM n (l.drop k) = some v → x ≠ 45 → q = 0 ∧ m = v := by
 intro d
 induction d with
 | zero =>
  intro k e w n hd e47 e48 e49 e6 e5 hc
  rw [Cx]
  obtain rfl : k = l.length := by omega
  have hix := fun w => Mu (P := P) (t := 9) (by kernel_rfl) (x :: s0) (k := .i64) (i := 0) (by decide) (b := x) rfl w
  rw [List.drop_length]
  refine Ad.post fun Q hQ => ?_
  simp (disch := first | exact xD | fail) [-Option.bind_some, -Aa, -Ab, e48, e49, e6, e5, hix]
  by_cases h : (x.toNat : Int) = 45
  ·have h' : ((x.toNat : Int) == 45) = true := beq_iff_eq.2 h
   have hx : x = 45 := by
    apply UInt8.toNat_inj.1
    have : x.toNat = 45 := by omega
    exact this
   simp (disch := first | exact xD | fail) [-Option.bind_some, qs, -Aa, -Ab, h', Cy]
   exact hQ _ ⟨rfl, _, 0, rfl, Or.inl rfl, fun v _ hne => absurd hx hne⟩
  ·have h' : ((x.toNat : Int) == 45) = false := beq_eq_false_iff_ne.2 h
   simp (disch := first | exact xD | fail) [-Option.bind_some, qs, -Aa, -Ab, h', Cy, e6]
   exact hQ _ ⟨rfl, n, 0, rfl, Or.inl rfl, fun v hv hne => ⟨rfl, Option.some.inj hv⟩⟩
 | succ d ih =>
  intro k e w n hd e47 e48 e49 e6 e5 hc
  rw [Cx]
  have hlt : k < l.length := by omega
  obtain ⟨b, hb, hdr⟩ := Al hlt
  have p0 : AP (hp w g) k = some (.int .u8 b.toNat) := hc k b hb
  have hd' : GM n (l.drop k) = if 9 < IntKind.u8.wrap ((b.toNat : Int) - 48) then none else GM (IntKind.i64.wrap (IntKind.i64.wrap (n * 10) + IntKind.i64.wrap (IntKind.u8.wrap ((b.toNat : Int) - 48)))) (l.drop (k + 1)) := by rw [hdr]; rfl
  rw [hd']
  clear hd' hdr
  refine Ad.post fun Q hQ => ?_
  simp (disch := first | exact xD | fail) [-Option.bind_some, qs, -Aa, -Ab, e47, e48, e49, e6, hlt, Hd, p0]
  by_cases h9 : 9 < IntKind.u8.wrap ((b.toNat : Int) - 48)
  ·simp (disch := first | exact xD | fail) [-Option.bind_some, -Aa, -Ab, h9, BQ]
   exact hQ _ ⟨rfl, 0, 2, rfl, Or.inr rfl, fun v hv => by rw [if_pos h9] at hv; cases hv⟩
  ·simp (disch := first | exact xD | fail) [-Option.bind_some, -Aa, -Ab, h9]
   refine Ad.mono (ih (k + 1) _ _ (IntKind.i64.wrap (IntKind.i64.wrap (n * 10) + IntKind.i64.wrap (IntKind.u8.wrap ((b.toNat : Int) - 48)))) (by omega) xA xA xA xA xA hc) ?_
   rintro r ⟨h1, m, q, h2, h3, h4⟩
   refine hQ _ ⟨h1, m, q, h2, h3, fun v hv => ?_⟩
   rw [if_neg h9] at hv
   exact h4 v hv
end Go.Proofs.YtkhbpmhagpljiaaGreatDoor.X
