/- A part of the proof, without conditions. -/
import Derived.Test.YtkhbpmhagpljiaaGreatDoorEvI
import Derived.Test.YtkhbpmhagpljiaaGreatDoorEvT
import Derived.Test.YtkhbpmhagpljiaaGreatDoorEvF2
import Derived.Test.YtkhbpmhagpljiaaGreatDoorEvF5
import Derived.Test.YtkhbpmhagpljiaaGreatDoorEvJ
import Derived.Test.YtkhbpmhagpljiaaGreatDoorEvO
import Derived.Test.YtkhbpmhagpljiaaGreatDoorEvX
import Derived.Test.YtkhbpmhagpljiaaGreatDoorEvHj
import Derived.Test.YtkhbpmhagpljiaaGreatDoorEvL
import Derived.Test.YtkhbpmhagpljiaaGreatDoorEvLt
import Derived.Test.YtkhbpmhagpljiaaGreatDoorEvN
set_option linter.unusedVariables false
set_option linter.unusedSimpArgs false
set_option linter.deprecated false
set_option maxRecDepth 100000
namespace Go.Proofs.YtkhbpmhagpljiaaGreatDoor.X
open Go Go.Ev Go.RowKit
open Option (bind_some)
theorem AN (n a b : Int) (w : World) : Af (EV P 50 #[i64 n, i64 a, i64 b] w) fun r => r = (.bool (decide (a ≤ n) && decide (n ≤ b)), w) := by
 refine Bw (Pr _ _ _ _) ?_
 cases h : decide (a ≤ n) <;> simp (disch := first | exact Fg | fail) [-bind_some, h]
theorem Dl (n a b : Int) (w : World) : Af (EV P 36 #[i64 n, i64 a, i64 b] w) fun r => r = (.bool (decide (a ≤ n) && decide (n ≤ b)), w) := by
 refine Bw (Mn _ _ _ _) ?_
 cases h : decide (a ≤ n) <;> simp (disch := first | exact Fg | fail) [-bind_some, h]
theorem Nc (n : Int) (w : World) : Af (EV P 57 #[i64 n] w) fun r => r = (.bool (decide (0 ≤ n) && decide (n ≤ 2)), w) := by
 refine Bw (Lw _ _) ?_
 simp (disch := first | exact Fg | fail) [-bind_some]
 refine Af.bind (Dl n 0 2 w) ?_
 rintro _ rfl
 simp (disch := first | exact Fg | fail) [-bind_some]
theorem Ii (x : Tag) (w : World) : Af (EV P 49 #[x.v] w) fun r => r.1 = .bool (Cc x) ∧ Ext w r.2 := by
 refine Bw (Lu _ _) ?_
 cases h : ((x.t == 0) && (x.p == 0))
 ·simp (disch := first | exact Fg | fail) [-bind_some, Av, h]
  refine Af.bind (AN _ _ _ _) ?_
  rintro _ rfl
  cases h1 : (decide (1 ≤ x.t) && decide (x.t ≤ 999))
  ·simp (disch := first | exact Fg | fail) [-bind_some, h1, Ext.alloc, Cc, h]
  ·simp (disch := first | exact Fg | fail) [-bind_some, Av]
   refine Af.bind (AN _ _ _ _) ?_
   rintro _ rfl
   simp (disch := first | exact Fg | fail) [-bind_some, Ext.alloc, Cc, h, h1]
 ·simp (disch := first | exact Fg | fail) [-bind_some, Av, h, Ext.alloc, Cc]
theorem J4 (x : Tag) (w : World) : Af (EV P 38 #[x.v] w) fun r => r.1 = .bool (Cc x) ∧ Ext w r.2 := by
 refine Bw (NY _ _) ?_
 cases h : ((x.t == 0) && (x.p == 0))
 ·simp (disch := first | exact Fg | fail) [-bind_some, Av, h]
  refine Af.bind (Dl _ _ _ _) ?_
  rintro _ rfl
  cases h1 : (decide (1 ≤ x.t) && decide (x.t ≤ 999))
  ·simp (disch := first | exact Fg | fail) [-bind_some, h1, Ext.alloc, Cc, h]
  ·simp (disch := first | exact Fg | fail) [-bind_some, Av]
   refine Af.bind (Nc _ _) ?_
   rintro _ rfl
   simp (disch := first | exact Fg | fail) [-bind_some, Ext.alloc, Cc, h, h1]
 ·simp (disch := first | exact Fg | fail) [-bind_some, Av, h, Ext.alloc, Cc]
theorem AU (x y : Tag) (w : World) : Af (EV P 133 #[x.v, y.v] w) fun r => r.1 = .bool (BF x y) ∧ Ext w r.2 := by
 refine Bw (MT _ _ _) ?_
 cases h1 : decide (x.t < y.t)
 ·cases h2 : (x.t == y.t)
  ·simp (disch := first | exact Fg | fail) [-bind_some, Ag, Av, h1, h2, BF]
   (repeat (first | exact Ext.rfl | assumption | (refine Ext.al ?_ _) | (refine Ext.dw ?_) | (refine Ext.set ?_ (by first | omega | (simp only [World.size_alloc, size_setRow, Ak]; omega)) _) | (refine Ext.tr ?_ (by assumption))))
  ·simp (disch := first | exact Fg | fail) [-bind_some, Ag, Av, h1, h2, BF]
   (repeat (first | exact Ext.rfl | assumption | (refine Ext.al ?_ _) | (refine Ext.dw ?_) | (refine Ext.set ?_ (by first | omega | (simp only [World.size_alloc, size_setRow, Ak]; omega)) _) | (refine Ext.tr ?_ (by assumption))))
 ·simp (disch := first | exact Fg | fail) [-bind_some, Ag, Av, h1, BF]
  (repeat (first | exact Ext.rfl | assumption | (refine Ext.al ?_ _) | (refine Ext.dw ?_) | (refine Ext.set ?_ (by first | omega | (simp only [World.size_alloc, size_setRow, Ak]; omega)) _) | (refine Ext.tr ?_ (by assumption))))
theorem J5 (x y : Tag) (w : World) : Af (EV P 145 #[x.v, y.v] w) fun r => r.1 = (FZ x y).v ∧ Ext w r.2 := by
 refine Bw (Oo _ _ _) ?_
 simp (disch := first | exact Fg | fail) [-bind_some, Ag, Av]
 refine Af.bind (AU x y _) ?_
 rintro ⟨_, w1⟩ ⟨rfl, hE⟩
 have hs := hE.size
 simp only [World.size_alloc] at hs
 cases h : BF x y
 ·simp (disch := first | exact Fg | fail) [-bind_some, Ag, Av, FZ, h, hE.Ai]
  (repeat (first | exact Ext.rfl | assumption | (refine Ext.al ?_ _) | (refine Ext.dw ?_) | (refine Ext.set ?_ (by first | omega | (simp only [World.size_alloc, size_setRow, Ak]; omega)) _) | (refine Ext.tr ?_ (by assumption))))
 ·simp (disch := first | exact Fg | fail) [-bind_some, Ag, Av, FZ, h, hE.Ai]
  (repeat (first | exact Ext.rfl | assumption | (refine Ext.al ?_ _) | (refine Ext.dw ?_) | (refine Ext.set ?_ (by first | omega | (simp only [World.size_alloc, size_setRow, Ak]; omega)) _) | (refine Ext.tr ?_ (by assumption))))
theorem LD {s : ByteArray} (hs : s.size ≤ 140737488351232) : ∀ (d k : Nat) (e : Env) (w : World), k + d = s.size → e 0 = .string s → e 3 = i64 k →
  Af (CY e w) fun r => r = (.bool ((s.toList.drop k).all Ir && decide ((s.size : Int) ≤ 8)), w) := by
 intro d
 induction d with
 | zero =>
  intro k e w hd h0 h3
  rw [Fx]
  simp (disch := first | exact Fg | fail) [-bind_some, h0, h3, show ¬ k < s.size by omega]
  rw [List.drop_eq_nil_of_le (by rw [OW]; omega)]
  simp
 | succ d ih =>
  intro k e w hd h0 h3
  rw [Fx]
  have hlt : k < s.size := by omega
  obtain ⟨b, hb, hdx⟩ := An (l := s.toList) (k := k) (by rw [OW]; omega)
  have hix := fun w => WB (P := P) (t := 9) (by kernel_rfl) s (i := k) Ad (b := b) (by simpa using hb) w
  rw [hdx]
  cases hb1 : decide ((b.toNat : Int) < 33)
  ·cases hb2 : decide ((b.toNat : Int) > 126)
   ·simp (disch := first | exact Fg | fail) [-bind_some, h0, h3, hlt, hix, hb1, hb2]
    refine Af.mono (ih (k + 1) _ w Ad h0 (congrArg i64 (HS Ad Ad))) ?_
    rintro _ rfl
    simp only [decide_eq_false_iff_not] at hb1 hb2
    have hby : Ir b = true := by simp only [Ir, Bool.and_eq_true, decide_eq_true_eq]; omega
    simp [hby]
   ·simp (disch := first | exact Fg | fail) [-bind_some, h0, h3, hlt, hix, hb1, hb2]
    simp only [decide_eq_true_eq] at hb2
    have hby : Ir b = false := by simp only [Ir, Bool.and_eq_false_iff, decide_eq_false_iff_not]; omega
    simp [hby]
  ·simp (disch := first | exact Fg | fail) [-bind_some, h0, h3, hlt, hix, hb1]
   simp only [decide_eq_true_eq] at hb1
   have hby : Ir b = false := by simp only [Ir, Bool.and_eq_false_iff, decide_eq_false_iff_not]; omega
   simp [hby]
theorem LF {s : ByteArray} (hs : s.size ≤ 140737488351232) (w : World) : Af (EV P 128 #[.string s] w) fun r => r = (.bool (Ub s), w) := by
 refine Bw (KQ _ _) ?_
 simp (disch := first | exact Fg | fail) [-bind_some]
 exact LD hs s.size 0 _ w Ad rfl rfl
theorem LG {s u : Value} {xs ys : List Tag} {b c t t' : Nat} (hx4 : xs.length = 4) (hy4 : ys.length = 4) : ∀ (d k : Nat) (e : Env) (w : World), k + d = 4 → e 2 = pt b 0 → e 3 = pt c 0 → e 5 = i64 k →
  hp w b = some (.cells #[s] t (0, 0)) → hp w c = some (.cells #[u] t' (0, 0)) → Cb w s xs → Cb w u ys →
  Af (CZ e w) fun r => r.1 = .bool (under (xs.drop k) (ys.drop k)) ∧ Ext w r.2 := by
 intro d
 induction d with
 | zero =>
  intro k e w hd h2 h3 h5 hx hy ha hb
  rw [Fy]
  obtain rfl : k = 4 := by omega
  simp (disch := first | exact Fg | fail) [-bind_some, h5]
  rw [List.drop_eq_nil_of_le Ad]
  exact ⟨rfl, by (repeat (first | exact Ext.rfl | assumption | (refine Ext.al ?_ _) | (refine Ext.dw ?_) | (refine Ext.set ?_ (by first | omega | (simp only [World.size_alloc, size_setRow, Ak]; omega)) _) | (refine Ext.tr ?_ (by assumption))))⟩
 | succ d ih =>
  intro k e w hd h2 h3 h5 hx hy ha hb
  rw [Fy]
  have hlt : k < xs.length := by omega
  obtain ⟨x, hxk, hdx⟩ := An hlt
  obtain ⟨y, hyk, hdy⟩ := An (show k < ys.length by omega)
  obtain ⟨b1, o1, c1, hs1, hA⟩ := ha.at hxk
  obtain ⟨b2, o2, c2, hs2, hB⟩ := hb.at hyk
  have p0 := hA 0 _ rfl
  have p1 := hA 1 _ rfl
  have q0 := hB 0 _ rfl
  have q1 := hB 1 _ rfl
  simp only [Nat.add_zero] at p0 q0
  subst hs1
  subst hs2
  simp (disch := first | exact Fg | fail) [-bind_some, h2, h3, h5, hx, hy, hx4, hy4, show (k : Int) < 4 by omega, KI, p0, p1, q0, q1]
  refine Af.bind (AU y x _) ?_
  rintro ⟨_, w1⟩ ⟨rfl, hE⟩
  have hE' : Ext w w1 := (Cn w).tr hE
  cases hl : BF y x
  ·simp (disch := first | exact Fg | fail) [-bind_some]
   refine Af.mono (ih (k + 1) _ w1 Ad h2 h3 (congrArg i64 (HS Ad Ad)) ((hE'.Ai (Aq hx)).trans hx) ((hE'.Ai (Aq hy)).trans hy) (ha.mono (Ext.Aj hE')) (hb.mono (Ext.Aj hE'))) ?_
   rintro r ⟨h6, h7⟩
   exact ⟨by rw [h6, hdx, hdy]; simp [under, hl], hE'.tr h7⟩
  ·simp (disch := first | exact Fg | fail) [-bind_some]
   exact ⟨by rw [hdx, hdy]; simp [under, hl], hE'⟩
theorem Fq {s u : Value} {xs ys : List Tag} (hx4 : xs.length = 4) (hy4 : ys.length = 4) {w : World} (ha : Cb w s xs) (hb : Cb w u ys) : Af (EV P 136 #[.agg #[s], .agg #[u]] w) fun r => r.1 = .bool (under xs ys) ∧ Ext w r.2 := by
 have ha' := ha
 have hb' := hb
 obtain ⟨aa, ca, hs, hm⟩ := ha.len
 obtain ⟨ab, cb, hu, _⟩ := hb.len
 subst hs
 subst hu
 refine Bw (KR _ _ _) ?_
 simp (disch := first | exact Fg | fail) [-bind_some]
 refine Af.mono (LG hx4 hy4 4 0 _ _ Ad rfl rfl rfl ((Ag (by simp)).trans (Av rfl)) (Av (by simp)) (ha'.mono (Ext.Aj (by (repeat (first | exact Ext.rfl | assumption | (refine Ext.al ?_ _) | (refine Ext.dw ?_) | (refine Ext.set ?_ (by first | omega | (simp only [World.size_alloc, size_setRow, Ak]; omega)) _) | (refine Ext.tr ?_ (by assumption))))))) (hb'.mono (Ext.Aj (by (repeat (first | exact Ext.rfl | assumption | (refine Ext.al ?_ _) | (refine Ext.dw ?_) | (refine Ext.set ?_ (by first | omega | (simp only [World.size_alloc, size_setRow, Ak]; omega)) _) | (refine Ext.tr ?_ (by assumption)))))))) ?_
 rintro r ⟨h1, h2⟩
 exact ⟨h1, (Ext.al (Ext.al Ext.rfl _) _).tr h2⟩
theorem Ot {s : Value} {vs : List Ver} {b1 b2 b3 t1 B : Nat} {w0 : World} (hb1 : b1 < B) (hb2 : b2 < B) (hb3 : b3 < B) (h0b2 : w0.heap.size ≤ b2) (h0b3 : w0.heap.size ≤ b3) (h21 : b2 ≠ b1) (h31 : b3 ≠ b1) (h32 : b3 ≠ b2) : ∀ (d k : Nat) (e : Env) (w : World) (sv c0 : Value), k + d = vs.length → e 1 = pt b1 0 → e 2 = pt b2 0 → e 3 = pt b3 0 → e 4 = i64 k →
  hp w b1 = some (.cells #[s] t1 (0, 0)) → hp w b2 = some (.cells #[c0] 106 (0, 0)) → hp w b3 = some (.cells #[sv] 106 (0, 0)) → Kd w0 s vs → Ext w0 w → B ≤ w.heap.size →
  Dm 39 B w sv (CF (vs.take k)) →
  Af (Er e w) fun r => ∃ s', r.1 = .agg #[s'] ∧ Dm 39 B r.2 s' (CF vs) ∧ Ext w0 r.2 := by
 intro d
 induction d with
 | zero =>
  intro k e w sv c0 hd h1 h2 h3 h4 hx1 hx2 hx3 ha hE hBw hf
  obtain ⟨aa, ca, hs, hm⟩ := ha.len
  rw [Gt]
  subst hs
  obtain ⟨ab, cb, hsv, _⟩ := hf.r.len
  subst hsv
  simp (disch := first | exact Fg | fail) [-bind_some, h1, h2, h3, h4, hx1, hx2, hx3, show ¬ k < vs.length by omega]
  rw [List.take_of_length_le Ad] at hf ⊢
  refine ⟨hf.Aj fun b hb => Ac ?_, by (repeat (first | exact Ext.rfl | assumption | (refine Ext.al ?_ _) | (refine Ext.dw ?_) | (refine Ext.set ?_ (by first | omega | (simp only [World.size_alloc, size_setRow, Ak]; omega)) _) | (refine Ext.tr ?_ (by assumption))))⟩
  have := (hf.lt b hb).1
  omega
 | succ d ih =>
  intro k e w sv c0 hd h1 h2 h3 h4 hx1 hx2 hx3 ha hE hBw hf
  rw [Gt]
  have hlt : k < vs.length := by omega
  obtain ⟨v, hv, hdx⟩ := An hlt
  obtain ⟨_, _, _, hm⟩ := ha.len
  obtain ⟨bb, oo, cc, cs, hs1, hA0, hcs0⟩ := ha.at hv
  have hA := hA0.mono (Ext.Aj hE)
  obtain ⟨sp, rfl, _, _⟩ := hcs0
  have p1 := hA 1 _ rfl
  have p2 := hA 2 _ rfl
  have hbl := Aq hx3
  have hbb : bb < w.heap.size := hA.lt
  subst hs1
  obtain ⟨ab, cb, hsv, hfl⟩ := hf.r.len
  subst hsv
  have htl : (CF (vs.take k)).length = k := by simp [CF]; omega
  simp (disch := first | exact Fg | fail) [-bind_some, Ag, h1, h3, h4, hx1, hx3, hlt, Ck, p1, p2]
  refine Af.bind (RM (x := v.tag) DC (by kernel_rfl) (hf.Aj fun b hb => (Ag (by simp only [Ak]; exact (hf.lt b hb).2)).trans (BW w b)) (by simp only [World.size_alloc, Ak]; omega) ?_ Ad) ?_
  ·intro j u hj
   rw [Av (by simp only [Ak]), Bt, ← CD, Nat.zero_add]
   exact hj
  rintro ⟨s', w1⟩ ⟨hf1, hBut⟩
  have hk1 : ∀ b, b < B → hp w1 b = hp w b := fun b hb => (hBut.Ai b (by simp only [World.size_alloc, Ak]; omega) (fun e => absurd (hf.lt b (Option.mem_toList.2 e)).1 Ad)).trans ((Ag (by simp only [Ak]; omega)).trans (BW w b))
  have hE1 : Ext w0 w1 := Ext.bC (b := (dw w).alloc _) (by (repeat (first | exact Ext.rfl | assumption | (refine Ext.al ?_ _) | (refine Ext.dw ?_) | (refine Ext.set ?_ (by first | omega | (simp only [World.size_alloc, size_setRow, Ak]; omega)) _) | (refine Ext.tr ?_ (by assumption))))) hBut fun x hx => by have := (hf.lt x (Option.mem_toList.2 hx)).1; omega
  have hsz : w.heap.size < w1.heap.size := by have := hBut.size; simp only [World.size_alloc, Ak] at this; omega
  obtain ⟨ac, c3, hsv, hfl1⟩ := hf1.r.len
  subst hsv
  simp (disch := first | exact Fg | fail) [-bind_some, hk1, hx3]
  refine Af.mono (ih (k + 1) _ _ _ c0 Ad h1 h2 h3 (congrArg i64 (HS Ad Ad)) ((Ac Ad).trans ((hk1 _ hb1).trans hx1)) ((Ac Ad).trans ((hk1 _ hb2).trans hx2)) (by rw [EG, hk1 _ hb3, hx3]; rfl) ha (by (repeat (first | exact Ext.rfl | assumption | (refine Ext.al ?_ _) | (refine Ext.dw ?_) | (refine Ext.set ?_ (by first | omega | (simp only [World.size_alloc, size_setRow, Ak]; omega)) _) | (refine Ext.tr ?_ (by assumption))))) (by simp; omega) ?_) fun _ h => h
  rw [IG hv]
  have : CF (vs.take k ++ [v]) = CF (vs.take k) ++ [v.tag] := by simp [CF]
  rw [this]
  have hf2 : ∀ cs, Dm 39 B (w1.setRow b3 cs) _ (CF (vs.take k) ++ [v.tag]) := fun cs => hf1.Aj fun b hb => Ac (by have := (hf1.lt b hb).1; omega)
  simpa using hf2 _
theorem Ou {s : Value} {vs : List Ver} {w : World} (ha : Kd w s vs) : Af (EV P 137 #[.agg #[s]] w) fun r => ∃ s', r.1 = .agg #[s'] ∧ Dm 39 w.heap.size r.2 s' (CF vs) ∧ Ext w r.2 := by
 have ha' := ha
 obtain ⟨aa, ca, hs, hm⟩ := ha.len
 subst hs
 refine Bw (MX _ _) ?_
 simp (disch := first | exact Fg | fail) [-bind_some, Av]
 refine Af.mono (Ot (s := .slice aa vs.length ca) (vs := vs) (b1 := w.heap.size) (b2 := w.heap.size + 1) (b3 := w.heap.size + 2) (B := w.heap.size + 3) (w0 := w) (t1 := 156) Ad Ad Ad Ad Ad Ad Ad Ad vs.length 0 _ _ _ _ Ad rfl rfl rfl rfl
  (by simp (disch := first | exact Fg | fail) [-bind_some, Ag, Av, Ac]; first | done | rfl) (by simp (disch := first | exact Fg | fail) [-bind_some, Ag, Av, Ac]; first | done | rfl) (by simp (disch := first | exact Fg | fail) [-bind_some, Av]; first | done | rfl) ha' (by (repeat (first | exact Ext.rfl | assumption | (refine Ext.al ?_ _) | (refine Ext.dw ?_) | (refine Ext.set ?_ (by first | omega | (simp only [World.size_alloc, size_setRow, Ak]; omega)) _) | (refine Ext.tr ?_ (by assumption))))) (by simp) ⟨K0.nil _ _ _ _, by simp [CF]⟩) ?_
 rintro ⟨_, w1⟩ ⟨s', rfl, hf, hE⟩
 exact ⟨s', rfl, hf.from Ad, hE⟩
theorem Pz (n : Int) (w : World) : Af (EV P 37 #[i64 n] w) fun r => r = (.bool (VK n), w) := by
 refine Bw (NX _ _) ?_
 simp (disch := first | exact Fg | fail) [-bind_some]
 refine Af.bind (Dl _ _ _ _) ?_
 rintro _ rfl
 simp (disch := first | exact Fg | fail) [-bind_some]
 rfl
theorem Ov {s u : Value} {xs ys : List Tag} {b1 b2 b3 b4 t1 t2 B : Nat} {w0 : World} (hx4 : xs.length = 4) (hy4 : ys.length = 4) (hb1 : b1 < B) (hb2 : b2 < B) (hb3 : b3 < B) (hb4 : b4 < B) (h03 : w0.heap.size ≤ b3) (h04 : w0.heap.size ≤ b4) (h41 : b4 ≠ b1) (h42 : b4 ≠ b2) (h43 : b4 ≠ b3) :
  ∀ (d k : Nat) (e : Env) (w : World) (sv c0 : Value), k + d = 4 → e 2 = pt b1 0 → e 3 = pt b2 0 → e 4 = pt b3 0 → e 5 = pt b4 0 → e 6 = i64 k →
  hp w b1 = some (.cells #[s] t1 (0, 0)) → hp w b2 = some (.cells #[u] t2 (0, 0)) → hp w b3 = some (.cells #[c0] 106 (0, 0)) → hp w b4 = some (.cells #[sv] 106 (0, 0)) → Cb w0 s xs → Cb w0 u ys → Ext w0 w → B ≤ w.heap.size →
  Dm 39 B w sv ((Db xs ys).take k) →
  Af (Ep e w) fun r => ∃ s', r.1 = .agg #[s'] ∧ Dm 39 B r.2 s' (Db xs ys) ∧ Ext w0 r.2 := by
 have hjl : (Db xs ys).length = 4 := by rw [HE Ad, hx4]
 intro d
 induction d with
 | zero =>
  intro k e w sv c0 hd h2 h3 h4 h5 h6 hx1 hx2 hx3 hx4 ha hb hE hBw hf
  rw [Gs]
  obtain rfl : k = 4 := by omega
  rw [List.take_of_length_le Ad] at hf
  obtain ⟨ab, cb, hsv, _⟩ := hf.r.len
  subst hsv
  simp (disch := first | exact Fg | fail) [-bind_some, h4, h5, h6, hx3, hx4]
  refine ⟨hf.Aj fun b hb => Ac ?_, by (repeat (first | exact Ext.rfl | assumption | (refine Ext.al ?_ _) | (refine Ext.dw ?_) | (refine Ext.set ?_ (by first | omega | (simp only [World.size_alloc, size_setRow, Ak]; omega)) _) | (refine Ext.tr ?_ (by assumption))))⟩
  have := (hf.lt b hb).1
  omega
 | succ d ih =>
  intro k e w sv c0 hd h2 h3 h4 h5 h6 hx1 hx2 hx3 hx4' ha hb hE hBw hf
  rw [Gs]
  have hlt : k < xs.length := by omega
  have hlt' : k < ys.length := by omega
  obtain ⟨x, hxk, _⟩ := An hlt
  obtain ⟨y, hyk, _⟩ := An hlt'
  obtain ⟨d1, o1, c1, hs1, hA⟩ := (ha.mono (Ext.Aj hE)).at hxk
  obtain ⟨d2, o2, c2, hs2, hB⟩ := (hb.mono (Ext.Aj hE)).at hyk
  have p0 := hA 0 _ rfl
  have p1 := hA 1 _ rfl
  have q0 := hB 0 _ rfl
  have q1 := hB 1 _ rfl
  simp only [Nat.add_zero] at p0 q0
  subst hs1
  subst hs2
  obtain ⟨ab, cb, hsv, hfl⟩ := hf.r.len
  subst hsv
  have htl : ((Db xs ys).take k).length = k := by rw [List.length_take]; omega
  rw [htl] at hf hx4' hfl
  simp (disch := first | exact Fg | fail) [-bind_some, h2, h3, h5, h6, hx1, hx2, hx4', hx4, hy4, show (k : Int) < 4 by omega, KI, p0, p1, q0, q1]
  refine Af.bind (J5 x y _) ?_
  rintro ⟨_, w1⟩ ⟨rfl, hE1⟩
  have hE1' : Ext w w1 := (Cn w).tr hE1
  have z1 := hE1'.size
  have Y4 := (hE1'.Ai (Aq hx4')).trans hx4'
  have ly4 := Aq Y4
  have hf1 := hf.Aj (w' := w1) fun b hb => hE1'.Ai (hf.lt b hb).2
  simp (disch := first | exact Fg | fail) [-bind_some, Ag, Y4]
  refine Af.bind (RM (x := FZ x y) DC (by kernel_rfl) (hf1.Aj fun b hb => Ag (hf1.lt b hb).2) (by simp only [World.size_alloc]; omega) ?_ Ad) ?_
  ·intro j u hj
   rw [Av rfl, Bt, ← CD, Nat.zero_add]
   exact hj
  rintro ⟨s', w2⟩ ⟨hf2, hBut⟩
  have hk2 : ∀ b, b < B → hp w2 b = hp w b := fun b hb => (hBut.Ai b (by simp only [World.size_alloc]; omega) (fun e => absurd (hf.lt b (Option.mem_toList.2 e)).1 Ad)).trans ((Ag Ad).trans (hE1'.Ai Ad))
  have hE2 : Ext w0 w2 := Ext.bC (b := w1.alloc _) ((hE.tr hE1').al _) hBut fun x hx => by have := (hf.lt x (Option.mem_toList.2 hx)).1; omega
  have hsz : w1.heap.size < w2.heap.size := by have := hBut.size; simp only [World.size_alloc] at this; omega
  obtain ⟨ac, c3, hsv, hfl1⟩ := hf2.r.len
  have e1 : ((Db xs ys).take k ++ [FZ x y]).length = k + 1 := by rw [List.length_append, htl]; rfl
  try dsimp only at hsv
  rw [e1] at hsv
  subst hsv
  simp (disch := first | exact Fg | fail) [-bind_some, hk2, hx4']
  refine Af.mono (ih (k + 1) _ _ _ c0 Ad h2 h3 h4 h5 (congrArg i64 (HS Ad Ad)) ((Ac (Ne.symm h41)).trans ((hk2 _ hb1).trans hx1)) ((Ac (Ne.symm h42)).trans ((hk2 _ hb2).trans hx2)) ((Ac (Ne.symm h43)).trans ((hk2 _ hb3).trans hx3)) (by rw [EG, hk2 _ hb4, hx4']; rfl) ha hb (by (repeat (first | exact Ext.rfl | assumption | (refine Ext.al ?_ _) | (refine Ext.dw ?_) | (refine Ext.set ?_ (by first | omega | (simp only [World.size_alloc, size_setRow, Ak]; omega)) _) | (refine Ext.tr ?_ (by assumption))))) (by simp; omega) ?_) fun _ h => h
  rw [IG (OX hxk hyk)]
  have hf3 : ∀ cs, Dm 39 B (w2.setRow b4 cs) _ ((Db xs ys).take k ++ [FZ x y]) := fun cs => hf2.Aj fun b hb => Ac (by have := (hf2.lt b hb).1; omega)
  exact hf3 _
theorem Ow {s u : Value} {xs ys : List Tag} (hx4 : xs.length = 4) (hy4 : ys.length = 4) {w : World} (ha : Cb w s xs) (hb : Cb w u ys) : Af (EV P 135 #[.agg #[s], .agg #[u]] w) fun r => ∃ s', r.1 = .agg #[s'] ∧ Dm 39 w.heap.size r.2 s' (Db xs ys) ∧ Ext w r.2 := by
 have ha' := ha
 have hb' := hb
 obtain ⟨aa, ca, hs, hm⟩ := ha.len
 obtain ⟨ab, cb, hu, _⟩ := hb.len
 subst hs
 subst hu
 refine Bw (MV _ _ _) ?_
 simp (disch := first | exact Fg | fail) [-bind_some, Av]
 refine Af.mono (Ov (s := .slice aa xs.length ca) (u := .slice ab ys.length cb) (xs := xs) (ys := ys) (b1 := w.heap.size) (b2 := w.heap.size + 1) (b3 := w.heap.size + 2) (b4 := w.heap.size + 3) (B := w.heap.size + 4) (w0 := w) (t1 := 106) (t2 := 106) hx4 hy4 Ad Ad Ad Ad Ad Ad Ad Ad Ad 4 0 _ _ _ _ Ad rfl rfl rfl rfl rfl
  (by simp (disch := first | exact Fg | fail) [-bind_some, Ag, Av, Ac]; first | done | rfl) (by simp (disch := first | exact Fg | fail) [-bind_some, Ag, Av, Ac]; first | done | rfl) (by simp (disch := first | exact Fg | fail) [-bind_some, Ag, Av, Ac]; first | done | rfl) (by simp (disch := first | exact Fg | fail) [-bind_some, Av]; first | done | rfl) ha' hb' (by (repeat (first | exact Ext.rfl | assumption | (refine Ext.al ?_ _) | (refine Ext.dw ?_) | (refine Ext.set ?_ (by first | omega | (simp only [World.size_alloc, size_setRow, Ak]; omega)) _) | (refine Ext.tr ?_ (by assumption))))) (by simp) ⟨K0.nil _ _ _ _, by simp⟩) ?_
 rintro ⟨_, w1⟩ ⟨s', rfl, hf, hE⟩
 exact ⟨s', rfl, hf.from Ad, hE⟩
end Go.Proofs.YtkhbpmhagpljiaaGreatDoor.X
set_option maxHeartbeats 1000000
namespace Go.Proofs.YtkhbpmhagpljiaaGreatDoor.X
open Go Go.Ev Go.RowKit
open Option (bind_some)
abbrev Cr : Lay (List Tag) := Iw 39
abbrev Cu : Lay Ver := LI 39
abbrev AW : Lay (List Ver) := F7 39 110
theorem At.new {w : World} {cs : List Value} {E : TypeId} : At (w.alloc (.cells cs.toArray E)) w.heap.size 0 cs := by
 intro j v hv
 rw [Av rfl, Bt, ← CD, Nat.zero_add]
 simpa using hv
theorem Bf {S : Nat → Prop} {cs : List Value} {v : Ver} {w : World} (ha : D Cu S w cs v) :
  Af (EV P 66 #[.agg cs.toArray] w) fun r => ∃ ds, r.1 = .agg ds.toArray ∧ O Cu (In w.heap.size r.2.heap.size) r.2 ds v ∧ Ext w r.2 := by
 obtain ⟨a, c, rfl, h1, h2⟩ := D.Cq.1 ha
 have hn := h1.n
 refine Bw (Mt _ _) ?_
 simp (disch := first | exact xD | fail) [-bind_some, qs]
 refine Af.bind (O.I3 (L := F6) (mx := 8796093021952) B8 DC HN rfl AD (O.empty (g := w.heap.size + 1 + 1) (by first | assumption | rfl | (simp (disch := first | exact xD | fail) [-bind_some, qs]; done))) (h1.ext xE) (by simp; omega) AD AD) ?_
 rintro ⟨_, w1⟩ ⟨a1, c1, rfl, o1, M1⟩
 have zM1 := M1.size
 try simp only [qz] at zM1
 dsimp only at o1 M1
 have zM1 := M1.size
 simp only [World.size_alloc, List.nil_append, List.length_nil, Nat.zero_add] at o1 zM1
 have X1 := M1.Ai w.heap.size (by simp only [World.size_alloc]; omega) Ad
 have X2 := M1.Ai (w.heap.size + 1) (by simp only [World.size_alloc]; omega) Ad
 simp (disch := first | exact xD | fail) [-bind_some, qs, M1.Ai]
 refine ⟨(O.Cq.2 ⟨a1, c1, rfl, o1.Aj (by intro b hS hb; (try dsimp only at hS); (try simp only [In, qz] at hS hb); first | rfl | (simp (disch := first | exact xF | fail) only [qk]; done)), h2⟩).wide xV, ?_⟩
 exact Ext.set (Ext.set (Mod.after (a := w) xE M1 (by intro x hx h; omega)) Ad _) Ad _
theorem I0 {a : Option Addr} {c g1 g2 g3 : Nat} {S : Nat → Prop} {xs : List Ver} {w0 : World} (h12 : g1 < g3) (h32 : g2 < g3) (h03 : w0.heap.size ≤ g1) (h02 : w0.heap.size ≤ g2) (hne : g1 ≠ g2) :
  ∀ (d k : Nat) (e : Env) (w : World) (a3 : Option Addr) (c3 : Nat) (sv : Value), k + d = xs.length → e 1 = pt g1 0 → e 2 = pt g2 0 → e 3 = pt g3 0 → e 4 = i64 k → hp w g1 = some (.cells #[.slice a xs.length c] 156 (0, 0)) → hp w g2 = some (.cells #[sv] 156 (0, 0)) → hp w g3 = some (.cells #[.slice a3 k c3] 156 (0, 0)) →
  D AW S w0 [.slice a xs.length c] xs → Ext w0 w → O AW (In (g3 + 1) w.heap.size) w [.slice a3 k c3] (xs.take k) →
  Af (Cg e w) fun r => ∃ a' c', r.1 = .agg #[.slice a' xs.length c'] ∧ O AW (In (g3 + 1) r.2.heap.size) r.2 [.slice a' xs.length c'] xs ∧ Ext w0 r.2 := by
 intro d
 induction d with
 | zero =>
  intro k e w a3 c3 sv hd e1 e2 e3 e4 X1 X2 X3 ha E0 ho
  have zE0 := E0.size
  try simp only [qz] at zE0
  rw [Ei]
  obtain rfl : k = xs.length := by omega
  rw [List.take_length] at ho
  simp (disch := first | exact xD | fail) [-bind_some, e1, e2, e3, e4, X1, X2, X3]
  exact ⟨_, _, ⟨rfl, rfl⟩, ho.Aj (by intro b hS hb; (try dsimp only at hS); (try simp only [In] at hS hb); first | rfl | (simp (disch := first | exact xF | fail) only [qk]; done)), xE⟩
 | succ d ih =>
  intro k e w a3 c3 sv hd e1 e2 e3 e4 X1 X2 X3 ha E0 ho
  have zE0 := E0.size
  try simp only [qz] at zE0
  rw [Ei]
  have hlt : k < xs.length := by omega
  obtain ⟨x, hx, _⟩ := An hlt
  have hn := ha.n
  obtain ⟨b1, o1, cs1, rfl, A1, D1, _, l1⟩ := (ha.ext E0).at AD hx
  obtain ⟨a2, c2, rfl, hp2, ht⟩ := D.Cq.1 D1
  have p0 := A1 0 _ rfl
  have p1 := A1 1 _ rfl
  have p2 := A1 2 _ rfl
  have p3 := A1 3 _ rfl
  have p4 := A1 4 _ rfl
  have p5 := A1 5 _ rfl
  simp only [Co, Nat.add_zero] at p0 p1 p2 p3 p4 p5
  have htk : (xs.take k).length = k := by rw [List.length_take]; omega
  have y1 := Aq X1
  have y2 := Aq X2
  have y3 := Aq X3
  simp (disch := first | exact xD | fail) [-bind_some, qs, Ck, e1, e3, e4, X1, X3, hlt, p0, p1, p2, p3, p4, p5]
  refine Af.bind (Bf (D1.ext xE)) ?_
  rintro ⟨_, w1⟩ ⟨ds, rfl, o2, E1⟩
  try dsimp only at ds o2 E1
  have zE1 := E1.size
  try simp only [qz] at zE1
  have zds := O.Cq.1 o2
  obtain ⟨a4, c4, rfl, _, _⟩ := zds
  simp (disch := first | exact xD | fail) [-bind_some, qs, X3, E1.Ai]
  refine Af.bind (O.app (L := Cu) (mx := 1954687338211) DK D8 rfl AD (ho.Aj (by intro b hS hb; (try dsimp only at hS); (try simp only [In] at hS hb); first | rfl | (simp (disch := first | exact xF | fail) only [E1.Ai, qk]; done))) (o2.Aj (by intro b hS hb; (try dsimp only at hS); (try simp only [In, qz] at hS hb); first | rfl | (simp (disch := first | exact xF | fail) only [qk]; done))) (by intro b hb h1 h2; simp only [In, World.size_alloc, Ak] at *; omega) At.new Ad AD AD) ?_
  rintro ⟨_, w2⟩ ⟨a5, c5, rfl, o3, M2⟩
  have zM2 := M2.size
  try simp only [qz] at zM2
  try dsimp only at o3 M2
  have zM2 := M2.size
  simp only [World.size_alloc] at zM2
  rw [htk, ← IG hx] at o3
  rw [htk]
  have Y1 : hp w2 g1 = hp w g1 := (M2.Ai g1 (by simp only [World.size_alloc]; omega) (by simp only [In]; omega)).trans (by first | assumption | rfl | (simp (disch := first | exact xD | fail) [-bind_some, qs, X1, E1.Ai]; done))
  have Y2 : hp w2 g2 = hp w g2 := (M2.Ai g2 (by simp only [World.size_alloc]; omega) (by simp only [In]; omega)).trans (by first | assumption | rfl | (simp (disch := first | exact xD | fail) [-bind_some, qs, X2, E1.Ai]; done))
  have Y3 : hp w2 g3 = hp w g3 := (M2.Ai g3 (by simp only [World.size_alloc]; omega) (by simp only [In]; omega)).trans (by first | assumption | rfl | (simp (disch := first | exact xD | fail) [-bind_some, qs, X3, E1.Ai]; done))
  simp (disch := first | exact xD | fail) [-bind_some, Y3, X3]
  have E3 : Ext w0 w2 := Mod.after (E0.tr xE) M2 (by intro x hx h; simp only [In] at h; omega)
  have zE3 := E3.size
  try simp only [qz] at zE3
  refine Af.mono (ih (k + 1) _ _ a5 c5 sv Ad xA xA xA xA (by first | assumption | rfl | (simp (disch := first | exact xD | fail) [-bind_some, qs, Y1, X1]; done)) (by first | assumption | rfl | (simp (disch := first | exact xD | fail) [-bind_some, qs, Y2, X2]; done)) (by first | assumption | rfl | (simp (disch := first | exact xD | fail) [-bind_some, Y3, X3]; done)) ha xE (((o3.wide ?_).Aj (S := In (g3 + 1) w2.heap.size) (by intro b hS hb; (try dsimp only at hS); (try simp only [In] at hS hb); first | rfl | (simp (disch := first | exact xF | fail) only [qk]; done))).wide ?_)) fun _ h => h
  ·intro b h1 h2
   simp only [In, World.size_alloc, Ak] at *
   omega
  ·intro b h1 h2
   simp only [In, size_setRow] at *
   omega
theorem FT {a : Option Addr} {n c : Nat} {S : Nat → Prop} {xs : List Ver} {w : World} (ha : D AW S w [.slice a n c] xs) :
  Af (EV P 107 #[.agg #[.slice a n c]] w) fun r => ∃ a' c', r.1 = .agg #[.slice a' xs.length c'] ∧ O AW (In w.heap.size r.2.heap.size) r.2 [.slice a' xs.length c'] xs ∧ Ext w r.2 := by
 obtain ⟨rfl, hm, _⟩ := ha.n
 refine Bw (IY _ _) ?_
 simp (disch := first | exact xD | fail) [-bind_some, qs]
 refine Af.mono (I0 (g1 := w.heap.size) (g2 := w.heap.size + 1) (g3 := w.heap.size + 2) (w0 := w) Ad Ad Ad Ad Ad xs.length 0 _ _ _ _ (.slice none 0 0) Ad rfl rfl rfl rfl (by first | assumption | rfl | (simp (disch := first | exact xD | fail) [-bind_some, qs]; done)) (by first | assumption | rfl | (simp (disch := first | exact xD | fail) [-bind_some, qs]; done)) (by first | assumption | rfl | (simp (disch := first | exact xD | fail) [-bind_some, qs]; done)) ha xE O.nil) ?_
 rintro ⟨_, w1⟩ ⟨a1, c1, rfl, o1, E1⟩
 have zE1 := E1.size
 try simp only [] at zE1
 exact ⟨a1, c1, rfl, o1.wide xV, E1⟩
theorem PA {a : Option Addr} {n c : Nat} {S S1 : Nat → Prop} {xs : List Ver} {cs : List Value} {v : Ver} {w : World} (ho : O AW S w [.slice a n c] xs) (hv : D Cu S1 w cs v) (h0 : 0 ≤ v.key) (h1 : v.key.toNat < xs.length) :
  Af (EV P 146 #[.agg #[.slice a n c], .agg cs.toArray] w) fun r => r.1 = .agg #[.slice a xs.length c] ∧ O AW (fun b => S b ∨ In w.heap.size r.2.heap.size b) r.2 [.slice a xs.length c] (Hq xs v) ∧ Mod S w r.2 := by
 obtain ⟨rfl, hm, _⟩ := ho.n
 obtain ⟨av, cv, rfl, hv1, hv2⟩ := D.Cq.1 hv
 obtain ⟨u, hu, _⟩ := An h1
 obtain ⟨g, cur, ds, S2, rfl, hSg, hgl, hg, hle, hx1, hS2, put⟩ := ho.row AD hu
 obtain ⟨au, cu, rfl, hu1, hu2⟩ := O.Cq.1 hx1
 simp only [Co] at hg hle put
 have hk : v.key < xs.length := by omega
 refine Bw (Oq _ _ _) ?_
 simp (disch := first | exact xD | fail) [-bind_some, qs, -Aa, -Ab, qm, Ck, hg]
 refine Af.bind (AU u.tag v.tag _) ?_
 rintro ⟨_, w1⟩ ⟨rfl, E1⟩
 try dsimp only at E1
 have zE1 := E1.size
 try simp only [qz] at zE1
 cases hl : BF u.tag v.tag
 ·rw [Rl hu hl]
  simp (disch := first | exact xD | fail) [-bind_some, qs, -Aa, -Ab, qm, Hk, E1.Ai]
  exact ⟨(ho.Aj (by intro b hS hb; (try dsimp only at hS); (try simp only [In, qz] at hS hb); first | rfl | (simp (disch := first | exact xF | fail) only [E1.Ai, qk]; done))).wide (fun b h _ => .inl h), xM⟩
 ·rw [NA hu hl]
  simp (disch := first | exact xD | fail) [-bind_some, qs, -Aa, -Ab, Ck, E1.Ai]
  refine Af.bind (Bf (hv.ext xE)) ?_
  rintro ⟨_, w2⟩ ⟨es, rfl, o2, E2⟩
  try dsimp only at es o2 E2
  have zE2 := E2.size
  try simp only [qz] at zE2
  have zds := O.Cq.1 o2
  obtain ⟨ae, ce, rfl, _, _⟩ := zds
  simp (disch := first | exact xD | fail) [-bind_some, qs, -Aa, -Ab, qm, Hk, hg, E1.Ai, E2.Ai]
  refine ⟨(put _ _ v _ (o2.Aj (by intro b hS hb; (try dsimp only at hS); (try simp only [In, qz] at hS hb); first | rfl | (simp (disch := first | exact xF | fail) only [qk]; done))) (by first | assumption | rfl | (simp (disch := first | exact xD | fail) [-bind_some, qs, -Aa, -Ab, hg, E1.Ai, E2.Ai]; done)) (by intro b _ _ _ _; first | rfl | (simp (disch := first | exact xF | fail) only [E1.Ai, E2.Ai, qk]; done)) ?_).wide ?_, xM⟩
  ·intro b h1 h2
   simp only [In, size_setRow, Ak] at *
   right
   omega
  ·intro b h1 h2
   simp only [In, size_setRow, Ak] at *
   exact h1.imp id Ad
abbrev OV : Lay CNode := Kg 39 110
abbrev Bb : Lay (List CNode) := Nz 39 110 159
def V9 : Ver := ⟨0, ⟨0, 0⟩, [], ⟨#[]⟩, false⟩
def J6 : CNode := ⟨List.replicate 4 V9, []⟩
theorem TR (w : World) : O Cu (fun _ => False) w [i64 0, i64 0, i64 0, .slice none 0 0, .string ⟨#[]⟩, .bool false] V9 :=
 O.Cq.2 ⟨none, 0, rfl, O.nil, by decide⟩
theorem PB (w : World) : Af (EV P 127 #[] w) fun r => ∃ a c, r.1 = .agg #[.slice a 4 c] ∧ O AW (In w.heap.size r.2.heap.size) r.2 [.slice a 4 c] (List.replicate 4 V9) ∧ Ext w r.2 := by
 refine Af.post fun Q hQ => ?_
 refine Bw (Ol _) ?_
 simp (disch := first | exact xD | fail) [-bind_some]
 refine Af.bind (O.make (L := Cu) (mx := 1954687338211) (n := 4) DK D8 rfl AD TR AD AD AD) ?_
 rintro ⟨_, w1⟩ ⟨rfl, o1, z1, E1⟩
 have zE1 := E1.size
 try simp only [qz] at zE1
 try dsimp only at o1 z1 E1
 have X1 := E1.Ai (b := w.heap.size) (by simp)
 simp only [World.size_alloc] at z1 o1
 simp (disch := first | exact xD | fail) [-bind_some, qs, -Aa, -Ab, qm, E1.Ai]
 exact hQ _ ⟨_, _, rfl, (o1.Aj (by intro b hS hb; (try dsimp only at hS); (try simp only [In, qz] at hS hb); first | rfl | (simp (disch := first | exact xF | fail) only [qk]; done))).wide xV, xE⟩
def BU (n : Int) : List CNode := if (decide (1 ≤ n) && decide (n ≤ 4)) then List.replicate n.toNat J6 else []
theorem U4 {α : Type} (k : Nat) (x : α) : List.replicate k x ++ [x] = List.replicate (k + 1) x := by rw [List.replicate_succ']
theorem KU {g2 g3 B n : Nat} {w0 : World} (h2 : g2 < B) (h02 : w0.heap.size ≤ g2) (h3 : w0.heap.size ≤ g3) (h23 : g2 ≠ g3) (hn4 : n ≤ 4) :
  ∀ (d k : Nat) (e : Env) (w : World) (a3 : Option Addr) (c3 : Nat) (sv : Value), k + d = n → e 0 = i64 n → e 2 = pt g2 0 → e 3 = pt g3 0 → e 4 = i64 k → hp w g2 = some (.cells #[sv] 98 (0, 0)) → hp w g3 = some (.cells #[.slice a3 k c3] 98 (0, 0)) → Ext w0 w → B ≤ w.heap.size →
  O Bb (fun b => In B w.heap.size b ∧ b ≠ g3) w [.slice a3 k c3] (List.replicate k J6) →
  Af (CX e w) fun r => ∃ a' c', r.1 = .agg #[.slice a' n c'] ∧ O Bb (In B r.2.heap.size) r.2 [.slice a' n c'] (List.replicate n J6) ∧ Ext w0 r.2 := by
 intro d
 induction d with
 | zero =>
  intro k e w a3 c3 sv hd e0 e2 e3 ei X2 X3 E0 hB ho
  have zE0 := E0.size
  try simp only [qz] at zE0
  rw [Fw]
  obtain rfl : k = n := by omega
  refine Af.post fun Q hQ => ?_
  simp (disch := first | exact xD | fail) [-bind_some, -Aa, -Ab, qm, e0, e2, e3, ei, X2, X3]
  exact hQ _ ⟨_, _, rfl, (ho.Aj (by intro b hS hb; (try dsimp only at hS); (try simp only [In] at hS hb); first | rfl | (simp (disch := first | exact xF | fail) only [qk]; done))).wide xV, xE⟩
 | succ d ih =>
  intro k e w a3 c3 sv hd e0 e2 e3 ei X2 X3 E0 hB ho
  have zE0 := E0.size
  try simp only [qz] at zE0
  rw [Fw]
  have hlt : k < n := by omega
  have y2 := Aq X2
  have y3 := Aq X3
  refine Af.post fun Q hQ => ?_
  simp (disch := first | exact xD | fail) [-bind_some, qs, -Aa, -Ab, e0, e3, ei, X3, hlt]
  refine Af.bind (PB _) ?_
  rintro ⟨_, w1⟩ ⟨a1, c1, rfl, o1, E1⟩
  try dsimp only at a1 c1 o1 E1
  have zE1 := E1.size
  try simp only [qz] at zE1
  simp (disch := first | exact xD | fail) [-bind_some, qs, -Aa, -Ab, X3, E1.Ai]
  refine Af.bind (O.app (L := OV) (x := J6) (mx := 2932031007317) (S1 := In (dw w).heap.size w1.heap.size) Mu Mv rfl AD (ho.Aj (by intro b hS hb; (try dsimp only at hS); (try simp only [In] at hS hb); first | rfl | (simp (disch := first | exact xF | fail) only [E1.Ai, qk]; done))) ((O.GC (v := J6) (S2 := fun _ => False) (o1.Aj (by intro b hS hb; (try dsimp only at hS); (try simp only [In, qz] at hS hb); first | rfl | (simp (disch := first | exact xF | fail) only [qk]; done))) O.nil (fun _ _ _ h => h)).wide (by intro b h _; exact h.elim id fun h => h.elim)) (by intro b hb h1 h2; simp only [In, World.size_alloc, Ak] at *; omega) At.new (by rw [List.length_replicate]; omega) AD AD) ?_
  rintro ⟨_, w2⟩ ⟨a5, c5, rfl, o3, M2⟩
  have zM2 := M2.size
  try simp only [qz] at zM2
  try dsimp only at o3 M2
  have zM2 := M2.size
  simp only [World.size_alloc] at zM2
  rw [U4, List.length_replicate] at o3
  rw [List.length_replicate]
  have Y2 : hp w2 g2 = hp w g2 := (M2.Ai g2 xN xN).trans (by first | assumption | rfl | (simp (disch := first | exact xD | fail) [-bind_some, qs, X2, E1.Ai]; done))
  have Y3 : hp w2 g3 = hp w g3 := (M2.Ai g3 xN xN).trans (by first | assumption | rfl | (simp (disch := first | exact xD | fail) [-bind_some, qs, X3, E1.Ai]; done))
  simp (disch := first | exact xD | fail) [-bind_some, -Aa, -Ab, qm, X3, Y3]
  have E3 : Ext w0 w2 := Mod.after (E0.tr xE) M2 xI
  have zE3 := E3.size
  try simp only [qz] at zE3
  refine Af.mono (ih (k + 1) _ _ a5 c5 sv Ad xA xA xA xA (by first | assumption | rfl | (simp (disch := first | exact xD | fail) [-bind_some, qs, -Aa, -Ab, Y2, X2]; done)) (by first | assumption | rfl | (simp (disch := first | exact xD | fail) [-bind_some, -Aa, -Ab, Y3, X3]; done)) xE xN (((o3.wide (S' := fun b => In B w2.heap.size b ∧ b ≠ g3) ?_).Aj (by intro b hS hb; (try dsimp only at hS); (try simp only [In] at hS hb); first | rfl | (simp (disch := first | exact xF | fail) only [qk]; done))).wide ?_)) hQ
  ·intro b h1 h2
   simp only [In, World.size_alloc, Ak] at *
   omega
  ·intro b h1 h2
   simp only [In, World.size_alloc, size_setRow, Ak] at *
   omega
theorem HO (n : Int) {w : World} : Af (EV P 108 #[i64 n] w) fun r => ∃ a c, r.1 = .agg #[.slice a (BU n).length c] ∧ O Bb (In w.heap.size r.2.heap.size) r.2 [.slice a (BU n).length c] (BU n) ∧ Ext w r.2 := by
 refine Af.post fun Q hQ => ?_
 refine Bw (KO _ _) ?_
 simp (disch := first | exact xD | fail) [-bind_some, qs, -Aa, -Ab, qm]
 refine Af.bind (AN _ _ _ _) ?_
 rintro _ rfl
 cases h : (decide (1 ≤ n) && decide (n ≤ 4))
 ·have e : BU n = [] := by simp [BU, h]
  rw [e] at hQ
  simp (disch := first | exact xD | fail) [-bind_some, qs, -Aa, -Ab, qm]
  exact hQ _ ⟨_, _, rfl, O.nil, xE⟩
 have e : BU n = List.replicate n.toNat J6 := by simp [BU, h]
 simp only [Bool.and_eq_true, decide_eq_true_eq] at h
 obtain ⟨m, rfl⟩ : ∃ m : Nat, n = m := ⟨n.toNat, by omega⟩
 rw [e, List.length_replicate, Int.toNat_natCast] at hQ
 simp (disch := first | exact xD | fail) [-bind_some, -Aa, -Ab]
 refine Af.mono (KU (g2 := w.heap.size) (g3 := w.heap.size + 1) (B := w.heap.size + 1) (n := m) (w0 := w) Ad Ad Ad Ad Ad m 0 _ _ none 0 (.slice none 0 0) Ad rfl rfl rfl rfl (by first | assumption | rfl | (simp (disch := first | exact xD | fail) [-bind_some, qs, -Aa, -Ab]; done)) (by first | assumption | rfl | (simp (disch := first | exact xD | fail) [-bind_some, qs, -Aa, -Ab]; done)) xE xN O.nil) ?_
 rintro ⟨_, w4⟩ ⟨a4, c4, rfl, o4, E4⟩
 have zE4 := E4.size
 try simp only [] at zE4
 exact hQ _ ⟨_, _, rfl, o4.wide xV, E4⟩
theorem TS {x : Int} {b c : Nat} {e : TypeId} {w : World} (h : hp w b = some (.cells #[.int .u8 x] e (0, 0))) : cv P 22 9 (.slice (some ⟨b, 0, none⟩) 1 c) w = some (.string (AZ [UInt8.ofNat x.toNat]), w) := by
 rw [← QI]
 exact Qn (e := 5) (ns := [x]) (by kernel_rfl) (by kernel_rfl) (by kernel_rfl) (fun j v hv => by
  rw [h, Bt, ← CD, Nat.zero_add]
  exact hv)
theorem FE (n : Nat) (hn : n ≤ 4611686018427387904) : ∀ w : World, Af (EV P 41 #[i64 n] w) fun r => r.1 = .string (AZ (Bn n)) ∧ Ext w r.2 := by
 induction n using Nat.strongRecOn with
 | _ n ih =>
  intro w
  have hd := BL n
  refine Af.post fun Q hQ => ?_
  by_cases h : n < 10
  ·refine Bw (I7 _ _) ?_
   have h8 : IntKind.u8.wrap (48 + (n : Int)) = 48 + n := QJ Ad Ad
   have ht : UInt8.ofNat (48 + (n : Int)).toNat = dg n := by unfold dg; congr 1
   simp (disch := first | exact xD | fail) [-bind_some, qs, -Aa, -Ab, show ¬ (n : Int) < -9223372036854775807 by omega, show ¬ (n : Int) < 0 by omega, show (n : Int) < 10 by omega, h8]
   have hc := TS (x := 48 + (n : Int)) (b := w.heap.size) (c := 1) (e := 5) (w := w.alloc (.cells #[.int .u8 (48 + (n : Int))] 5)) (Av rfl)
   rw [ht, ← Dy h] at hc
   simp (disch := first | exact xD | fail) [-bind_some, -Aa, -Ab, hc]
   exact hQ _ ⟨rfl, xE⟩
  ·have hq : (n : Int).tdiv 10 = ((n / 10 : Nat) : Int) := Ij n 10
   have hm : (n : Int).tmod 10 = ((n % 10 : Nat) : Int) := FU n 10
   have h8 : IntKind.u8.wrap (48 + ((n % 10 : Nat) : Int)) = 48 + ((n % 10 : Nat) : Int) := QJ Ad Ad
   have ht : UInt8.ofNat (48 + ((n % 10 : Nat) : Int)).toNat = dg (n % 10) := by unfold dg; congr 1
   have hl := BL (n / 10)
   have hdg := EU h
   have hih := ih (n / 10) Ad Ad
   have hm10 : n % 10 < 10 := Nat.mod_lt _ Ad
   have hqn : n / 10 ≤ n := Nat.div_le_self _ _
   generalize n / 10 = q at *
   generalize n % 10 = m at *
   refine Bw (I7 _ _) ?_
   simp (disch := first | exact xD | fail) [-bind_some, -Aa, -Ab, show ¬ (n : Int) < -9223372036854775807 by omega, show ¬ (n : Int) < 0 by omega, show ¬ (n : Int) < 10 by omega]
   refine JK _ _ ?_
   simp (disch := first | exact xD | fail) [-bind_some, qs, -Aa, -Ab, Re, KZ, hq, hm, h8]
   constructor
   ·refine Af.mono (hih _) ?_
    rintro ⟨_, w1⟩ ⟨rfl, E1⟩
    try dsimp only at E1
    have zE1 := E1.size
    try simp only [qz] at zE1
    simp (disch := first | exact xD | fail) [-bind_some, -Aa, -Ab]
    have hc := TS (x := 48 + (m : Int)) (b := w1.heap.size) (c := 1) (e := 5) (w := w1.alloc (.cells #[.int .u8 (48 + (m : Int))] 5)) (Av rfl)
    rw [ht] at hc
    simp (disch := first | exact xD | fail) [-bind_some, qs, -Aa, -Ab, hc, Ba, Az, ← hdg, Hd]
    exact hQ _ ⟨rfl, xE⟩
   ·have hc0 : ∀ w' : World, hp w' w.heap.size = some (.cells #[.int .u8 (48 + (m : Int))] 5 (0, 0)) → cv P 22 9 (.slice (some ⟨w.heap.size, 0, none⟩) 1 1) w' = some (.string (AZ [dg m]), w') := by
     intro w' hx
     have := TS (x := 48 + (m : Int)) (c := 1) hx
     rwa [ht] at this
    have hc := hc0 ((dw w).alloc (.cells #[.int .u8 (48 + (m : Int))] 5)) (Av rfl)
    simp (disch := first | exact xD | fail) [-bind_some, -Aa, -Ab, hc]
    refine Af.mono (hih _) ?_
    rintro ⟨_, w1⟩ ⟨rfl, E1⟩
    try dsimp only at E1
    have zE1 := E1.size
    try simp only [qz] at zE1
    have hc1 := hc0 w1 (by first | assumption | rfl | (simp (disch := first | exact xD | fail) [-bind_some, qs, -Aa, -Ab, E1.Ai]; done))
    simp (disch := first | exact xD | fail) [-bind_some, qs, -Aa, -Ab, hc1, Ba, Az, ← hdg, Hd]
    exact hQ _ ⟨rfl, xE⟩
theorem Hl {t : Tag} (h : Cc t = true) : (0 ≤ t.t ∧ t.t ≤ 999) ∧ (0 ≤ t.p ∧ t.p ≤ 2) := by
 simp only [Cc, Bool.or_eq_true, Bool.and_eq_true, beq_iff_eq, decide_eq_true_eq] at h
 omega
theorem Nd {t : Tag} (h : Cc t = true) : (C6 t).length ≤ 2000 := by
 have := Hl h
 have h1 := BL t.t.toNat
 have h2 := BL t.p.toNat
 simp only [C6, List.length_append, List.length_cons]
 omega
theorem J7 {t : Tag} (ht : Cc t = true) (w : World) : Af (EV P 42 #[t.v] w) fun r => r.1 = .string (AZ (C6 t)) ∧ Ext w r.2 := by
 have hr := Hl ht
 obtain ⟨a, ha⟩ : ∃ a : Nat, t.t = a := ⟨t.t.toNat, by omega⟩
 obtain ⟨b, hb⟩ : ∃ b : Nat, t.p = b := ⟨t.p.toNat, by omega⟩
 have h1 := BL a
 have h2 := BL b
 have e : C6 t = Bn a ++ [46] ++ Bn b := by rw [C6, ha, hb]; simp
 rw [e]
 refine Af.post fun Q hQ => ?_
 refine Bw (NZ _ _) ?_
 simp (disch := first | exact xD | fail) [-bind_some, qs, -Aa, -Ab, ha, hb]
 refine Af.bind (FE a Ad _) ?_
 rintro ⟨_, w1⟩ ⟨rfl, E1⟩
 try dsimp only at E1
 have zE1 := E1.size
 try simp only [qz] at zE1
 simp (disch := first | exact xD | fail) [-bind_some, qs, -Aa, -Ab, Dg, Ba, Az, E1.Ai]
 refine Af.bind (FE b Ad _) ?_
 rintro ⟨_, w2⟩ ⟨rfl, E2⟩
 try dsimp only at E2
 have zE2 := E2.size
 try simp only [qz] at zE2
 simp (disch := first | exact xD | fail) [-bind_some, -Aa, -Ab, Ba, Az]
 exact hQ _ ⟨by simp, xE⟩
def KV (ns : List CNode) : List Ver := match ns[ns.length - 1]? with
 | some n => n.store
 | none => []
theorem Jb {a : Option Addr} {n c : Nat} {S : Nat → Prop} {vs : List Ver} {w : World} (h4 : vs.length = 4) (ha : D AW S w [.slice a n c] vs) :
  Af (EV P 137 #[.agg #[.slice a n c]] w) fun r => ∃ a' c', r.1 = .agg #[.slice a' (CF vs).length c'] ∧ O Cr (In w.heap.size r.2.heap.size) r.2 [.slice a' (CF vs).length c'] (CF vs) ∧ Ext w r.2 := by
 refine Af.mono (Ou  (D.Kd ha)) ?_
 rintro r ⟨s', h1, f2, E2⟩
 have zE2 := E2.size
 try simp only [qz] at zE2
 obtain ⟨a3, c3, hs', o3⟩ := (Ue f2).It
 obtain rfl := (List.cons.inj hs').1
 exact ⟨a3, c3, h1, o3, E2⟩
theorem SI (ts : Array TypeId) (t : TypeId) (a b : Int) (w : World) : RH P ts t #[i64 a, i64 b] w = some (i64 (if b < a then b else a), w) := by
 simp only [RH, Builtin.min_, List.foldlM, Builtin.min2, pure_bind]
 rfl
theorem Nf {a : Option Addr} {c g1 g2 g3 g5 B k : Nat} {S : Nat → Prop} {xs : List CNode} {x : CNode} {w0 : World} {R : Value × World → Prop} (h12 : g1 < g2) (h32 : g2 < g3) (h02 : w0.heap.size ≤ g1) (h3B : g3 < B) (hB5 : B ≤ g5)
  (ha : D Bb S w0 [.slice a xs.length c] xs) (hlt : k < xs.length) (hx : xs[k]? = some x)
  (nx : ∀ (e : Env) (w : World) (a3 : Option Addr) (c3 : Nat) (sv : Value), e 1 = pt g1 0 → e 2 = pt g2 0 → e 3 = pt g3 0 → e 4 = i64 ((k + 1 : Nat) : Int) → hp w g1 = some (.cells #[.slice a xs.length c] 98 (0, 0)) → hp w g2 = some (.cells #[sv] 98 (0, 0)) → hp w g3 = some (.cells #[.slice a3 (k + 1) c3] 98 (0, 0)) →
   Ext w0 w → O Bb (fun b => In w0.heap.size w.heap.size b ∧ b ≠ g1 ∧ b ≠ g2 ∧ b ≠ g3) w [.slice a3 (k + 1) c3] (xs.take (k + 1)) → Af (CP e w) R) :
  ∀ (d j : Nat) (e : Env) (w : World) (a3 a5 a6 : Option Addr) (c3 c5 c6 : Nat) (sv : Value), j + d = x.wait.length → e 1 = pt g1 0 → e 2 = pt g2 0 → e 3 = pt g3 0 → e 4 = i64 k → e 5 = pt g5 0 → e 6 = i64 j →
   hp w g1 = some (.cells #[.slice a xs.length c] 98 (0, 0)) → hp w g2 = some (.cells #[sv] 98 (0, 0)) → hp w g3 = some (.cells #[.slice a3 k c3] 98 (0, 0)) → hp w g5 = some (.cells #[.slice a5 x.store.length c5, .slice a6 j c6] 159 (0, 0)) →
   Ext w0 w → O Bb (fun b => In w0.heap.size B b ∧ b ≠ g1 ∧ b ≠ g2 ∧ b ≠ g3) w [.slice a3 k c3] (xs.take k) → O AW (In B g5) w [.slice a5 x.store.length c5] x.store → O AW (In (g5 + 1) w.heap.size) w [.slice a6 j c6] (x.wait.take j) →
   Af (Ea e w) R := by
 have hn := ha.n
 have htk : (xs.take k).length = k := by rw [List.length_take]; omega
 intro d
 induction d with
 | zero =>
  intro j e w a3 a5 a6 c3 c5 c6 sv hd e1 e2 e3 e4 e5 e6 X1 X2 X3 X5 E0 ho o5 o6
  have zE0 := E0.size
  try simp only [qz] at zE0
  rw [Gn]
  obtain rfl : j = x.wait.length := by omega
  rw [List.take_length] at o6
  obtain ⟨b1, o1, cs1, rfl, A1, D1, _, l1⟩ := (ha.ext E0).at AD hx
  obtain ⟨a2, c2, a4, c4, rfl, h2, h3⟩ := D.node.1 D1
  have p0 := A1 0 _ rfl
  have p1 := A1 1 _ rfl
  simp only [BN, Nat.add_zero] at p0 p1
  have y1 := Aq X1
  have y2 := Aq X2
  have y3 := Aq X3
  have y5 := Aq X5
  have zE0 := E0.size
  refine Af.post fun Q hQ => ?_
  simp (disch := first | exact xD | fail) [-bind_some, qs, -Aa, -Ab, e1, e3, e4, e5, e6, X1, X3, X5, Da, p1]
  refine Af.bind (O.app (L := OV) (mx := 2932031007317) Mu Mv rfl AD (ho.Aj (by intro b hS hb; (try dsimp only at hS); (try simp only [In] at hS hb); first | rfl | (simp (disch := first | exact xF | fail) only [qk]; done))) (O.GC (v := x) (o5.Aj (by intro b hS hb; (try dsimp only at hS); (try simp only [In] at hS hb); first | rfl | (simp (disch := first | exact xF | fail) only [qk]; done))) (o6.Aj (by intro b hS hb; (try dsimp only at hS); (try simp only [In] at hS hb); first | rfl | (simp (disch := first | exact xF | fail) only [qk]; done))) xI) ?_ At.new Ad AD AD) ?_
  ·intro b hb h1 h2
   simp only [In, World.size_alloc] at *
   omega
  rintro ⟨_, w3⟩ ⟨a7, c7, rfl, o7, M3⟩
  have zM3 := M3.size
  try simp only [qz] at zM3
  try dsimp only at o7 M3
  have zM3 := M3.size
  simp only [World.size_alloc] at zM3
  rw [htk, ← IG hx] at o7
  rw [htk]
  have Y1 : hp w3 g1 = hp w g1 := (M3.Ai g1 xN xN).trans (by first | assumption | rfl | (simp (disch := first | exact xD | fail) [-bind_some, qs, X1]; done))
  have Y2 : hp w3 g2 = hp w g2 := (M3.Ai g2 xN xN).trans (by first | assumption | rfl | (simp (disch := first | exact xD | fail) [-bind_some, qs, X2]; done))
  have Y3 : hp w3 g3 = hp w g3 := (M3.Ai g3 xN xN).trans (by first | assumption | rfl | (simp (disch := first | exact xD | fail) [-bind_some, qs, X3]; done))
  simp (disch := first | exact xD | fail) [-bind_some, -Aa, -Ab, qm, X3, Y3]
  have E3 : Ext w0 w3 := Mod.after (E0.tr xE) M3 xI
  have zE3 := E3.size
  try simp only [qz] at zE3
  refine Af.mono (nx _ _ a7 c7 sv xA xA xA xA (by first | assumption | rfl | (simp (disch := first | exact xD | fail) [-bind_some, qs, -Aa, -Ab, Y1, X1]; done)) (by first | assumption | rfl | (simp (disch := first | exact xD | fail) [-bind_some, qs, -Aa, -Ab, Y2, X2]; done)) (by first | assumption | rfl | (simp (disch := first | exact xD | fail) [-bind_some, -Aa, -Ab, Y3, X3]; done)) xE (((o7.wide (S' := fun b => In w0.heap.size w3.heap.size b ∧ b ≠ g1 ∧ b ≠ g2 ∧ b ≠ g3) ?_).Aj (by intro b hS hb; (try dsimp only at hS); (try simp only [In] at hS hb); first | rfl | (simp (disch := first | exact xF | fail) only [qk]; done))).wide ?_)) hQ
  ·intro b h1 h2
   simp only [In, World.size_alloc] at *
   omega
  ·intro b h1 h2
   simp only [In, World.size_alloc, size_setRow] at *
   omega
 | succ d ih =>
  intro j e w a3 a5 a6 c3 c5 c6 sv hd e1 e2 e3 e4 e5 e6 X1 X2 X3 X5 E0 ho o5 o6
  have zE0 := E0.size
  try simp only [qz] at zE0
  rw [Gn]
  have hlj : j < x.wait.length := by omega
  obtain ⟨v, hv, _⟩ := An hlj
  obtain ⟨b1, o1, cs1, rfl, A1, D1, _, l1⟩ := (ha.ext E0).at AD hx
  obtain ⟨a2, c2, a4, c4, rfl, h2, h3⟩ := D.node.1 D1
  have p0 := A1 0 _ rfl
  have p1 := A1 1 _ rfl
  simp only [BN, Nat.add_zero] at p0 p1
  have hn3 := h3.n
  obtain ⟨b2, o2, cs2, rfl, A2, D2, _, l2⟩ := h3.at AD hv
  have D2' := D2
  obtain ⟨av, cv, rfl, hq1, ht1⟩ := D.Cq.1 D2
  have q0 := A2 0 _ rfl
  have q1 := A2 1 _ rfl
  have q2 := A2 2 _ rfl
  have q3 := A2 3 _ rfl
  have q4 := A2 4 _ rfl
  have q5 := A2 5 _ rfl
  simp only [Co, Nat.add_zero] at q0 q1 q2 q3 q4 q5
  have htj : (x.wait.take j).length = j := by rw [List.length_take]; omega
  have y1 := Aq X1
  have y2 := Aq X2
  have y3 := Aq X3
  have y5 := Aq X5
  have zE0 := E0.size
  refine Af.post fun Q hQ => ?_
  simp (disch := first | exact xD | fail) [-bind_some, qs, -Aa, -Ab, e1, e4, e5, e6, X1, X5, Da, Ck, show (j : Int) < x.wait.length by omega, p1, q0, q1, q2, q3, q4, q5]
  refine Af.bind (Bf (D2'.ext xE)) ?_
  rintro ⟨_, w1⟩ ⟨ds, rfl, o8, E1⟩
  try dsimp only at ds o8 E1
  have zE1 := E1.size
  try simp only [qz] at zE1
  have zo := O.Cq.1 o8
  obtain ⟨a8, c8, rfl, _, _⟩ := zo
  simp (disch := first | exact xD | fail) [-bind_some, qs, -Aa, -Ab, X5, E1.Ai]
  refine Af.bind (O.app (L := Cu) (mx := 1954687338211) DK D8 rfl AD (o6.Aj (by intro b hS hb; (try dsimp only at hS); (try simp only [In] at hS hb); first | rfl | (simp (disch := first | exact xF | fail) only [E1.Ai, qk]; done))) (o8.Aj (by intro b hS hb; (try dsimp only at hS); (try simp only [In, qz] at hS hb); first | rfl | (simp (disch := first | exact xF | fail) only [qk]; done))) ?_ At.new Ad AD AD) ?_
  ·intro b hb h1 h2
   simp only [In, World.size_alloc, Ak] at *
   omega
  rintro ⟨_, w3⟩ ⟨a7, c7, rfl, o7, M3⟩
  have zM3 := M3.size
  try simp only [qz] at zM3
  try dsimp only at o7 M3
  have zM3 := M3.size
  simp only [World.size_alloc] at zM3
  rw [htj, ← IG hv] at o7
  rw [htj]
  have Y1 : hp w3 g1 = hp w g1 := (M3.Ai g1 xN xN).trans (by first | assumption | rfl | (simp (disch := first | exact xD | fail) [-bind_some, qs, X1, E1.Ai]; done))
  have Y2 : hp w3 g2 = hp w g2 := (M3.Ai g2 xN xN).trans (by first | assumption | rfl | (simp (disch := first | exact xD | fail) [-bind_some, qs, X2, E1.Ai]; done))
  have Y3 : hp w3 g3 = hp w g3 := (M3.Ai g3 xN xN).trans (by first | assumption | rfl | (simp (disch := first | exact xD | fail) [-bind_some, qs, X3, E1.Ai]; done))
  have Y5 : hp w3 g5 = hp w g5 := (M3.Ai g5 xN xN).trans (by first | assumption | rfl | (simp (disch := first | exact xD | fail) [-bind_some, qs, X5, E1.Ai]; done))
  simp (disch := first | exact xD | fail) [-bind_some, -Aa, -Ab, qm, X5, Y5]
  have E3 : Ext w0 w3 := Mod.after (E0.tr xE) M3 xI
  have zE3 := E3.size
  try simp only [qz] at zE3
  refine Af.mono (ih (j + 1) _ _ a3 a5 a7 c3 c5 c7 sv Ad xA xA xA xA xA xA (by first | assumption | rfl | (simp (disch := first | exact xD | fail) [-bind_some, qs, -Aa, -Ab, Y1, X1]; done)) (by first | assumption | rfl | (simp (disch := first | exact xD | fail) [-bind_some, qs, -Aa, -Ab, Y2, X2]; done)) (by first | assumption | rfl | (simp (disch := first | exact xD | fail) [-bind_some, qs, -Aa, -Ab, Y3, X3]; done)) (by first | assumption | rfl | (simp (disch := first | exact xD | fail) [-bind_some, -Aa, -Ab, Y5, X5]; done)) xE (ho.Aj ?_) (o5.Aj ?_) (((o7.wide (S' := In (g5 + 1) w3.heap.size) ?_).Aj (by intro b hS hb; (try dsimp only at hS); (try simp only [In] at hS hb); first | rfl | (simp (disch := first | exact xF | fail) only [qk]; done))).wide ?_)) hQ
  ·intro b hS hb
   simp only [In] at hS
   exact (show hp _ b = hp w3 b from (by first | assumption | rfl | (simp (disch := first | exact xD | fail) [-bind_some, qs, E1.Ai, M3.Ai]; done))).trans ((M3.Ai b xN xN).trans (by first | assumption | rfl | (simp (disch := first | exact xD | fail) [-bind_some, qs, E1.Ai]; done)))
  ·intro b hS hb
   simp only [In] at hS
   exact (show hp _ b = hp w3 b from (by first | assumption | rfl | (simp (disch := first | exact xD | fail) [-bind_some, qs, E1.Ai, M3.Ai]; done))).trans ((M3.Ai b xN xN).trans (by first | assumption | rfl | (simp (disch := first | exact xD | fail) [-bind_some, qs, E1.Ai]; done)))
  ·intro b h1 h2
   simp only [In, World.size_alloc, Ak] at *
   omega
  ·intro b h1 h2
   simp only [In, World.size_alloc, size_setRow, Ak] at *
   omega
theorem Nh {a : Option Addr} {c g1 g2 g3 : Nat} {S : Nat → Prop} {xs : List CNode} {w0 : World} (h12 : g1 < g2) (h32 : g2 < g3) (h02 : w0.heap.size ≤ g1) (ha : D Bb S w0 [.slice a xs.length c] xs) :
  ∀ (d k : Nat) (e : Env) (w : World) (a3 : Option Addr) (c3 : Nat) (sv : Value), k + d = xs.length → e 1 = pt g1 0 → e 2 = pt g2 0 → e 3 = pt g3 0 → e 4 = i64 k → hp w g1 = some (.cells #[.slice a xs.length c] 98 (0, 0)) → hp w g2 = some (.cells #[sv] 98 (0, 0)) → hp w g3 = some (.cells #[.slice a3 k c3] 98 (0, 0)) →
  Ext w0 w → O Bb (fun b => In w0.heap.size w.heap.size b ∧ b ≠ g1 ∧ b ≠ g2 ∧ b ≠ g3) w [.slice a3 k c3] (xs.take k) →
  Af (CP e w) fun r => ∃ a' c', r.1 = .agg #[.slice a' xs.length c'] ∧ O Bb (In w0.heap.size r.2.heap.size) r.2 [.slice a' xs.length c'] xs ∧ Ext w0 r.2 := by
 have hn := ha.n
 intro d
 induction d with
 | zero =>
  intro k e w a3 c3 sv hd e1 e2 e3 e4 X1 X2 X3 E0 ho
  have zE0 := E0.size
  try simp only [qz] at zE0
  rw [Gm]
  obtain rfl : k = xs.length := by omega
  rw [List.take_length] at ho
  have y1 := Aq X1
  have y2 := Aq X2
  have y3 := Aq X3
  refine Af.post fun Q hQ => ?_
  simp (disch := first | exact xD | fail) [-bind_some, -Aa, -Ab, qm, e1, e2, e3, e4, X1, X2, X3]
  exact hQ _ ⟨_, _, rfl, (ho.Aj (by intro b hS hb; (try dsimp only at hS); (try simp only [In] at hS hb); first | rfl | (simp (disch := first | exact xF | fail) only [qk]; done))).wide xV, xE⟩
 | succ d ih =>
  intro k e w a3 c3 sv hd e1 e2 e3 e4 X1 X2 X3 E0 ho
  have zE0 := E0.size
  try simp only [qz] at zE0
  rw [Gm]
  have hlt : k < xs.length := by omega
  obtain ⟨x, hx, _⟩ := An hlt
  have l2 := fun (g5 B : Nat) (h3B : g3 < B) (hB5 : B ≤ g5) => Nf (c := c) h12 h32 h02 h3B hB5 ha hlt hx (fun e w a3 c3 sv e1 e2 e3 e4 X1 X2 X3 E0 ho => ih (k + 1) e w a3 c3 sv Ad e1 e2 e3 e4 X1 X2 X3 E0 ho)
  obtain ⟨b1, o1, cs1, rfl, A1, D1, _, l1⟩ := (ha.ext E0).at AD hx
  obtain ⟨a2, c2, a4, c4, rfl, h2, h3⟩ := D.node.1 D1
  have p0 := A1 0 _ rfl
  have p1 := A1 1 _ rfl
  simp only [BN, Nat.add_zero] at p0 p1
  have y1 := Aq X1
  have y2 := Aq X2
  have y3 := Aq X3
  have zE0 := E0.size
  refine Af.post fun Q hQ => ?_
  simp (disch := first | exact xD | fail) [-bind_some, qs, -Aa, -Ab, e1, e4, X1, hlt, Da, p0]
  refine Af.bind (FT (h2.ext xE)) ?_
  rintro ⟨_, w1⟩ ⟨a5, c5, rfl, o5, E1⟩
  try dsimp only at a5 c5 o5 E1
  have zE1 := E1.size
  try simp only [qz] at zE1
  simp (disch := first | exact xD | fail) [-bind_some, -Aa, -Ab, qm]
  refine Af.mono (l2 w1.heap.size w.heap.size Ad Ad x.wait.length 0 _ _ a3 a5 none c3 c5 0 sv Ad xA xA xA xA xA xA (by first | assumption | rfl | (simp (disch := first | exact xD | fail) [-bind_some, qs, -Aa, -Ab, X1, E1.Ai]; done)) (by first | assumption | rfl | (simp (disch := first | exact xD | fail) [-bind_some, qs, -Aa, -Ab, X2, E1.Ai]; done)) (by first | assumption | rfl | (simp (disch := first | exact xD | fail) [-bind_some, qs, -Aa, -Ab, X3, E1.Ai]; done)) (by first | assumption | rfl | (simp (disch := first | exact xD | fail) [-bind_some, qs, -Aa, -Ab]; done)) xE ((ho.Aj (by intro b hS hb; (try dsimp only at hS); (try simp only [In] at hS hb); first | rfl | (simp (disch := first | exact xF | fail) only [E1.Ai, qk]; done))).wide xV) (o5.Aj (by intro b hS hb; (try dsimp only at hS); (try simp only [In] at hS hb); first | rfl | (simp (disch := first | exact xF | fail) only [qk]; done))) ?_) hQ
  exact O.nil
theorem Jc {a : Option Addr} {n c : Nat} {S : Nat → Prop} {xs : List CNode} {w : World} (ha : D Bb S w [.slice a n c] xs) :
  Af (EV P 86 #[.agg #[.slice a n c]] w) fun r => ∃ a' c', r.1 = .agg #[.slice a' xs.length c'] ∧ O Bb (In w.heap.size r.2.heap.size) r.2 [.slice a' xs.length c'] xs ∧ Ext w r.2 := by
 obtain ⟨rfl, hm, _⟩ := ha.n
 refine Af.post fun Q hQ => ?_
 refine Bw (MH _ _) ?_
 simp (disch := first | exact xD | fail) [-bind_some, qs, -Aa, -Ab, qm]
 refine Af.mono (Nh (g1 := w.heap.size) (g2 := w.heap.size + 1) (g3 := w.heap.size + 1 + 1) (w0 := w) Ad Ad Ad ha xs.length 0 _ _ none 0 (.slice none 0 0) Ad rfl rfl rfl rfl (by first | assumption | rfl | (simp (disch := first | exact xD | fail) [-bind_some, qs, -Aa, -Ab]; done)) (by first | assumption | rfl | (simp (disch := first | exact xD | fail) [-bind_some, qs, -Aa, -Ab]; done)) (by first | assumption | rfl | (simp (disch := first | exact xD | fail) [-bind_some, qs, -Aa, -Ab]; done)) xE O.nil) ?_
 rintro r ⟨a4, c4, h1, o4, E4⟩
 have zE4 := E4.size
 try simp only [qz] at zE4
 exact hQ _ ⟨_, _, h1, o4, E4⟩
def Fs (ns : List CNode) : List CNode := ns ++ [⟨KV ns, []⟩]
theorem Ox {a : Option Addr} {n c : Nat} {S : Nat → Prop} {ns : List CNode} {w : World} (h0 : 0 < ns.length) (h4 : ns.length < 4) (ho : O Bb S w [.slice a n c] ns) :
  Af (EV P 118 #[.agg #[.slice a n c]] w) fun r => ∃ a' c', r.1 = .agg #[.slice a' (Fs ns).length c'] ∧ O Bb (fun b => S b ∨ In w.heap.size r.2.heap.size b) r.2 [.slice a' (Fs ns).length c'] (Fs ns) ∧ Mod S w r.2 := by
 obtain ⟨rfl, hm, _⟩ := ho.n
 have ho := ho.wide (S' := fun b => S b ∧ b < w.heap.size) (fun b h1 h2 => ⟨h1, h2⟩)
 obtain ⟨x, hx, _⟩ := An (l := ns) (k := ns.length - 1) Ad
 have hj : Fs ns = ns ++ [⟨x.store, []⟩] := by rw [Fs, KV, hx]
 have hjl : (Fs ns).length = ns.length + 1 := by rw [hj, List.length_append]; rfl
 obtain ⟨b1, o1, cs1, ha1, A1, D1, _, l1⟩ := ho.d.at AD hx
 obtain ⟨a2, c2, a4, c4, rfl, h2, h3⟩ := D.node.1 D1
 subst ha1
 have p0 := A1 0 _ rfl
 have p1 := A1 1 _ rfl
 simp only [BN, Nat.add_zero] at p0 p1
 refine Af.post fun Q hQ => ?_
 refine Bw (MP _ _) ?_
 simp (disch := first | exact xD | fail) [-bind_some, qs, -Aa, -Ab, Da, show (ns.length : Int) - 1 = ((ns.length - 1 : Nat) : Int) by omega, p0]
 refine Af.bind (FT (h2.ext xE)) ?_
 rintro ⟨_, w2⟩ ⟨a2, c2, rfl, o2, E2⟩
 try dsimp only at a2 c2 o2 E2
 have zE2 := E2.size
 try simp only [qz] at zE2
 simp (disch := first | exact xD | fail) [-bind_some, qs, -Aa, -Ab, E2.Ai]
 refine Af.bind (O.app (L := OV) (x := ⟨x.store, []⟩) (mx := 2932031007317) Mu Mv rfl AD (ho.Aj (by intro b hS hb; (try dsimp only at hS); (try simp only [In, qz] at hS hb); first | rfl | (simp (disch := first | exact xF | fail) only [E2.Ai, qk]; done))) (O.GC (v := ⟨x.store, []⟩) (S2 := fun _ => False) (o2.Aj (by intro b hS hb; (try dsimp only at hS); (try simp only [In, qz] at hS hb); first | rfl | (simp (disch := first | exact xF | fail) only [qk]; done))) O.nil (fun _ _ _ h => h)) ?_ At.new Ad AD AD) ?_
 ·intro b hb h1 h2
  simp only [In, World.size_alloc, Ak, or_false] at *
  omega
 rintro ⟨_, w3⟩ ⟨a3, c3, rfl, o3, M3⟩
 have zM3 := M3.size
 try simp only [qz] at zM3
 try dsimp only at o3 M3
 have zM3 := M3.size
 simp only [World.size_alloc] at zM3
 have M4 : Mod S w w3 := Mod.Bd (Mod.of xE _) M3 (fun x _ h => h.1)
 have zM4 := M4.size
 try simp only [qz] at zM4
 have Y1 : hp w3 w.heap.size = some (.cells #[.slice (some ⟨b1, o1, none⟩) ns.length c] 98 (0, 0)) := (M3.Ai w.heap.size xN (fun h => by omega)).trans (by first | assumption | rfl | (simp (disch := first | exact xD | fail) [-bind_some, qs, -Aa, -Ab, E2.Ai]; done))
 have Y2 : hp w3 (w.heap.size + 1) = some (.cells #[.slice none 0 0] 98 (0, 0)) := (M3.Ai (w.heap.size + 1) xN (fun h => by omega)).trans (by first | assumption | rfl | (simp (disch := first | exact xD | fail) [-bind_some, qs, -Aa, -Ab, E2.Ai]; done))
 rw [hjl, hj] at hQ
 simp (disch := first | exact xD | fail) [-bind_some, qs, -Aa, -Ab, qm, Y1, Y2]
 refine hQ _ ⟨a3, c3, rfl, (o3.Aj ?_).wide ?_, (M4.AQ (.inl Ad) _).AQ (.inl Ad) _⟩
 ·intro b hS hb
  simp only [In, World.size_alloc, Ak, or_false] at *
  rw [Ac Ad, Ac Ad]
 ·intro b h1 h2
  simp only [In, World.size_alloc, size_setRow, Ak, or_false] at *
  rcases h1 with h | h | h
  ·exact .inl h.1
  ·exact .inr Ad
  ·exact .inr Ad
theorem FU (a b : Nat) : (a : Int).tmod (b : Int) = ((a % b : Nat) : Int) := by
 rw [Int.tmod_eq_emod_of_nonneg Ad]; rfl
theorem Ij (a b : Nat) : (a : Int).tdiv (b : Int) = ((a / b : Nat) : Int) := by
 rw [Int.tdiv_eq_ediv_of_nonneg Ad]; rfl
theorem Jz {w : World} {s : Value} {ns : List Int} (h : EI w s ns) {i : Nat} (hi : i < ns.length) : ∃ (b o c m : Nat), s = .slice (some ⟨b, o, none⟩) ns.length c ∧ AR (hp w b) (o + i) = some (.int .u8 (m : Int)) ∧ m ≤ 255 ∧ b < w.heap.size := by
 obtain ⟨a, c, h1, h2, h3, h4, h5⟩ := h
 rcases h5 with h5 | ⟨b, o, h5, h6⟩
 ·subst h5; simp at hi
 ·subst h5
  have hm := h4 ns[i] (List.getElem_mem hi)
  obtain ⟨m, hmm⟩ := Int.eq_ofNat_of_zero_le hm.1
  have hc := h6 i (.int .u8 (m : Int)) (by rw [List.getElem?_map, List.getElem?_eq_getElem hi, hmm]; rfl)
  refine ⟨b, o, c, m, h1, hc, by omega, ?_⟩
  rcases Nat.lt_or_ge b w.heap.size with h' | h'
  ·exact h'
  ·rw [hp, Array.getElem?_eq_none h'] at hc; simp [AR] at hc
theorem RF {s : Value} {ns : List Int} (h : ns.length ≠ 0) : G4 s ns = (AF s).toList := by
 cases ns with
 | nil => exact absurd rfl h
 | cons n ns => rfl
theorem J8 {b p t : Nat} {k : Nat} (hk : 1 ≤ k) (hk2 : k ≤ 1000000) (hp0 : p ≤ 1000000000000) {s : Value} {ns : List Int} {w : World} (hr : Ze t w b s p) (hs : EI w s ns) (hn : ns.length ≤ 1000000000000) (hb : ∀ x ∈ G4 s ns, x ≠ b) :
  Af (EV P 25 #[pt b 0, i64 k] w) fun r => ∃ m : Nat, r.1 = i64 m ∧ m < k ∧ Ze t r.2 b s ((p + 1 : Nat) : Int) ∧ But w r.2 (some b) := by
 have hs' := hs
 obtain ⟨a, c, rfl, hc, hcm, _, _⟩ := hs
 unfold Ze at *
 have hwr : ∀ x : Int, 0 ≤ x → x ≤ 9000000000000000000 → IntKind.i64.wrap x = x := fun x h0 h1 => HS Ad Ad
 have b1 : But w (w.setRow b #[.slice a ns.length c, i64 ((p : Int) + 1)]) (some b) := But.set w b _
 have hx1 : hp (w.setRow b #[.slice a ns.length c, i64 ((p : Int) + 1)]) b = some (.cells #[.slice a ns.length c, i64 (((p + 1 : Nat)) : Int)] t (0, 0)) := by rw [EG, hr]; rfl
 refine Bw (Jo _ _ _) ?_
 have kk : ¬ (k : Int) < 1 := by omega
 have kn : (k : Int) ≠ 0 := by omega
 by_cases h0 : ns.length = 0
 ·have hz : ((ns.length : Int) == 0) = true := by simp only [beq_iff_eq]; omega
  simp (disch := first | exact Fg | fail) [-bind_some, Nq, hr, hwr, hz, kk]
  exact ⟨0, rfl, by omega, b1⟩
 have hz : ((ns.length : Int) == 0) = false := by simp only [beq_eq_false_iff_ne, ne_eq]; omega
 by_cases h1 : p < ns.length
 ·obtain ⟨d, o, c', m, hs, hcell, hm, hd⟩ := Jz hs' h1
  have hdb : d ≠ b := hb d (by rw [RF h0]; simp [hs, AF])
  simp only [Value.slice.injEq, true_and] at hs
  obtain ⟨rfl, rfl⟩ := hs
  have hm1 : (m : Int).tmod (k : Int) = ((m % k : Nat) : Int) := FU m k
  simp (disch := first | exact Fg | fail) [-bind_some, Ac, Nq, hr, hwr, hz, h1, kk, HM, hcell, Ac, KZ, hm1]
  exact ⟨m % k, rfl, Nat.mod_lt _ Ad, b1⟩
 have g1 : p % ns.length < ns.length := Nat.mod_lt _ Ad
 have g2 : (p * 7 + 3) % ns.length < ns.length := Nat.mod_lt _ Ad
 obtain ⟨d, o, c', m1, hs, hcell1, hm1, hd⟩ := Jz hs' g1
 obtain ⟨d2, o2, c2, m2, hs2, hcell2, hm2, hd2⟩ := Jz hs' g2
 have hdb : d ≠ b := hb d (by rw [RF h0]; simp [hs, AF])
 have he := hs.symm.trans hs2
 simp only [Value.slice.injEq, Option.some.injEq, Addr.mk.injEq, true_and, and_true] at he hs
 obtain ⟨⟨rfl, rfl⟩, rfl⟩ := he
 obtain ⟨rfl, rfl⟩ := hs
 have t1 : (p : Int).tmod (ns.length : Int) = ((p % ns.length : Nat) : Int) := FU _ _
 have t2 : ((p : Int) * 7 + 3).tmod (ns.length : Int) = (((p * 7 + 3) % ns.length : Nat) : Int) := FU (p * 7 + 3) _
 have t3 : (p : Int).tdiv (ns.length : Int) = ((p / ns.length : Nat) : Int) := Ij _ _
 have t4 : p / ns.length ≤ p := Nat.div_le_self _ _
 generalize p % ns.length = q1 at *
 generalize (p * 7 + 3) % ns.length = q2 at *
 generalize p / ns.length = q3 at *
 have hn0 : (ns.length : Int) ≠ 0 := by omega
 simp (disch := first | exact Fg | fail) [-bind_some, Ac, Nq, hr, hwr, hz, h1, kk, HM, hcell1, hcell2, Ac, KZ, Re, t1, t2, t3]
 obtain ⟨X, hX⟩ : ∃ X : Nat, X = m1 * 131 + m2 * 1117 + p * 29 + q3 * 53 := ⟨_, rfl⟩
 have hXi : (m1 : Int) * 131 + m2 * 1117 + p * 29 + q3 * 53 = (X : Int) := by omega
 have hXd : (X : Int).tdiv 64 = ((X / 64 : Nat) : Int) := Ij X 64
 rw [hXi, hXd, hwr _ Ad Ad]
 have hxo := fun x y w => (WA (P := P) 3 x y (a := X) (b := X / 64) Ad Ad w).1
 rw [hxo]
 generalize (X ^^^ X / 64 : Nat) = Y
 have hY : (Y : Int).tmod (k : Int) = ((Y % k : Nat) : Int) := FU Y k
 simp (disch := first | exact Fg | fail) [-bind_some, KZ, hY]
 exact ⟨Y % k, rfl, Nat.mod_lt _ Ad, by simp (disch := first | exact Fg | fail) [-bind_some, hr], b1.tr (But.of (Cn _) _)⟩
def R (w : World) (B g p : Nat) : Prop := ∃ s ns, Ze 71 w g s p ∧ EI w s ns ∧ ns.length ≤ 1000000000000 ∧ (∀ x ∈ G4 s ns, x < B) ∧ B ≤ g
theorem R.lt {w : World} {B g p : Nat} (h : R w B g p) : B ≤ g ∧ g < w.heap.size := by
 obtain ⟨s, ns, h1, h2, h3, h4, h5⟩ := h
 exact ⟨h5, Aq h1⟩
theorem R.Aj {w w' : World} {B g p : Nat} (h : R w B g p) (k : ∀ b, b < B ∨ b = g → b < w.heap.size → hp w' b = hp w b) : R w' B g p := by
 obtain ⟨s, ns, h1, h2, h3, h4, h5⟩ := h
 refine ⟨s, ns, (k g (.inr rfl) (Aq h1)).trans h1, ?_, h3, h4, h5⟩
 obtain ⟨a, c, q1, q2, q3, q4, q5⟩ := h2
 refine ⟨a, c, q1, q2, q3, q4, ?_⟩
 cases ns with
 | nil => exact .inl rfl
 | cons n ns =>
  rcases q5 with q5 | ⟨d, o, q6, q7⟩
  ·cases q5
  ·subst q1; subst q6
   have hd := h4 d (by simp [G4, AF])
   exact .inr ⟨d, o, rfl, q7.same (k d (.inl hd) (At.lt (l := ns.map (Value.int .u8)) q7))⟩
theorem R.ext {w w' : World} {B g p : Nat} (h : R w B g p) (k : Ext w w') : R w' B g p := h.Aj fun b _ hb => k.Ai hb
theorem Al {B g p k : Nat} (hk : 1 ≤ k) (hk2 : k ≤ 1000000) (hp0 : p ≤ 1000000000000) {w : World} (hr : R w B g p) :
  Af (EV P 25 #[pt g 0, i64 k] w) fun r => ∃ m : Nat, r.1 = i64 m ∧ m < k ∧ R r.2 B g (p + 1) ∧ Mod (fun b => b = g) w r.2 := by
 obtain ⟨s, ns, h1, h2, h3, h4, h5⟩ := hr
 have hb : ∀ x ∈ G4 s ns, x ≠ g := fun x hx => by have := h4 x hx; omega
 refine Af.mono (J8 hk hk2 hp0 h1 h2 h3 hb) ?_
 rintro r ⟨m, e1, e2, e3, M⟩
 have M' : Mod (fun b => b = g) w r.2 := ⟨M.os, M.tape, M.output, M.size, fun b hb hne => M.Ai b hb (by simpa using fun h => hne h.symm)⟩
 have R0 : R w B g p := ⟨s, ns, h1, h2, h3, h4, h5⟩
 refine ⟨m, e1, e2, ⟨s, ns, e3, ?_, h3, h4, h5⟩, M'⟩
 obtain ⟨a, c, q1, q2, q3, q4, q5⟩ := h2
 refine ⟨a, c, q1, q2, q3, q4, ?_⟩
 cases ns with
 | nil => exact .inl rfl
 | cons n ns =>
  rcases q5 with q5 | ⟨d, o, q6, q7⟩
  ·cases q5
  ·subst q1; subst q6
   have hd := h4 d (by simp [G4, AF])
   exact .inr ⟨d, o, rfl, q7.same (M'.Ai d (At.lt (l := ns.map (Value.int .u8)) q7) Ad)⟩
theorem Ni {s : Value} {ns : List Int} {w : World} (hs : EI w s ns) (hn : ns.length ≤ 1000000000000) :
  Af (EV P 13 #[s] w) fun r => ∃ g, r.1 = pt g 0 ∧ R r.2 w.heap.size g 0 ∧ Ext w r.2 := by
 have hlt : ∀ x ∈ G4 s ns, x < w.heap.size := by
  intro x hx
  obtain ⟨a, c, q1, q2, q3, q4, q5⟩ := hs
  cases ns with
  | nil => simp [G4] at hx
  | cons n ns =>
   rcases q5 with q5 | ⟨d, o, q6, q7⟩
   ·cases q5
   ·subst q1; subst q6
    simp only [G4, AF, Option.toList_some, List.mem_singleton] at hx
    rw [hx]
    exact At.lt (l := ns.map (Value.int .u8)) q7
 have fin : ∀ (e : Env) (s : Value) (ns : List Int), e 0 = s → EI w s ns → ns.length ≤ 1000000000000 → (∀ x ∈ G4 s ns, x < w.heap.size) → Af (Du e w) fun r => ∃ g, r.1 = pt g 0 ∧ R r.2 w.heap.size g 0 ∧ Ext w r.2 := by
  intro e s ns e0 hs hn hlt
  have hs' := hs
  obtain ⟨a, c, rfl, q2, q3, q4, q5⟩ := hs
  refine Af.post fun Q hQ => ?_
  rw [Jn]
  simp (disch := first | exact xD | fail) [-bind_some, -Aa, -Ab, e0]
  refine hQ _ ⟨w.heap.size, rfl, ⟨_, ns, ?_, hs'.mono (Ext.Aj xE), hn, hlt, by omega⟩, xE⟩
  show hp _ _ = _
  exact (by first | assumption | rfl | (simp (disch := first | exact xD | fail) [-bind_some, qs, -Aa, -Ab]; done))
 have hs' := hs
 obtain ⟨a, c, rfl, q2, q3, q4, q5⟩ := hs
 refine Af.post fun Q hQ => ?_
 refine Bw (Lp _ _) ?_
 by_cases hl : 2000 < ns.length
 ·have hts : EI w (.slice a 2000 c) (ns.take 2000) := by
   refine ⟨a, c, by rw [List.length_take]; congr 1; omega, by rw [List.length_take]; omega, q3, fun n hn => q4 n (List.mem_of_mem_take hn), ?_⟩
   rcases q5 with q5 | ⟨d, o, q6, q7⟩
   ·subst q5; simp at hl
   ·refine .inr ⟨d, o, q6, fun j v hv => q7 j v ?_⟩
    rw [List.map_take, List.getElem?_take] at hv
    split at hv
    ·exact hv
    ·cases hv
  simp (disch := first | exact xD | fail) [-bind_some, -Aa, -Ab, show (2000 : Int) < ns.length by omega, Ua (P := P) Ts]
  refine Af.mono (fin _ (.slice a 2000 c) (ns.take 2000) rfl hts (by rw [List.length_take]; omega) ?_) hQ
  intro x hx
  refine hlt x ?_
  cases ns with
  | nil => simp at hl
  | cons n ns =>
   cases a with
   | none => simp [G4, AF] at hx
   | some _ => simpa [G4, AF] using hx
 ·simp (disch := first | exact xD | fail) [-bind_some, -Aa, -Ab, show ¬ (2000 : Int) < ns.length by omega]
  exact Af.mono (fin _ _ ns rfl hs' hn hlt) hQ
theorem BG {B g p b k c : Nat} {ints : List Int} (hk : 1 ≤ k) (hk2 : k ≤ 1000000) (hp0 : p ≤ 1000000000000) {w : World} (hl : ints.length = k) (hA : At w b 0 (ints.map fun n => i64 n)) (hbg : b ≠ g) (hr : R w B g p) :
  Af (EV P 54 #[pt g 0, .slice (some ⟨b, 0, none⟩) k c] w) fun r => ∃ n ∈ ints, r.1 = i64 n ∧ R r.2 B g (p + 1) ∧ Mod (fun b => b = g) w r.2 := by
 refine Af.post fun Q hQ => ?_
 refine Bw (JM _ _ _) ?_
 simp (disch := first | exact xD | fail) [-bind_some, -Aa, -Ab]
 refine Af.bind (Al hk hk2 hp0 hr) ?_
 rintro ⟨_, w1⟩ ⟨m, rfl, hm, R1, M1⟩
 have zM1 := M1.size
 try simp only [] at zM1
 try dsimp only at R1 M1
 obtain ⟨n, hn, _⟩ := An (l := ints) (k := m) Ad
 have hA1 := hA m (i64 n) (by rw [List.getElem?_map, hn]; rfl)
 have hbl : b < w.heap.size := by
  rcases Nat.lt_or_ge b w.heap.size with h | h
  ·exact h
  ·rw [hp, Array.getElem?_eq_none h] at hA1; simp [AR] at hA1
 rw [Nat.zero_add] at hA1
 simp (disch := first | exact xD | fail) [-bind_some, -Aa, -Ab, XK, hA1, M1.Ai]
 exact hQ _ ⟨n, List.mem_of_getElem? hn, rfl, R1, M1⟩
def addNode (n : CNode) (v : Ver) (last : Bool) : CNode := ⟨n.store.set v.key.toNat v, if last then n.wait else n.wait ++ [v]⟩
def Hm (ns : List CNode) (i : Nat) (v : Ver) : List CNode := match ns[i]? with
 | some n => (match n.store[v.key.toNat]? with
  | some u => if BF u.tag v.tag then ns.set i (addNode n v (decide (ns.length ≤ i + 1))) else ns
  | none => ns)
 | none => ns
theorem J9 {a : Option Addr} {n c i : Nat} {S S1 : Nat → Prop} {ns : List CNode} {cs : List Value} {v : Ver} {x : CNode} {w : World} (ho : O Bb S w [.slice a n c] ns) (hv : D Cu S1 w cs v) (hd : ∀ b, b < w.heap.size → S1 b → ¬ S b)
  (hx : ns[i]? = some x) (h0 : 0 ≤ v.key) (h1 : v.key.toNat < x.store.length) (h6 : x.wait.length ≤ 1000000) (h4 : ns.length ≤ 1000000) :
  Af (EV P 138 #[.agg #[.slice a n c], i64 i, .agg cs.toArray] w) fun r => r.1 = .agg #[.slice a ns.length c] ∧ O Bb (fun b => S b ∨ In w.heap.size r.2.heap.size b) r.2 [.slice a ns.length c] (Hm ns i v) ∧ Mod S w r.2 := by
 obtain ⟨rfl, hm, _⟩ := ho.n
 have ho' := ho
 obtain ⟨av, cv, rfl, hv1, hv2⟩ := D.Cq.1 hv
 obtain ⟨u, hu, _⟩ := An h1
 have hlt : i < ns.length := (List.getElem?_eq_some_iff.1 hx).1
 obtain ⟨g, cur, ds, S2, rfl, hSg, hgl, hg, hle, hx1, hS2, put⟩ := ho.row AD hx
 obtain ⟨a2, c2, a3, c3, Ss, Sw, rfl, o2, o3, hSs, hSw⟩ := O.LM hx1
 simp only [BN] at hg hle put
 have o2' := o2
 obtain ⟨g2, cur2, ds2, S3, rfl, hSg2, hgl2, hg2, hle2, hx2, hS3, put2⟩ := o2.row AD hu
 obtain ⟨au, cu, rfl, hu1, hu2⟩ := O.Cq.1 hx2
 simp only [Co] at hg2 hle2 put2
 have hk : v.key < x.store.length := by omega
 have hne : g2 ≠ g := (hS2 g2 (hSs g2 hSg2).1).2.1
 refine Af.post fun Q hQ => ?_
 refine Bw (On _ _ _ _) ?_
 simp (disch := first | exact xD | fail) [-bind_some, qs, -Aa, -Ab, qm, Da, Ck, hg, hg2]
 refine Af.bind (AU u.tag v.tag _) ?_
 rintro ⟨_, w1⟩ ⟨rfl, E1⟩
 try dsimp only at E1
 have zE1 := E1.size
 try simp only [qz] at zE1
 cases hl : BF u.tag v.tag
 ·have e : Hm ns i v = ns := by rw [Hm, hx]; simp [hu, hl]
  rw [e] at hQ
  simp (disch := first | exact xD | fail) [-bind_some, qs, -Aa, -Ab, qm, E1.Ai]
  exact hQ _ ⟨rfl, (ho'.Aj (by intro b hS hb; (try dsimp only at hS); (try simp only [In, qz] at hS hb); first | rfl | (simp (disch := first | exact xF | fail) only [E1.Ai, qk]; done))).wide (fun b h _ => .inl h), xM⟩
 ·have e : Hm ns i v = ns.set i (addNode x v (decide (ns.length ≤ i + 1))) := by rw [Hm, hx]; simp [hu, hl]
  rw [e] at hQ
  have hst : Hq x.store v = x.store.set v.key.toNat v := NA hu hl
  simp (disch := first | exact xD | fail) [-bind_some, qs, -Aa, -Ab, qm, Da, hg, E1.Ai]
  refine Af.bind (PA (o2'.Aj (by intro b hS hb; (try dsimp only at hS); (try simp only [In, qz] at hS hb); first | rfl | (simp (disch := first | exact xF | fail) only [E1.Ai, qk]; done))) (hv.ext xE) h0 h1) ?_
  rintro ⟨_, w2⟩ ⟨rfl, o4, M2⟩
  have zM2 := M2.size
  try simp only [qz] at zM2
  try dsimp only at o4 M2
  have zM2 := M2.size
  simp only [Ak] at zM2
  have nS : ∀ b, w.heap.size ≤ b → ¬ Ss b := fun b hb h => by have := (hSs b h).2.2; omega
  have G2 : hp w2 g = hp w g := (M2.Ai g xN (fun h => (hS2 g (hSs g h).1).2.1 rfl)).trans (by first | assumption | rfl | (simp (disch := first | exact xD | fail) [-bind_some, qs, hg, E1.Ai]; done))
  have Y1 : hp w2 w.heap.size = some (.cells #[.slice (some ⟨g, 0, none⟩) ns.length c] 98 (0, 0)) := (M2.Ai w.heap.size xN (nS _ Ad)).trans (by first | assumption | rfl | (simp (disch := first | exact xD | fail) [-bind_some, qs, -Aa, -Ab, E1.Ai]; done))
  have Y2 : hp w2 (w.heap.size + 1) = some (.cells #[i64 v.key, i64 v.tag.t, i64 v.tag.p, .slice av v.past.length cv, .string v.text, .bool v.gone] 110 (0, 0)) := (M2.Ai (w.heap.size + 1) xN (nS _ Ad)).trans (by first | assumption | rfl | (simp (disch := first | exact xD | fail) [-bind_some, qs, -Aa, -Ab, E1.Ai]; done))
  have Y3 : hp w2 (w.heap.size + 1 + 1) = some (.cells #[.slice none 0 0] 98 (0, 0)) := (M2.Ai (w.heap.size + 1 + 1) xN (nS _ Ad)).trans (by first | assumption | rfl | (simp (disch := first | exact xD | fail) [-bind_some, qs, -Aa, -Ab, E1.Ai]; done))
  have hw : IntKind.i64.wrap ((ns.length : Int) - 1) = (ns.length : Int) - 1 := HS Ad Ad
  have MA : Mod S w w2 := Mod.Bd (Mod.of xE S) M2 (fun x _ h => (hS2 x (hSs x h).1).1)
  rw [hst] at o4
  by_cases hlast : i + 1 < ns.length
  ·simp (disch := first | exact xD | fail) [-bind_some, qs, -Aa, -Ab, qm, Da, Y1, Y2, G2, hg, hw, show (i : Int) < (ns.length : Int) - 1 by omega]
   have hg2' : hp (w2.setRow g (Bu cur (i * 2) [.slice (some ⟨g2, 0, none⟩) x.store.length c2, .slice a3 x.wait.length c3]).toArray) g = some (.cells (Bu cur (i * 2) [.slice (some ⟨g2, 0, none⟩) x.store.length c2, .slice a3 x.wait.length c3]).toArray 159 (0, 0)) := (by first | assumption | rfl | (simp (disch := first | exact xD | fail) [-bind_some, -Aa, -Ab, G2, hg]; done))
   have hvk : D Cu S1 (dw (w2.setRow g (Bu cur (i * 2) [.slice (some ⟨g2, 0, none⟩) x.store.length c2, .slice a3 x.wait.length c3]).toArray)) [i64 v.key, i64 v.tag.t, i64 v.tag.p, .slice av v.past.length cv, .string v.text, .bool v.gone] v := by
    refine hv.Aj fun b hb hbl => ?_
    have q1 : b ≠ g := fun h => hd b hbl hb (h ▸ hSg)
    have q2 : ¬ Ss b := fun h => hd b hbl hb (hS2 b (hSs b h).1).1
    rw [BW, Ac q1]
    exact (M2.Ai b xN q2).trans (by first | assumption | rfl | (simp (disch := first | exact xD | fail) [-bind_some, qs, E1.Ai]; done))
   refine Af.bind (Bf hvk) ?_
   rintro ⟨_, w3⟩ ⟨es, rfl, o5, E3⟩
   try dsimp only at es o5 E3
   have zE3 := E3.size
   try simp only [qz] at zE3
   have zds := O.Cq.1 o5
   obtain ⟨ae, ce, rfl, _, _⟩ := zds
   have zE3 := E3.size
   simp only [size_setRow, Ak] at zE3
   have hkw : ∀ b, b < w.heap.size → b ≠ g → ¬ Ss b → hp w3 b = hp w b := by
    intro b q1 q2 q3
    refine (E3.Ai (by simp only [size_setRow, Ak]; omega)).trans ?_
    rw [BW, Ac q2]
    exact (M2.Ai b xN q3).trans (by first | assumption | rfl | (simp (disch := first | exact xD | fail) [-bind_some, qs, E1.Ai]; done))
   have hkn : ∀ b, b ≠ g → b < w2.heap.size → hp w3 b = hp w2 b := by
    intro b q1 q2
    refine (E3.Ai (by simp only [size_setRow, Ak]; omega)).trans ?_
    rw [BW, Ac q1]
   have hg3 : hp w3 g = some (.cells (Bu cur (i * 2) [.slice (some ⟨g2, 0, none⟩) x.store.length c2, .slice a3 x.wait.length c3]).toArray 159 (0, 0)) := (E3.Ai (by simp only [size_setRow, Ak]; omega)).trans ((BW _ _).trans hg2')
   simp (disch := first | exact xD | fail) [-bind_some, qs, -Aa, -Ab, qm, Y1, hg2', E3.Ai]
   refine Af.bind (O.app (L := Cu) (S := fun b => Sw b) (mx := 1954687338211) (xs := x.wait) (x := v) DK D8 rfl AD (o3.Aj ?_) (o5.Aj (by intro b hS hb; (try dsimp only at hS); (try simp only [In, qz] at hS hb); first | rfl | (simp (disch := first | exact xF | fail) only [qk]; done))) ?_ At.new Ad AD AD) ?_
   ·intro b hS hb
    rw [Ag Ad]
    exact hkw b hb (hS2 b (hSw b hS).1).2.1 (hSw b hS).2.1
   ·intro b hb q1 q2
    have := (hSw b q1).2.2
    simp only [In, size_setRow, Ak] at q2
    omega
   rintro ⟨_, w4⟩ ⟨a7, c7, rfl, o7, M7⟩
   have zM7 := M7.size
   try simp only [qz] at zM7
   try dsimp only at o7 M7
   have zM7 := M7.size
   simp only [World.size_alloc] at zM7
   have nW : ∀ b, w.heap.size ≤ b → ¬ Sw b := fun b hb h => by have := (hSw b h).2.2; omega
   have hg4 : hp w4 g = some (.cells (Bu cur (i * 2) [.slice (some ⟨g2, 0, none⟩) x.store.length c2, .slice a3 x.wait.length c3]).toArray 159 (0, 0)) := (M7.Ai g xN (fun h => (hS2 g (hSw g h).1).2.1 rfl)).trans ((Ag Ad).trans hg3)
   have hk7 : ∀ b, b < w3.heap.size → ¬ Sw b → hp w4 b = hp w3 b := fun b q1 q2 => (M7.Ai b xN q2).trans (Ag q1)
   have Z1 : hp w4 w.heap.size = some (.cells #[.slice (some ⟨g, 0, none⟩) ns.length c] 98 (0, 0)) := (hk7 _ Ad (nW _ Ad)).trans ((hkn _ Ad Ad).trans Y1)
   have Z3 : hp w4 (w.heap.size + 1 + 1) = some (.cells #[.slice none 0 0] 98 (0, 0)) := (hk7 _ Ad (nW _ Ad)).trans ((hkn _ Ad Ad).trans Y3)
   simp (disch := first | exact xD | fail) [-bind_some, qs, -Aa, -Ab, qm, Z1, Z3, hg4, Hj]
   have hns : decide (ns.length ≤ i + 1) = false := by simp only [decide_eq_false_iff_not]; omega
   rw [hns] at hQ
   have MB : Mod S w w3 := ((MA.AQ (.inr hSg) _).Ud).ex E3
   have MC : Mod S w w4 := Mod.Bd (MB.al _) M7 (fun x _ h => (hS2 x (hSw x h).1).1)
   refine hQ _ ⟨rfl, (put _ _ (addNode x v false) _ (O.GC (v := addNode x v false) (o4.Aj ?_) (o7.Aj ?_) ?_) (by first | assumption | rfl | (simp (disch := first | exact xD | fail) [-bind_some, qs, -Aa, -Ab, hg4]; done)) ?_ ?_).wide ?_, (MC.AQ (.inr hSg) _).AQ (.inl Ad) _⟩
   ·intro b hS hb
    have q1 : b ≠ g ∧ b ≠ w.heap.size + 1 + 1 ∧ ¬ Sw b := by
     rcases hS with h | h
     ·have := hS2 b (hSs b h).1
      exact ⟨this.2.1, by omega, (hSs b h).2.1⟩
     ·simp only [In, Ak] at h
      exact ⟨by omega, by omega, nW b Ad⟩
    rw [Ac q1.2.1, Ac q1.1]
    exact (hk7 b Ad q1.2.2).trans (hkn b q1.1 hb)
   ·intro b hS hb
    have q1 : b ≠ g ∧ b ≠ w.heap.size + 1 + 1 := by
     rcases hS with h | h
     ·have := hS2 b (hSw b h).1
      exact ⟨this.2.1, by omega⟩
     ·simp only [In, World.size_alloc, size_setRow, Ak] at h
      omega
    rw [Ac q1.2, Ac q1.1]
   ·intro b hb h1 h2
    simp only [In, World.size_alloc, size_setRow, Ak] at h1 h2
    rcases h1 with h | h
    ·have := hSs b h
     rcases h2 with k | k
     ·exact this.2.1 k
     ·omega
    ·rcases h2 with k | k
     ·exact nW b Ad k
     ·omega
   ·intro b hb hS hne hn
    have q2 : ¬ Ss b := fun h => hn (hSs b h).1
    have q3 : ¬ Sw b := fun h => hn (hSw b h).1
    rw [Ac Ad, Ac hne]
    exact (hk7 b Ad q3).trans (hkw b hb hne q2)
   ·intro b hb h
    simp only [In, World.size_alloc, size_setRow, Ak] at h
    rcases h with (h | h) | (h | h)
    ·exact .inl (hSs b h).1
    ·exact .inr Ad
    ·exact .inl (hSw b h).1
    ·exact .inr Ad
   ·intro b h hb
    simp only [In, World.size_alloc, size_setRow, Ak] at h hb ⊢
    rcases h with h | (h | h) | (h | h)
    ·exact .inl h
    ·exact .inl (hS2 b (hSs b h).1).1
    ·exact .inr Ad
    ·exact .inl (hS2 b (hSw b h).1).1
    ·exact .inr Ad
  ·simp (disch := first | exact xD | fail) [-bind_some, qs, -Aa, -Ab, qm, Y1, Y3, G2, hg, hw, Hj, show ¬ (i : Int) < (ns.length : Int) - 1 by omega]
   have hns : decide (ns.length ≤ i + 1) = true := by simp only [decide_eq_true_eq]; omega
   rw [hns] at hQ
   refine hQ _ ⟨rfl, (put _ _ (addNode x v true) _ (O.GC (v := addNode x v true) (o4.Aj ?_) (o3.Aj ?_) ?_) (by first | assumption | rfl | (simp (disch := first | exact xD | fail) [-bind_some, qs, -Aa, -Ab, G2, hg]; done)) ?_ ?_).wide ?_, (MA.AQ (.inr hSg) _).AQ (.inl Ad) _⟩
   ·intro b hS hb
    have q1 : b ≠ g ∧ b ≠ w.heap.size + 1 + 1 := by
     rcases hS with h | h
     ·have := hS2 b (hSs b h).1
      exact ⟨this.2.1, by omega⟩
     ·simp only [In, Ak] at h
      omega
    rw [Ac q1.2, Ac q1.1]
   ·intro b hS hb
    have q1 := hSw b hS
    rw [Ac Ad, Ac (hS2 b q1.1).2.1]
    exact (M2.Ai b xN q1.2.1).trans (by first | assumption | rfl | (simp (disch := first | exact xD | fail) [-bind_some, qs, E1.Ai]; done))
   ·intro b hb h1 h2
    have := hSw b h2
    simp only [In, Ak] at h1
    rcases h1 with h | h
    ·exact this.2.1 h
    ·omega
   ·intro b hb hS hne hn
    have q2 : ¬ Ss b := fun h => hn (hSs b h).1
    rw [Ac Ad, Ac hne]
    exact (M2.Ai b xN q2).trans (by first | assumption | rfl | (simp (disch := first | exact xD | fail) [-bind_some, qs, E1.Ai]; done))
   ·intro b hb h
    simp only [In, Ak] at h
    rcases h with (h | h) | h
    ·exact .inl (hSs b h).1
    ·exact .inr Ad
    ·exact .inl (hSw b h).1
   ·intro b h hb
    simp only [In, size_setRow, Ak] at h hb ⊢
    rcases h with h | (h | h) | h
    ·exact .inl h
    ·exact .inl (hS2 b (hSs b h).1).1
    ·exact .inr Ad
    ·exact .inl (hS2 b (hSw b h).1).1
theorem Ka (ns : List CNode) (i : Nat) (v : Ver) : (Hm ns i v).length = ns.length := by
 unfold Hm
 split
 ·split
  ·split
   ·rw [List.length_set]
   ·rfl
  ·rfl
 ·rfl
def Gy (ns : List CNode) (i : Int) : Bool := (decide (0 ≤ i) && decide (i ≤ (ns.length : Int) - 2)) && (match ns[i.toNat]?, ns[i.toNat + 1]? with
 | some n, some m => decide (0 < n.wait.length) && decide (m.wait.length < 6)
 | _, _ => false)
theorem Oy {ns : List CNode} {i : Int} (h : Gy ns i = true) : ∃ (k : Nat) (n m : CNode) (v : Ver) (l : List Ver), i = k ∧ k + 1 < ns.length ∧ ns[k]? = some n ∧ ns[k + 1]? = some m ∧ n.wait = v :: l ∧ m.wait.length < 6 := by
 simp only [Gy, Bool.and_eq_true, decide_eq_true_eq] at h
 obtain ⟨⟨h1, h2⟩, h3⟩ := h
 obtain ⟨k, rfl⟩ := Int.eq_ofNat_of_zero_le h1
 simp only [Int.toNat_natCast] at h3
 obtain ⟨n, hn, _⟩ := An (l := ns) (k := k) Ad
 obtain ⟨m, hm, _⟩ := An (l := ns) (k := k + 1) Ad
 rw [hn, hm] at h3
 simp only [Bool.and_eq_true, decide_eq_true_eq] at h3
 cases hw : n.wait with
 | nil => rw [hw] at h3; simp at h3
 | cons v l => exact ⟨k, n, m, v, l, rfl, by omega, hn, hm, hw, h3.2⟩
theorem PC {a : Option Addr} {n c : Nat} {i : Int} {S : Nat → Prop} {ns : List CNode} (h4 : ns.length ≤ 1000000) {w : World} (ha : D Bb S w [.slice a n c] ns) :
  Af (EV P 113 #[.agg #[.slice a n c], i64 i] w) fun r => r.1 = .bool (Gy ns i) ∧ Ext w r.2 := by
 obtain ⟨rfl, hm, _⟩ := ha.n
 have hw : IntKind.i64.wrap ((ns.length : Int) - 2) = (ns.length : Int) - 2 := HS Ad Ad
 refine Af.post fun Q hQ => ?_
 refine Bw (Ok _ _ _) ?_
 simp (disch := first | exact xD | fail) [-bind_some, qs, -Aa, -Ab, hw]
 refine Af.bind (AN _ _ _ _) ?_
 rintro _ rfl
 cases hi : (decide (0 ≤ i) && decide (i ≤ (ns.length : Int) - 2))
 ·have h1 : Gy ns i = false := by simp only [Gy, hi, Bool.false_and]
  rw [h1] at hQ
  simp (disch := first | exact xD | fail) [-bind_some, -Aa, -Ab]
  exact hQ _ ⟨rfl, xE⟩
 have hi' := hi
 simp only [Bool.and_eq_true, decide_eq_true_eq] at hi'
 obtain ⟨k, rfl⟩ := Int.eq_ofNat_of_zero_le hi'.1
 obtain ⟨x, hx, _⟩ := An (l := ns) (k := k) Ad
 obtain ⟨y, hy, _⟩ := An (l := ns) (k := k + 1) Ad
 have h1 : Gy ns k = (decide (0 < x.wait.length) && decide (y.wait.length < 6)) := by simp only [Gy, hi, Int.toNat_natCast, hx, hy, Bool.true_and]
 rw [h1] at hQ
 obtain ⟨b1, o1, cs1, ha1, A1, D1, _, l1⟩ := ha.at AD hx
 obtain ⟨b2, o2, cs2, ha2, A2, D2, _, l2⟩ := ha.at AD hy
 subst ha1
 cases ha2
 obtain ⟨a2, c2, a3, c3, rfl, h2, h3⟩ := D.node.1 D1
 obtain ⟨a4, c4, a5, c5, rfl, h4, h5⟩ := D.node.1 D2
 have p0 := A1 0 _ rfl
 have p1 := A1 1 _ rfl
 simp only [BN, Nat.add_zero] at p0 p1
 have q0 := A2 0 _ rfl
 have q1 := A2 1 _ rfl
 simp only [BN, Nat.add_zero] at q0 q1
 cases hz : decide (0 < x.wait.length)
 ·rw [hz] at hQ
  simp only [decide_eq_false_iff_not] at hz
  simp (disch := first | exact xD | fail) [-bind_some, qs, -Aa, -Ab, Da, hz, p1]
  exact hQ _ ⟨rfl, xE⟩
 ·rw [hz] at hQ
  simp only [decide_eq_true_eq] at hz
  simp (disch := first | exact xD | fail) [-bind_some, qs, -Aa, -Ab, Da, hz, show ((k : Int) + 1).toNat = k + 1 by omega, p1, q1]
  refine hQ _ ⟨?_, xE⟩
  show Value.bool _ = Value.bool _
  congr 1
  rw [Bool.eq_iff_iff]
  simp
  omega
theorem I1 {a : Option Addr} {n c : Nat} {S : Nat → Prop} {v : Ver} {l : List Ver} {w : World} (ho : O AW S w [.slice a n c] (v :: l)) :
  ∃ g cs S1, a = some ⟨g, 0, none⟩ ∧ S g ∧ g < w.heap.size ∧ At w g 0 cs ∧ cs.length = 6 ∧ O Cu S1 w cs v ∧ (∀ b, S1 b → S b ∧ b ≠ g ∧ b < w.heap.size) ∧ (∃ S3 css, GB Cu S3 w css l ∧ At w g 6 css.flatten ∧ ∀ b, S3 b → S b ∧ ¬ S1 b ∧ b ≠ g ∧ b < w.heap.size) ∧
   True := by
 obtain ⟨rfl, hm, _⟩ := ho.n
 obtain ⟨css, hO, hE, hb, hmx⟩ := ho.un
 obtain ⟨hl, hn9, hO⟩ := hO
 simp only [List.length_cons] at hl hn9 hm hmx
 rcases hO with ⟨h1, h0⟩ | ⟨g, cap, cur, h1, _, hh, hc, hcm, hcs, ht⟩
 ·simp at h0
 cases h1
 simp only [List.length_cons] at hc hcs ht
 have hb' := hb g (by simp [AF])
 obtain ⟨cl1, cl2⟩ := hE.lay
 cases css with
 | nil => simp at cl1
 | cons cs css =>
 obtain ⟨S1, S2, L1, L2, k1, k2⟩ := hE.cut 1
 simp only [List.take_succ_cons, List.take_zero, List.drop_succ_cons, List.drop_zero] at L1 L2
 have hcs6 : cs.length = 6 := cl2 cs List.mem_cons_self
 rw [List.flatten_cons] at hl ht
 have hnl : css.flatten.length = l.length * 6 := by rw [List.length_append, hcs6, Co] at hl; omega
 rw [Co] at ht hcs
 have hA0 : At w g 0 (cs ++ css.flatten) := by
  intro j u hu
  rw [hh, Bt, ← CD, Nat.zero_add]
  rw [← ht, List.getElem?_take] at hu
  split at hu
  ·simpa using hu
  ·contradiction
 have hA1 : At w g 0 cs := fun j u hu => hA0 j u (by rw [List.getElem?_append_left (List.getElem?_eq_some_iff.1 hu).1]; exact hu)
 have hA2 : At w g 6 css.flatten := by
  intro j u hu
  have := hA0 (6 + j) u (by rw [List.getElem?_append_right Ad, hcs6, Nat.add_sub_cancel_left]; exact hu)
  rwa [Nat.zero_add] at this
 have ov : O Cu S1 w cs v := by
  obtain ⟨bss, q1, q2, q3⟩ := L1
  cases bss with
  | nil => exact q1.elim
  | cons bl bss =>
   cases bss with
   | nil => exact ⟨bl, q1.1, by simpa using q2, fun b hb => q3 b (by simpa using hb)⟩
   | cons _ _ => exact q1.2.elim
 refine ⟨g, cs, S1, rfl, hb'.1, hb'.2, hA1, hcs6, ov, fun b h => ⟨(k1 b h).1.1, fun e => (k1 b h).1.2.1 (by simp [AF, e]), (k1 b h).2.2⟩, ⟨S2, css, L2, hA2, fun b h => ⟨(k2 b h).1.1, (k2 b h).2.1, fun e => (k2 b h).1.2.1 (by simp [AF, e]), (k2 b h).2.2⟩⟩, trivial⟩
def HB (ns : List CNode) (k : Nat) : List CNode := match ns[k]? with
 | some n => (match n.wait with
  | v :: l => Hm (ns.set k ⟨n.store, l⟩) (k + 1) v
  | [] => ns)
 | none => ns
theorem KW {ns : List CNode} {k : Nat} {n : CNode} {v : Ver} {l : List Ver} (hn : ns[k]? = some n) (hw : n.wait = v :: l) : HB ns k = Hm (ns.set k ⟨n.store, l⟩) (k + 1) v := by
 rw [HB, hn]
 simp only [hw]
theorem Oz {a : Option Addr} {n c k : Nat} {S : Nat → Prop} {ns : List CNode} {x y : CNode} {v : Ver} {l : List Ver} {w : World} (hl4 : ns.length ≤ 1000) (hvk : 0 ≤ v.key ∧ v.key ≤ 3) (ys4 : y.store.length = 4) (hx : ns[k]? = some x) (hy : ns[k + 1]? = some y) (hxw : x.wait = v :: l) (hy6 : y.wait.length < 6) (ho : O Bb S w [.slice a n c] ns) :
  Af (EV P 114 #[.agg #[.slice a n c], i64 k] w) fun r => r.1 = .agg #[.slice a ns.length c] ∧ O Bb (fun b => S b ∨ In w.heap.size r.2.heap.size b) r.2 [.slice a ns.length c] (HB ns k) ∧ Mod S w r.2 := by
 obtain ⟨rfl, hm, _⟩ := ho.n
 have ho := ho.wide (S' := fun b => S b ∧ b < w.heap.size) (fun b h1 h2 => ⟨h1, h2⟩)
 have hkl : k < ns.length := (List.getElem?_eq_some_iff.1 hx).1
 rw [KW hx hxw]
 obtain ⟨g, cur, ds, S2, rfl, hSg, hgl, hg, hle, hx1, hS2, put⟩ := ho.PO AD hx
 obtain ⟨a2, c2, a3, c3, Ss, Sw, rfl, o2, o3, hSs, hSw⟩ := O.LM hx1
 simp only [BN] at hg hle put
 rw [hxw] at o3 hg
 obtain ⟨gw, cs, S1, rfl, hSgw, hgwl, Aw, hcs6, ov, hS1, ⟨S3, css, L3, A3, hS3⟩, _⟩ := I1 o3
 have ov' := ov
 obtain ⟨av, cv, hcs, ov1, ovt⟩ := O.Cq.1 ov
 subst hcs
 have p0 := Aw 0 _ rfl
 have p1 := Aw 1 _ rfl
 have p2 := Aw 2 _ rfl
 have p3 := Aw 3 _ rfl
 have p4 := Aw 4 _ rfl
 have p5 := Aw 5 _ rfl
 simp only [Nat.add_zero] at p0 p1 p2 p3 p4 p5
 have hne : gw ≠ g := (hS2 gw (hSw gw hSgw).1).2.1
 refine Af.post fun Q hQ => ?_
 refine Bw (ML _ _ _) ?_
 obtain ⟨q, d, ct, hq6⟩ : ∃ q d, (∀ w', sl P 99 (.slice (some ⟨gw, 0, none⟩) (l.length + 1) c3) (some (i64 1)) none none w' = some (.slice (some ⟨gw, q, none⟩) l.length d, w')) ∧ (0 < l.length → q = 6) := by
  by_cases hc1 : c3 = 1
  ·have h0 : l.length = 0 := by have := o3.clip.1; simp only [List.length_cons] at this; omega
   subst hc1
   exact ⟨0, 0, fun w' => by have := Yq (P := P) DK (b := gw) (o := 0) (len := l.length + 1) Ad w'; exact this, fun h => by omega⟩
  ·exact ⟨6, c3 - 1, fun w' => aF (P := P) DK (b := gw) (o := 0) (len := l.length + 1) (cap := c3) (n := 1) Ad Ad (by simp; omega) w', fun _ => rfl⟩
 have hlm : l.length ≤ 1954687338211 := by have := o3.n.2.1; simp only [List.length_cons] at this; omega
 have ap : ∀ (gE : Nat) (wb : World), Ext w wb → hp wb gE = some (.cells #[] 110 (0, 0)) → w.heap.size ≤ gE →
   Af (Ar P #[99, 99] 99 #[.slice (some ⟨gE, 0, none⟩) 0 0, .slice (some ⟨gw, q, none⟩) l.length d] wb) fun r => ∃ a' c', r.1 = .slice a' l.length c' ∧ O AW (fun b => S3 b ∨ (gE ≤ b ∧ b < r.2.heap.size)) r.2 [.slice a' l.length c'] l ∧ Mod (fun b => b = gE) wb r.2 := by
  intro gE wb Eb hE hge
  have hEl := Aq hE
  by_cases hl0 : l.length = 0
  ·have hnil : l = [] := List.eq_nil_of_length_eq_zero hl0
   rw [hnil]
   have an := Iq (P := P) (ty := 99) DK (some ⟨gE, 0, none⟩) (some ⟨gw, q, none⟩) 0 0 d Ad wb
   exact ⟨_, an, _, _, rfl, (O.empty (L := Cu) (mx := 1954687338211) hE).wide (fun b (h : b = gE) hb => .inr ⟨by omega, hb⟩), Mod.rfl⟩
  ·obtain rfl := hq6 Ad
   refine Af.mono (O.apps (L := Cu) (mx := 1954687338211) (xs := []) (ys := l) (S1 := S3) (ty := 99) (m := l.length) (c := d) DK D8 rfl AD (O.empty (g := gE) hE) (L3.Aj fun b _ hb => Eb.Ai hb) ?_ (A3.mono (Ext.Aj Eb)) rfl Ad (by simp; omega) AD AD) ?_
   ·intro b hb h1 h2
    have := (hS3 b h2).2.2.2
    have h1 : b = gE := h1
    omega
   ·rintro r ⟨a', c', h1, h2, h3⟩
    simp only [List.length_nil, Nat.zero_add, List.nil_append] at h1 h2
    rw [h1] at h2
    refine ⟨a', c', h1, h2.wide ?_, h3.SU ?_⟩
    ·intro b hb hb2
     rcases hb with h | h | h
     ·have h : b = gE := h
      exact .inr Ad
     ·exact .inl h
     ·exact .inr (by have := Eb.size; omega)
    ·intro b hb h
     exact h
 simp (disch := first | exact xD | fail) [-bind_some, qs, -Aa, -Ab, qm, Da, Ck, hg, ct, p0, p1, p2, p3, p4, p5]
 refine Af.bind (ap _ _ xE (by first | assumption | rfl | (simp (disch := first | exact xD | fail) [-bind_some, qs, -Aa, -Ab]; done)) Ad) ?_
 rintro ⟨_, w2⟩ ⟨a7, c7, rfl, o7, M2⟩
 have zM2 := M2.size
 try simp only [qz] at zM2
 try dsimp only at o7 M2
 have zM2 := M2.size
 simp only [World.size_alloc, size_setRow, Ak] at zM2
 have F2 : Ext w w2 := Mod.after xE M2 (fun b h1 h2 => by omega)
 have G2 : hp w2 g = some (.cells (Bu cur (k * 2) [.slice a2 x.store.length c2, .slice (some ⟨gw, 0, none⟩) (v :: l).length c3]).toArray 159 (0, 0)) := (F2.Ai hgl).trans hg
 have Y1 : hp w2 w.heap.size = some (.cells #[.slice (some ⟨g, 0, none⟩) ns.length c] 98 (0, 0)) := (M2.Ai _ xN Ad).trans (by first | assumption | rfl | (simp (disch := first | exact xD | fail) [-bind_some, qs, -Aa, -Ab]; done))
 have Y2 : hp w2 (w.heap.size + 1) = some (.cells #[.slice none 0 0] 98 (0, 0)) := (M2.Ai _ xN Ad).trans (by first | assumption | rfl | (simp (disch := first | exact xD | fail) [-bind_some, qs, -Aa, -Ab]; done))
 have Y3 : hp w2 (w.heap.size + 1 + 1) = some (.cells #[i64 v.key, i64 v.tag.t, i64 v.tag.p, .slice av v.past.length cv, .string v.text, .bool v.gone] 110 (0, 0)) := (M2.Ai _ xN Ad).trans (by first | assumption | rfl | (simp (disch := first | exact xD | fail) [-bind_some, qs, -Aa, -Ab]; done))
 simp (disch := first | exact xD | fail) [-bind_some, qs, -Aa, -Ab, qm, Y1, Y3, G2]
 obtain ⟨W3, hW3⟩ : ∃ W3 : World, W3 = w2.setRow g (Bu cur (k * 2) [.slice a2 x.store.length c2, .slice a7 l.length c7]).toArray := ⟨_, rfl⟩
 rw [← hW3]
 have sW : W3.heap.size = w2.heap.size := by rw [hW3, size_setRow]
 have kW : ∀ b, b ≠ g → hp W3 b = hp w2 b := fun b q => by rw [hW3, Ac q]
 have gW : hp W3 g = some (.cells (Bu cur (k * 2) [.slice a2 x.store.length c2, .slice a7 l.length c7]).toArray 159 (0, 0)) := by
  rw [hW3]
  exact (by first | assumption | rfl | (simp (disch := first | exact xD | fail) [-bind_some, -Aa, -Ab, G2]; done))
 have MM : Mod S w W3 := by
  rw [hW3]
  exact (Mod.of F2 S).AQ (.inr hSg.1) _
 have oW := put W3 _ ⟨x.store, l⟩ _ (O.GC (v := ⟨x.store, l⟩) (o2.Aj (w' := W3) (fun b hS hb => (kW b (hS2 b (hSs b hS).1).2.1).trans (F2.Ai hb))) (o7.Aj (w' := W3) (fun b hS hb => kW b (by rcases hS with h | h; exact (hS3 b h).2.2.1 |> fun q e => (hS2 b (hSw b (hS3 b h).1).1).2.1 e; omega))) (fun b _ h1 h2 => by rcases h2 with h | h; exact (hSs b h1).2.1 (hS3 b h).1; have := (hSs b h1).2.2; omega)) gW
  (fun b hb _ hne' hn => (kW b hne').trans (F2.Ai hb)) (fun b _ h => by rcases h with h | h | h; exact .inl (hSs b h).1; exact .inl (hSw b (hS3 b h).1).1; exact .inr Ad)
 have hv3 := ov'.d.Aj (w' := W3) (fun b hS hb => (kW b (hS2 b (hSw b (hS1 b hS).1).1).2.1).trans (F2.Ai hb))
 obtain ⟨ns', hns'⟩ : ∃ ns' : List CNode, ns' = ns.set k ⟨x.store, l⟩ := ⟨_, rfl⟩
 have hl' : ns'.length = ns.length := by rw [hns', List.length_set]
 have hy' : ns'[k + 1]? = some y := by rw [hns', List.getElem?_set_ne Ad]; exact hy
 rw [← hns'] at oW hQ
 rw [← hl'] at oW hQ
 rw [← hl']
 refine Af.bind (J9 (i := k + 1) oW hv3 ?_ hy' hvk.1 Ad Ad Ad) ?_
 ·intro b hb h1 h
  have q := hS1 b h1
  rcases h with h | h | h | h
  ·exact h.2 (hSw b q.1).1
  ·exact (hSs b h).2.1 q.1
  ·exact (hS3 b h).2.1 h1
  ·have := q.2.2
   omega
 rintro ⟨_, w5⟩ ⟨rfl, o6, M5⟩
 have zM5 := M5.size
 try simp only [] at zM5
 try dsimp only at o6 M5
 have zM5 := M5.size
 have Y5 : hp w5 (w.heap.size + 1) = some (.cells #[.slice none 0 0] 98 (0, 0)) := by
  refine (M5.Ai _ Ad ?_).trans ((kW _ Ad).trans Y2)
  rintro (h | h | h | h)
  ·have := h.1.2; omega
  ·have := (hSs _ h).2.2; omega
  ·have := (hS3 _ h).2.2.2; omega
  ·omega
 simp (disch := first | exact xD | fail) [-bind_some, -Aa, -Ab, qm, Y5]
 have sub : ∀ b, (((S b ∧ b < w.heap.size) ∧ ¬ S2 b) ∨ (Ss b ∨ (S3 b ∨ (w.heap.size + 1 + 1 + 1 ≤ b ∧ b < w2.heap.size)))) → S b ∨ (w.heap.size + 1 + 1 + 1 ≤ b ∧ b < w2.heap.size) := by
  rintro b (h | h | h | h)
  ·exact .inl h.1.1
  ·exact .inl (hS2 b (hSs b h).1).1.1
  ·exact .inl (hS2 b (hSw b (hS3 b h).1).1).1.1
  ·exact .inr h
 refine hQ _ ⟨rfl, (o6.Aj ?_).wide ?_, (Mod.Bd MM M5 ?_).AQ (.inl Ad) _⟩
 ·intro b hS hb
  have : b ≠ w.heap.size + 1 := by
   rintro rfl
   rcases hS with (h | h | h | h) | h
   ·have := h.1.2; omega
   ·have := (hSs _ h).2.2; omega
   ·have := (hS3 _ h).2.2.2; omega
   ·omega
   ·simp only [In] at h; omega
  rw [Ac this]
 ·intro b h1 h2
  simp only [In, size_setRow] at *
  rcases h1 with h | h
  ·rcases sub b h with h | h
   ·exact .inl h
   ·exact .inr Ad
  ·exact .inr Ad
 ·intro b hb h
  rcases sub b h with h | h
  ·exact h
  ·omega
theorem OA {B g p : Nat} (hp0 : p ≤ 950000000000) {w : World} (hr : R w B g p) :
  Af (EV P 55 #[pt g 0] w) fun r => ∃ (t : Tag) (p' : Nat), r.1 = t.v ∧ 0 ≤ t.t ∧ t.t ≤ 9 ∧ p' ≤ p + 3 ∧ R r.2 B g p' ∧ Mod (fun b => b = g) w r.2 := by
 have hl := hr.lt
 refine Af.post fun Q hQ => ?_
 refine Bw (Mr _ _) ?_
 simp (disch := first | exact xD | fail) [-bind_some, -Aa, -Ab]
 refine Af.bind (Al (k := 3) Ad Ad Ad (hr.ext xE)) ?_
 rintro ⟨_, w1⟩ ⟨m, rfl, hm, R1, M1⟩
 have zM1 := M1.size
 try simp only [qz] at zM1
 try dsimp only at R1 M1
 have zM1 := M1.size
 simp only [World.size_alloc] at zM1
 have X1 : hp w1 w.heap.size = some (.cells #[i64 0, i64 0] 39 (0, 0)) := (M1.Ai w.heap.size xN Ad).trans (by first | assumption | rfl | (simp (disch := first | exact xD | fail) [-bind_some, qs, -Aa, -Ab]; done))
 have N1 : Mod (fun b => b = g) w w1 := (Mod.of xE _).tr M1
 cases hz : ((m : Int) == 0)
 ·simp (disch := first | exact xD | fail) [-bind_some, -Aa, -Ab, hz]
  refine Af.bind (Al (k := 9) Ad Ad Ad (R1.ext xE)) ?_
  rintro ⟨_, w2⟩ ⟨m2, rfl, hm2, R2, M2⟩
  have zM2 := M2.size
  try simp only [] at zM2
  try dsimp only at R2 M2
  have zM2 := M2.size
  simp (disch := first | exact xD | fail) [-bind_some, qs, -Aa, -Ab]
  refine Af.bind (Al (k := 3) Ad Ad Ad (R2.ext xE)) ?_
  rintro ⟨_, w3⟩ ⟨m3, rfl, hm3, R3, M3⟩
  have zM3 := M3.size
  try simp only [] at zM3
  try dsimp only at R3 M3
  have zM3 := M3.size
  have X3 : hp w3 w.heap.size = some (.cells #[i64 0, i64 0] 39 (0, 0)) := (M3.Ai w.heap.size xN Ad).trans ((M2.Ai w.heap.size xN Ad).trans X1)
  have hw : IntKind.i64.wrap (1 + (m2 : Int)) = 1 + (m2 : Int) := HS Ad Ad
  simp (disch := first | exact xD | fail) [-bind_some, -Aa, -Ab, qm, X3]
  have N3 := (N1.tr M2).tr M3
  refine hQ _ ⟨⟨1 + m2, m3⟩, p + 1 + 1 + 1, rfl, ?_, ?_, by omega, R3.Aj (fun b h hb => Ac Ad), N3.AQ (.inl Ad) _⟩
  ·show (0 : Int) ≤ 1 + m2
   omega
  ·show (1 : Int) + m2 ≤ 9
   omega
 ·simp (disch := first | exact xD | fail) [-bind_some, -Aa, -Ab, qm, hz, X1]
  exact hQ _ ⟨⟨0, 0⟩, p + 1, rfl, by decide, by decide, by omega, R1.Aj (fun b h hb => Ac Ad), N1.AQ (.inl Ad) _⟩
theorem Ft {B g p b k c : Nat} {strs : List ByteArray} (hk : 1 ≤ k) (hk2 : k ≤ 1000000) (hp0 : p ≤ 1000000000000) {w : World} (hl : strs.length = k) (hA : At w b 0 (strs.map Value.string)) (hbg : b ≠ g) (hr : R w B g p) :
  Af (EV P 48 #[pt g 0, .slice (some ⟨b, 0, none⟩) k c] w) fun r => ∃ n ∈ strs, r.1 = .string n ∧ R r.2 B g (p + 1) ∧ Mod (fun b => b = g) w r.2 := by
 refine Af.post fun Q hQ => ?_
 refine Bw (KD _ _ _) ?_
 simp (disch := first | exact xD | fail) [-bind_some, -Aa, -Ab]
 refine Af.bind (Al hk hk2 hp0 hr) ?_
 rintro ⟨_, w1⟩ ⟨m, rfl, hm, R1, M1⟩
 have zM1 := M1.size
 try simp only [] at zM1
 try dsimp only at R1 M1
 obtain ⟨n, hn, _⟩ := An (l := strs) (k := m) Ad
 have hA1 := hA m (.string n) (by rw [List.getElem?_map, hn]; rfl)
 have hbl : b < w.heap.size := by
  rcases Nat.lt_or_ge b w.heap.size with h | h
  ·exact h
  ·rw [hp, Array.getElem?_eq_none h] at hA1; simp [AR] at hA1
 rw [Nat.zero_add] at hA1
 simp (disch := first | exact xD | fail) [-bind_some, -Aa, -Ab, Fv, hA1, M1.Ai]
 exact hQ _ ⟨n, List.mem_of_getElem? hn, rfl, R1, M1⟩
def PD : List ByteArray := [⟨#[]⟩, ⟨#[97]⟩, ⟨#[98]⟩, ⟨#[120, 35, 49]⟩, ⟨#[61]⟩, ⟨#[45]⟩, ⟨#[108, 111, 110, 103, 116, 101, 120, 116]⟩, ⟨#[122, 122]⟩]
theorem Nj {B g p : Nat} (hp0 : p ≤ 900000000000) {w : World} (hr : R w B g p) :
  Af (EV P 106 #[pt g 0] w) fun r => ∃ n ∈ PD, r.1 = .string n ∧ R r.2 B g (p + 1) ∧ Mod (fun b => b = g) w r.2 := by
 have hl := hr.lt
 refine Af.post fun Q hQ => ?_
 refine Bw (Ly _ _) ?_
 simp (disch := first | exact xD | fail) [-bind_some, -Aa, -Ab]
 refine Af.bind (Ft (strs := PD) (k := 8) Ad Ad Ad rfl (At.new (cs := PD.map Value.string)) Ad (hr.ext xE)) ?_
 rintro ⟨_, w1⟩ ⟨n, hn, rfl, R1, M1⟩
 have zM1 := M1.size
 try simp only [qz] at zM1
 try dsimp only at R1 M1
 simp (disch := first | exact xD | fail) [-bind_some, -Aa, -Ab]
 exact hQ _ ⟨n, hn, rfl, R1, (Mod.of xE _).tr M1⟩
theorem KX {B g p : Nat} (hp0 : p ≤ 900000000000) {w : World} (hr : R w B g p) :
  Af (EV P 33 #[pt g 0] w) fun r => ∃ (t : Tag) (p' : Nat), r.1 = t.v ∧ p' ≤ p + 4 ∧ R r.2 B g p' ∧ Mod (fun b => b = g) w r.2 := by
 have hl := hr.lt
 refine Af.post fun Q hQ => ?_
 refine Bw (JJ _ _) ?_
 simp (disch := first | exact xD | fail) [-bind_some, -Aa, -Ab]
 refine Af.bind (Al (k := 8) Ad Ad Ad (hr.ext xE)) ?_
 rintro ⟨_, w1⟩ ⟨m, rfl, hm, R1, M1⟩
 have zM1 := M1.size
 try simp only [qz] at zM1
 try dsimp only at R1 M1
 have zM1 := M1.size
 simp only [World.size_alloc] at zM1
 have X1 : hp w1 w.heap.size = some (.cells #[i64 0, i64 0] 39 (0, 0)) := (M1.Ai w.heap.size xN Ad).trans (by first | assumption | rfl | (simp (disch := first | exact xD | fail) [-bind_some, qs, -Aa, -Ab]; done))
 have N1 : Mod (fun b => b = g) w w1 := (Mod.of xE _).tr M1
 have y1 := R1.lt
 cases hz : ((m : Int) == 0)
 ·simp (disch := first | exact xD | fail) [-bind_some, -Aa, -Ab, hz]
  refine Af.bind (OA Ad (R1.ext xE)) ?_
  rintro ⟨_, w2⟩ ⟨t, p2, rfl, _, _, hp2, R2, M2⟩
  have zM2 := M2.size
  try simp only [] at zM2
  try dsimp only at R2 M2
  have zM2 := M2.size
  have X2 : hp w2 w.heap.size = some (.cells #[i64 0, i64 0] 39 (0, 0)) := (M2.Ai w.heap.size xN Ad).trans X1
  simp (disch := first | exact xD | fail) [-bind_some, -Aa, -Ab, qm, X2]
  refine hQ _ ⟨t, p2, rfl, by omega, R2.Aj (fun b h hb => Ac Ad), (N1.tr M2).AQ (.inl Ad) _⟩
 ·simp (disch := first | exact xD | fail) [-bind_some, -Aa, -Ab, hz]
  refine Af.bind (BG (ints := [0, -1, 1000, 999]) (k := 4) Ad Ad Ad rfl (At.new (cs := [i64 0, i64 (-1), i64 1000, i64 999])) Ad (R1.ext xE)) ?_
  rintro ⟨_, w2⟩ ⟨n1, _, rfl, R2, M2⟩
  have zM2 := M2.size
  try simp only [qz] at zM2
  try dsimp only at R2 M2
  have zM2 := M2.size
  simp only [World.size_alloc] at zM2
  simp (disch := first | exact xD | fail) [-bind_some, -Aa, -Ab]
  have N2 := (N1.al _).tr M2
  refine Af.bind (BG (ints := [0, 1, 3, -1]) (k := 4) Ad Ad Ad rfl (At.new (cs := [i64 0, i64 1, i64 3, i64 (-1)])) Ad (R2.ext xE)) ?_
  rintro ⟨_, w3⟩ ⟨n2, _, rfl, R3, M3⟩
  have zM3 := M3.size
  try simp only [qz] at zM3
  try dsimp only at R3 M3
  have zM3 := M3.size
  simp only [World.size_alloc] at zM3
  have N3 := (N2.al _).tr M3
  have X3 : hp w3 w.heap.size = some (.cells #[i64 0, i64 0] 39 (0, 0)) := (M3.Ai w.heap.size xN Ad).trans ((Ag Ad).trans ((M2.Ai w.heap.size xN Ad).trans ((Ag Ad).trans X1)))
  simp (disch := first | exact xD | fail) [-bind_some, -Aa, -Ab, qm, X3]
  refine hQ _ ⟨⟨n1, n2⟩, p + 1 + 1 + 1, rfl, by omega, R3.Aj (fun b h hb => Ac Ad), N3.AQ (.inl Ad) _⟩
theorem OB {w : World} : Af (EV P 89 #[] w) fun r => ∃ a c, r.1 = .agg #[.slice a 4 c] ∧ O Cr (In w.heap.size r.2.heap.size) r.2 [.slice a 4 c] (List.replicate 4 ⟨0, 0⟩) ∧ Ext w r.2 := by
 refine Af.post fun Q hQ => ?_
 refine Bw (MJ _) ?_
 simp (disch := first | exact xD | fail) [-bind_some, -Aa, -Ab]
 refine Af.bind (O.make (L := F6) (mx := 8796093021952) (n := 4) (x0 := (⟨0, 0⟩ : Tag)) DC HN rfl AD (fun w => O.tag.2 rfl) AD AD AD) ?_
 rintro ⟨_, w1⟩ ⟨rfl, o1, z1, E1⟩
 have zE1 := E1.size
 try simp only [qz] at zE1
 try dsimp only at o1 z1 E1
 have X1 := E1.Ai (b := w.heap.size) (by simp)
 simp only [World.size_alloc] at z1 o1
 simp (disch := first | exact xD | fail) [-bind_some, qs, -Aa, -Ab, qm, E1.Ai]
 exact hQ _ ⟨_, _, rfl, (o1.Aj (by intro b hS hb; (try dsimp only at hS); (try simp only [In, qz] at hS hb); first | rfl | (simp (disch := first | exact xF | fail) only [qk]; done))).wide xV, xE⟩
theorem Nk {Q : Value × World → Prop} {g2 g3 i ca co : Nat} {aa ao : Option Addr} {Sa : Nat → Prop} {xs l : List Ver} {x : Ver} {w0 : World} (hx4 : xs.length = 4) (hl4 : l.length ≤ 100) (hi : i < 4) (hx : xs[i]? = some x)
  (X2 : hp w0 g2 = some (.cells #[.slice aa 4 ca] 156 (0, 0))) (ha : D AW Sa w0 [.slice aa 4 ca] xs)
  (hnext : ∀ (e' : Env) (W : World) (a' : Option Addr) (c' : Nat) (l' : List Ver), e' 2 = pt g2 0 → e' 3 = pt g3 0 → e' 6 = i64 i → e' 5 = .slice a' l'.length c' → l'.length = l.length + 1 → (∀ v ∈ l', v ∈ l ∨ v = x) → O AW (fun b => w0.heap.size ≤ b) W [.slice a' l'.length c'] l' → Ext w0 W → Af (CR e' W) Q) :
  ∀ (d k : Nat) (e : Env) (w : World), k + d = l.length → e 2 = pt g2 0 → e 3 = pt g3 0 → e 6 = i64 i → e 5 = .slice ao l.length co → e 7 = i64 k → Ext w0 w → O AW (fun b => w0.heap.size ≤ b) w [.slice ao l.length co] l → Af (Et e w) Q := by
 have hi0 : (i : Int) < 4 := by omega
 have ins : ∀ (k : Nat) (w : World), k ≤ l.length → Ext w0 w → O AW (fun b => w0.heap.size ≤ b) w [.slice ao l.length co] l → True := fun _ _ _ _ _ => trivial
 intro d
 induction d with
 | zero =>
  intro k e w hd e2 e3 e6 e5 e7 E0 ho
  have zE0 := E0.size
  try simp only [qz] at zE0
  rw [Gv]
  have hk : ¬ k < l.length := by omega
  have hk0 : ¬ (k : Int) < l.length := by omega
  have hkl : k ≤ l.length := by omega
  have y2 := Aq X2
  have X2' : hp w g2 = some (.cells #[.slice aa 4 ca] 156 (0, 0)) := (E0.Ai y2).trans X2
  obtain ⟨css, S1, S2, a9, c9, L1, L2, d1, d2, sl1, sl2, A1, A2, dB⟩ := ho.parts AD DK (k := k) hkl
  simp (disch := first | exact xD | fail) [-bind_some, -Aa, -Ab, e2, e5, e6, e7, hk0, sl1, sl2]
  refine Af.bind (O.QR (P := P) (L := Cu) (mx := 1954687338211) (xs := []) (ys := l.take k) (ty := 99) DK D8 rfl AD (O.empty (L := Cu) (mx := 1954687338211) (g := w.heap.size) (by first | assumption | rfl | (simp (disch := first | exact xD | fail) [-bind_some, qs, -Aa, -Ab]; done))) (L1.Aj (by intro b hS hb; (try dsimp only at hS); (try simp only [In, qz] at hS hb); first | rfl | (simp (disch := first | exact xF | fail) only [qk]; done))) (fun b hb h1 h2 => by have := (d1 b h2).2.2; have h1 : b = w.heap.size := h1; omega) (A1.imp id fun ⟨b, o, h1, h2, h4⟩ => ⟨b, o, h1, h4.mono (Ext.Aj xE)⟩) (by rw [List.length_take]; omega) (by simp; omega) AD AD) ?_
  rintro ⟨_, w1⟩ ⟨a1, c1, rfl, o1, M1⟩
  have zM1 := M1.size
  try simp only [qz] at zM1
  try dsimp only at o1 M1
  have zM1 := M1.size
  simp only [World.size_alloc, Ak, List.length_nil, Nat.zero_add, List.nil_append] at zM1 o1
  have F1 : Ext w w1 := Mod.after xE M1 (fun b h1 h2 => by have h2 : b = w.heap.size := h2; omega)
  have Z2 : hp w1 g2 = some (.cells #[.slice aa 4 ca] 156 (0, 0)) := (F1.Ai (by have := E0.size; omega)).trans X2'
  obtain ⟨b1, o4, cs1, hab, A4, D4, _, l4⟩ := (ha.ext (E0.tr F1)).at AD hx
  obtain ⟨a5, c5, rfl, _, _⟩ := D.Cq.1 D4
  subst hab
  have p0 := A4 0 _ rfl
  have p1 := A4 1 _ rfl
  have p2 := A4 2 _ rfl
  have p3 := A4 3 _ rfl
  have p4 := A4 4 _ rfl
  have p5 := A4 5 _ rfl
  simp only [Co, Nat.add_zero] at p0 p1 p2 p3 p4 p5
  simp (disch := first | exact xD | fail) [-bind_some, -Aa, -Ab, Z2, Ck, p0, p1, p2, p3, p4, p5]
  refine Af.bind (Bf D4) ?_
  rintro ⟨_, w2⟩ ⟨es, rfl, o2, E2⟩
  try dsimp only at es o2 E2
  have zE2 := E2.size
  try simp only [qz] at zE2
  have zds := O.Cq.1 o2
  obtain ⟨ae, ce, rfl, _, _⟩ := zds
  simp (disch := first | exact xD | fail) [-bind_some, -Aa, -Ab]
  refine Af.bind (O.app (P := P) (L := Cu) (x := x) (mx := 1954687338211) (xs := l.take k) (sv := .slice a1 k c1) (ty := 99) (S1 := In w1.heap.size w2.heap.size) DK D8 rfl AD (o1.Aj (fun b hS hb => (by first | assumption | rfl | (simp (disch := first | exact xD | fail) [-bind_some, qs, E2.Ai]; done)))) (o2.Aj (by intro b hS hb; (try dsimp only at hS); (try simp only [In] at hS hb); first | rfl | (simp (disch := first | exact xF | fail) only [qk]; done))) (fun b hb h1 h2 => by simp only [In] at h2; rcases h1 with h | h | h; have h : b = w.heap.size := h; omega; have := (d1 b h).2.2; omega; omega) At.new (by rw [List.length_take]; omega) AD AD) ?_
  rintro ⟨_, w3⟩ ⟨a3, c3, rfl, o3, M3⟩
  have zM3 := M3.size
  try simp only [qz] at zM3
  try dsimp only at o3 M3
  have zM3 := M3.size
  simp only [World.size_alloc, List.length_take, Nat.min_eq_left hkl] at zM3 o3
  have zE2' := E2.size
  have zE0 := E0.size
  have F3 : Ext w0 w3 := Mod.after ((E0.tr F1).tr xE) M3 (fun b h1 h2 => by rcases h2 with h | h | h; have h : b = w.heap.size := h; omega; have := (d1 b h).1; omega; omega)
  have kr : ∀ b, ¬ S1 b → b < w.heap.size → hp w3 b = hp w b := fun b hn hb => (M3.Ai b xN (fun h => by rcases h with h | h | h; have h : b = w.heap.size := h; omega; exact hn h; omega)).trans (by first | assumption | rfl | (simp (disch := first | exact xD | fail) [-bind_some, qs, F1.Ai, E2.Ai]; done))
  have k3 : ∀ b, S2 b → b < w.heap.size → hp w3 b = hp w b := fun b hS hb => (M3.Ai b xN (fun h => by rcases h with h | h | h; have h : b = w.heap.size := h; omega; exact (d2 b hS).2.1 h; omega)).trans (by first | assumption | rfl | (simp (disch := first | exact xD | fail) [-bind_some, qs, F1.Ai, E2.Ai]; done))
  simp only [List.length_take, Nat.min_eq_left hkl]
  refine Af.bind (O.QR (P := P) (L := Cu) (mx := 1954687338211) (ys := l.drop k) (ty := 99) DK D8 rfl AD o3 (L2.Aj (fun b hS hb => k3 b hS hb)) (fun b hb h1 h2 => ?_) (A2.imp id fun ⟨b, o, h1, h2, h4⟩ => ⟨b, o, h1, h4.same (kr b h2.2.1 h2.2.2.2)⟩) (by rw [List.length_drop] <;> omega) (by simp only [List.length_append, List.length_take, List.length_cons, List.length_nil]; omega) AD AD) ?_
  ·have q := d2 b h2
   rcases h1 with (h | h | h) | h | h
   ·have h : b = w.heap.size := h
    omega
   ·exact q.2.1 h
   ·omega
   ·simp only [In] at h
    omega
   ·omega
  rintro ⟨_, w5⟩ ⟨a5', c5', rfl, o5, M5⟩
  have zM5 := M5.size
  try simp only [] at zM5
  try dsimp only at o5 M5
  have zM5 := M5.size
  have F5 : Ext w0 w5 := Mod.after F3 M5 (fun b h1 h2 => by
   rcases h2 with (h | h | h) | h | h
   ·have h : b = w.heap.size := h
    omega
   ·have := (d1 b h).1
    omega
   ·omega
   ·simp only [In] at h
    omega
   ·omega)
  obtain ⟨l', hl'⟩ : ∃ l' : List Ver, l' = l.take k ++ [x] ++ l.drop k := ⟨_, rfl⟩
  have hl7 : l'.length = l.length + 1 := by rw [hl']; simp only [List.length_append, List.length_take, List.length_drop, List.length_cons, List.length_nil]; omega
  have hl8 : (l.take k ++ [x]).length = k + 1 := by simp only [List.length_append, List.length_take, List.length_cons, List.length_nil]; omega
  rw [← hl', hl8] at o5
  rw [hl8]
  have hm5 : k + 1 + (l.length - k) = l'.length := by omega
  refine hnext _ w5 a5' c5' l' xA xA xA ?_ hl7 ?_ ((?_ : O AW _ w5 [.slice a5' l'.length c5'] l').wide (S := fun b => ((b = w.heap.size ∨ S1 b ∨ w.heap.size + 1 ≤ b ∧ b < w1.heap.size) ∨ In w1.heap.size w2.heap.size b ∨ w2.heap.size + 1 ≤ b ∧ b < w3.heap.size) ∨ S2 b ∨ w3.heap.size ≤ b ∧ b < w5.heap.size) ?_) F5
  ·show Value.slice a5' _ c5' = Value.slice a5' _ c5'
   congr 1 <;> omega
  ·intro v hv
   rw [hl'] at hv
   simp only [List.mem_append, List.mem_singleton] at hv
   rcases hv with (h | h) | h
   ·exact .inl (List.mem_of_mem_take h)
   ·exact .inr h
   ·exact .inl (List.mem_of_mem_drop h)
  ·first
    | (rw [hm5] at o5; exact o5)
    | (rw [show k + 1 + 0 = l'.length by omega] at o5; exact o5)
  ·intro b h hb
   rcases h with (h | h) | h | h
   ·rcases h with h | h | h
    ·omega
    ·exact (d1 b h).1
    ·omega
   ·simp only [In] at h
    omega
   ·exact (d2 b h).1
   ·omega
 | succ d ih =>
  intro k e w hd e2 e3 e6 e5 e7 E0 ho
  have zE0 := E0.size
  try simp only [qz] at zE0
  rw [Gv]
  have hk : k < l.length := by omega
  have hk0 : (k : Int) < l.length := by omega
  have hkl : k ≤ l.length := by omega
  have y2 := Aq X2
  have X2' : hp w g2 = some (.cells #[.slice aa 4 ca] 156 (0, 0)) := (E0.Ai y2).trans X2
  obtain ⟨u, hu, _⟩ := An hk
  obtain ⟨b6, o6, cs6, hab6, A6, D6, _, l6⟩ := ho.d.at AD hu
  obtain ⟨a6, c6, rfl, _, _⟩ := D.Cq.1 D6
  subst hab6
  have A6q : At w b6 (o6 + k * 6) [i64 u.key, i64 u.tag.t, i64 u.tag.p, .slice a6 u.past.length c6, .string u.text, .bool u.gone] := A6
  have q0 := A6q 0 _ rfl
  have q1 := A6q 1 _ rfl
  have q2 := A6q 2 _ rfl
  have q3 := A6q 3 _ rfl
  have q4 := A6q 4 _ rfl
  have q5 := A6q 5 _ rfl
  simp only [Nat.add_zero] at q0 q1 q2 q3 q4 q5
  obtain ⟨b7, o7, cs7, hab7, A7, D7, _, l7⟩ := (ha.ext E0).at AD hx
  obtain ⟨a7, c7, rfl, _, _⟩ := D.Cq.1 D7
  subst hab7
  have A7q : At w b7 (o7 + i * 6) [i64 x.key, i64 x.tag.t, i64 x.tag.p, .slice a7 x.past.length c7, .string x.text, .bool x.gone] := A7
  have r0 := A7q 0 _ rfl
  have r1 := A7q 1 _ rfl
  have r2 := A7q 2 _ rfl
  have r3 := A7q 3 _ rfl
  have r4 := A7q 4 _ rfl
  have r5 := A7q 5 _ rfl
  simp only [Nat.add_zero] at r0 r1 r2 r3 r4 r5
  simp (disch := first | exact xD | fail) [-bind_some, qs, -Aa, -Ab, e2, e5, e6, e7, hk0, X2', Ck, q1, q2, r1, r2]
  refine Af.bind (AU u.tag x.tag _) ?_
  rintro ⟨_, w⟩ ⟨rfl, E9⟩
  try dsimp only at E9
  have zE9 := E9.size
  try simp only [qz] at zE9
  have E9x := (Cn _).tr E9
  have zE9x := E9x.size
  try simp only [qz] at zE9x
  have ho := ho.ext E9x
  have E0 : Ext w0 w := E0.tr E9x
  have zE0 := E0.size
  try simp only [qz] at zE0
  have X2' : hp w g2 = some (.cells #[.slice (some ⟨b7, o7, none⟩) 4 ca] 156 (0, 0)) := (E0.Ai y2).trans X2
  cases hlt : BF u.tag x.tag
  ·skip
   obtain ⟨css, S1, S2, a9, c9, L1, L2, d1, d2, sl1, sl2, A1, A2, dB⟩ := ho.parts AD DK (k := k) hkl
   simp (disch := first | exact xD | fail) [-bind_some, -Aa, -Ab, sl1, sl2]
   refine Af.bind (O.QR (P := P) (L := Cu) (mx := 1954687338211) (xs := []) (ys := l.take k) (ty := 99) DK D8 rfl AD (O.empty (L := Cu) (mx := 1954687338211) (g := w.heap.size) (by first | assumption | rfl | (simp (disch := first | exact xD | fail) [-bind_some, qs, -Aa, -Ab]; done))) (L1.Aj (by intro b hS hb; (try dsimp only at hS); (try simp only [In, qz] at hS hb); first | rfl | (simp (disch := first | exact xF | fail) only [qk]; done))) (fun b hb h1 h2 => by have := (d1 b h2).2.2; have h1 : b = w.heap.size := h1; omega) (A1.imp id fun ⟨b, o, h1, h2, h4⟩ => ⟨b, o, h1, h4.mono (Ext.Aj xE)⟩) (by rw [List.length_take]; omega) (by simp; omega) AD AD) ?_
   rintro ⟨_, w1⟩ ⟨a1, c1, rfl, o1, M1⟩
   have zM1 := M1.size
   try simp only [qz] at zM1
   try dsimp only at o1 M1
   have zM1 := M1.size
   simp only [World.size_alloc, List.length_nil, Nat.zero_add, List.nil_append] at zM1 o1
   have F1 : Ext w w1 := Mod.after xE M1 (fun b h1 h2 => by have h2 : b = w.heap.size := h2; omega)
   have Z2 : hp w1 g2 = some (.cells #[.slice (some ⟨b7, o7, none⟩) 4 ca] 156 (0, 0)) := (F1.Ai (by have := E0.size; omega)).trans X2'
   simp (disch := first | exact xD | fail) [-bind_some, qs, -Aa, -Ab, Z2, Ck, r0, r1, r2, r3, r4, r5, E9.Ai, M1.Ai]
   refine Af.bind (Bf (D7.ext (E9x.tr F1))) ?_
   rintro ⟨_, w2⟩ ⟨es, rfl, o2, E2⟩
   try dsimp only at es o2 E2
   have zE2 := E2.size
   try simp only [qz] at zE2
   have zds := O.Cq.1 o2
   obtain ⟨ae, ce, rfl, _, _⟩ := zds
   simp (disch := first | exact xD | fail) [-bind_some, -Aa, -Ab]
   refine Af.bind (O.app (P := P) (L := Cu) (x := x) (mx := 1954687338211) (xs := l.take k) (sv := .slice a1 k c1) (ty := 99) (S1 := In w1.heap.size w2.heap.size) DK D8 rfl AD (o1.Aj (fun b hS hb => (by first | assumption | rfl | (simp (disch := first | exact xD | fail) [-bind_some, qs, E2.Ai]; done)))) (o2.Aj (by intro b hS hb; (try dsimp only at hS); (try simp only [In] at hS hb); first | rfl | (simp (disch := first | exact xF | fail) only [qk]; done))) (fun b hb h1 h2 => by simp only [In] at h2; rcases h1 with h | h | h; have h : b = w.heap.size := h; omega; have := (d1 b h).2.2; omega; omega) At.new (by rw [List.length_take]; omega) AD AD) ?_
   rintro ⟨_, w3⟩ ⟨a3, c3, rfl, o3, M3⟩
   have zM3 := M3.size
   try simp only [qz] at zM3
   try dsimp only at o3 M3
   have zM3 := M3.size
   simp only [World.size_alloc, List.length_take, Nat.min_eq_left hkl] at zM3 o3
   have zE2' := E2.size
   have zE0 := E0.size
   have F3 : Ext w0 w3 := Mod.after ((E0.tr F1).tr xE) M3 (fun b h1 h2 => by rcases h2 with h | h | h; have h : b = w.heap.size := h; omega; have := (d1 b h).1; omega; omega)
   have kr : ∀ b, ¬ S1 b → b < w.heap.size → hp w3 b = hp w b := fun b hn hb => (M3.Ai b xN (fun h => by rcases h with h | h | h; have h : b = w.heap.size := h; omega; exact hn h; omega)).trans (by first | assumption | rfl | (simp (disch := first | exact xD | fail) [-bind_some, qs, F1.Ai, E2.Ai]; done))
   have k3 : ∀ b, S2 b → b < w.heap.size → hp w3 b = hp w b := fun b hS hb => (M3.Ai b xN (fun h => by rcases h with h | h | h; have h : b = w.heap.size := h; omega; exact (d2 b hS).2.1 h; omega)).trans (by first | assumption | rfl | (simp (disch := first | exact xD | fail) [-bind_some, qs, F1.Ai, E2.Ai]; done))
   simp only [List.length_take, Nat.min_eq_left hkl]
   refine Af.bind (O.QR (P := P) (L := Cu) (mx := 1954687338211) (ys := l.drop k) (ty := 99) DK D8 rfl AD o3 (L2.Aj (fun b hS hb => k3 b hS hb)) (fun b hb h1 h2 => ?_) (A2.imp id fun ⟨b, o, h1, h2, h4⟩ => ⟨b, o, h1, h4.same (kr b h2.2.1 h2.2.2.2)⟩) (by rw [List.length_drop] <;> omega) (by simp only [List.length_append, List.length_take, List.length_cons, List.length_nil]; omega) AD AD) ?_
   ·have q := d2 b h2
    rcases h1 with (h | h | h) | h | h
    ·have h : b = w.heap.size := h
     omega
    ·exact q.2.1 h
    ·omega
    ·simp only [In] at h
     omega
    ·omega
   rintro ⟨_, w5⟩ ⟨a5', c5', rfl, o5, M5⟩
   have zM5 := M5.size
   try simp only [] at zM5
   try dsimp only at o5 M5
   have zM5 := M5.size
   have F5 : Ext w0 w5 := Mod.after F3 M5 (fun b h1 h2 => by
    rcases h2 with (h | h | h) | h | h
    ·have h : b = w.heap.size := h
     omega
    ·have := (d1 b h).1
     omega
    ·omega
    ·simp only [In] at h
     omega
    ·omega)
   obtain ⟨l', hl'⟩ : ∃ l' : List Ver, l' = l.take k ++ [x] ++ l.drop k := ⟨_, rfl⟩
   have hl7 : l'.length = l.length + 1 := by rw [hl']; simp only [List.length_append, List.length_take, List.length_drop, List.length_cons, List.length_nil]; omega
   have hl8 : (l.take k ++ [x]).length = k + 1 := by simp only [List.length_append, List.length_take, List.length_cons, List.length_nil]; omega
   rw [← hl', hl8] at o5
   rw [hl8]
   have hm5 : k + 1 + (l.length - k) = l'.length := by omega
   refine hnext _ w5 a5' c5' l' xA xA xA ?_ hl7 ?_ ((?_ : O AW _ w5 [.slice a5' l'.length c5'] l').wide (S := fun b => ((b = w.heap.size ∨ S1 b ∨ w.heap.size + 1 ≤ b ∧ b < w1.heap.size) ∨ In w1.heap.size w2.heap.size b ∨ w2.heap.size + 1 ≤ b ∧ b < w3.heap.size) ∨ S2 b ∨ w3.heap.size ≤ b ∧ b < w5.heap.size) ?_) F5
   ·show Value.slice a5' _ c5' = Value.slice a5' _ c5'
    congr 1 <;> omega
   ·intro v hv
    rw [hl'] at hv
    simp only [List.mem_append, List.mem_singleton] at hv
    rcases hv with (h | h) | h
    ·exact .inl (List.mem_of_mem_take h)
    ·exact .inr h
    ·exact .inl (List.mem_of_mem_drop h)
   ·first
     | (rw [hm5] at o5; exact o5)
     | (rw [show k + 1 + 0 = l'.length by omega] at o5; exact o5)
   ·intro b h hb
    rcases h with (h | h) | h | h
    ·rcases h with h | h | h
     ·omega
     ·exact (d1 b h).1
     ·omega
    ·simp only [In] at h
     omega
    ·exact (d2 b h).1
    ·omega
  ·simp (disch := first | exact xD | fail) [-bind_some, -Aa, -Ab]
   exact ih (k + 1) _ w Ad xA xA xA xA (by first | rfl | (simp; done) | exact congrArg i64 Ad) E0 ho
theorem Nl {g2 g3 ca cb : Nat} {aa ab : Option Addr} {Sa Sb : Nat → Prop} {xs ys : List Ver} {w0 : World} (hx4 : xs.length = 4) (hy4 : ys.length = 4)
  (X2 : hp w0 g2 = some (.cells #[.slice aa 4 ca] 156 (0, 0))) (X3 : hp w0 g3 = some (.cells #[.slice ab 4 cb] 156 (0, 0))) (ha : D AW Sa w0 [.slice aa 4 ca] xs) (hb : D AW Sb w0 [.slice ab 4 cb] ys) :
  ∀ (d i : Nat) (e : Env) (w : World) (ao : Option Addr) (co : Nat) (l : List Ver), i + d = 4 → l.length ≤ i → (∀ v ∈ l, v ∈ xs) → e 2 = pt g2 0 → e 3 = pt g3 0 → e 6 = i64 i → e 5 = .slice ao l.length co → Ext w0 w → O AW (fun b => w0.heap.size ≤ b) w [.slice ao l.length co] l →
   Af (Es e w) fun r => ∃ (l' : List Ver) (a' : Option Addr) (c' : Nat), r.1 = .slice a' l'.length c' ∧ O AW (fun b => w0.heap.size ≤ b) r.2 [.slice a' l'.length c'] l' ∧ l'.length ≤ 4 ∧ (∀ v ∈ l', v ∈ xs) ∧ Ext w0 r.2 := by
 intro d
 induction d with
 | zero =>
  intro i e w ao co l hd hli hm e2 e3 e6 e5 E0 ho
  have zE0 := E0.size
  try simp only [qz] at zE0
  rw [Gu]
  obtain rfl : i = 4 := by omega
  refine Af.post fun Q hQ => ?_
  simp (disch := first | exact xD | fail) [-bind_some, -Aa, -Ab, e5, e6]
  exact hQ _ ⟨l, ao, co, rfl, ho.Aj (by intro b hS hb; (try dsimp only at hS); (try simp only [In, qz] at hS hb); first | rfl | (simp (disch := first | exact xF | fail) only [E0.Ai, qk]; done)), by omega, hm, xE⟩
 | succ d ih =>
  intro i e w ao co l hd hli hm e2 e3 e6 e5 E0 ho
  have zE0 := E0.size
  try simp only [qz] at zE0
  rw [Gu]
  have hlt : i < 4 := by omega
  have hlt0 : (i : Int) < 4 := by omega
  have y2 := Aq X2
  have y3 := Aq X3
  have X2' : hp w g2 = some (.cells #[.slice aa 4 ca] 156 (0, 0)) := (E0.Ai y2).trans X2
  have X3' : hp w g3 = some (.cells #[.slice ab 4 cb] 156 (0, 0)) := (E0.Ai y3).trans X3
  obtain ⟨x, hx, _⟩ := An (l := xs) (k := i) Ad
  obtain ⟨y, hy, _⟩ := An (l := ys) (k := i) Ad
  obtain ⟨b6, o6, cs6, rfl, A6, D6, _, l6⟩ := (ha.ext E0).at AD hx
  obtain ⟨a6, c6, rfl, _, _⟩ := D.Cq.1 D6
  have q0 := A6 0 _ rfl
  have q1 := A6 1 _ rfl
  have q2 := A6 2 _ rfl
  have q3 := A6 3 _ rfl
  have q4 := A6 4 _ rfl
  have q5 := A6 5 _ rfl
  simp only [Co, Nat.add_zero] at q0 q1 q2 q3 q4 q5
  obtain ⟨b7, o7, cs7, rfl, A7, D7, _, l7⟩ := (hb.ext E0).at AD hy
  obtain ⟨a7, c7, rfl, _, _⟩ := D.Cq.1 D7
  have r0 := A7 0 _ rfl
  have r1 := A7 1 _ rfl
  have r2 := A7 2 _ rfl
  have r3 := A7 3 _ rfl
  have r4 := A7 4 _ rfl
  have r5 := A7 5 _ rfl
  simp only [Co, Nat.add_zero] at r0 r1 r2 r3 r4 r5
  refine Af.post fun Q hQ => ?_
  simp (disch := first | exact xD | fail) [-bind_some, -Aa, -Ab, e2, e3, e6, X2', X3', hlt0, Ck, q1, q2, r1, r2]
  refine Af.bind (AU y.tag x.tag _) ?_
  rintro ⟨_, w1⟩ ⟨rfl, E1⟩
  try dsimp only at E1
  have zE1 := E1.size
  try simp only [qz] at zE1
  have RN : ∀ (e' : Env) (W : World) (a' : Option Addr) (c' : Nat) (l' : List Ver), e' 2 = pt g2 0 → e' 3 = pt g3 0 → e' 6 = i64 i → e' 5 = .slice a' l'.length c' → l'.length ≤ i + 1 → (∀ v ∈ l', v ∈ xs) → O AW (fun b => w0.heap.size ≤ b) W [.slice a' l'.length c'] l' → Ext w0 W → Af (CR e' W) Q := by
   intro e' W a' c' l' f2 f3 f6 f5 hl' hm' ho' hE
   rw [J3]
   simp (disch := first | exact xD | fail) [-bind_some, qs, -Aa, -Ab, f6]
   exact Af.mono (ih (i + 1) _ W a' c' l' Ad hl' hm' xA xA (by first | rfl | (simp; done) | exact congrArg i64 Ad) xA hE ho') hQ
  have E1x := E0.tr ((Cn _).tr E1)
  have zE1x := E1x.size
  try simp only [qz] at zE1x
  have ho1 := ho.ext ((Cn _).tr E1)
  cases hls : BF y.tag x.tag
  ·simp (disch := first | exact xD | fail) [-bind_some, -Aa, -Ab]
   exact RN _ _ ao co l xA xA xA xA Ad hm ho1 E1x
  ·simp (disch := first | exact xD | fail) [-bind_some, -Aa, -Ab]
   refine Nk hx4 Ad hlt hx X2 ha (fun e' W a' c' l' f2 f3 f6 f5 hl' hm' ho' hE => RN e' W a' c' l' f2 f3 f6 f5 Ad (fun v hv => ?_) ho' hE) l.length 0 _ w1 Ad xA xA xA xA rfl E1x ho1
   rcases hm' v hv with h | rfl
   ·exact hm v h
   ·exact List.mem_of_getElem? hx
theorem OC {a b : Option Addr} {n m c d : Nat} {S S' : Nat → Prop} {xs ys : List Ver} {w : World} (hx4 : xs.length = 4) (hy4 : ys.length = 4) (ha : D AW S w [.slice a n c] xs) (hb : D AW S' w [.slice b m d] ys) :
  Af (EV P 140 #[.agg #[.slice a n c], .agg #[.slice b m d]] w) fun r => ∃ (l : List Ver) (a' : Option Addr) (c' : Nat), r.1 = .slice a' l.length c' ∧ O AW (fun b => w.heap.size ≤ b) r.2 [.slice a' l.length c'] l ∧ l.length ≤ 4 ∧ (∀ v ∈ l, v ∈ xs) ∧ Ext w r.2 := by
 obtain ⟨rfl, _, _⟩ := ha.n
 obtain ⟨rfl, _, _⟩ := hb.n
 rw [hx4, hy4]
 rw [hx4] at ha
 rw [hy4] at hb
 refine Af.post fun Q hQ => ?_
 refine Bw (MY _ _ _) ?_
 simp (disch := first | exact xD | fail) [-bind_some, -Aa, -Ab]
 refine Af.mono (Nl (g2 := w.heap.size) (g3 := w.heap.size + 1) (w0 := (w.alloc (.cells #[.slice a 4 c] 156)).alloc (.cells #[.slice b 4 d] 156)) hx4 hy4 (by first | assumption | rfl | (simp (disch := first | exact xD | fail) [-bind_some, qs, -Aa, -Ab]; done)) (by first | assumption | rfl | (simp (disch := first | exact xD | fail) [-bind_some, qs, -Aa, -Ab]; done)) (ha.ext xE) (hb.ext xE) 4 0 _ _ (some ⟨w.heap.size + 1 + 1, 0, none⟩) 0 [] Ad (by simp) (by simp) xA xA rfl rfl xE ((O.empty (L := Cu) (mx := 1954687338211) (g := w.heap.size + 1 + 1) (by first | assumption | rfl | (simp (disch := first | exact xD | fail) [-bind_some, qs, -Aa, -Ab]; done))).wide xV)) ?_
 rintro r ⟨l', a', c', h1, h2, h3, h4, h5⟩
 exact hQ _ ⟨l', a', c', h1, h2.wide (fun b hb _ => by simp only [World.size_alloc] at hb; omega), h3, h4, (Ext.al (Ext.al Ext.rfl _) _).tr h5⟩
def OD (v : Ver) : Prop := 0 ≤ v.key ∧ v.key ≤ 3 ∧ (0 < v.tag.t → v.past.length = 4)
def SJ (x : CNode) : Prop := x.store.length = 4 ∧ x.wait.length ≤ 6 ∧ (∀ v ∈ x.store, OD v) ∧ (∀ v ∈ x.wait, OD v)
theorem OE {g1 g2 m c : Nat} {a : Option Addr} {S : Nat → Prop} {ms : List CNode} {x : CNode} {e : Env} {w : World} (hm : ms.length = m) (h0 : 0 < m) (h4 : m ≤ 100) (hx : ms[m - 1]? = some x) (e2 : e 2 = pt g1 0) (e4 : e 4 = pt g2 0) (e5 : e 5 = i64 m)
  (X1 : hp w g1 = some (.cells #[.slice a m c] 98 (0, 0))) (X2 : hp w g2 = some (.cells #[.slice none 0 0] 98 (0, 0))) (ho : O Bb S w [.slice a m c] ms) (hg1 : ¬ S g1) (hg2 : ¬ S g2) (h12 : g1 ≠ g2) :
  Af (CQ e w) fun r => r.1 = .agg #[.slice a m c] ∧ O Bb S r.2 [.slice a m c] (ms.set (m - 1) ⟨x.store, []⟩) ∧ Mod (fun b => S b ∨ b = g2) w r.2 := by
 have y1 := Aq X1
 have y2 := Aq X2
 obtain ⟨g, cur, ds, S2, rfl, hSg, hgl, hg, hle, hx1, hS2, put⟩ := ho.PO AD hx
 obtain ⟨a2, c2, a3, c3, Ss, Sw, rfl, o2, o3, hSs, hSw⟩ := O.LM hx1
 simp only [BN] at hg hle put
 have n1 : g ≠ g1 := fun h => hg1 (h ▸ hSg)
 have n2 : g ≠ g2 := fun h => hg2 (h ▸ hSg)
 rw [JY]
 refine Af.post fun Q hQ => ?_
 simp (disch := first | exact xD | fail) [-bind_some, qs, -Aa, -Ab, qm, e2, e4, e5, X1, X2, hg, Da, show (m : Int) - 1 = ((m - 1 : Nat) : Int) by omega]
 have oW := put (w.setRow g (Bu cur ((m - 1) * 2) [.slice a2 x.store.length c2, .slice none 0 0]).toArray) _ ⟨x.store, []⟩ Ss ((O.GC (v := ⟨x.store, []⟩) (S2 := fun _ => False) (o2.Aj (fun b hS hb => Ac (hS2 b (hSs b hS).1).2.1)) O.nil (fun _ _ _ h => h)).wide (fun b h _ => h.elim id (fun h => h.elim))) (by first | assumption | rfl | (simp (disch := first | exact xD | fail) [-bind_some, -Aa, -Ab, hg]; done))
  (fun b hb _ hne' hn => Ac hne') (fun b _ h => .inl (hSs b h).1)
 refine hQ _ ⟨rfl, (oW.Aj ?_).wide ?_, ((Mod.of Ext.rfl _).AQ (.inr (.inl hSg)) _).AQ (.inr (.inr rfl)) _⟩
 ·intro b hS hb
  refine Ac ?_
  rintro rfl
  rcases hS with h | h
  ·exact hg2 h.1
  ·exact hg2 (hS2 _ (hSs _ h).1).1
 ·intro b hS hb
  rcases hS with h | h
  ·exact h.1
  ·exact (hS2 _ (hSs _ h).1).1
theorem OG {a : Option Addr} {n c k : Nat} {S : Nat → Prop} {ns : List CNode} {w : World} (h1 : 1 < ns.length) (h4 : ns.length ≤ 100) (hk : k < ns.length) (hf : ∀ x ∈ ns, SJ x) (ho : O Bb S w [.slice a n c] ns) :
  Af (EV P 117 #[.agg #[.slice a n c], i64 k] w) fun r => ∃ (ms : List CNode) (a' : Option Addr) (c' : Nat), r.1 = .agg #[.slice a' ms.length c'] ∧ O Bb (fun b => S b ∨ In w.heap.size r.2.heap.size b) r.2 [.slice a' ms.length c'] ms ∧ ms.length = ns.length - 1 ∧ (∀ y ∈ ms, SJ y) ∧ Mod S w r.2 := by
 obtain ⟨rfl, hm, _⟩ := ho.n
 obtain ⟨css, S1, S2, a9, c9, L1, L2, d1, d2, sl1, sl2, A1, A2, dB⟩ := ho.UA AD Mu (j := k) (k := k + 1) Ad Ad
 have sl2' : ∀ w', sl P 96 (.slice a ns.length c) (some (i64 ((k : Int) + 1))) none none w' = some (.slice a9 (ns.length - (k + 1)) c9, w') := fun w' => by
  have := sl2 w'
  rwa [show ((k + 1 : Nat) : Int) = (k : Int) + 1 by omega] at this
 refine Af.post fun Q hQ => ?_
 refine Bw (MO _ _ _) ?_
 simp (disch := first | exact xD | fail) [-bind_some, qs, -Aa, -Ab, sl1, sl2']
 refine Af.bind (O.QR (P := P) (L := OV) (mx := 2932031007317) (xs := []) (ys := ns.take k) (ty := 96) Mu Mv rfl AD (O.empty (L := OV) (mx := 2932031007317) (g := w.heap.size + 1 + 1) (by first | assumption | rfl | (simp (disch := first | exact xD | fail) [-bind_some, qs, -Aa, -Ab]; done))) (L1.Aj (by intro b hS hb; (try dsimp only at hS); (try simp only [In, qz] at hS hb); first | rfl | (simp (disch := first | exact xF | fail) only [qk]; done))) (fun b hb h1 h2 => by have := (d1 b h2).2.2; have h1 : b = w.heap.size + 1 + 1 := h1; omega) (A1.imp id fun ⟨b, o, h1, h2, h4⟩ => ⟨b, o, h1, h4.mono (Ext.Aj xE)⟩) (by rw [List.length_take]; omega) (by simp; omega) AD AD) ?_
 rintro ⟨_, w1⟩ ⟨a1, c1, rfl, o1, M1⟩
 have zM1 := M1.size
 try simp only [qz] at zM1
 try dsimp only at o1 M1
 have zM1 := M1.size
 simp only [World.size_alloc, Ak, List.length_nil, Nat.zero_add, List.nil_append] at zM1 o1
 have F1 : Ext w w1 := Mod.after xE M1 (fun b h1 h2 => by have h2 : b = w.heap.size + 1 + 1 := h2; omega)
 have Y1 : hp w1 w.heap.size = some (.cells #[.slice a ns.length c] 98 (0, 0)) := (M1.Ai _ xN Ad).trans (by first | assumption | rfl | (simp (disch := first | exact xD | fail) [-bind_some, qs, -Aa, -Ab]; done))
 have Y2 : hp w1 (w.heap.size + 1) = some (.cells #[.slice none 0 0] 98 (0, 0)) := (M1.Ai _ xN Ad).trans (by first | assumption | rfl | (simp (disch := first | exact xD | fail) [-bind_some, qs, -Aa, -Ab]; done))
 simp (disch := first | exact xD | fail) [-bind_some, -Aa, -Ab, Y1]
 have htk : (ns.take k).length = k := by rw [List.length_take]; omega
 refine Af.bind (O.QR (P := P) (L := OV) (mx := 2932031007317) (xs := ns.take k) (ys := ns.drop (k + 1)) (ty := 96) Mu Mv rfl AD o1 (L2.Aj (fun b hS hb => F1.Ai hb)) (fun b hb h1 h2 => ?_) (A2.imp id fun ⟨b, o, h1, h2, h4⟩ => ⟨b, o, h1, h4.mono (Ext.Aj F1)⟩) (by rw [List.length_drop]) (by rw [htk]; omega) AD AD) ?_
 ·have q := d2 b h2
  rcases h1 with h | h | h
  ·have h : b = w.heap.size + 1 + 1 := h
   omega
  ·exact q.2.1 h
  ·omega
 rintro ⟨_, w2⟩ ⟨a3, c3, rfl, o3, M2⟩
 have zM2 := M2.size
 try simp only [] at zM2
 try dsimp only at o3 M2
 have zM2 := M2.size
 obtain ⟨ms, hms⟩ : ∃ ms, ms = ns.take k ++ ns.drop (k + 1) := ⟨_, rfl⟩
 have hml : ms.length = ns.length - 1 := by rw [hms, List.length_append, htk, List.length_drop]; omega
 have hmf : ∀ x ∈ ms, SJ x := by
  intro x hx
  rw [hms, List.mem_append] at hx
  rcases hx with h | h
  ·exact hf x (List.mem_of_mem_take h)
  ·exact hf x (List.mem_of_mem_drop h)
 rw [htk, ← hms, show k + (ns.length - (k + 1)) = ms.length by omega] at o3
 rw [htk, show k + (ns.length - (k + 1)) = ms.length by omega]
 have hS3 : ∀ b, ((b = w.heap.size + 1 + 1 ∨ S1 b ∨ w.heap.size + 1 + 1 + 1 ≤ b ∧ b < w1.heap.size) ∨ S2 b ∨ w1.heap.size ≤ b ∧ b < w2.heap.size) → (S b ∧ b < w.heap.size) ∨ (w.heap.size + 1 + 1 ≤ b ∧ b < w2.heap.size) := by
  rintro b ((h | h | h) | h | h)
  ·exact .inr Ad
  ·exact .inl ⟨(d1 b h).1, (d1 b h).2.2⟩
  ·exact .inr Ad
  ·exact .inl ⟨(d2 b h).1, (d2 b h).2.2⟩
  ·exact .inr Ad
 have Z1 : hp w2 w.heap.size = some (.cells #[.slice a ns.length c] 98 (0, 0)) := (M2.Ai _ Ad (fun h => by have := hS3 _ (.inl h); omega)).trans Y1
 have Z2 : hp w2 (w.heap.size + 1) = some (.cells #[.slice none 0 0] 98 (0, 0)) := (M2.Ai _ Ad (fun h => by have := hS3 _ (.inl h); omega)).trans Y2
 have N2 : Mod S w w2 := Mod.Bd (Mod.of F1 S) M2 (fun b hb h => by rcases hS3 _ (.inl h) with q | q; exact q.1; omega)
 have o3' := o3.wide (S' := fun b => (S b ∧ b < w.heap.size) ∨ (w.heap.size + 1 + 1 ≤ b ∧ b < w2.heap.size)) (fun b h _ => hS3 b h)
 obtain ⟨W3, hW3⟩ : ∃ W3 : World, W3 = w2.setRow w.heap.size #[.slice a3 ms.length c3] := ⟨_, rfl⟩
 have sW : W3.heap.size = w2.heap.size := by rw [hW3, size_setRow]
 have kW : ∀ b, b ≠ w.heap.size → hp W3 b = hp w2 b := fun b q => by rw [hW3, Ac q]
 have V1 : hp W3 w.heap.size = some (.cells #[.slice a3 ms.length c3] 98 (0, 0)) := by
  rw [hW3]
  exact (by first | assumption | rfl | (simp (disch := first | exact xD | fail) [-bind_some, -Aa, -Ab, Z1]; done))
 have V2 : hp W3 (w.heap.size + 1) = some (.cells #[.slice none 0 0] 98 (0, 0)) := (kW _ Ad).trans Z2
 have N3 : Mod S w W3 := by
  rw [hW3]
  exact N2.AQ (.inl Ad) _
 have oW := o3'.Aj (w' := W3) (fun b hS hb => kW b Ad)
 have fin : ∀ (e : Env) (W : World) (ls : List CNode) (S' : Nat → Prop), ls.length = ms.length → (∀ x ∈ ls, SJ x) → e 2 = pt w.heap.size 0 → e 4 = pt (w.heap.size + 1) 0 → e 5 = i64 ms.length → hp W w.heap.size = some (.cells #[.slice a3 ms.length c3] 98 (0, 0)) → hp W (w.heap.size + 1) = some (.cells #[.slice none 0 0] 98 (0, 0)) →
   O Bb S' W [.slice a3 ms.length c3] ls → (∀ b, S' b → (S b ∧ b < w.heap.size) ∨ (w.heap.size + 1 + 1 ≤ b ∧ b < W.heap.size)) → Mod S w W → Af (CQ e W) Q := by
  intro e W ls S' hll hlf e2 e4 e5 U1 U2 ho hS' hM
  obtain ⟨x, hx, _⟩ := An (l := ls) (k := ms.length - 1) Ad
  have zM := hM.size
  refine Af.mono (OE hll Ad Ad hx e2 e4 e5 U1 U2 ho (fun h => by have := hS' _ h; omega) (fun h => by have := hS' _ h; omega) Ad) ?_
  rintro r ⟨h1, h2, h3⟩
  have zh := h3.size
  have hle : (ls.set (ms.length - 1) ⟨x.store, []⟩).length = ms.length := by rw [List.length_set]; exact hll
  refine hQ _ ⟨ls.set (ms.length - 1) ⟨x.store, []⟩, a3, c3, by rw [hle]; exact h1, ?_, by rw [hle]; exact hml, ?_, ?_⟩
  ·rw [hle]
   refine h2.wide (fun b h _ => ?_)
   rcases hS' b h with h | h
   ·exact .inl h.1
   ·exact .inr (by simp only [In]; omega)
  ·intro y hy
   rcases List.mem_or_eq_of_mem_set hy with h | rfl
   ·exact hlf y h
   ·have q := hlf x (List.mem_of_getElem? hx)
    exact ⟨q.1, by simp, q.2.2.1, by simp⟩
  ·refine Mod.Bd hM h3 (fun b hb h => ?_)
   rcases h with h | h
   ·rcases hS' b h with h | h
    ·exact h.1
    ·omega
   ·omega
 by_cases hk0 : k = 0
 ·simp (disch := first | exact xD | fail) [-bind_some, -Aa, -Ab, qm, Z1, show ¬ 0 < k by omega]
  rw [← hW3]
  exact fin _ W3 ms _ rfl hmf rfl rfl rfl V1 V2 oW (fun b h => by rw [sW]; exact h) N3
 by_cases hkm : ms.length ≤ k
 ·simp (disch := first | exact xD | fail) [-bind_some, -Aa, -Ab, qm, Z1, show 0 < k by omega, show ¬ k < ms.length by omega]
  rw [← hW3]
  exact fin _ W3 ms _ rfl hmf rfl rfl rfl V1 V2 oW (fun b h => by rw [sW]; exact h) N3
 obtain ⟨u, hu, _⟩ := An (l := ms) (k := k - 1) Ad
 obtain ⟨v, hv, _⟩ := An (l := ms) (k := k) Ad
 have qu := hmf u (List.mem_of_getElem? hu)
 have qv := hmf v (List.mem_of_getElem? hv)
 have qun : ms.length ≤ 100 := by omega
 obtain ⟨g, o6, cs6, rfl, A6, D6, _, l6⟩ := o3'.d.at AD hu
 obtain ⟨a5, c5, a6, c6, rfl, h5, h6⟩ := D.node.1 D6
 have p0 := A6 0 _ rfl
 have p1 := A6 1 _ rfl
 simp only [BN, Nat.add_zero] at p0 p1
 obtain ⟨b7, o7, cs7, hb7, A7, D7, _, l7⟩ := o3'.d.at AD hv
 simp only [Option.some.injEq, Addr.mk.injEq, and_true] at hb7
 obtain ⟨rfl, rfl⟩ := hb7
 obtain ⟨a7, c7, a8, c8, rfl, h7, h8⟩ := D.node.1 D7
 have q0 := A7 0 _ rfl
 have q1 := A7 1 _ rfl
 simp only [BN, Nat.add_zero] at q0 q1
 have hgw : g ≠ w.heap.size ∧ g ≠ w.heap.size + 1 := by
  obtain ⟨g', _, _, _, he, hSg', _⟩ := o3'.PO AD hu
  simp only [Option.some.injEq, Addr.mk.injEq, and_true] at he
  omega
 simp (disch := first | exact xD | fail) [-bind_some, qs, -Aa, -Ab, qm, Z1, show 0 < k by omega, show k < ms.length by omega, Da, show (k : Int) - 1 = ((k - 1 : Nat) : Int) by omega, p0, q0]
 rw [← hW3]
 have EW : ∀ b, b ≠ w.heap.size → hp (dw W3) b = hp w2 b := fun b h => (BW _ _).trans (kW b h)
 refine Af.bind (OC qu.1 qv.1 (h5.Aj (w' := dw W3) (fun b hS hb => EW b Ad)) (h7.Aj (w' := dw W3) (fun b hS hb => EW b Ad))) ?_
 rintro ⟨_, w4⟩ ⟨ls, a4, c4, rfl, o4, hl4, hlu, E4⟩
 have zE4 := E4.size
 try simp only [qz] at zE4
 try dsimp only at o4 E4
 have zE4 := E4.size
 rw [Ak] at zE4 o4
 have k4 : ∀ b, b < W3.heap.size → hp w4 b = hp W3 b := fun b hb => (E4.Ai (by rw [Ak]; exact hb)).trans (BW _ _)
 obtain ⟨g', cur, ds, Sx, hge, hSg, hgl, hg, hle, hx1, hSx, put⟩ := (oW.Aj (w' := w4) (fun b hS hb => k4 b hb)).PO AD hu
 simp only [Option.some.injEq, Addr.mk.injEq, and_true] at hge
 obtain ⟨rfl, rfl⟩ := hge
 obtain ⟨a9', c9', a6', c6', Ss, Sw, rfl, o5, o6, hSs, hSw⟩ := O.LM hx1
 simp only [BN] at hg hle put
 have U1 : hp w4 w.heap.size = some (.cells #[.slice (some ⟨g, 0, none⟩) ms.length c3] 98 (0, 0)) := (k4 _ Ad).trans V1
 have U2 : hp w4 (w.heap.size + 1) = some (.cells #[.slice none 0 0] 98 (0, 0)) := (k4 _ Ad).trans V2
 simp (disch := first | exact xD | fail) [-bind_some, -Aa, -Ab, qm, U1, hg]
 have sub : ∀ b, Sx b → b ≠ g ∧ b < w2.heap.size ∧ ((S b ∧ b < w.heap.size) ∨ (w.heap.size + 1 + 1 ≤ b ∧ b < w2.heap.size)) := by
  intro b h
  have q := hSx b h
  exact ⟨q.2.1, by omega, q.1⟩
 have oP := put (w4.setRow g (Bu cur ((k - 1) * 2) [.slice a9' u.store.length c9', .slice a4 ls.length c4]).toArray) _ ⟨u.store, ls⟩ _ (O.GC (v := ⟨u.store, ls⟩) (o5.Aj (fun b hS hb => Ac (sub b (hSs b hS).1).1)) (o4.Aj (fun b hS hb => Ac Ad)) (fun b _ h1 h2 => by have := (sub b (hSs b h1).1).2.1; omega)) (by first | assumption | rfl | (simp (disch := first | exact xD | fail) [-bind_some, -Aa, -Ab, hg]; done))
  (fun b hb _ hne' hn => Ac hne') (fun b _ h => by rcases h with h | h; exact .inl (hSs b h).1; exact .inr Ad)
 refine fin _ _ (ms.set (k - 1) ⟨u.store, ls⟩) _ (by rw [List.length_set]) ?_ rfl rfl rfl ((Ac Ad).trans U1) ((Ac Ad).trans U2) oP.lt ?_ ?_
 ·intro y hy
  rcases List.mem_or_eq_of_mem_set hy with h | rfl
  ·exact hmf y h
  ·exact ⟨qu.1, by show ls.length ≤ 6; omega, qu.2.2.1, fun v hv => qu.2.2.1 v (hlu v hv)⟩
 ·intro b h
  rw [size_setRow] at h ⊢
  rcases h.1 with h1 | h1 | h1
  ·rcases h1.1 with q | q
   ·exact .inl q
   ·exact .inr Ad
  ·rcases (sub b (hSs b h1).1).2.2 with q | q
   ·exact .inl q
   ·exact .inr Ad
  ·right
   omega
 ·refine (N3.ex ((Cn _).tr E4)).AQ ?_ _
  rcases hSg with h | h
  ·exact .inr h.1
  ·exact .inl Ad
def Nm (ns : List CNode) : Prop := 0 < ns.length ∧ ns.length ≤ 4 ∧ ∀ x ∈ ns, SJ x
theorem Wb : SJ J6 := by
 refine ⟨rfl, by decide, fun v hv => ?_, fun v hv => by simp [J6] at hv⟩
 obtain rfl := List.eq_of_mem_replicate hv
 exact ⟨by decide, by decide⟩
theorem TT {m : Nat} (h : m < 4) : Nm (BU (1 + (m : Int))) := by
 have e : BU (1 + (m : Int)) = List.replicate (m + 1) J6 := by
  rw [BU, if_pos (by simp only [Bool.and_eq_true, decide_eq_true_eq]; omega)]
  congr 1
  omega
 rw [e]
 refine ⟨by simp, by simp; omega, fun x hx => ?_⟩
 obtain rfl := List.eq_of_mem_replicate hx
 exact Wb
theorem Qb {ns : List CNode} {i : Nat} {v : Ver} {x : CNode} (h : Nm ns) (hx : ns[i]? = some x) (h6 : x.wait.length < 6) (hv : OD v) : Nm (Hm ns i v) := by
 have q := h.2.2 x (List.mem_of_getElem? hx)
 unfold Hm
 rw [hx]
 dsimp only
 split
 ·split
  ·refine ⟨by rw [List.length_set]; exact h.1, by rw [List.length_set]; exact h.2.1, fun y hy => ?_⟩
   rcases List.mem_or_eq_of_mem_set hy with hy | rfl
   ·exact h.2.2 y hy
   ·refine ⟨?_, ?_, ?_, ?_⟩
    ·simp only [addNode, List.length_set]
     exact q.1
    ·unfold addNode
     dsimp only
     split
     ·omega
     ·rw [List.length_append]; simp only [List.length_cons, List.length_nil]; omega
    ·intro u hu
     simp only [addNode] at hu
     rcases List.mem_or_eq_of_mem_set hu with hu | rfl
     ·exact q.2.2.1 u hu
     ·exact hv
    ·intro u hu
     unfold addNode at hu
     dsimp only at hu
     split at hu
     ·exact q.2.2.2 u hu
     ·rcases List.mem_append.1 hu with hu | hu
      ·exact q.2.2.2 u hu
      ·obtain rfl := List.mem_singleton.1 hu
       exact hv
  ·exact h
 ·exact h
theorem SK {ns : List CNode} {k : Nat} {x y : CNode} {v : Ver} {l : List Ver} (h : Nm ns) (hx : ns[k]? = some x) (hy : ns[k + 1]? = some y) (hw : x.wait = v :: l) (h6 : y.wait.length < 6) : Nm (HB ns k) := by
 have q := h.2.2 x (List.mem_of_getElem? hx)
 have qw := q.2.2.2
 rw [hw] at qw
 rw [KW hx hw]
 refine Qb (x := y) ⟨by rw [List.length_set]; exact h.1, by rw [List.length_set]; exact h.2.1, fun z hz => ?_⟩ (by rw [List.getElem?_set_ne Ad]; exact hy) h6 (qw v List.mem_cons_self)
 rcases List.mem_or_eq_of_mem_set hz with hz | rfl
 ·exact h.2.2 z hz
 ·refine ⟨q.1, ?_, q.2.2.1, fun u hu => qw u (List.mem_cons_of_mem _ hu)⟩
  have := q.2.1
  rw [hw] at this
  simp only [List.length_cons] at this
  show l.length ≤ 6
  omega
theorem SL {ns : List CNode} (h : Nm ns) (h4 : ns.length < 4) : Nm (Fs ns) := by
 obtain ⟨x, hx, _⟩ := An (l := ns) (k := ns.length - 1) (by have := h.1; omega)
 have hj : Fs ns = ns ++ [⟨x.store, []⟩] := by rw [Fs, KV, hx]
 have q := h.2.2 x (List.mem_of_getElem? hx)
 rw [hj]
 refine ⟨by simp, by simp; omega, fun y hy => ?_⟩
 rcases List.mem_append.1 hy with hy | hy
 ·exact h.2.2 y hy
 ·obtain rfl := List.mem_singleton.1 hy
  exact ⟨q.1, by simp, q.2.2.1, by simp⟩
theorem Jd {a : Option Addr} {n c : Nat} {S : Nat → Prop} {ns : List CNode} {x : CNode} (hx : ns[0]? = some x) {w : World} (ha : D Bb S w [.slice a n c] ns) :
  Af (EV P 142 #[.agg #[.slice a n c]] w) fun r => r.1 = .bool (decide (x.wait.length < 6)) ∧ Ext w r.2 := by
 have hl0 : 0 < ns.length := (List.getElem?_eq_some_iff.1 hx).1
 obtain ⟨rfl, hm, _⟩ := ha.n
 obtain ⟨b1, o1, cs1, rfl, A1, D1, _, l1⟩ := ha.at AD hx
 obtain ⟨a2, c2, a3, c3, rfl, h2, h3⟩ := D.node.1 D1
 have p0 := A1 0 _ rfl
 have p1 := A1 1 _ rfl
 simp only [BN, Nat.add_zero] at p0 p1
 refine Af.post fun Q hQ => ?_
 refine Bw (MZ _ _) ?_
 cases h6 : decide (x.wait.length < 6)
 ·rw [h6] at hQ
  simp only [decide_eq_false_iff_not] at h6
  simp (disch := first | exact xD | fail) [-bind_some, qs, -Aa, -Ab, Da, show ¬ (x.wait.length : Int) < 6 by omega, p1]
  exact hQ _ ⟨rfl, xE⟩
 ·rw [h6] at hQ
  simp only [decide_eq_true_eq] at h6
  simp (disch := first | exact xD | fail) [-bind_some, qs, -Aa, -Ab, Da, show (x.wait.length : Int) < 6 by omega, p1]
  exact hQ _ ⟨rfl, xE⟩
abbrev Bx : Lay (List Done) := HJ 41
theorem Je (d : Done) (w : World) : Af (EV P 31 #[.agg (Cd d).toArray] w) fun r => r.1 = .bool (Dq d) ∧ Ext w r.2 := by
 refine Af.post fun Q hQ => ?_
 refine Bw (Mm _ _) ?_
 simp (disch := first | exact xD | fail) [-bind_some, qs, -Aa, -Ab]
 refine Af.bind (AN _ _ _ _) ?_
 rintro _ rfl
 unfold Dq at hQ
 cases b1 : (decide (0 ≤ d.Ay) && decide (d.Ay ≤ 3))
 ·rw [b1] at hQ
  simp (disch := first | exact xD | fail) [-bind_some, -Aa, -Ab]
  exact hQ _ ⟨by simp, xE⟩
 simp (disch := first | exact xD | fail) [-bind_some, qs, -Aa, -Ab]
 refine Af.bind (AN _ _ _ _) ?_
 rintro _ rfl
 cases b2 : (decide (1 ≤ d.kind) && decide (d.kind ≤ 3))
 ·rw [b2] at hQ
  simp (disch := first | exact xD | fail) [-bind_some, -Aa, -Ab]
  exact hQ _ ⟨by simp, xE⟩
 simp (disch := first | exact xD | fail) [-bind_some, qs, -Aa, -Ab]
 refine Af.bind (AN _ _ _ _) ?_
 rintro _ rfl
 cases b3 : (decide (0 ≤ d.key) && decide (d.key ≤ 3))
 ·rw [b3] at hQ
  simp (disch := first | exact xD | fail) [-bind_some, -Aa, -Ab]
  exact hQ _ ⟨by simp, xE⟩
 simp (disch := first | exact xD | fail) [-bind_some, qs, -Aa, -Ab]
 refine Af.bind (Ii d.tag _) ?_
 rintro ⟨_, w1⟩ ⟨rfl, E1⟩
 try dsimp only at E1
 have zE1 := E1.size
 try simp only [qz] at zE1
 cases b4 : Cc d.tag
 ·rw [b4] at hQ
  simp (disch := first | exact xD | fail) [-bind_some, -Aa, -Ab]
  exact hQ _ ⟨by simp, xE⟩
 rw [b1, b2, b3, b4] at hQ
 cases b5 : (d.kind == 2)
 ·rw [b5] at hQ
  simp (disch := first | exact xD | fail) [-bind_some, qs, -Aa, -Ab, b5, E1.Ai]
  exact hQ _ ⟨by simp, xE⟩
 ·rw [b5] at hQ
  simp (disch := first | exact xD | fail) [-bind_some, qs, -Aa, -Ab, b5, E1.Ai]
  exact hQ _ ⟨by simp, xE⟩
theorem LH (d : Done) (w : World) : Af (EV P 35 #[.agg (Cd d).toArray] w) fun r => r.1 = .bool (!Dq d) ∧ Ext w r.2 := by
 refine Af.post fun Q hQ => ?_
 refine Bw (KB _ _) ?_
 simp (disch := first | exact xD | fail) [-bind_some, qs, -Aa, -Ab]
 refine Af.bind (Dl _ _ _ _) ?_
 rintro _ rfl
 unfold Dq at hQ
 cases b1 : (decide (0 ≤ d.Ay) && decide (d.Ay ≤ 3))
 ·rw [b1] at hQ
  simp (disch := first | exact xD | fail) [-bind_some, -Aa, -Ab]
  exact hQ _ ⟨by simp, xE⟩
 simp (disch := first | exact xD | fail) [-bind_some, qs, -Aa, -Ab]
 refine Af.bind (Dl _ _ _ _) ?_
 rintro _ rfl
 cases b2 : (decide (1 ≤ d.kind) && decide (d.kind ≤ 3))
 ·rw [b2] at hQ
  simp (disch := first | exact xD | fail) [-bind_some, -Aa, -Ab]
  exact hQ _ ⟨by simp, xE⟩
 simp (disch := first | exact xD | fail) [-bind_some, qs, -Aa, -Ab]
 refine Af.bind (Pz _ _) ?_
 rintro _ rfl
 cases b3 : VK d.key
 ·rw [show (decide (0 ≤ d.key) && decide (d.key ≤ 3)) = false from b3] at hQ
  simp (disch := first | exact xD | fail) [-bind_some, -Aa, -Ab]
  exact hQ _ ⟨by simp, xE⟩
 simp (disch := first | exact xD | fail) [-bind_some, qs, -Aa, -Ab]
 refine Af.bind (J4 d.tag _) ?_
 rintro ⟨_, w1⟩ ⟨rfl, E1⟩
 try dsimp only at E1
 have zE1 := E1.size
 try simp only [qz] at zE1
 cases b4 : Cc d.tag
 ·rw [b4] at hQ
  simp (disch := first | exact xD | fail) [-bind_some, -Aa, -Ab]
  exact hQ _ ⟨by simp, xE⟩
 rw [b1, b2, b4, show (decide (0 ≤ d.key) && decide (d.key ≤ 3)) = true from b3] at hQ
 have hz : ((d.tag.t == 0) && (d.tag.p == 0)) = !decide (0 < d.tag.t) := by
  rw [Bool.eq_iff_iff]
  simp only [Cc, Bool.or_eq_true, Bool.and_eq_true, beq_iff_eq, decide_eq_true_eq] at b4
  simp only [Bool.and_eq_true, beq_iff_eq, Bool.not_eq_true', decide_eq_false_iff_not]
  omega
 cases b6 : decide (0 < d.tag.t)
 ·rw [b6] at hQ hz
  cases b5 : (d.kind == 2)
  ·rw [b5] at hQ
   have b5' : (d.kind != 2) = true := by rw [bne, b5]; rfl
   simp (disch := first | exact xD | fail) [-bind_some, qs, -Aa, -Ab, b5', hz, E1.Ai]
   exact hQ _ ⟨by simp, xE⟩
  ·rw [b5] at hQ
   have b5' : (d.kind != 2) = false := by rw [bne, b5]; rfl
   simp (disch := first | exact xD | fail) [-bind_some, qs, -Aa, -Ab, b5', hz, E1.Ai]
   exact hQ _ ⟨by simp, xE⟩
 ·rw [b6] at hQ hz
  simp (disch := first | exact xD | fail) [-bind_some, qs, -Aa, -Ab, hz, E1.Ai]
  exact hQ _ ⟨by simp, xE⟩
theorem OH {a : Option Addr} {c : Nat} {S : Nat → Prop} {xs : List Done} {w0 : World} :
  ∀ (d k : Nat) (e : Env) (w : World), k + d = xs.length → e 0 = .slice a xs.length c → e 3 = i64 k → D Bx S w0 [.slice a xs.length c] xs → Ext w0 w →
  Af (DQ e w) fun r => r.1 = .bool ((xs.drop k).all Dq && decide (xs.length ≤ 80)) ∧ Ext w0 r.2 := by
 intro d
 induction d with
 | zero =>
  intro k e w hd e0 e3 ha E0
  have zE0 := E0.size
  try simp only [qz] at zE0
  rw [Gf]
  obtain rfl : k = xs.length := by omega
  rw [List.drop_of_length_le Ad, List.all_nil, Bool.true_and]
  have hq : decide ((xs.length : Int) ≤ 80) = decide (xs.length ≤ 80) := by rw [Bool.eq_iff_iff]; simp only [decide_eq_true_eq]; omega
  refine Af.post fun Q hQ => ?_
  simp (disch := first | exact xD | fail) [-bind_some, -Aa, -Ab, e0, e3, hq]
  exact hQ _ ⟨by simp, xE⟩
 | succ d ih =>
  intro k e w hd e0 e3 ha E0
  have zE0 := E0.size
  try simp only [qz] at zE0
  rw [Gf]
  have hlt : k < xs.length := by omega
  obtain ⟨x, hx, hdx⟩ := An hlt
  have hn := ha.n
  obtain ⟨b1, o1, cs1, rfl, A1, D1, _, l1⟩ := (ha.ext E0).at AD hx
  obtain rfl := D.done.1 D1
  have p0 := A1 0 _ rfl
  have p1 := A1 1 _ rfl
  have p2 := A1 2 _ rfl
  have p3 := A1 3 _ rfl
  have p4 := A1 4 _ rfl
  simp only [Nat.add_zero] at p0 p1 p2 p3 p4
  simp only [Ko] at p0 p1 p2 p3 p4
  rw [hdx, List.all_cons]
  refine Af.post fun Q hQ => ?_
  simp (disch := first | exact xD | fail) [-bind_some, qs, -Aa, -Ab, e0, e3, hlt, JR, p0, p1, p2, p3, p4]
  refine Af.bind (Je x _) ?_
  rintro ⟨_, w1⟩ ⟨rfl, E1⟩
  try dsimp only at E1
  have zE1 := E1.size
  try simp only [qz] at zE1
  cases ho : Dq x
  ·rw [ho] at hQ
   simp (disch := first | exact xD | fail) [-bind_some, -Aa, -Ab]
   exact hQ _ ⟨by simp, xE⟩
  ·rw [ho] at hQ
   simp (disch := first | exact xD | fail) [-bind_some, -Aa, -Ab]
   exact Af.mono (ih (k + 1) _ _ Ad xA xA ha xE) (fun r h => hQ r ⟨by rw [h.1]; simp, h.2⟩)
theorem ET {a : Option Addr} {n c : Nat} {S : Nat → Prop} {xs : List Done} {w : World} (ha : D Bx S w [.slice a n c] xs) :
  Af (EV P 20 #[.slice a n c] w) fun r => r.1 = .bool (BM xs) ∧ Ext w r.2 := by
 obtain ⟨rfl, hm, _⟩ := ha.n
 refine Af.post fun Q hQ => ?_
 refine Bw (Mh _ _) ?_
 simp (disch := first | exact xD | fail) [-bind_some, -Aa, -Ab]
 exact Af.mono (OH xs.length 0 _ w Ad rfl rfl ha Ext.rfl) hQ
theorem Hn {a : Option Addr} {c : Nat} {S : Nat → Prop} {f : Value} {xs : List Done} {p : Done → Bool} {w0 : World} (hf : ∀ x ∈ xs, ∀ w, Ext w0 w → Af (UD P f #[.agg (Cd x).toArray] w) fun r => r.1 = .bool (p x) ∧ Ext w r.2) :
  ∀ (d k : Nat) (e : Env) (w : World), k + d = xs.length → e 0 = .slice a xs.length c → e 1 = f → e 7 = i64 xs.length → e 8 = i64 k → D Bx S w0 [.slice a xs.length c] xs → Ext w0 w →
  Af (BH e w) fun r => ∃ i : Int, r.1 = i64 i ∧ decide (0 ≤ i) = (xs.drop k).any p ∧ Ext w0 r.2 := by
 intro d
 induction d with
 | zero =>
  intro k e w hd e0 e1 e7 e8 ha E0
  have zE0 := E0.size
  try simp only [qz] at zE0
  rw [CI]
  obtain rfl : k = xs.length := by omega
  rw [List.drop_eq_nil_of_le Ad]
  refine Af.post fun Q hQ => ?_
  simp (disch := first | exact xD | fail) [-bind_some, -Aa, -Ab, e7, e8]
  exact hQ _ ⟨_, rfl, by simp, E0⟩
 | succ d ih =>
  intro k e w hd e0 e1 e7 e8 ha E0
  have zE0 := E0.size
  try simp only [qz] at zE0
  rw [CI]
  have hlt : k < xs.length := by omega
  obtain ⟨x, hx, hdx⟩ := An hlt
  have hn := ha.n
  obtain ⟨b1, o1, cs1, rfl, A1, D1, _, l1⟩ := (ha.ext E0).at AD hx
  obtain rfl := D.done.1 D1
  have p0 := A1 0 _ rfl
  have p1 := A1 1 _ rfl
  have p2 := A1 2 _ rfl
  have p3 := A1 3 _ rfl
  have p4 := A1 4 _ rfl
  simp only [Nat.add_zero] at p0 p1 p2 p3 p4
  simp only [Ko] at p0 p1 p2 p3 p4
  rw [hdx, List.any_cons]
  refine Af.post fun Q hQ => ?_
  simp (disch := first | exact xD | fail) [-bind_some, qs, -Aa, -Ab, e0, e1, e7, e8, hlt, JR, p0, p1, p2, p3, p4]
  refine Af.bind (hf x (List.mem_of_getElem? hx) _ E0) ?_
  rintro ⟨_, w1⟩ ⟨rfl, E1⟩
  try dsimp only at E1
  have zE1 := E1.size
  try simp only [qz] at zE1
  cases ho : p x
  ·rw [ho] at hQ
   simp (disch := first | exact xD | fail) [-bind_some, -Aa, -Ab]
   exact Af.mono (ih (k + 1) _ _ Ad xA xA xA xA ha xE) (fun r h => hQ r (by simpa using h))
  ·rw [ho] at hQ
   simp (disch := first | exact xD | fail) [-bind_some, -Aa, -Ab]
   exact hQ _ ⟨_, rfl, by simp, xE⟩
theorem FV {a : Option Addr} {n c : Nat} {S : Nat → Prop} {f : Value} {xs : List Done} {p : Done → Bool} {w : World} (ha : D Bx S w [.slice a n c] xs) (hf : ∀ x ∈ xs, ∀ w', Ext w w' → Af (UD P f #[.agg (Cd x).toArray] w') fun r => r.1 = .bool (p x) ∧ Ext w' r.2) :
  Af (EV P 34 #[.slice a n c, f] w) fun r => r.1 = .bool (xs.any p) ∧ Ext w r.2 := by
 obtain ⟨rfl, hm, _⟩ := ha.n
 have hi : Af (EV P 56 #[.slice a xs.length c, f] w) fun r => ∃ i : Int, r.1 = i64 i ∧ decide (0 ≤ i) = xs.any p ∧ Ext w r.2 := by
  refine Bw (GP _ _ _) ?_
  simp (disch := first | exact xD | fail) [-bind_some]
  exact Hn hf xs.length 0 _ w Ad rfl rfl rfl rfl ha Ext.rfl
 refine Bw (FB _ _ _) ?_
 simp (disch := first | exact xD | fail) [-bind_some]
 refine Af.bind hi ?_
 rintro ⟨_, w1⟩ ⟨i, rfl, h2, hE⟩
 simp (disch := first | exact xD | fail) [-bind_some, h2]
 exact hE
theorem GY {a : Option Addr} {n c : Nat} {S : Nat → Prop} {xs : List Done} {w : World} (ha : D Bx S w [.slice a n c] xs) :
  Af (EV P 14 #[.slice a n c] w) fun r => r.1 = .bool (BM xs) ∧ Ext w r.2 := by
 obtain ⟨rfl, hm, _⟩ := ha.n
 have hq : decide ((xs.length : Int) ≤ 80) = decide (xs.length ≤ 80) := by rw [Bool.eq_iff_iff]; simp only [decide_eq_true_eq]; omega
 refine Af.post fun Q hQ => ?_
 refine Bw (Mg _ _) ?_
 cases h : decide (xs.length ≤ 80)
 ·simp (disch := first | exact xD | fail) [-bind_some, -Aa, -Ab, hq, h]
  exact hQ _ ⟨by simp [BM, h], xE⟩
 ·simp (disch := first | exact xD | fail) [-bind_some, -Aa, -Ab, hq, h]
  refine Af.bind (FV (p := fun x => !Dq x) (ha.ext xE) (fun x _ w' E' => by have := Wz (P := P) (g := 35) (by kernel_rfl) [] [] [.agg (Cd x).toArray] w'; exact (by simpa using this : UD P (.func (.func 35) #[] #[]) #[.agg (Cd x).toArray] w' = _) ▸ LH x w')) ?_
  rintro ⟨_, w1⟩ ⟨rfl, E1⟩
  try dsimp only at E1
  have zE1 := E1.size
  try simp only [qz] at zE1
  simp (disch := first | exact xD | fail) [-bind_some, -Aa, -Ab]
  refine hQ _ ⟨?_, xE⟩
  rw [BM, h, Bool.and_true]
  congr 1
  rw [List.all_eq_not_any_not]
abbrev VD : List Int := [0, 1, 28, 2, 29, 14, 24, 3, 30, 22, 20, 15, 25, 17, 4, 8, 31, 27, 13, 23, 21, 19, 16, 7, 26, 12, 18, 6, 11, 5, 10, 9]
abbrev VE : List Int := [0, 1, 56, 2, 57, 49, 28, 3, 61, 58, 42, 50, 38, 29, 17, 4, 62, 47, 59, 36, 45, 43, 51, 22, 53, 39, 33, 30, 24, 18, 12, 5, 63, 55, 48, 27, 60, 41, 37, 16, 46, 35, 44, 21, 52, 32, 23, 11, 54, 26, 40, 15, 34, 20, 31, 10, 25, 14, 19, 9, 13, 8, 7, 6]
abbrev VF : List Int := [1, 10, 100, 1000, 10000, 100000, 1000000, 10000000, 100000000, 1000000000, 10000000000, 100000000000, 1000000000000, 10000000000000, 100000000000000, 1000000000000000, 10000000000000000, 100000000000000000, 1000000000000000000, 10000000000000000000]
structure Glob (W : World) : Prop where
 t32 : At W 4 0 (VD.map fun x => Value.int .u8 x)
 t64 : At W 5 0 (VE.map fun x => Value.int .u8 x)
 t10 : At W 1 0 (VF.map fun x => Value.int .u64 x)
theorem Glob.ext {w w' : World} (h : Glob w) (k : Ext w w') : Glob w' := ⟨h.t32.mono fun b hb => k.Ai hb, h.t64.mono fun b hb => k.Ai hb, h.t10.mono fun b hb => k.Ai hb⟩
theorem aB {n : Nat} (h : n < 100) (h10 : 10 ≤ n) : Bn n = [dg (n / 10), dg (n % 10)] := by
 rw [EU Ad, Dy (n := n / 10) Ad]
 rfl
theorem U5 {n : Nat} (h : n < 100) (w : World) : Af (EV P 69 #[i64 n] w) fun r => r = (.string (AZ (Bn n)), w) := by
 refine Af.post fun Q hQ => ?_
 refine Bw (Ga _ _) ?_
 by_cases h10 : n < 10
 ·have hs := QY (P := P) (t := 9) (by kernel_rfl) ⟨#[48, 49, 50, 51, 52, 53, 54, 55, 56, 57, 97, 98, 99, 100, 101, 102, 103, 104, 105, 106, 107, 108, 109, 110, 111, 112, 113, 114, 115, 116, 117, 118, 119, 120, 121, 122]⟩ (i := (n : Int)) (j := (n : Int) + 1) Ad Ad (by show _ ≤ ((36 : Nat) : Int); omega) w
  rw [show (n : Int).toNat = n by omega, show ((n : Int) + 1).toNat = n + 1 by omega, VV n h10, ← Dy h10] at hs
  simp (disch := first | exact xD | fail) [-bind_some, qs, -Aa, -Ab, show (n : Int) < 10 by omega, hs]
  exact hQ _ rfl
 ·have hs := QY (P := P) (t := 9) (by kernel_rfl) Gl (i := (n : Int) * 2) (j := (n : Int) * 2 + 2) Ad Ad (by show _ ≤ ((200 : Nat) : Int); omega) w
  rw [show ((n : Int) * 2).toNat = n * 2 by omega, show ((n : Int) * 2 + 2).toNat = n * 2 + 2 by omega, VW n h Ad, ← aB h Ad] at hs
  unfold Gl at hs
  have hw1 : IntKind.i64.wrap ((n : Int) * 2) = (n : Int) * 2 := HS Ad Ad
  have hw2 : IntKind.i64.wrap ((n : Int) * 2 + 2) = (n : Int) * 2 + 2 := HS Ad Ad
  simp (disch := first | exact xD | fail) [-bind_some, -Aa, -Ab, show ¬ (n : Int) < 10 by omega, Io, hw1, hw2, hs]
  exact hQ _ rfl
theorem U6 {n : Nat} (h1 : 100 ≤ n) (h2 : n ≤ 999) (w : World) : Af (EV P 94 #[.int .u64 n] w) fun r => ∃ L : Nat, r = (i64 L, w) ∧ 7 ≤ L ∧ L ≤ 10 := by
 refine Af.post fun Q hQ => ?_
 refine Bw (Jv _ _) ?_
 simp (disch := first | exact xD | fail) [-bind_some, -Aa, -Ab, show ¬ (4294967296 : Int) ≤ n by omega]
 rw [HX]
 simp (disch := first | exact xD | fail) [-bind_some, qs, -Aa, -Ab, show ¬ (65536 : Int) ≤ n by omega]
 rw [HY]
 by_cases h : 256 ≤ n
 ·obtain ⟨m, hm⟩ : ∃ m : Nat, m = n / 256 := ⟨_, rfl⟩
  have hsh : (n : Int) / 2 ^ min 8 IntKind.u64.bits = (m : Int) := by
   show (n : Int) / 2 ^ 8 = _
   omega
  obtain ⟨b, hb⟩ : ∃ b, b = UInt8.ofNat (if m = 0 then 0 else m.log2 + 1) := ⟨_, rfl⟩
  have hb1 := VY m Ad Ad
  rw [← hb] at hb1
  have hat := RC m Ad
  rw [← hb] at hat
  have hix := fun w => JP (P := P) (t := 9) (by kernel_rfl) P6 (k := .u8) (i := (m : Int)) Ad (b := b) (by simpa using hat) w
  unfold P6 at hix
  have hw8 : IntKind.u8.wrap (m : Int) = m := Xb Ad Ad
  have hw3 : IntKind.i64.wrap (b.toNat : Int) = b.toNat := HS Ad Ad
  have hw4 : IntKind.i64.wrap (8 + (b.toNat : Int)) = 8 + (b.toNat : Int) := HS Ad Ad
  simp (disch := first | exact xD | fail) [-bind_some, qs, -Aa, -Ab, show (256 : Int) ≤ n by omega, RB, hsh]
  rw [EC]
  simp (disch := first | exact xD | fail) [-bind_some, qs, -Aa, -Ab, hw8, hix, hw3, hw4]
  trace_state; exact hQ _ ⟨8 + b.toNat, by rw [Int.natCast_add]; rfl, by omega, by omega⟩
 ·obtain ⟨b, hb⟩ : ∃ b, b = UInt8.ofNat (if n = 0 then 0 else n.log2 + 1) := ⟨_, rfl⟩
  have hb1 := VX n Ad Ad
  rw [← hb] at hb1
  have hat := RC n Ad
  rw [← hb] at hat
  have hix := fun w => JP (P := P) (t := 9) (by kernel_rfl) P6 (k := .u8) (i := (n : Int)) Ad (b := b) (by simpa using hat) w
  unfold P6 at hix
  have hw8 : IntKind.u8.wrap (n : Int) = n := Xb Ad Ad
  have hw3 : IntKind.i64.wrap (b.toNat : Int) = b.toNat := HS Ad Ad
  simp (disch := first | exact xD | fail) [-bind_some, qs, -Aa, -Ab, show ¬ (256 : Int) ≤ n by omega]
  rw [EC]
  simp (disch := first | exact xD | fail) [-bind_some, qs, -Aa, -Ab, hw8, hix, hw3]
  exact hQ _ ⟨b.toNat, rfl, by omega, by omega⟩
theorem U7 {L : Nat} (h1 : 7 ≤ L) (h2 : L ≤ 10) (w : World) : Af (EV P 93 #[i64 L] w) fun r => r = (i64 (if L = 10 then 3 else 2), w) := by
 have hw : IntKind.i64.wrap ((L : Int) * 78913) = (L : Int) * 78913 := HS Ad Ad
 have hsh : (L : Int) * 78913 / 2 ^ min 18 IntKind.i64.bits = (if L = 10 then 3 else 2) := by
  show (L : Int) * 78913 / 2 ^ 18 = _
  split <;> omega
 refine Af.post fun Q hQ => ?_
 refine Bw (Fb _ _) ?_
 simp (disch := first | exact xD | fail) [-bind_some, -Aa, -Ab, Io, hw, RB, hsh]
 exact hQ _ rfl
theorem Nn (b : Bool) (w : World) : Af (EV P 95 #[.bool b] w) fun r => r = (i64 (if b then 1 else 0), w) := by
 refine Af.post fun Q hQ => ?_
 refine Bw (Fc _ _) ?_
 cases b
 ·simp (disch := first | exact xD | fail) [-bind_some, -Aa, -Ab]
  exact hQ _ rfl
 ·simp (disch := first | exact xD | fail) [-bind_some, -Aa, -Ab]
  exact hQ _ rfl
theorem Qc {n : Nat} (h1 : 100 ≤ n) (h2 : n ≤ 999) {w : World} (G : Glob w) : Af (EV P 70 #[.int .u64 n] w) fun r => r = (i64 3, w) := by
 have c2 : AR (hp w 1) 2 = some (.int .u64 100) := by have := G.t10 2 _ rfl; simpa using this
 have c3 : AR (hp w 1) 3 = some (.int .u64 1000) := by have := G.t10 3 _ rfl; simpa using this
 refine Af.post fun Q hQ => ?_
 refine Bw (Fa _ _) ?_
 simp (disch := first | exact xD | fail) [-bind_some, -Aa, -Ab]
 refine Af.bind (U6 h1 h2 _) ?_
 rintro ⟨_, w1⟩ ⟨L, h, hL1, hL2⟩
 simp only [Prod.mk.injEq] at h
 obtain ⟨rfl, rfl⟩ := h
 refine Af.bind (U7 hL1 hL2 _) ?_
 rintro ⟨_, w1⟩ h
 simp only [Prod.mk.injEq] at h
 obtain ⟨rfl, rfl⟩ := h
 by_cases hL : L = 10
 ·simp only [hL, if_true]
  simp (disch := first | exact xD | fail) [-bind_some, -Aa, -Ab, TF (P := P) (t := 140) Tryz.underlying140 (by kernel_rfl : RI P 120 = some 1), c3, show ¬ (1000 : Int) ≤ n by omega]
  refine Af.bind (Nn _ _) ?_
  rintro ⟨_, w2⟩ h
  simp only [Prod.mk.injEq] at h
  obtain ⟨rfl, rfl⟩ := h
  simp (disch := first | exact xD | fail) [-bind_some, qs, -Aa, -Ab]
  exact hQ _ rfl
 ·simp only [hL, if_false]
  simp (disch := first | exact xD | fail) [-bind_some, -Aa, -Ab, TF (P := P) (t := 140) Tryz.underlying140 (by kernel_rfl : RI P 120 = some 1), c2, show (100 : Int) ≤ n by omega]
  refine Af.bind (Nn _ _) ?_
  rintro ⟨_, w2⟩ h
  simp only [Prod.mk.injEq] at h
  obtain ⟨rfl, rfl⟩ := h
  simp (disch := first | exact xD | fail) [-bind_some, qs, -Aa, -Ab]
  exact hQ _ rfl
theorem aC {n : Nat} (h1 : 100 ≤ n) (h2 : n ≤ 999) : Bn n = [dg (n / 100), dg (n / 10 % 10), dg (n % 10)] := by
 rw [EU Ad, EU (n := n / 10) Ad, Dy (n := n / 10 / 10) Ad, Nat.div_div_eq_div_mul]
 rfl
theorem Qd {d : Nat} (h : d < 10) : (dg d).toNat = 48 + d := by
 unfold dg
 rw [UInt8.toNat_ofNat']
 omega
theorem Q4 {n : Nat} (h1 : 100 ≤ n) (h2 : n ≤ 999) {w w0 : World} {b c : Nat} {e : TypeId} {z0 z1 z2 z3 : Value} {zs : List Value} (hz : hp w b = some (.cells (z0 :: z1 :: z2 :: z3 :: zs).toArray e (0, 0))) (E0 : Ext w0 w) (hb : w0.heap.size ≤ b) :
  Af (EV P 71 #[.slice (some ⟨b, 1, none⟩) 3 c, .int .u64 n] w) fun r => r.1 = .tuple #[] ∧ hp r.2 b = some (.cells (z0 :: .int .u8 (48 + ((n / 100 : Nat) : Int)) :: .int .u8 (dg (n / 10 % 10)).toNat :: .int .u8 (dg (n % 10)).toNat :: zs).toArray e (0, 0)) ∧ Ext w0 r.2 := by
 obtain ⟨q, hq⟩ : ∃ q : Nat, q = n / 100 := ⟨_, rfl⟩
 obtain ⟨m, hm⟩ : ∃ m : Nat, m = n % 100 := ⟨_, rfl⟩
 have hd1 : n / 10 % 10 = m / 10 := by omega
 have hd2 : n % 10 = m % 10 := by omega
 rw [hd1, hd2, ← hq]
 have hA : (n : Int).tmod 100 = m := by rw [show (100 : Int) = ((100 : Nat) : Int) from rfl, FU, hm]
 have hB : (n : Int).tdiv 100 = q := by rw [show (100 : Int) = ((100 : Nat) : Int) from rfl, Ij, hq]
 have hwn : IntKind.u32.wrap (n : Int) = n := Tr Ad Ad
 have hwq : IntKind.u32.wrap (q : Int) = q := Tr Ad Ad
 have hw2 : IntKind.u32.wrap ((m : Int) * 2) = (m : Int) * 2 := Tr Ad Ad
 have hw3 : IntKind.u32.wrap ((m : Int) * 2 + 1) = (m : Int) * 2 + 1 := Tr Ad Ad
 have hw4 : IntKind.u32.wrap (48 + (q : Int)) = 48 + (q : Int) := Tr Ad Ad
 have hw5 : IntKind.u8.wrap (48 + (q : Int)) = 48 + (q : Int) := Xb Ad Ad
 obtain ⟨ha1, ha2⟩ := Sz m Ad
 have hi1 := fun w => JP (P := P) (t := 9) (by kernel_rfl) Gl (k := .u32) (i := (m : Int) * 2) Ad (b := dg (m / 10)) (by rw [show ((m : Int) * 2).toNat = m * 2 by omega]; exact ha1) w
 have hi2 := fun w => JP (P := P) (t := 9) (by kernel_rfl) Gl (k := .u32) (i := (m : Int) * 2 + 1) Ad (b := dg (m % 10)) (by rw [show ((m : Int) * 2 + 1).toNat = m * 2 + 1 by omega]; exact ha2) w
 unfold Gl at hi1 hi2
 generalize dg (m / 10) = y1 at *
 generalize dg (m % 10) = y2 at *
 clear hd1 hd2 hm hq
 refine Af.post fun Q hQ => ?_
 refine Bw (DZ _ _ _) ?_
 simp (disch := first | exact xD | fail) [-bind_some, -Aa, -Ab]
 rw [Dh]
 simp (disch := first | exact xD | fail) [-bind_some, qs, -Aa, -Ab, hwn]
 rw [Di]
 simp (disch := first | exact xD | fail) [-bind_some, qs, KZ, Re, Io, hA, hB, hwq, hw2, hw3, hi1, hi2, hz, HM]
 rw [Dj]
 simp (disch := first | exact xD | fail) [-bind_some, qs, hw4, hw5, hz, HM]
 exact hQ _ ⟨rfl, by simp (disch := first | exact xD | fail) [-bind_some, hz], xE⟩
theorem aD {b : Nat} (w : World) : sl P 119 (pt b 0) (some (i64 1)) (some (i64 4)) none w = some (.slice (some ⟨b, 1, none⟩) 3 23, w) := VU Tryz.underlying119 (by kernel_rfl : RI P 5 = some 1) AD AD AD w
theorem Qe {n : Nat} (h2 : n ≤ 999) {w : World} (G : Glob w) : Af (EV P 59 #[i64 n, i64 10] w) fun r => r.1 = .string (AZ (Bn n)) ∧ Ext w r.2 := by
 refine Af.post fun Q hQ => ?_
 refine Bw (EZ _ _ _) ?_
 by_cases h : n < 100
 ·simp (disch := first | exact xD | fail) [-bind_some, -Aa, -Ab, show (0 : Int) ≤ n by omega, show (n : Int) < 100 by omega]
  refine Af.bind (U5 h _) ?_
  rintro ⟨_, w1⟩ h'
  simp only [Prod.mk.injEq] at h'
  obtain ⟨rfl, rfl⟩ := h'
  simp (disch := first | exact xD | fail) [-bind_some, -Aa, -Ab]
  exact hQ _ ⟨rfl, xE⟩
 ·have hwn : IntKind.u64.wrap (n : Int) = n := Xc Ad Ad
  simp (disch := first | exact xD | fail) [-bind_some, -Aa, -Ab, show (0 : Int) ≤ n by omega, show ¬ (n : Int) < 100 by omega, hwn, show ¬ (n : Int) < 0 by omega]
  rw [DW]
  simp (disch := first | exact xD | fail) [-bind_some, qs, -Aa, -Ab]
  refine Af.bind (Qc Ad h2 (G.ext xE)) ?_
  rintro ⟨_, w1⟩ h'
  simp only [Prod.mk.injEq] at h'
  obtain ⟨rfl, rfl⟩ := h'
  simp (disch := first | exact xD | fail) [-bind_some, qs, -Aa, -Ab, aD]
  refine Af.bind (Q4 Ad h2 (w0 := w) (Av rfl) xE (Nat.le_refl _)) ?_
  rintro ⟨_, w1⟩ ⟨rfl, hg, E1⟩
  try dsimp only at hg E1
  have zE1 := E1.size
  try simp only [qz] at zE1
  have hA : At w1 w.heap.size 1 ([48 + ((n / 100 : Nat) : Int), (dg (n / 10 % 10)).toNat, (dg (n % 10)).toNat].map (Value.int .u8)) := by
   intro j v hv
   rw [hg, Bt, ← CD]
   match j, hv with
   | 0, hv => exact hv
   | 1, hv => exact hv
   | 2, hv => exact hv
  have hc : cv P 22 9 (.slice (some ⟨w.heap.size, 1, none⟩) 3 23) w1 = _ := Qn (P := P) (src := 22) (dst := 9) (e := 5) (c := 23) (by kernel_rfl) (by kernel_rfl) (by kernel_rfl) hA
  have hb : bytesOf [48 + ((n / 100 : Nat) : Int), ((dg (n / 10 % 10)).toNat : Int), ((dg (n % 10)).toNat : Int)] = AZ (Bn n) := by
   rw [aC Ad h2, Qd Ad, Qd Ad]
   rfl
  rw [hb] at hc
  simp (disch := first | exact xD | fail) [-bind_some, -Aa, -Ab, show ¬ (n : Int) < 0 by omega, hc]
  exact hQ _ ⟨rfl, xE⟩
theorem U8 {n : Nat} (h2 : n ≤ 999) {w : World} (G : Glob w) : Af (EV P 40 #[i64 n] w) fun r => r.1 = .string (AZ (Bn n)) ∧ Ext w r.2 := by
 refine Af.post fun Q hQ => ?_
 refine Bw (GN _ _) ?_
 simp (disch := first | exact xD | fail) [-bind_some, -Aa, -Ab]
 refine Af.bind (Qe h2 G) ?_
 rintro ⟨_, w1⟩ ⟨rfl, E1⟩
 try dsimp only at E1
 have zE1 := E1.size
 try simp only [qz] at zE1
 simp (disch := first | exact xD | fail) [-bind_some, -Aa, -Ab]
 exact hQ _ ⟨rfl, xE⟩
theorem PE {n : Nat} (h2 : n ≤ 999) {w : World} (G : Glob w) : Af (EV P 16 #[i64 n] w) fun r => r.1 = .string (AZ (Bn n)) ∧ Ext w r.2 := by
 refine Af.post fun Q hQ => ?_
 refine Bw (Lq _ _) ?_
 simp (disch := first | exact xD | fail) [-bind_some, -Aa, -Ab]
 refine Af.bind (U8 h2 G) ?_
 rintro ⟨_, w1⟩ ⟨rfl, E1⟩
 try dsimp only at E1
 have zE1 := E1.size
 try simp only [qz] at zE1
 simp (disch := first | exact xD | fail) [-bind_some, -Aa, -Ab]
 exact hQ _ ⟨rfl, xE⟩
theorem HP {t : Tag} (ht : Cc t = true) {w : World} (G : Glob w) : Af (EV P 18 #[t.v] w) fun r => r.1 = .string (AZ (C6 t)) ∧ Ext w r.2 := by
 have hr := Hl ht
 obtain ⟨a, ha⟩ : ∃ a : Nat, t.t = a := ⟨t.t.toNat, by omega⟩
 obtain ⟨b, hb⟩ : ∃ b : Nat, t.p = b := ⟨t.p.toNat, by omega⟩
 have h1 := BL a
 have h2 := BL b
 have e : C6 t = Bn a ++ [46] ++ Bn b := by rw [C6, ha, hb]; simp
 rw [e]
 refine Af.post fun Q hQ => ?_
 refine Bw (Ky _ _) ?_
 simp (disch := first | exact xD | fail) [-bind_some, qs, -Aa, -Ab, ha, hb]
 refine Af.bind (PE (n := a) Ad (G.ext xE)) ?_
 rintro ⟨_, w1⟩ ⟨rfl, E1⟩
 try dsimp only at E1
 have zE1 := E1.size
 try simp only [qz] at zE1
 simp (disch := first | exact xD | fail) [-bind_some, qs, -Aa, -Ab, Dg, Ba, Az, E1.Ai]
 refine Af.bind (PE (n := b) Ad (G.ext xE)) ?_
 rintro ⟨_, w2⟩ ⟨rfl, E2⟩
 try dsimp only at E2
 have zE2 := E2.size
 try simp only [qz] at zE2
 simp (disch := first | exact xD | fail) [-bind_some, -Aa, -Ab, Ba, Az]
 exact hQ _ ⟨by simp, xE⟩
theorem RG {l : List UInt8} (hl : l.length ≤ 281474976710656) (w : World) : Af (EV P 104 #[.string (AZ l)] w) fun r => r.1 = .string (AZ l) ∧ Ext w r.2 := by
 refine Af.post fun Q hQ => ?_
 refine Bw (Ff _ _) ?_
 by_cases h : l = []
 ·subst h
  simp (disch := first | exact xD | fail) [-bind_some, -Aa, -Ab, AA, Dg]
  exact hQ _ ⟨rfl, xE⟩
 ·have hpos : 0 < l.length := List.length_pos_iff.2 h
  have hne : ¬ (l.length : Int) = 0 := by omega
  have hms := fun w => VJ (P := P) (t := 22) Ts aj rfl AD (l := (l.length : Int)) (c := (l.length : Int)) Ad Ad Ad Ad w
  simp only [Int.toNat_natCast] at hms
  have hz : (Ip [Value.int .u8 0] l.length).length = l.length := by rw [Kc]; simp
  have hne' : ((l.length : Int) == 0) = false := beq_eq_false_iff_ne.2 hne
  simp (disch := first | exact xD | fail) [-bind_some, -Aa, -Ab, AA, hne', hms]
  have hc := WM (P := P) (dT := 22) (sT := 9) (ty := 3) (e := 5) (by kernel_rfl) (by kernel_rfl) (w := w.alloc (.cells (Ip [Value.int .u8 0] l.length).toArray 5)) (g := w.heap.size) (s := AZ l) (n := l.length) (c := l.length) (Av rfl) (AA l) hz
  simp (disch := first | exact xD | fail) [-bind_some, qs, -Aa, -Ab, hc, PM, HM]
  have hu := WN (P := P) (pt' := 76) (it := 3) (ty := 9) (e := 5) (by kernel_rfl) (by kernel_rfl) (w := (w.alloc (.cells (Ip [Value.int .u8 0] l.length).toArray 5)).setRow w.heap.size (Lib.byteCells (AZ l).data.toList).toArray) (g := w.heap.size) (s := AZ l) (by rw [AA]; omega) (by rw [AA]; omega) (by rw [EG, Av rfl]; rfl)
  rw [AA] at hu
  simp (disch := first | exact xD | fail) [-bind_some, -Aa, -Ab, hu]
  exact hQ _ ⟨rfl, ((Ext.rfl.al _).set (Nat.le_refl _) _).bN (Nat.le_refl _) _⟩
theorem Qf (l : List UInt8) (c : UInt8) (w : World) : Af (EV P 73 #[.string (AZ l), .int .u8 c.toNat] w) fun r => r = (i64 (Lib.indexByte l c), w) := by
 have hx : ∀ w, xf P 98 #[.string (AZ l), .int .u8 c.toNat] w = some (i64 (Lib.indexByte l c), w) := by
  intro w
  unfold xf
  rw [run_callFunc_extern (P := P) Tryz.func98 (by kernel_rfl) (by kernel_rfl) (by kernel_rfl) (e := Extern.BytealgIndexByte.indexByte) (by kernel_rfl), Lib.run_indexByteString]
  rw [show (c.toNat : Int).toNat.toUInt8 = c by simp]
  rfl
 refine Af.post fun Q hQ => ?_
 refine Bw (DO _ _ _) ?_
 simp (disch := first | exact xD | fail) [-bind_some, -Aa, -Ab, hx]
 exact hQ _ rfl
theorem Qg (l : List UInt8) (c : UInt8) (w : World) : Af (EV P 60 #[.string (AZ l), .string (AZ [c])] w) fun r => r = (i64 (Lib.indexByte l c), w) := by
 have hix := fun w => HI (P := P) (t := 9) (by kernel_rfl) [c] (k := .i64) (i := 0) AD (b := c) rfl w
 refine Af.post fun Q hQ => ?_
 refine Bw (E7 _ _ _) ?_
 by_cases he : [c] = l
 ·subst he
  simp (disch := first | exact xD | fail) [-bind_some, -Aa, -Ab, AA, Az]
  exact hQ _ (by rw [show Lib.indexByte [c] c = 0 by simp [Lib.indexByte]])
 have he' : ((AZ [c]).toList == (AZ l).toList) = false := by rw [Az, Az]; simpa using he
 simp (disch := first | exact xD | fail) [-bind_some, -Aa, -Ab, AA, hix, he']
 refine Af.bind (Qf l c _) ?_
 rintro ⟨_, w1⟩ h
 simp only [Prod.mk.injEq] at h
 obtain ⟨rfl, rfl⟩ := h
 simp (disch := first | exact xD | fail) [-bind_some, -Aa, -Ab]
 exact hQ _ rfl
def Qh (c : UInt8) (l : List UInt8) : Value := match DI c l with
 | none => .tuple #[.string (AZ l), .string (AZ []), .bool false]
 | some p => .tuple #[.string (AZ p.1), .string (AZ p.2), .bool true]
theorem Wc {l : List UInt8} (hl : l.length ≤ 281474976710656) (c : UInt8) (w : World) : Af (EV P 43 #[.string (AZ l), .string (AZ [c])] w) fun r => r.1 = Qh c l ∧ Ext w r.2 := by
 refine Af.post fun Q hQ => ?_
 refine Bw (FC _ _ _) ?_
 simp (disch := first | exact xD | fail) [-bind_some, -Aa, -Ab]
 refine Af.bind (Qg l c _) ?_
 rintro ⟨_, w1⟩ h
 simp only [Prod.mk.injEq] at h
 obtain ⟨rfl, rfl⟩ := h
 rw [NL]
 unfold Qh at hQ
 cases hc : DI c l with
 | none =>
  simp (disch := first | exact xD | fail) [-bind_some, -Aa, -Ab, Dg]
  exact hQ _ ⟨by rw [hc], xE⟩
 | some p =>
  obtain ⟨h1, h2⟩ := GF hc
  have hlen : p.1.length + (p.2.length + 1) = l.length := by rw [h1]; simp
  have hw : IntKind.i64.wrap ((p.1.length : Int) + 1) = (p.1.length : Int) + 1 := HS Ad Ad
  have ht := fun w => Hs (P := P) (t := 9) (by kernel_rfl) l (j := (p.1.length : Int)) Ad Ad w
  have hf := fun w => CU (P := P) (t := 9) (by kernel_rfl) l (i := (p.1.length : Int) + 1) Ad Ad w
  have q1 : l.take (p.1.length : Int).toNat = p.1 := by rw [Int.toNat_natCast]; conv => lhs; rw [h1]; simp
  have q2 : l.drop ((p.1.length : Int) + 1).toNat = p.2 := by rw [show ((p.1.length : Int) + 1).toNat = p.1.length + 1 by omega]; conv => lhs; rw [h1]; simp
  rw [q1] at ht
  rw [q2] at hf
  clear q1 q2
  simp (disch := first | exact xD | fail) [-bind_some, -Aa, -Ab, show (0 : Int) ≤ p.1.length by omega, AA, hw, ht, hf]
  exact hQ _ ⟨by rw [hc], xE⟩
theorem VG {l : List UInt8} (hl : l.length ≤ 281474976710656) (c : UInt8) (w : World) : Af (EV P 22 #[.string (AZ l), .string (AZ [c])] w) fun r => r.1 = Qh c l ∧ Ext w r.2 := by
 refine Af.post fun Q hQ => ?_
 refine Bw (Mj _ _ _) ?_
 simp (disch := first | exact xD | fail) [-bind_some, -Aa, -Ab]
 refine Af.bind (Wc hl c _) ?_
 rintro ⟨_, w1⟩ ⟨rfl, E1⟩
 try dsimp only at E1
 have zE1 := E1.size
 try simp only [qz] at zE1
 unfold Qh at hQ ⊢
 cases hc : DI c l with
 | none =>
  simp (disch := first | exact xD | fail) [-bind_some, qs, -Aa, -Ab]
  exact hQ _ ⟨by rw [hc], xE⟩
 | some p =>
  simp (disch := first | exact xD | fail) [-bind_some, qs, -Aa, -Ab]
  exact hQ _ ⟨by rw [hc], xE⟩
def I2 (k : Int) : Value := if k = 0 then .nilIface else .iface 128 (.int .i64 k)
theorem BV (k : Int) (w : World) : mi P 128 (.int .i64 k) w = some (.iface 128 (.int .i64 k), w) := VN (by kernel_rfl) _ w
theorem Dx (x : Int) (w : World) : Af (EV P 125 #[.int .u8 x] w) fun r => ∃ y, r = (.int .u8 y, w) := by
 refine Af.post fun Q hQ => ?_
 refine Bw (Gb _ _) ?_
 simp (disch := first | exact xD | fail) [-bind_some, -Aa, -Ab, Yo]
 exact hQ _ ⟨_, rfl⟩
theorem Wd {g c : Nat} {l s0 : List UInt8} {x : UInt8} (hl : l.length ≤ 281474976710656) : ∀ (d k : Nat) (e : Env) (w : World) (n : Int), k + d = l.length → e 47 = .slice (some ⟨g, 0, none⟩) l.length c → e 48 = i64 l.length → e 49 = i64 k → e 6 = i64 n → e 5 = .string (AZ (x :: s0)) →
  (∀ (j : Nat) b, l[j]? = some b → AR (hp w g) j = some (.int .u8 b.toNat)) →
  Af (BI e w) fun r => r.2 = w ∧ ∃ m q, r.1 = .tuple #[i64 m, I2 q] ∧ (q = 0 ∨ q = 2) ∧ ∀ v, GG n (l.drop k) = some v → x ≠ 45 → q = 0 ∧ m = v := by
 intro d
 induction d with
 | zero =>
  intro k e w n hd e47 e48 e49 e6 e5 hc
  rw [CJ]
  obtain rfl : k = l.length := by omega
  have hix := fun w => HI (P := P) (t := 9) (by kernel_rfl) (x :: s0) (k := .i64) (i := 0) AD (b := x) rfl w
  rw [List.drop_length]
  refine Af.post fun Q hQ => ?_
  simp (disch := first | exact xD | fail) [-bind_some, -Aa, -Ab, e48, e49, e6, e5, hix]
  by_cases h : (x.toNat : Int) = 45
  ·have h' : ((x.toNat : Int) == 45) = true := beq_iff_eq.2 h
   have hx : x = 45 := by
    apply UInt8.toNat_inj.1
    have : x.toNat = 45 := by omega
    exact this
   simp (disch := first | exact xD | fail) [-bind_some, qs, -Aa, -Ab, h', CK]
   exact hQ _ ⟨rfl, _, 0, rfl, Or.inl rfl, fun v _ hne => absurd hx hne⟩
  ·have h' : ((x.toNat : Int) == 45) = false := beq_eq_false_iff_ne.2 h
   simp (disch := first | exact xD | fail) [-bind_some, qs, -Aa, -Ab, h', CK, e6]
   exact hQ _ ⟨rfl, n, 0, rfl, Or.inl rfl, fun v hv hne => ⟨rfl, Option.some.inj hv⟩⟩
 | succ d ih =>
  intro k e w n hd e47 e48 e49 e6 e5 hc
  rw [CJ]
  have hlt : k < l.length := by omega
  obtain ⟨b, hb, hdr⟩ := An hlt
  have p0 : AR (hp w g) k = some (.int .u8 b.toNat) := hc k b hb
  have hd' : GG n (l.drop k) = if 9 < IntKind.u8.wrap ((b.toNat : Int) - 48) then none else GG (IntKind.i64.wrap (IntKind.i64.wrap (n * 10) + IntKind.i64.wrap (IntKind.u8.wrap ((b.toNat : Int) - 48)))) (l.drop (k + 1)) := by rw [hdr]; rfl
  rw [hd']
  clear hd' hdr
  refine Af.post fun Q hQ => ?_
  simp (disch := first | exact xD | fail) [-bind_some, qs, -Aa, -Ab, e47, e48, e49, e6, hlt, HM, p0]
  by_cases h9 : 9 < IntKind.u8.wrap ((b.toNat : Int) - 48)
  ·simp (disch := first | exact xD | fail) [-bind_some, -Aa, -Ab, h9, BV]
   exact hQ _ ⟨rfl, 0, 2, rfl, Or.inr rfl, fun v hv => by rw [if_pos h9] at hv; cases hv⟩
  ·simp (disch := first | exact xD | fail) [-bind_some, -Aa, -Ab, h9]
   refine Af.mono (ih (k + 1) _ _ (IntKind.i64.wrap (IntKind.i64.wrap (n * 10) + IntKind.i64.wrap (IntKind.u8.wrap ((b.toNat : Int) - 48)))) Ad xA xA xA xA xA hc) ?_
   rintro r ⟨h1, m, q, h2, h3, h4⟩
   refine hQ _ ⟨h1, m, q, h2, h3, fun v hv => ?_⟩
   rw [if_neg h9] at hv
   exact h4 v hv
end Go.Proofs.YtkhbpmhagpljiaaGreatDoor.X
