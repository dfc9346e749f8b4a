/- A part of the proof, without conditions. -/
import Derived.Test.YtjhhommnkaemlaaGreatEvI
import Derived.Test.YtjhhommnkaemlaaGreatEvT
import Derived.Test.YtjhhommnkaemlaaGreatEvF3
import Derived.Test.YtjhhommnkaemlaaGreatEvF5
import Derived.Test.YtjhhommnkaemlaaGreatEvO
set_option linter.unusedVariables false
set_option linter.unusedSimpArgs false
set_option linter.deprecated false
set_option maxRecDepth 100000
namespace Go.Proofs.YtjhhommnkaemlaaGreat.X
open Go Go.Ev Go.RowKit
theorem AK (n a b : Int) (w : World) : Ag (EV P 37 #[i64 n, i64 a, i64 b] w) fun r => r = (.bool (decide (a ≤ n) && decide (n ≤ b)), w) := by
 refine Ag.enter plain mixed (Nr _ _ _ _) (by kernel_rfl) (n := 3) (by kernel_rfl) rfl ?_
 cases h : decide (a ≤ n) <;> simp (disch := first | omega | (simp only [World.size_alloc, size_setRow, Ac]; done) | (simp only [World.size_alloc, size_setRow, Ac]; omega) | (simp only [List.length_set, Array.length_toList]; omega)) [-Option.bind_some, h]
theorem DY (n a b : Int) (w : World) : Ag (EV P 35 #[i64 n, i64 a, i64 b] w) fun r => r = (.bool (decide (a ≤ n) && decide (n ≤ b)), w) := by
 refine Ag.enter plain mixed (KW _ _ _ _) (by kernel_rfl) (n := 3) (by kernel_rfl) rfl ?_
 cases h : decide (a ≤ n) <;> simp (disch := first | omega | (simp only [World.size_alloc, size_setRow, Ac]; done) | (simp only [World.size_alloc, size_setRow, Ac]; omega) | (simp only [List.length_set, Array.length_toList]; omega)) [-Option.bind_some, h]
theorem LJ (n : Int) (w : World) : Ag (EV P 88 #[i64 n] w) fun r => r = (.bool (decide (0 ≤ n) && decide (n ≤ 2)), w) := by
 refine Ag.enter plain mixed (Ko _ _) (by kernel_rfl) (n := 1) (by kernel_rfl) rfl ?_
 simp (disch := first | omega | (simp only [World.size_alloc, size_setRow, Ac]; done) | (simp only [World.size_alloc, size_setRow, Ac]; omega) | (simp only [List.length_set, Array.length_toList]; omega)) [-Option.bind_some]
 refine Ag.bind (DY n 0 2 w) ?_
 rintro _ rfl
 simp (disch := first | omega | (simp only [World.size_alloc, size_setRow, Ac]; done) | (simp only [World.size_alloc, size_setRow, Ac]; omega) | (simp only [List.length_set, Array.length_toList]; omega)) [-Option.bind_some]
theorem G4 (x : Tag) (w : World) : Ag (EV P 92 #[x.v] w) fun r => r.1 = .bool (CI x) ∧ Ext w r.2 := by
 refine Ag.enter plain mixed (Kp _ _) (by kernel_rfl) (n := 1) (by kernel_rfl) rfl ?_
 cases h : ((x.t == 0) && (x.p == 0))
 ·simp (disch := first | omega | (simp only [World.size_alloc, size_setRow, Ac]; done) | (simp only [World.size_alloc, size_setRow, Ac]; omega) | (simp only [List.length_set, Array.length_toList]; omega)) [-Option.bind_some, Af, h]
  refine Ag.bind (AK _ _ _ _) ?_
  rintro _ rfl
  cases h1 : (decide (1 ≤ x.t) && decide (x.t ≤ 999))
  ·simp (disch := first | omega | (simp only [World.size_alloc, size_setRow, Ac]; done) | (simp only [World.size_alloc, size_setRow, Ac]; omega) | (simp only [List.length_set, Array.length_toList]; omega)) [-Option.bind_some, h1, Ext.alloc, CI, h]
  ·simp (disch := first | omega | (simp only [World.size_alloc, size_setRow, Ac]; done) | (simp only [World.size_alloc, size_setRow, Ac]; omega) | (simp only [List.length_set, Array.length_toList]; omega)) [-Option.bind_some, Af]
   refine Ag.bind (AK _ _ _ _) ?_
   rintro _ rfl
   simp (disch := first | omega | (simp only [World.size_alloc, size_setRow, Ac]; done) | (simp only [World.size_alloc, size_setRow, Ac]; omega) | (simp only [List.length_set, Array.length_toList]; omega)) [-Option.bind_some, Ext.alloc, CI, h, h1]
 ·simp (disch := first | omega | (simp only [World.size_alloc, size_setRow, Ac]; done) | (simp only [World.size_alloc, size_setRow, Ac]; omega) | (simp only [List.length_set, Array.length_toList]; omega)) [-Option.bind_some, Af, h, Ext.alloc, CI]
theorem Ja (x : Tag) (w : World) : Ag (EV P 57 #[x.v] w) fun r => r.1 = .bool (CI x) ∧ Ext w r.2 := by
 refine Ag.enter plain mixed (Mj _ _) (by kernel_rfl) (n := 1) (by kernel_rfl) rfl ?_
 cases h : ((x.t == 0) && (x.p == 0))
 ·simp (disch := first | omega | (simp only [World.size_alloc, size_setRow, Ac]; done) | (simp only [World.size_alloc, size_setRow, Ac]; omega) | (simp only [List.length_set, Array.length_toList]; omega)) [-Option.bind_some, Af, h]
  refine Ag.bind (DY _ _ _ _) ?_
  rintro _ rfl
  cases h1 : (decide (1 ≤ x.t) && decide (x.t ≤ 999))
  ·simp (disch := first | omega | (simp only [World.size_alloc, size_setRow, Ac]; done) | (simp only [World.size_alloc, size_setRow, Ac]; omega) | (simp only [List.length_set, Array.length_toList]; omega)) [-Option.bind_some, h1, Ext.alloc, CI, h]
  ·simp (disch := first | omega | (simp only [World.size_alloc, size_setRow, Ac]; done) | (simp only [World.size_alloc, size_setRow, Ac]; omega) | (simp only [List.length_set, Array.length_toList]; omega)) [-Option.bind_some, Af]
   refine Ag.bind (LJ _ _) ?_
   rintro _ rfl
   simp (disch := first | omega | (simp only [World.size_alloc, size_setRow, Ac]; done) | (simp only [World.size_alloc, size_setRow, Ac]; omega) | (simp only [List.length_set, Array.length_toList]; omega)) [-Option.bind_some, Ext.alloc, CI, h, h1]
 ·simp (disch := first | omega | (simp only [World.size_alloc, size_setRow, Ac]; done) | (simp only [World.size_alloc, size_setRow, Ac]; omega) | (simp only [List.length_set, Array.length_toList]; omega)) [-Option.bind_some, Af, h, Ext.alloc, CI]
theorem Gu (a : Int) (w : World) : Ag (EV P 94 #[i64 a] w) fun r => r = (.bool false, w) := by
 refine Ag.enter plain mixed (JF _ _) (by kernel_rfl) (n := 1) (by kernel_rfl) rfl ?_
 simp (disch := first | omega | (simp only [World.size_alloc, size_setRow, Ac]; done) | (simp only [World.size_alloc, size_setRow, Ac]; omega) | (simp only [List.length_set, Array.length_toList]; omega)) [-Option.bind_some]
theorem Fz (a b : Int) (w : World) : Ag (EV P 71 #[i64 a, i64 b] w) fun r => r = (i64 (if a < b then -1 else if b < a then 1 else 0), w) := by
 refine Ag.enter plain mixed (Ia _ _ _) (by kernel_rfl) (n := 2) (by kernel_rfl) rfl ?_
 simp (disch := first | omega | (simp only [World.size_alloc, size_setRow, Ac]; done) | (simp only [World.size_alloc, size_setRow, Ac]; omega) | (simp only [List.length_set, Array.length_toList]; omega)) [-Option.bind_some]
 refine Ag.bind (Gu _ _) ?_
 rintro _ rfl
 simp (disch := first | omega | (simp only [World.size_alloc, size_setRow, Ac]; done) | (simp only [World.size_alloc, size_setRow, Ac]; omega) | (simp only [List.length_set, Array.length_toList]; omega)) [-Option.bind_some]
 refine Ag.bind (Gu _ _) ?_
 rintro _ rfl
 simp (disch := first | omega | (simp only [World.size_alloc, size_setRow, Ac]; done) | (simp only [World.size_alloc, size_setRow, Ac]; omega) | (simp only [List.length_set, Array.length_toList]; omega)) [-Option.bind_some]
 by_cases h : a < b
 ·simp (disch := first | omega | (simp only [World.size_alloc, size_setRow, Ac]; done) | (simp only [World.size_alloc, size_setRow, Ac]; omega) | (simp only [List.length_set, Array.length_toList]; omega)) [-Option.bind_some, h]
 ·by_cases h2 : b < a <;> simp (disch := first | omega | (simp only [World.size_alloc, size_setRow, Ac]; done) | (simp only [World.size_alloc, size_setRow, Ac]; omega) | (simp only [List.length_set, Array.length_toList]; omega)) [-Option.bind_some, h, h2]
theorem NO {b : Nat} {x y : Int} {w : World} {e z} (h : hp w b = some (.cells #[i64 x, i64 y] e z)) : Ag (EV P 70 #[.slice (some ⟨b, 0, none⟩) 2 2] w) fun r => r = (i64 (if x = 0 then y else x), w) := by
 have i0 := Q8 (b := b) (o := 0) (n := 2) (c := 2) (i := 0) (by omega) (by omega)
 have i1 := Q8 (b := b) (o := 0) (n := 2) (c := 2) (i := 1) (by omega) (by omega)
 have l2 : ∀ e : Env, e 3 = i64 0 → e 7 = i64 2 → e 8 = i64 2 → Ag (CM e w) fun r => r = (i64 0, w) := by
  intro e h3 h7 h8
  rw [DN]
  simp (disch := first | omega | (simp only [World.size_alloc, size_setRow, Ac]; done) | (simp only [World.size_alloc, size_setRow, Ac]; omega) | (simp only [List.length_set, Array.length_toList]; omega)) [-Option.bind_some, h3, h7, h8]
 have l1 : ∀ e : Env, e 3 = i64 0 → e 6 = .slice (some ⟨b, 0, none⟩) 2 2 → e 7 = i64 2 → e 8 = i64 1 → Ag (CM e w) fun r => r = (i64 y, w) := by
  intro e h3 h6 h7 h8
  rw [DN]
  cases hy : (y != 0)
  ·simp (disch := first | omega | (simp only [World.size_alloc, size_setRow, Ac]; done) | (simp only [World.size_alloc, size_setRow, Ac]; omega) | (simp only [List.length_set, Array.length_toList]; omega)) [-Option.bind_some, h3, h6, h7, h8, h, i1, hy]
   simp only [bne_eq_false_iff_eq] at hy
   subst hy
   exact l2 _ h3 h7 (congrArg i64 (Ho (by omega) (by omega)))
  ·simp (disch := first | omega | (simp only [World.size_alloc, size_setRow, Ac]; done) | (simp only [World.size_alloc, size_setRow, Ac]; omega) | (simp only [List.length_set, Array.length_toList]; omega)) [-Option.bind_some, h3, h6, h7, h8, h, i1, hy]
 refine Ag.enter plain mixed (Ml _ _) (by kernel_rfl) (n := 1) (by kernel_rfl) rfl ?_
 simp (disch := first | omega | (simp only [World.size_alloc, size_setRow, Ac]; done) | (simp only [World.size_alloc, size_setRow, Ac]; omega) | (simp only [List.length_set, Array.length_toList]; omega)) [-Option.bind_some]
 rw [DN]
 have e3 : (AJ (AL #[Value.slice (some ⟨b, 0, none⟩) 2 2]) [(2, i64 0), (3, i64 0), (6, Value.slice (some ⟨b, 0, none⟩) 2 2), (7, i64 2), (8, i64 0)]) 3 = i64 0 := rfl
 have e6 : (AJ (AL #[Value.slice (some ⟨b, 0, none⟩) 2 2]) [(2, i64 0), (3, i64 0), (6, Value.slice (some ⟨b, 0, none⟩) 2 2), (7, i64 2), (8, i64 0)]) 6 = Value.slice (some ⟨b, 0, none⟩) 2 2 := rfl
 have e7 : (AJ (AL #[Value.slice (some ⟨b, 0, none⟩) 2 2]) [(2, i64 0), (3, i64 0), (6, Value.slice (some ⟨b, 0, none⟩) 2 2), (7, i64 2), (8, i64 0)]) 7 = i64 2 := rfl
 have e8 : (AJ (AL #[Value.slice (some ⟨b, 0, none⟩) 2 2]) [(2, i64 0), (3, i64 0), (6, Value.slice (some ⟨b, 0, none⟩) 2 2), (7, i64 2), (8, i64 0)]) 8 = i64 0 := rfl
 show Ag (_ : Option (Value × World)) _
 simp only [e3, e6, e7, e8]
 generalize (AJ (AL #[Value.slice (some ⟨b, 0, none⟩) 2 2]) [(2, i64 0), (3, i64 0), (6, Value.slice (some ⟨b, 0, none⟩) 2 2), (7, i64 2), (8, i64 0)]) = e at *
 cases hx : (x != 0)
 ·simp (disch := first | omega | (simp only [World.size_alloc, size_setRow, Ac]; done) | (simp only [World.size_alloc, size_setRow, Ac]; omega) | (simp only [List.length_set, Array.length_toList]; omega)) [-Option.bind_some, h, i0, hx]
  refine Ag.mono (l1 _ e3 e6 e7 (congrArg i64 (Ho (by omega) (by omega)))) ?_
  rintro _ rfl
  simp only [bne_eq_false_iff_eq] at hx
  simp [hx]
 ·simp (disch := first | omega | (simp only [World.size_alloc, size_setRow, Ac]; done) | (simp only [World.size_alloc, size_setRow, Ac]; omega) | (simp only [List.length_set, Array.length_toList]; omega)) [-Option.bind_some, h, i0, hx]
  simp only [bne_iff_ne, ne_eq] at hx
  simp [hx]
theorem It (x y : Tag) (w : World) : Ag (EV P 39 #[x.v, y.v] w) fun r => r.1 = i64 (if x.t < y.t then -1 else if y.t < x.t then 1 else if x.p < y.p then -1 else if y.p < x.p then 1 else 0) ∧ Ext w r.2 := by
 refine Ag.enter plain mixed (Hu _ _ _) (by kernel_rfl) (n := 2) (by kernel_rfl) rfl ?_
 simp (disch := first | omega | (simp only [World.size_alloc, size_setRow, Ac]; done) | (simp only [World.size_alloc, size_setRow, Ac]; omega) | (simp only [List.length_set, Array.length_toList]; omega)) [-Option.bind_some, Ae, Af]
 refine Ag.bind (Fz _ _ _) ?_
 rintro _ rfl
 simp (disch := first | omega | (simp only [World.size_alloc, size_setRow, Ac]; done) | (simp only [World.size_alloc, size_setRow, Ac]; omega) | (simp only [List.length_set, Array.length_toList]; omega)) [-Option.bind_some, Ae, Af]
 refine Ag.bind (Fz _ _ _) ?_
 rintro _ rfl
 simp (disch := first | omega | (simp only [World.size_alloc, size_setRow, Ac]; done) | (simp only [World.size_alloc, size_setRow, Ac]; omega) | (simp only [List.length_set, Array.length_toList]; omega)) [-Option.bind_some]
 refine Ag.bind (NO (Af (by simp only [World.size_alloc, Ac]))) ?_
 rintro _ rfl
 simp (disch := first | omega | (simp only [World.size_alloc, size_setRow, Ac]; done) | (simp only [World.size_alloc, size_setRow, Ac]; omega) | (simp only [List.length_set, Array.length_toList]; omega)) [-Option.bind_some]
 refine ⟨?_, by (repeat (first | exact Ext.rfl | assumption | (refine Ext.al ?_ _) | (refine Ext.dw ?_) | (refine Ext.set ?_ (by first | omega | (simp only [World.size_alloc, size_setRow, Ac]; omega)) _) | (refine Ext.tr ?_ (by assumption))))⟩
 by_cases h1 : x.t < y.t
 ·simp [h1]
 ·by_cases h2 : y.t < x.t <;> simp [h1, h2]
theorem G7 (x y : Tag) (w : World) : Ag (EV P 18 #[x.v, y.v] w) fun r => r.1 = .bool (AH x y) ∧ Ext w r.2 := by
 refine Ag.enter plain mixed (Kk _ _ _) (by kernel_rfl) (n := 2) (by kernel_rfl) rfl ?_
 simp (disch := first | omega | (simp only [World.size_alloc, size_setRow, Ac]; done) | (simp only [World.size_alloc, size_setRow, Ac]; omega) | (simp only [List.length_set, Array.length_toList]; omega)) [-Option.bind_some, Ae, Af]
 refine Ag.bind (It x y _) ?_
 rintro ⟨_, w1⟩ ⟨rfl, hE⟩
 simp (disch := first | omega | (simp only [World.size_alloc, size_setRow, Ac]; done) | (simp only [World.size_alloc, size_setRow, Ac]; omega) | (simp only [List.length_set, Array.length_toList]; omega)) [-Option.bind_some]
 refine ⟨?_, by (repeat (first | exact Ext.rfl | assumption | (refine Ext.al ?_ _) | (refine Ext.dw ?_) | (refine Ext.set ?_ (by first | omega | (simp only [World.size_alloc, size_setRow, Ac]; omega)) _) | (refine Ext.tr ?_ (by assumption))))⟩
 unfold AH
 by_cases h1 : x.t < y.t
 ·simp [h1]
 ·by_cases h2 : y.t < x.t
  ·have : ¬ x.t = y.t := by omega
   simp [h1, h2, this]
  ·have : x.t = y.t := by omega
   simp [this]
   by_cases h3 : x.p < y.p
   ·simp [h3]
   ·by_cases h4 : y.p < x.p <;> simp [h3, h4]
theorem AN (x y : Tag) (w : World) : Ag (EV P 63 #[x.v, y.v] w) fun r => r.1 = .bool (AH x y) ∧ Ext w r.2 := by
 refine Ag.enter plain mixed (KZ _ _ _) (by kernel_rfl) (n := 2) (by kernel_rfl) rfl ?_
 cases h1 : decide (x.t < y.t)
 ·cases h2 : (x.t == y.t)
  ·simp (disch := first | omega | (simp only [World.size_alloc, size_setRow, Ac]; done) | (simp only [World.size_alloc, size_setRow, Ac]; omega) | (simp only [List.length_set, Array.length_toList]; omega)) [-Option.bind_some, Ae, Af, h1, h2, AH]
   (repeat (first | exact Ext.rfl | assumption | (refine Ext.al ?_ _) | (refine Ext.dw ?_) | (refine Ext.set ?_ (by first | omega | (simp only [World.size_alloc, size_setRow, Ac]; omega)) _) | (refine Ext.tr ?_ (by assumption))))
  ·simp (disch := first | omega | (simp only [World.size_alloc, size_setRow, Ac]; done) | (simp only [World.size_alloc, size_setRow, Ac]; omega) | (simp only [List.length_set, Array.length_toList]; omega)) [-Option.bind_some, Ae, Af, h1, h2, AH]
   (repeat (first | exact Ext.rfl | assumption | (refine Ext.al ?_ _) | (refine Ext.dw ?_) | (refine Ext.set ?_ (by first | omega | (simp only [World.size_alloc, size_setRow, Ac]; omega)) _) | (refine Ext.tr ?_ (by assumption))))
 ·simp (disch := first | omega | (simp only [World.size_alloc, size_setRow, Ac]; done) | (simp only [World.size_alloc, size_setRow, Ac]; omega) | (simp only [List.length_set, Array.length_toList]; omega)) [-Option.bind_some, Ae, Af, h1, AH]
  (repeat (first | exact Ext.rfl | assumption | (refine Ext.al ?_ _) | (refine Ext.dw ?_) | (refine Ext.set ?_ (by first | omega | (simp only [World.size_alloc, size_setRow, Ac]; omega)) _) | (refine Ext.tr ?_ (by assumption))))
theorem Jb (x y : Tag) (w : World) : Ag (EV P 93 #[x.v, y.v] w) fun r => r.1 = (CK x y).v ∧ Ext w r.2 := by
 refine Ag.enter plain mixed (Mn _ _ _) (by kernel_rfl) (n := 2) (by kernel_rfl) rfl ?_
 simp (disch := first | omega | (simp only [World.size_alloc, size_setRow, Ac]; done) | (simp only [World.size_alloc, size_setRow, Ac]; omega) | (simp only [List.length_set, Array.length_toList]; omega)) [-Option.bind_some, Ae, Af]
 refine Ag.bind (AN x y _) ?_
 rintro ⟨_, w1⟩ ⟨rfl, hE⟩
 have hs := hE.size
 simp only [World.size_alloc] at hs
 cases h : AH x y
 ·simp (disch := first | omega | (simp only [World.size_alloc, size_setRow, Ac]; done) | (simp only [World.size_alloc, size_setRow, Ac]; omega) | (simp only [List.length_set, Array.length_toList]; omega)) [-Option.bind_some, Ae, Af, CK, h, hE.Ah]
  (repeat (first | exact Ext.rfl | assumption | (refine Ext.al ?_ _) | (refine Ext.dw ?_) | (refine Ext.set ?_ (by first | omega | (simp only [World.size_alloc, size_setRow, Ac]; omega)) _) | (refine Ext.tr ?_ (by assumption))))
 ·simp (disch := first | omega | (simp only [World.size_alloc, size_setRow, Ac]; done) | (simp only [World.size_alloc, size_setRow, Ac]; omega) | (simp only [List.length_set, Array.length_toList]; omega)) [-Option.bind_some, Ae, Af, CK, h, hE.Ah]
  (repeat (first | exact Ext.rfl | assumption | (refine Ext.al ?_ _) | (refine Ext.dw ?_) | (refine Ext.set ?_ (by first | omega | (simp only [World.size_alloc, size_setRow, Ac]; omega)) _) | (refine Ext.tr ?_ (by assumption))))
theorem Ku {s : ByteArray} (hs : s.size ≤ 140737488351232) : ∀ (d k : Nat) (e : Env) (w : World), k + d = s.size → e 0 = .string s → e 3 = i64 k →
  Ag (Cx e w) fun r => r = (.bool ((s.toList.drop k).all FM && decide ((s.size : Int) ≤ 8)), w) := by
 intro d
 induction d with
 | zero =>
  intro k e w hd h0 h3
  rw [Es]
  simp (disch := first | omega | (simp only [World.size_alloc, size_setRow, Ac]; done) | (simp only [World.size_alloc, size_setRow, Ac]; omega) | (simp only [List.length_set, Array.length_toList]; omega)) [-Option.bind_some, h0, h3, show ¬ k < s.size by omega]
  rw [List.drop_eq_nil_of_le (by rw [Hp]; omega)]
  simp
 | succ d ih =>
  intro k e w hd h0 h3
  rw [Es]
  have hlt : k < s.size := by omega
  obtain ⟨b, hb, hdx⟩ := Am (l := s.toList) (k := k) (by rw [Hp]; omega)
  have hix := fun w => RA (P := P) (t := 9) (by kernel_rfl) s (i := k) (by omega) (b := b) (by simpa using hb) w
  rw [hdx]
  cases hb1 : decide ((b.toNat : Int) < 33)
  ·cases hb2 : decide ((b.toNat : Int) > 126)
   ·simp (disch := first | omega | (simp only [World.size_alloc, size_setRow, Ac]; done) | (simp only [World.size_alloc, size_setRow, Ac]; omega) | (simp only [List.length_set, Array.length_toList]; omega)) [-Option.bind_some, h0, h3, hlt, hix, hb1, hb2]
    refine Ag.mono (ih (k + 1) _ w (by omega) h0 (congrArg i64 (Ho (by omega) (by omega)))) ?_
    rintro _ rfl
    simp only [decide_eq_false_iff_not] at hb1 hb2
    have hby : FM b = true := by simp only [FM, Bool.and_eq_true, decide_eq_true_eq]; omega
    simp [hby]
   ·simp (disch := first | omega | (simp only [World.size_alloc, size_setRow, Ac]; done) | (simp only [World.size_alloc, size_setRow, Ac]; omega) | (simp only [List.length_set, Array.length_toList]; omega)) [-Option.bind_some, h0, h3, hlt, hix, hb1, hb2]
    simp only [decide_eq_true_eq] at hb2
    have hby : FM b = false := by simp only [FM, Bool.and_eq_false_iff, decide_eq_false_iff_not]; omega
    simp [hby]
  ·simp (disch := first | omega | (simp only [World.size_alloc, size_setRow, Ac]; done) | (simp only [World.size_alloc, size_setRow, Ac]; omega) | (simp only [List.length_set, Array.length_toList]; omega)) [-Option.bind_some, h0, h3, hlt, hix, hb1]
   simp only [decide_eq_true_eq] at hb1
   have hby : FM b = false := by simp only [FM, Bool.and_eq_false_iff, decide_eq_false_iff_not]; omega
   simp [hby]
theorem Gv {s : ByteArray} (hs : s.size ≤ 140737488351232) (w : World) : Ag (EV P 107 #[.string s] w) fun r => r = (.bool (J9 s), w) := by
 refine Ag.enter plain mixed (JH _ _) (by kernel_rfl) (n := 1) (by kernel_rfl) rfl ?_
 simp (disch := first | omega | (simp only [World.size_alloc, size_setRow, Ac]; done) | (simp only [World.size_alloc, size_setRow, Ac]; omega) | (simp only [List.length_set, Array.length_toList]; omega)) [-Option.bind_some]
 exact Ku hs s.size 0 _ w (by omega) rfl rfl
theorem Kv {s : Value} {xs : List Tag} {b t : Nat} : ∀ (d k : Nat) (e : Env) (w : World), k + d = xs.length → e 1 = pt b 0 → e 3 = i64 k → hp w b = some (.cells #[s] t (0, 0)) → AM w s xs →
  Ag (Cy e w) fun r => r.1 = .bool ((xs.drop k).all CI && (xs.length == 4)) ∧ Ext w r.2 := by
 intro d
 induction d with
 | zero =>
  intro k e w hd h1 h3 hx ha
  obtain ⟨aa, ca, hs, hm⟩ := ha.len
  rw [Et]
  subst hs
  have hq : ((xs.length : Int) == 4) = (xs.length == 4) := by rw [Bool.eq_iff_iff]; simp only [beq_iff_eq]; omega
  simp (disch := first | omega | (simp only [World.size_alloc, size_setRow, Ac]; done) | (simp only [World.size_alloc, size_setRow, Ac]; omega) | (simp only [List.length_set, Array.length_toList]; omega)) [-Option.bind_some, Ae, Af, Ad, h1, h3, hx, show ¬ k < xs.length by omega, show xs.length ≤ k by omega, hq]
  rw [List.drop_eq_nil_of_le (by omega)]
  exact ⟨by simp, by (repeat (first | exact Ext.rfl | assumption | (refine Ext.al ?_ _) | (refine Ext.dw ?_) | (refine Ext.set ?_ (by first | omega | (simp only [World.size_alloc, size_setRow, Ac]; omega)) _) | (refine Ext.tr ?_ (by assumption))))⟩
 | succ d ih =>
  intro k e w hd h1 h3 hx ha
  obtain ⟨aa, ca, hs, hm⟩ := ha.len
  rw [Et]
  have hlt : k < xs.length := by omega
  obtain ⟨x, hxk, hdx⟩ := Am hlt
  obtain ⟨b1, o1, c1, hs1, hA⟩ := ha.at hxk
  have p0 := hA 0 _ rfl
  have p1 := hA 1 _ rfl
  simp only [Nat.add_zero] at p0
  subst hs1
  simp (disch := first | omega | (simp only [World.size_alloc, size_setRow, Ac]; done) | (simp only [World.size_alloc, size_setRow, Ac]; omega) | (simp only [List.length_set, Array.length_toList]; omega)) [-Option.bind_some, Ae, Af, Ad, h1, h3, hx, hlt, EJ, p0, p1]
  refine Ag.bind (G4 x _) ?_
  rintro ⟨_, w1⟩ ⟨rfl, hE⟩
  cases hxo : CI x
  ·simp (disch := first | omega | (simp only [World.size_alloc, size_setRow, Ac]; done) | (simp only [World.size_alloc, size_setRow, Ac]; omega) | (simp only [List.length_set, Array.length_toList]; omega)) [-Option.bind_some, Ae, Af, Ad, hxo, hdx]
   (repeat (first | exact Ext.rfl | assumption | (refine Ext.al ?_ _) | (refine Ext.dw ?_) | (refine Ext.set ?_ (by first | omega | (simp only [World.size_alloc, size_setRow, Ac]; omega)) _) | (refine Ext.tr ?_ (by assumption))))
  ·simp (disch := first | omega | (simp only [World.size_alloc, size_setRow, Ac]; done) | (simp only [World.size_alloc, size_setRow, Ac]; omega) | (simp only [List.length_set, Array.length_toList]; omega)) [-Option.bind_some, Ae, Af, Ad, hxo, hdx]
   refine Ag.mono (ih (k + 1) _ w1 (by omega) h1 (congrArg i64 (Ho (by omega) (by omega))) ((hE.Ah (Aq hx)).trans hx) (ha.mono (Ext.Ak (by (repeat (first | exact Ext.rfl | assumption | (refine Ext.al ?_ _) | (refine Ext.dw ?_) | (refine Ext.set ?_ (by first | omega | (simp only [World.size_alloc, size_setRow, Ac]; omega)) _) | (refine Ext.tr ?_ (by assumption)))))))) ?_
   rintro r ⟨h4, h5⟩
   exact ⟨h4, by (repeat (first | exact Ext.rfl | assumption | (refine Ext.al ?_ _) | (refine Ext.dw ?_) | (refine Ext.set ?_ (by first | omega | (simp only [World.size_alloc, size_setRow, Ac]; omega)) _) | (refine Ext.tr ?_ (by assumption))))⟩
theorem Kw {s : Value} {xs : List Tag} {w : World} (ha : AM w s xs) : Ag (EV P 108 #[.agg #[s]] w) fun r => r.1 = .bool (BS xs) ∧ Ext w r.2 := by
 have ha' := ha
 obtain ⟨aa, ca, hs, hm⟩ := ha.len
 subst hs
 refine Ag.enter plain mixed (JI _ _) (by kernel_rfl) (n := 1) (by kernel_rfl) rfl ?_
 simp (disch := first | omega | (simp only [World.size_alloc, size_setRow, Ac]; done) | (simp only [World.size_alloc, size_setRow, Ac]; omega) | (simp only [List.length_set, Array.length_toList]; omega)) [-Option.bind_some, Ae, Af, Ad]
 refine Ag.mono (Kv xs.length 0 _ _ (by omega) rfl rfl (Af rfl) (ha'.mono (Ext.Ak (by (repeat (first | exact Ext.rfl | assumption | (refine Ext.al ?_ _) | (refine Ext.dw ?_) | (refine Ext.set ?_ (by first | omega | (simp only [World.size_alloc, size_setRow, Ac]; omega)) _) | (refine Ext.tr ?_ (by assumption)))))))) ?_
 rintro r ⟨h1, h2⟩
 exact ⟨h1, (Ext.al Ext.rfl _).tr h2⟩
theorem OC {v : Ver} {s : Value} {b t : Nat} (h4 : v.past.length = 4) : ∀ (d k : Nat) (e : Env) (w : World), k + d = 4 → e 1 = pt b 0 → e 3 = i64 k →
  hp w b = some (.cells #[i64 v.key, i64 v.tag.t, i64 v.tag.p, s, .string v.text, .bool v.gone] t (0, 0)) → AM w s v.past →
  Ag (Du e w) fun r => r.1 = .bool ((v.past.drop k).all fun t => decide (t.t < v.tag.t)) ∧ Ext w r.2 := by
 intro d
 induction d with
 | zero =>
  intro k e w hd h1 h3 hx ha
  rw [Gr]
  obtain rfl : k = 4 := by omega
  simp (disch := first | omega | (simp only [World.size_alloc, size_setRow, Ac]; done) | (simp only [World.size_alloc, size_setRow, Ac]; omega) | (simp only [List.length_set, Array.length_toList]; omega)) [-Option.bind_some, Ae, Af, Ad, h1, h3, hx]
  rw [List.drop_eq_nil_of_le (by omega)]
  exact ⟨by simp, by (repeat (first | exact Ext.rfl | assumption | (refine Ext.al ?_ _) | (refine Ext.dw ?_) | (refine Ext.set ?_ (by first | omega | (simp only [World.size_alloc, size_setRow, Ac]; omega)) _) | (refine Ext.tr ?_ (by assumption))))⟩
 | succ d ih =>
  intro k e w hd h1 h3 hx ha
  rw [Gr]
  have hlt : k < v.past.length := by omega
  obtain ⟨x, hxk, hdx⟩ := Am hlt
  obtain ⟨b1, o1, c1, hs1, hA⟩ := ha.at hxk
  have p0 := hA 0 _ rfl
  have p1 := hA 1 _ rfl
  simp only [Nat.add_zero] at p0
  subst hs1
  cases hg : decide (x.t ≥ v.tag.t)
  ·simp (disch := first | omega | (simp only [World.size_alloc, size_setRow, Ac]; done) | (simp only [World.size_alloc, size_setRow, Ac]; omega) | (simp only [List.length_set, Array.length_toList]; omega)) [-Option.bind_some, Ae, Af, Ad, h1, h3, hx, hlt, h4, show (k : Int) < 4 by omega, show k < 4 by omega, EJ, p0, p1, hdx, hg]
   refine Ag.mono (ih (k + 1) _ _ (by omega) h1 (congrArg i64 (Ho (by omega) (by omega))) (by simp (disch := first | omega | (simp only [World.size_alloc, size_setRow, Ac]; done) | (simp only [World.size_alloc, size_setRow, Ac]; omega) | (simp only [List.length_set, Array.length_toList]; omega)) [-Option.bind_some, Ae, Af, Ad, hx]) (ha.mono (Ext.Ak (by (repeat (first | exact Ext.rfl | assumption | (refine Ext.al ?_ _) | (refine Ext.dw ?_) | (refine Ext.set ?_ (by first | omega | (simp only [World.size_alloc, size_setRow, Ac]; omega)) _) | (refine Ext.tr ?_ (by assumption)))))))) ?_
   rintro r ⟨h5, h6⟩
   simp only [decide_eq_false_iff_not] at hg
   exact ⟨by rw [h5]; simp [show x.t < v.tag.t by omega], (Cc w).tr h6⟩
  ·simp (disch := first | omega | (simp only [World.size_alloc, size_setRow, Ac]; done) | (simp only [World.size_alloc, size_setRow, Ac]; omega) | (simp only [List.length_set, Array.length_toList]; omega)) [-Option.bind_some, Ae, Af, Ad, h1, h3, hx, hlt, h4, show (k : Int) < 4 by omega, show k < 4 by omega, EJ, p0, p1, hdx, hg]
   simp only [decide_eq_true_eq] at hg
   exact ⟨by simp [show ¬ x.t < v.tag.t by omega], by (repeat (first | exact Ext.rfl | assumption | (refine Ext.al ?_ _) | (refine Ext.dw ?_) | (refine Ext.set ?_ (by first | omega | (simp only [World.size_alloc, size_setRow, Ac]; omega)) _) | (refine Ext.tr ?_ (by assumption))))⟩
theorem OD {cs : List Value} {v : Ver} {w : World} (ha : Gm w cs v) : Ag (EV P 82 #[.agg cs.toArray] w) fun r => r.1 = .bool (BF v) ∧ Ext w r.2 := by
  obtain ⟨s, rfl, ha, ht⟩ := ha
  have ha' := ha
  obtain ⟨aa, ca, hs, hm⟩ := ha.len
  subst hs
  refine Ag.enter plain mixed (Ns _ _) (by kernel_rfl) (n := 1) (by kernel_rfl) rfl ?_
  simp (disch := first | omega | (simp only [World.size_alloc, size_setRow, Ac]; done) | (simp only [World.size_alloc, size_setRow, Ac]; omega) | (simp only [List.length_set, Array.length_toList]; omega)) [-Option.bind_some, Ae, Af, Ad]
  refine Ag.bind (AK _ _ _ _) ?_
  rintro _ rfl
  cases hk : PT v.key
  · have hk' : (decide (0 ≤ v.key) && decide (v.key ≤ 3)) = false := hk
    have hv : BF v = false := by simp [BF, Ef, hk]
    simp (disch := first | omega | (simp only [World.size_alloc, size_setRow, Ac]; done) | (simp only [World.size_alloc, size_setRow, Ac]; omega) | (simp only [List.length_set, Array.length_toList]; omega)) [-Option.bind_some, Ae, Af, Ad, hk', hv]
    (repeat (first | exact Ext.rfl | assumption | (refine Ext.al ?_ _) | (refine Ext.dw ?_) | (refine Ext.set ?_ (by first | omega | (simp only [World.size_alloc, size_setRow, Ac]; omega)) _) | (refine Ext.tr ?_ (by assumption))))
  have hk' : (decide (0 ≤ v.key) && decide (v.key ≤ 3)) = true := hk
  simp (disch := first | omega | (simp only [World.size_alloc, size_setRow, Ac]; done) | (simp only [World.size_alloc, size_setRow, Ac]; omega) | (simp only [List.length_set, Array.length_toList]; omega)) [-Option.bind_some, Ae, Af, Ad, hk']
  refine Ag.bind (Gv ht _) ?_
  rintro _ rfl
  cases hx : J9 v.text
  · have hv : BF v = false := by simp [BF, Ef, hx]
    simp (disch := first | omega | (simp only [World.size_alloc, size_setRow, Ac]; done) | (simp only [World.size_alloc, size_setRow, Ac]; omega) | (simp only [List.length_set, Array.length_toList]; omega)) [-Option.bind_some, Ae, Af, Ad, hx, hv]
    (repeat (first | exact Ext.rfl | assumption | (refine Ext.al ?_ _) | (refine Ext.dw ?_) | (refine Ext.set ?_ (by first | omega | (simp only [World.size_alloc, size_setRow, Ac]; omega)) _) | (refine Ext.tr ?_ (by assumption))))
  simp (disch := first | omega | (simp only [World.size_alloc, size_setRow, Ac]; done) | (simp only [World.size_alloc, size_setRow, Ac]; omega) | (simp only [List.length_set, Array.length_toList]; omega)) [-Option.bind_some, Ae, Af, Ad, hx]
  refine Ag.bind (G4 v.tag _) ?_
  rintro ⟨_, w1⟩ ⟨rfl, hE⟩
  have hs := hE.size
  simp only [World.size_alloc] at hs
  cases hg : CI v.tag
  · have hv : BF v = false := by simp [BF, Ef, hg]
    simp (disch := first | omega | (simp only [World.size_alloc, size_setRow, Ac]; done) | (simp only [World.size_alloc, size_setRow, Ac]; omega) | (simp only [List.length_set, Array.length_toList]; omega)) [-Option.bind_some, Ae, Af, Ad, hg, hv]
    (repeat (first | exact Ext.rfl | assumption | (refine Ext.al ?_ _) | (refine Ext.dw ?_) | (refine Ext.set ?_ (by first | omega | (simp only [World.size_alloc, size_setRow, Ac]; omega)) _) | (refine Ext.tr ?_ (by assumption))))
  cases h0 : (v.tag.t == 0)
  case true =>
    have hv : BF v = false := ON h0
    simp (disch := first | omega | (simp only [World.size_alloc, size_setRow, Ac]; done) | (simp only [World.size_alloc, size_setRow, Ac]; omega) | (simp only [List.length_set, Array.length_toList]; omega)) [-Option.bind_some, Ae, Af, Ad, hg, h0, hv, hE.Ah]
    (repeat (first | exact Ext.rfl | assumption | (refine Ext.al ?_ _) | (refine Ext.dw ?_) | (refine Ext.set ?_ (by first | omega | (simp only [World.size_alloc, size_setRow, Ac]; omega)) _) | (refine Ext.tr ?_ (by assumption))))
  cases hgt : (v.gone && !DH v.text)
  case true =>
    have hv : BF v = false := by
      simp only [Bool.and_eq_true, Bool.not_eq_true'] at hgt
      simp [BF, Ef, hgt.1, hgt.2]
    simp only [Bool.and_eq_true, Bool.not_eq_true'] at hgt
    have hgt2 := hgt.2
    unfold DH at hgt2
    simp (disch := first | omega | (simp only [World.size_alloc, size_setRow, Ac]; done) | (simp only [World.size_alloc, size_setRow, Ac]; omega) | (simp only [List.length_set, Array.length_toList]; omega)) [-Option.bind_some, Ae, Af, Ad, hg, h0, hE.Ah, hgt.1, hgt2, hv]
    (repeat (first | exact Ext.rfl | assumption | (refine Ext.al ?_ _) | (refine Ext.dw ?_) | (refine Ext.set ?_ (by first | omega | (simp only [World.size_alloc, size_setRow, Ac]; omega)) _) | (refine Ext.tr ?_ (by assumption))))
  have hgt' : v.gone = false ∨ DH v.text = true := by
    cases h1 : v.gone
    · exact .inl rfl
    · right; simpa [h1] using hgt
  have hgn : (!v.gone || DH v.text) = true := by rcases hgt' with h | h <;> simp [h]
  have fin : ∀ w2, Ext w w2 → w.heap.size < w2.heap.size → AM w2 (Value.slice aa v.past.length ca) v.past → BS v.past = true → ∀ e : Env, e 1 = pt w.heap.size 0 → e 3 = i64 0 →
      hp w2 w.heap.size = some (.cells #[i64 v.key, i64 v.tag.t, i64 v.tag.p, Value.slice aa v.past.length ca, .string v.text, .bool v.gone] 49 (0, 0)) →
      Ag (Du e w2) fun r => r.1 = .bool (BF v) ∧ Ext w r.2 := by
    intro w2 hE2 hsz hr hp4 e h1 h3 hb
    have hlen : v.past.length = 4 := by
      unfold BS at hp4
      simp only [Bool.and_eq_true, beq_iff_eq] at hp4
      exact hp4.2
    refine Ag.mono (OC hlen 4 0 e w2 (by omega) h1 h3 hb hr) ?_
    rintro r ⟨h5, h6⟩
    refine ⟨?_, hE2.tr h6⟩
    rw [h5, List.drop_zero, ← Po hg h0]
    simp [BF, Ef, hk, hx, hgn, hp4, hg]
  have hbx : hp w1 w.heap.size = some (.cells #[i64 v.key, i64 v.tag.t, i64 v.tag.p, Value.slice aa v.past.length ca, .string v.text, .bool v.gone] 49 (0, 0)) :=
    (hE.Ah (by simp only [World.size_alloc]; omega)).trans (Af rfl)
  rcases hgt' with h1 | h1
  all_goals
    try unfold DH at h1
    cases TS : v.gone
    all_goals
      first
      | (rw [TS] at h1; exact absurd h1 (by decide))
      | (simp (disch := first | omega | (simp only [World.size_alloc, size_setRow, Ac]; done) | (simp only [World.size_alloc, size_setRow, Ac]; omega) | (simp only [List.length_set, Array.length_toList]; omega)) [-Option.bind_some, Ae, Af, Ad, hg, h0, hbx, h1, TS]
         refine Ag.bind (Kw (ha'.mono (Ext.Ak (by (repeat (first | exact Ext.rfl | assumption | (refine Ext.al ?_ _) | (refine Ext.dw ?_) | (refine Ext.set ?_ (by first | omega | (simp only [World.size_alloc, size_setRow, Ac]; omega)) _) | (refine Ext.tr ?_ (by assumption)))))))) ?_
         rintro ⟨_, w2⟩ ⟨rfl, hE2⟩
         have hs2 : w1.heap.size ≤ w2.heap.size := hE2.size
         cases hp4 : BS v.past
         · have hv : BF v = false := by simp [BF, Ef, hp4]
           simp (disch := first | omega | (simp only [World.size_alloc, size_setRow, Ac]; done) | (simp only [World.size_alloc, size_setRow, Ac]; omega) | (simp only [List.length_set, Array.length_toList]; omega)) [-Option.bind_some, Ae, Af, Ad, hp4, hv]
           (repeat (first | exact Ext.rfl | assumption | (refine Ext.al ?_ _) | (refine Ext.dw ?_) | (refine Ext.set ?_ (by first | omega | (simp only [World.size_alloc, size_setRow, Ac]; omega)) _) | (refine Ext.tr ?_ (by assumption))))
         · simp (disch := first | omega | (simp only [World.size_alloc, size_setRow, Ac]; done) | (simp only [World.size_alloc, size_setRow, Ac]; omega) | (simp only [List.length_set, Array.length_toList]; omega)) [-Option.bind_some, Ae, Af, Ad, hp4]
           exact fin w2 (by (repeat (first | exact Ext.rfl | assumption | (refine Ext.al ?_ _) | (refine Ext.dw ?_) | (refine Ext.set ?_ (by first | omega | (simp only [World.size_alloc, size_setRow, Ac]; omega)) _) | (refine Ext.tr ?_ (by assumption))))) (by omega) (ha'.mono (Ext.Ak (by (repeat (first | exact Ext.rfl | assumption | (refine Ext.al ?_ _) | (refine Ext.dw ?_) | (refine Ext.set ?_ (by first | omega | (simp only [World.size_alloc, size_setRow, Ac]; omega)) _) | (refine Ext.tr ?_ (by assumption))))))) hp4 _ rfl rfl ((hE2.Ah (Aq hbx)).trans hbx))
theorem Kx {s u : Value} {xs ys : List Tag} {b c t t' : Nat} (hx4 : xs.length = 4) (hy4 : ys.length = 4) : ∀ (d k : Nat) (e : Env) (w : World), k + d = 4 → e 2 = pt b 0 → e 3 = pt c 0 → e 5 = i64 k →
  hp w b = some (.cells #[s] t (0, 0)) → hp w c = some (.cells #[u] t' (0, 0)) → AM w s xs → AM w u ys →
  Ag (Cw e w) fun r => r.1 = .bool (under (xs.drop k) (ys.drop k)) ∧ Ext w r.2 := by
 intro d
 induction d with
 | zero =>
  intro k e w hd h2 h3 h5 hx hy ha hb
  rw [Er]
  obtain rfl : k = 4 := by omega
  simp (disch := first | omega | (simp only [World.size_alloc, size_setRow, Ac]; done) | (simp only [World.size_alloc, size_setRow, Ac]; omega) | (simp only [List.length_set, Array.length_toList]; omega)) [-Option.bind_some, h5]
  rw [List.drop_eq_nil_of_le (by omega)]
  exact ⟨rfl, by (repeat (first | exact Ext.rfl | assumption | (refine Ext.al ?_ _) | (refine Ext.dw ?_) | (refine Ext.set ?_ (by first | omega | (simp only [World.size_alloc, size_setRow, Ac]; omega)) _) | (refine Ext.tr ?_ (by assumption))))⟩
 | succ d ih =>
  intro k e w hd h2 h3 h5 hx hy ha hb
  rw [Er]
  have hlt : k < xs.length := by omega
  obtain ⟨x, hxk, hdx⟩ := Am hlt
  obtain ⟨y, hyk, hdy⟩ := Am (show k < ys.length by omega)
  obtain ⟨b1, o1, c1, hs1, hA⟩ := ha.at hxk
  obtain ⟨b2, o2, c2, hs2, hB⟩ := hb.at hyk
  have p0 := hA 0 _ rfl
  have p1 := hA 1 _ rfl
  have q0 := hB 0 _ rfl
  have q1 := hB 1 _ rfl
  simp only [Nat.add_zero] at p0 q0
  subst hs1
  subst hs2
  simp (disch := first | omega | (simp only [World.size_alloc, size_setRow, Ac]; done) | (simp only [World.size_alloc, size_setRow, Ac]; omega) | (simp only [List.length_set, Array.length_toList]; omega)) [-Option.bind_some, h2, h3, h5, hx, hy, hx4, hy4, show (k : Int) < 4 by omega, EJ, p0, p1, q0, q1]
  refine Ag.bind (AN y x _) ?_
  rintro ⟨_, w1⟩ ⟨rfl, hE⟩
  have hE' : Ext w w1 := (Cc w).tr hE
  cases hl : AH y x
  ·simp (disch := first | omega | (simp only [World.size_alloc, size_setRow, Ac]; done) | (simp only [World.size_alloc, size_setRow, Ac]; omega) | (simp only [List.length_set, Array.length_toList]; omega)) [-Option.bind_some]
   refine Ag.mono (ih (k + 1) _ w1 (by omega) h2 h3 (congrArg i64 (Ho (by omega) (by omega))) ((hE'.Ah (Aq hx)).trans hx) ((hE'.Ah (Aq hy)).trans hy) (ha.mono (Ext.Ak hE')) (hb.mono (Ext.Ak hE'))) ?_
   rintro r ⟨h6, h7⟩
   exact ⟨by rw [h6, hdx, hdy]; simp [under, hl], hE'.tr h7⟩
  ·simp (disch := first | omega | (simp only [World.size_alloc, size_setRow, Ac]; done) | (simp only [World.size_alloc, size_setRow, Ac]; omega) | (simp only [List.length_set, Array.length_toList]; omega)) [-Option.bind_some]
   exact ⟨by rw [hdx, hdy]; simp [under, hl], hE'⟩
theorem CU {s u : Value} {xs ys : List Tag} (hx4 : xs.length = 4) (hy4 : ys.length = 4) {w : World} (ha : AM w s xs) (hb : AM w u ys) : Ag (EV P 84 #[.agg #[s], .agg #[u]] w) fun r => r.1 = .bool (under xs ys) ∧ Ext w r.2 := by
 have ha' := ha
 have hb' := hb
 obtain ⟨aa, ca, hs, hm⟩ := ha.len
 obtain ⟨ab, cb, hu, _⟩ := hb.len
 subst hs
 subst hu
 refine Ag.enter plain mixed (JE _ _ _) (by kernel_rfl) (n := 2) (by kernel_rfl) rfl ?_
 simp (disch := first | omega | (simp only [World.size_alloc, size_setRow, Ac]; done) | (simp only [World.size_alloc, size_setRow, Ac]; omega) | (simp only [List.length_set, Array.length_toList]; omega)) [-Option.bind_some]
 refine Ag.mono (Kx hx4 hy4 4 0 _ _ (by omega) rfl rfl rfl ((Ae (by simp)).trans (Af rfl)) (Af (by simp)) (ha'.mono (Ext.Ak (by (repeat (first | exact Ext.rfl | assumption | (refine Ext.al ?_ _) | (refine Ext.dw ?_) | (refine Ext.set ?_ (by first | omega | (simp only [World.size_alloc, size_setRow, Ac]; omega)) _) | (refine Ext.tr ?_ (by assumption))))))) (hb'.mono (Ext.Ak (by (repeat (first | exact Ext.rfl | assumption | (refine Ext.al ?_ _) | (refine Ext.dw ?_) | (refine Ext.set ?_ (by first | omega | (simp only [World.size_alloc, size_setRow, Ac]; omega)) _) | (refine Ext.tr ?_ (by assumption)))))))) ?_
 rintro r ⟨h1, h2⟩
 exact ⟨h1, (Ext.al (Ext.al Ext.rfl _) _).tr h2⟩
theorem MH {s : Value} {vs : List Ver} {b1 b2 b3 t1 B : Nat} {w0 : World} (hb1 : b1 < B) (hb2 : b2 < B) (hb3 : b3 < B) (h0b2 : w0.heap.size ≤ b2) (h0b3 : w0.heap.size ≤ b3) (h21 : b2 ≠ b1) (h31 : b3 ≠ b1) (h32 : b3 ≠ b2) : ∀ (d k : Nat) (e : Env) (w : World) (sv c0 : Value), k + d = vs.length → e 1 = pt b1 0 → e 2 = pt b2 0 → e 3 = pt b3 0 → e 4 = i64 k →
  hp w b1 = some (.cells #[s] t1 (0, 0)) → hp w b2 = some (.cells #[c0] 32 (0, 0)) → hp w b3 = some (.cells #[sv] 32 (0, 0)) → Bn w0 s vs → Ext w0 w → B ≤ w.heap.size →
  BK 36 B w sv (AG (vs.take k)) →
  Ag (Dw e w) fun r => ∃ s', r.1 = .agg #[s'] ∧ BK 36 B r.2 s' (AG vs) ∧ Ext w0 r.2 := by
 intro d
 induction d with
 | zero =>
  intro k e w sv c0 hd h1 h2 h3 h4 hx1 hx2 hx3 ha hE hBw hf
  obtain ⟨aa, ca, hs, hm⟩ := ha.len
  rw [Fi]
  subst hs
  obtain ⟨ab, cb, hsv, _⟩ := hf.r.len
  subst hsv
  simp (disch := first | omega | (simp only [World.size_alloc, size_setRow, Ac]; done) | (simp only [World.size_alloc, size_setRow, Ac]; omega) | (simp only [List.length_set, Array.length_toList]; omega)) [-Option.bind_some, h1, h2, h3, h4, hx1, hx2, hx3, show ¬ k < vs.length by omega]
  rw [List.take_of_length_le (by omega)] at hf ⊢
  refine ⟨hf.Ak fun b hb => Ad ?_, by (repeat (first | exact Ext.rfl | assumption | (refine Ext.al ?_ _) | (refine Ext.dw ?_) | (refine Ext.set ?_ (by first | omega | (simp only [World.size_alloc, size_setRow, Ac]; omega)) _) | (refine Ext.tr ?_ (by assumption))))⟩
  have := (hf.lt b hb).1
  omega
 | succ d ih =>
  intro k e w sv c0 hd h1 h2 h3 h4 hx1 hx2 hx3 ha hE hBw hf
  rw [Fi]
  have hlt : k < vs.length := by omega
  obtain ⟨v, hv, hdx⟩ := Am hlt
  obtain ⟨_, _, _, hm⟩ := ha.len
  obtain ⟨bb, oo, cc, cs, hs1, hA0, hcs0⟩ := ha.at hv
  have hA := hA0.mono (Ext.Ak hE)
  obtain ⟨sp, rfl, _, _⟩ := hcs0
  have p1 := hA 1 _ rfl
  have p2 := hA 2 _ rfl
  have hbl := Aq hx3
  have hbb : bb < w.heap.size := hA.lt
  subst hs1
  obtain ⟨ab, cb, hsv, hfl⟩ := hf.r.len
  subst hsv
  have htl : (AG (vs.take k)).length = k := by simp [AG]; omega
  simp (disch := first | omega | (simp only [World.size_alloc, size_setRow, Ac]; done) | (simp only [World.size_alloc, size_setRow, Ac]; omega) | (simp only [List.length_set, Array.length_toList]; omega)) [-Option.bind_some, Ae, h1, h3, h4, hx1, hx3, hlt, AW, p1, p2]
  refine Ag.bind (PS (x := v.tag) CD (by kernel_rfl) (hf.Ak fun b hb => (Ae (by simp only [Ac]; exact (hf.lt b hb).2)).trans (Bg w b)) (by simp only [World.size_alloc, Ac]; omega) ?_ (by omega)) ?_
  ·intro j u hj
   rw [Af (by simp only [Ac]), Bt, ← CX, Nat.zero_add]
   exact hj
  rintro ⟨s', w1⟩ ⟨hf1, hBut⟩
  have hk1 : ∀ b, b < B → hp w1 b = hp w b := fun b hb => (hBut.Ah b (by simp only [World.size_alloc, Ac]; omega) (fun e => absurd (hf.lt b (Option.mem_toList.2 e)).1 (by omega))).trans ((Ae (by simp only [Ac]; omega)).trans (Bg w b))
  have hE1 : Ext w0 w1 := Ext.VJ (b := (dw w).alloc _) (by (repeat (first | exact Ext.rfl | assumption | (refine Ext.al ?_ _) | (refine Ext.dw ?_) | (refine Ext.set ?_ (by first | omega | (simp only [World.size_alloc, size_setRow, Ac]; omega)) _) | (refine Ext.tr ?_ (by assumption))))) hBut fun x hx => by have := (hf.lt x (Option.mem_toList.2 hx)).1; omega
  have hsz : w.heap.size < w1.heap.size := by have := hBut.size; simp only [World.size_alloc, Ac] at this; omega
  obtain ⟨ac, c3, hsv, hfl1⟩ := hf1.r.len
  subst hsv
  simp (disch := first | omega | (simp only [World.size_alloc, size_setRow, Ac]; done) | (simp only [World.size_alloc, size_setRow, Ac]; omega) | (simp only [List.length_set, Array.length_toList]; omega)) [-Option.bind_some, hk1, hx3]
  refine Ag.mono (ih (k + 1) _ _ _ c0 (by omega) h1 h2 h3 (congrArg i64 (Ho (by omega) (by omega))) ((Ad (by omega)).trans ((hk1 _ hb1).trans hx1)) ((Ad (by omega)).trans ((hk1 _ hb2).trans hx2)) (by rw [DQ, hk1 _ hb3, hx3]; rfl) ha (by (repeat (first | exact Ext.rfl | assumption | (refine Ext.al ?_ _) | (refine Ext.dw ?_) | (refine Ext.set ?_ (by first | omega | (simp only [World.size_alloc, size_setRow, Ac]; omega)) _) | (refine Ext.tr ?_ (by assumption))))) (by simp; omega) ?_) fun _ h => h
  rw [FE hv]
  have : AG (vs.take k ++ [v]) = AG (vs.take k) ++ [v.tag] := by simp [AG]
  rw [this]
  have hf2 : ∀ cs, BK 36 B (w1.setRow b3 cs) _ (AG (vs.take k) ++ [v.tag]) := fun cs => hf1.Ak fun b hb => Ad (by have := (hf1.lt b hb).1; omega)
  simpa using hf2 _
theorem HV {s : Value} {vs : List Ver} {w : World} (ha : Bn w s vs) : Ag (EV P 83 #[.agg #[s]] w) fun r => ∃ s', r.1 = .agg #[s'] ∧ BK 36 w.heap.size r.2 s' (AG vs) ∧ Ext w r.2 := by
 have ha' := ha
 obtain ⟨aa, ca, hs, hm⟩ := ha.len
 subst hs
 refine Ag.enter plain mixed (K7 _ _) (by kernel_rfl) (n := 1) (by kernel_rfl) rfl ?_
 simp (disch := first | omega | (simp only [World.size_alloc, size_setRow, Ac]; done) | (simp only [World.size_alloc, size_setRow, Ac]; omega) | (simp only [List.length_set, Array.length_toList]; omega)) [-Option.bind_some, Af]
 refine Ag.mono (MH (s := .slice aa vs.length ca) (vs := vs) (b1 := w.heap.size) (b2 := w.heap.size + 1) (b3 := w.heap.size + 2) (B := w.heap.size + 3) (w0 := w) (t1 := 44) (by omega) (by omega) (by omega) (by omega) (by omega) (by omega) (by omega) (by omega) vs.length 0 _ _ _ _ (by omega) rfl rfl rfl rfl
  (by simp (disch := first | omega | (simp only [World.size_alloc, size_setRow, Ac]; done) | (simp only [World.size_alloc, size_setRow, Ac]; omega) | (simp only [List.length_set, Array.length_toList]; omega)) [-Option.bind_some, Ae, Af, Ad]; first | done | rfl) (by simp (disch := first | omega | (simp only [World.size_alloc, size_setRow, Ac]; done) | (simp only [World.size_alloc, size_setRow, Ac]; omega) | (simp only [List.length_set, Array.length_toList]; omega)) [-Option.bind_some, Ae, Af, Ad]; first | done | rfl) (by simp (disch := first | omega | (simp only [World.size_alloc, size_setRow, Ac]; done) | (simp only [World.size_alloc, size_setRow, Ac]; omega) | (simp only [List.length_set, Array.length_toList]; omega)) [-Option.bind_some, Af]; first | done | rfl) ha' (by (repeat (first | exact Ext.rfl | assumption | (refine Ext.al ?_ _) | (refine Ext.dw ?_) | (refine Ext.set ?_ (by first | omega | (simp only [World.size_alloc, size_setRow, Ac]; omega)) _) | (refine Ext.tr ?_ (by assumption))))) (by simp) ⟨IC.nil _ _ _ _, by simp [AG]⟩) ?_
 rintro ⟨_, w1⟩ ⟨s', rfl, hf, hE⟩
 exact ⟨s', rfl, hf.from (by omega), hE⟩
theorem J1 {s : Value} {vs : List Ver} {b t : Nat} : ∀ (d k : Nat) (e : Env) (w : World), k + d = vs.length → e 1 = pt b 0 → e 3 = i64 k → hp w b = some (.cells #[s] t (0, 0)) → Bn w s vs →
  Ag (BI e w) fun r => r.1 = .bool (CP k (vs.drop k) && (vs.length == 4)) ∧ Ext w r.2 := by
 intro d
 induction d with
 | zero =>
  intro k e w hd h1 h3 hx ha
  obtain ⟨aa, ca, hs, hm⟩ := ha.len
  rw [Ea]
  subst hs
  have hq : ((vs.length : Int) == 4) = (vs.length == 4) := by rw [Bool.eq_iff_iff]; simp only [beq_iff_eq]; omega
  simp (disch := first | omega | (simp only [World.size_alloc, size_setRow, Ac]; done) | (simp only [World.size_alloc, size_setRow, Ac]; omega) | (simp only [List.length_set, Array.length_toList]; omega)) [-Option.bind_some, Ae, Af, Ad, h1, h3, hx, show ¬ k < vs.length by omega, show vs.length ≤ k by omega, hq]
  rw [List.drop_eq_nil_of_le (by omega)]
  exact ⟨by simp [CP], by (repeat (first | exact Ext.rfl | assumption | (refine Ext.al ?_ _) | (refine Ext.dw ?_) | (refine Ext.set ?_ (by first | omega | (simp only [World.size_alloc, size_setRow, Ac]; omega)) _) | (refine Ext.tr ?_ (by assumption))))⟩
 | succ d ih =>
  intro k e w hd h1 h3 hx ha
  obtain ⟨aa, ca, hs, hm⟩ := ha.len
  rw [Ea]
  have hlt : k < vs.length := by omega
  obtain ⟨v, hv, hdx⟩ := Am hlt
  obtain ⟨b1, o1, c1, cs, hs1, hA, hcs⟩ := ha.at hv
  have hla := At.ld (P := P) (t := 49) (by kernel_rfl) (by rw [hcs.length]; kernel_rfl) hA
  have hcs' := hcs
  obtain ⟨sp, rfl, hsp, hts⟩ := hcs'
  obtain ⟨ap, cp, hsp', hpl⟩ := hsp.len
  subst hsp'
  have p0 := hA 0 _ rfl
  have p1 := hA 1 _ rfl
  have p2 := hA 2 _ rfl
  have p3 := hA 3 _ rfl
  have p4 := hA 4 _ rfl
  have p5 := hA 5 _ rfl
  simp only [Nat.add_zero] at p0
  have hsl : CP k (vs.drop k) = (Cd k v && CP (k + 1) (vs.drop (k + 1))) := by rw [hdx]; rfl
  have next : ∀ w1, Ext w w1 → Cd k v = true → ∀ e : Env, e 1 = pt b 0 → e 3 = i64 (k + 1 : Nat) → Ag (BI e w1) fun r => r.1 = .bool (CP k (vs.drop k) && (vs.length == 4)) ∧ Ext w r.2 := by
   intro w1 hE ho e h1 h3
   refine Ag.mono (ih (k + 1) e w1 (by omega) h1 h3 ((hE.Ah (Aq hx)).trans hx) (ha.mono (Ext.Ak hE))) ?_
   rintro r ⟨h4, h5⟩
   exact ⟨by rw [h4, hsl, ho, Bool.true_and], hE.tr h5⟩
  have cnt : i64 (IntKind.i64.wrap ((k : Int) + 1)) = i64 (k + 1 : Nat) := congrArg i64 (Ho (by omega) (by omega))
  subst hs1
  cases hz : ((v.tag.t == 0) && (v.tag.p == 0))
  ·have hso := LS (i := k) (RD hz)
   simp (disch := first | omega | (simp only [World.size_alloc, size_setRow, Ac]; done) | (simp only [World.size_alloc, size_setRow, Ac]; omega) | (simp only [List.length_set, Array.length_toList]; omega)) [-Option.bind_some, Ae, Af, Ad, h1, h3, hx, hlt, AW, p0, p1, p2, p3, p4, p5, hla, hz, -LI]
   refine Ag.bind (OD hcs) ?_
   rintro ⟨_, w1⟩ ⟨rfl, hE⟩
   have hbl := Aq hx
   have hb1 := hA.lt
   cases hvo : BF v
   ·simp (disch := first | omega | (simp only [World.size_alloc, size_setRow, Ac]; done) | (simp only [World.size_alloc, size_setRow, Ac]; omega) | (simp only [List.length_set, Array.length_toList]; omega)) [-Option.bind_some, Ae, Af, Ad, hvo, hsl, hso]
    (repeat (first | exact Ext.rfl | assumption | (refine Ext.al ?_ _) | (refine Ext.dw ?_) | (refine Ext.set ?_ (by first | omega | (simp only [World.size_alloc, size_setRow, Ac]; omega)) _) | (refine Ext.tr ?_ (by assumption))))
   cases hk : (v.key != (k : Int))
   case true =>
    simp (disch := first | omega | (simp only [World.size_alloc, size_setRow, Ac]; done) | (simp only [World.size_alloc, size_setRow, Ac]; omega) | (simp only [List.length_set, Array.length_toList]; omega)) [-Option.bind_some, Ae, Af, Ad, hvo, h1, h3, hx, hE.Ah, hlt, AW, p0, p1, p2, p3, p4, p5, hk, hsl, hso]
    simp only [bne_iff_ne, ne_eq] at hk
    exact ⟨fun h => (hk h).elim, by (repeat (first | exact Ext.rfl | assumption | (refine Ext.al ?_ _) | (refine Ext.dw ?_) | (refine Ext.set ?_ (by first | omega | (simp only [World.size_alloc, size_setRow, Ac]; omega)) _) | (refine Ext.tr ?_ (by assumption))))⟩
   simp (disch := first | omega | (simp only [World.size_alloc, size_setRow, Ac]; done) | (simp only [World.size_alloc, size_setRow, Ac]; omega) | (simp only [List.length_set, Array.length_toList]; omega)) [-Option.bind_some, Ae, Af, Ad, hvo, h1, h3, hx, hE.Ah, hlt, AW, p0, p1, p2, p3, p4, p5, hk, hz]
   simp only [bne_eq_false_iff_eq] at hk
   exact next w1 hE (by rw [hso, hvo, hk]; simp) _ h1 cnt
  ·have hso := RC (i := k) (PU hz)
   have htz := PU hz
   cases hk : (v.key != 0)
   case true =>
    have : AV v = false := by simp only [bne_iff_ne, ne_eq] at hk; simp [AV, hk]
    simp (disch := first | omega | (simp only [World.size_alloc, size_setRow, Ac]; done) | (simp only [World.size_alloc, size_setRow, Ac]; omega) | (simp only [List.length_set, Array.length_toList]; omega)) [-Option.bind_some, Ae, Af, Ad, h1, h3, hx, hlt, AW, p0, p1, p2, p3, p4, p5, hla, hz, -LI, hk, hsl, hso, this]
    (repeat (first | exact Ext.rfl | assumption | (refine Ext.al ?_ _) | (refine Ext.dw ?_) | (refine Ext.set ?_ (by first | omega | (simp only [World.size_alloc, size_setRow, Ac]; omega)) _) | (refine Ext.tr ?_ (by assumption))))
   cases hx4 : v.text.toList.isEmpty
   case false =>
    have : AV v = false := by simp [AV, DH, hx4]
    simp (disch := first | omega | (simp only [World.size_alloc, size_setRow, Ac]; done) | (simp only [World.size_alloc, size_setRow, Ac]; omega) | (simp only [List.length_set, Array.length_toList]; omega)) [-Option.bind_some, Ae, Af, Ad, h1, h3, hx, hlt, AW, p0, p1, p2, p3, p4, p5, hla, hz, -LI, hk, hsl, hso, this, hx4]
    (repeat (first | exact Ext.rfl | assumption | (refine Ext.al ?_ _) | (refine Ext.dw ?_) | (refine Ext.set ?_ (by first | omega | (simp only [World.size_alloc, size_setRow, Ac]; omega)) _) | (refine Ext.tr ?_ (by assumption))))
   cases hg : v.gone
   case true =>
    have : AV v = false := by simp [AV, hg]
    simp (disch := first | omega | (simp only [World.size_alloc, size_setRow, Ac]; done) | (simp only [World.size_alloc, size_setRow, Ac]; omega) | (simp only [List.length_set, Array.length_toList]; omega)) [-Option.bind_some, Ae, Af, Ad, h1, h3, hx, hlt, AW, p0, p1, p2, p3, p4, p5, hla, hz, -LI, hk, hsl, hso, this, hx4, hg]
    (repeat (first | exact Ext.rfl | assumption | (refine Ext.al ?_ _) | (refine Ext.dw ?_) | (refine Ext.set ?_ (by first | omega | (simp only [World.size_alloc, size_setRow, Ac]; omega)) _) | (refine Ext.tr ?_ (by assumption))))
   by_cases hp : v.past.length = 0
   ·have : AV v = true := by simp only [bne_eq_false_iff_eq] at hk; simp [AV, DH, hk, htz, hx4, hg, List.eq_nil_of_length_eq_zero hp]
    simp (disch := first | omega | (simp only [World.size_alloc, size_setRow, Ac]; done) | (simp only [World.size_alloc, size_setRow, Ac]; omega) | (simp only [List.length_set, Array.length_toList]; omega)) [-Option.bind_some, Ae, Af, Ad, h1, h3, hx, hlt, AW, p0, p1, p2, p3, p4, p5, hla, hz, -LI, hk, hx4, hg, hp]
    exact next w Ext.rfl (by rw [hso, this]) _ h1 cnt
   ·have : AV v = false := by simp [AV, hp]
    have h0 : 0 < v.past.length := by omega
    simp (disch := first | omega | (simp only [World.size_alloc, size_setRow, Ac]; done) | (simp only [World.size_alloc, size_setRow, Ac]; omega) | (simp only [List.length_set, Array.length_toList]; omega)) [-Option.bind_some, Ae, Af, Ad, h1, h3, hx, hlt, AW, p0, p1, p2, p3, p4, p5, hla, hz, -LI, hk, hx4, hg, h0, hsl, hso, this]
    (repeat (first | exact Ext.rfl | assumption | (refine Ext.al ?_ _) | (refine Ext.dw ?_) | (refine Ext.set ?_ (by first | omega | (simp only [World.size_alloc, size_setRow, Ac]; omega)) _) | (refine Ext.tr ?_ (by assumption))))
theorem J3 {s : Value} {vs : List Ver} {w : World} (ha : Bn w s vs) : Ag (EV P 49 #[.agg #[s]] w) fun r => r.1 = .bool (Bd vs) ∧ Ext w r.2 := by
 have ha' := ha
 obtain ⟨aa, ca, hs, hm⟩ := ha.len
 subst hs
 refine Ag.enter plain mixed (IQ _ _) (by kernel_rfl) (n := 1) (by kernel_rfl) rfl ?_
 simp (disch := first | omega | (simp only [World.size_alloc, size_setRow, Ac]; done) | (simp only [World.size_alloc, size_setRow, Ac]; omega) | (simp only [List.length_set, Array.length_toList]; omega)) [-Option.bind_some, Ae, Af, Ad]
 refine Ag.mono (J1 vs.length 0 _ _ (by omega) rfl rfl (Af rfl) (ha'.mono (Ext.Ak (by (repeat (first | exact Ext.rfl | assumption | (refine Ext.al ?_ _) | (refine Ext.dw ?_) | (refine Ext.set ?_ (by first | omega | (simp only [World.size_alloc, size_setRow, Ac]; omega)) _) | (refine Ext.tr ?_ (by assumption)))))))) ?_
 rintro r ⟨h1, h2⟩
 exact ⟨h1, (Ext.al Ext.rfl _).tr h2⟩
theorem Ee {vs : List Ver} (h : Bd vs = true) : vs.length = 4 := by
 simp only [Bd, Bool.and_eq_true, beq_iff_eq] at h
 exact h.2
theorem C7 : ∀ (vs : List Ver) (i k : Nat) (v : Ver), CP i vs = true → vs[k]? = some v → Cd (i + k) v = true
 | v :: vs, i, 0, u, h, hu => by
  simp only [List.getElem?_cons_zero, Option.some.injEq] at hu
  subst hu
  simp only [CP, Bool.and_eq_true] at h
  exact h.1
 | v :: vs, i, k + 1, u, h, hu => by
  simp only [CP, Bool.and_eq_true] at h
  have := C7 vs (i + 1) k u h.2 (by simpa using hu)
  rwa [show i + (k + 1) = i + 1 + k by omega]
 | [], i, k, u, h, hu => by simp at hu
theorem Ke {vs : List Ver} (h : Bd vs = true) {k : Nat} {v : Ver} (hv : vs[k]? = some v) : v.tag = Tag.zero ∨ (0 < v.tag.t ∧ v.past.length = 4) := by
 simp only [Bd, Bool.and_eq_true] at h
 have h1 := C7 vs 0 k v h.1 hv
 by_cases hz : v.tag = Tag.zero
 ·exact .inl hz
 ·rw [LS hz] at h1
  simp only [Bool.and_eq_true] at h1
  refine .inr ⟨Ni h1.1, ?_⟩
  have := h1.1
  simp only [BF, Ef, BS, Bool.and_eq_true, beq_iff_eq] at this
  exact this.1.2.2.2.2
theorem Ky {s q : Value} {vs : List Ver} {ts : List Tag} {b t c t' : Nat} (hok : Bd vs = true) (ht4 : ts.length = 4) : ∀ (d k : Nat) (e : Env) (w : World), k + d = vs.length → e 1 = pt b 0 → e 3 = pt c 0 → e 4 = i64 k →
  hp w b = some (.cells #[s] t (0, 0)) → hp w c = some (.cells #[q] t' (0, 0)) → Bn w s vs → AM w q ts →
  Ag (BO e w) fun r => r.1 = .bool ((vs.drop k).all (Bo ts)) ∧ Ext w r.2 := by
 intro d
 induction d with
 | zero =>
  intro k e w hd h1 h3 h4 hx hy ha hq
  obtain ⟨aa, ca, hs, hm⟩ := ha.len
  rw [Eo]
  subst hs
  simp (disch := first | omega | (simp only [World.size_alloc, size_setRow, Ac]; done) | (simp only [World.size_alloc, size_setRow, Ac]; omega) | (simp only [List.length_set, Array.length_toList]; omega)) [-Option.bind_some, Ae, Af, Ad, h1, h3, h4, hx, show ¬ k < vs.length by omega, show vs.length ≤ k by omega]
  rw [List.drop_eq_nil_of_le (by omega)]
  exact ⟨by simp, by (repeat (first | exact Ext.rfl | assumption | (refine Ext.al ?_ _) | (refine Ext.dw ?_) | (refine Ext.set ?_ (by first | omega | (simp only [World.size_alloc, size_setRow, Ac]; omega)) _) | (refine Ext.tr ?_ (by assumption))))⟩
 | succ d ih =>
  intro k e w hd h1 h3 h4 hx hy ha hq
  obtain ⟨aa, ca, hs, hm⟩ := ha.len
  rw [Eo]
  have hlt : k < vs.length := by omega
  obtain ⟨v, hv, hdx⟩ := Am hlt
  obtain ⟨b1, o1, c1, cs, hs1, hA, hcs⟩ := ha.at hv
  obtain ⟨sp, rfl, hsp, hts⟩ := hcs
  have p1 := hA 1 _ rfl
  have p2 := hA 2 _ rfl
  have p3 := hA 3 _ rfl
  have hdw : Ext w (dw w) := Cc w
  rw [hdx]
  subst hs1
  have cnt : i64 (IntKind.i64.wrap ((k : Int) + 1)) = i64 (k + 1 : Nat) := congrArg i64 (Ho (by omega) (by omega))
  have next : ∀ w1, Ext w w1 → Bo ts v = true → ∀ e : Env, e 1 = pt b 0 → e 3 = pt c 0 → e 4 = i64 (k + 1 : Nat) → Ag (BO e w1) fun r => r.1 = .bool ((v :: vs.drop (k + 1)).all (Bo ts)) ∧ Ext w r.2 := by
   intro w1 hE ho e h1 h3 h4
   refine Ag.mono (ih (k + 1) e w1 (by omega) h1 h3 h4 ((hE.Ah (Aq hx)).trans hx) ((hE.Ah (Aq hy)).trans hy) (ha.mono (Ext.Ak hE)) (hq.mono (Ext.Ak hE))) ?_
   rintro r ⟨h4, h5⟩
   exact ⟨by rw [h4]; simp [ho], hE.tr h5⟩
  rcases Ke hok hv with hz | ⟨hz, hp4⟩
  ·have hz0 : v.tag.t = 0 := by rw [hz]; rfl
   simp (disch := first | omega | (simp only [World.size_alloc, size_setRow, Ac]; done) | (simp only [World.size_alloc, size_setRow, Ac]; omega) | (simp only [List.length_set, Array.length_toList]; omega)) [-Option.bind_some, Ae, Af, Ad, h1, h3, h4, hx, hy, hlt, AW, p1, p2, p3, hz0]
   exact next (dw w) hdw (by simp [Bo, hz]) _ h1 h3 cnt
  ·have hne : v.tag ≠ Tag.zero := by intro h; rw [h] at hz; exact absurd hz (by decide)
   simp (disch := first | omega | (simp only [World.size_alloc, size_setRow, Ac]; done) | (simp only [World.size_alloc, size_setRow, Ac]; omega) | (simp only [List.length_set, Array.length_toList]; omega)) [-Option.bind_some, Ae, Af, Ad, h1, h3, h4, hx, hy, hlt, AW, p1, p2, p3, hz]
   refine Ag.bind (CU hp4 ht4 (hsp.mono (Ext.Ak hdw)) (hq.mono (Ext.Ak hdw))) ?_
   rintro ⟨_, w1⟩ ⟨rfl, hE⟩
   have hE' := hdw.tr hE
   cases hu : under v.past ts
   ·simp (disch := first | omega | (simp only [World.size_alloc, size_setRow, Ac]; done) | (simp only [World.size_alloc, size_setRow, Ac]; omega) | (simp only [List.length_set, Array.length_toList]; omega)) [-Option.bind_some, Ae, Af, Ad, hu, Bo, hne]
    exact hE'
   ·simp (disch := first | omega | (simp only [World.size_alloc, size_setRow, Ac]; done) | (simp only [World.size_alloc, size_setRow, Ac]; omega) | (simp only [List.length_set, Array.length_toList]; omega)) [-Option.bind_some, Ae, Af, Ad, hu]
    exact next w1 hE' (by simp [Bo, hu]) _ h1 h3 cnt
theorem Kz {s : Value} {vs : List Ver} (hok : Bd vs = true) {w : World} (ha : Bn w s vs) : Ag (EV P 50 #[.agg #[s]] w) fun r => r.1 = .bool (vs.all (Bo (AG vs))) ∧ Ext w r.2 := by
 have ha' := ha
 obtain ⟨aa, ca, hs, hm⟩ := ha.len
 subst hs
 refine Ag.enter plain mixed (JA _ _) (by kernel_rfl) (n := 1) (by kernel_rfl) rfl ?_
 simp (disch := first | omega | (simp only [World.size_alloc, size_setRow, Ac]; done) | (simp only [World.size_alloc, size_setRow, Ac]; omega) | (simp only [List.length_set, Array.length_toList]; omega)) [-Option.bind_some, Ae, Af, Ad]
 refine Ag.bind (HV (ha'.mono (Ext.Ak (by (repeat (first | exact Ext.rfl | assumption | (refine Ext.al ?_ _) | (refine Ext.dw ?_) | (refine Ext.set ?_ (by first | omega | (simp only [World.size_alloc, size_setRow, Ac]; omega)) _) | (refine Ext.tr ?_ (by assumption)))))))) ?_
 rintro ⟨_, w1⟩ ⟨s', rfl, hf, hE⟩
 obtain ⟨ab, cb, hs', _⟩ := hf.r.len
 subst hs'
 have hs := hE.size
 simp only [World.size_alloc] at hs hf
 have hx1 := (hE.Ah (b := w.heap.size) (by simp)).trans (Af rfl)
 simp (disch := first | omega | (simp only [World.size_alloc, size_setRow, Ac]; done) | (simp only [World.size_alloc, size_setRow, Ac]; omega) | (simp only [List.length_set, Array.length_toList]; omega)) [-Option.bind_some, Ae, Af, Ad]
 refine Ag.mono (Ky (ts := AG vs) (b := w.heap.size) (c := w1.heap.size) hok (by simp [AG, Ee hok]) vs.length 0 _ _ (by omega) rfl rfl rfl
  ((Ad (by omega)).trans ((Ae (by omega)).trans hx1)) (by rw [DQ, Af rfl]; rfl) (ha'.mono (Ext.Ak (by (repeat (first | exact Ext.rfl | assumption | (refine Ext.al ?_ _) | (refine Ext.dw ?_) | (refine Ext.set ?_ (by first | omega | (simp only [World.size_alloc, size_setRow, Ac]; omega)) _) | (refine Ext.tr ?_ (by assumption))))))) (hf.r.Ak fun b hb => ?_)) ?_
 ·have := (hf.lt b hb).2
  exact (Ad (by omega)).trans (Ae this)
 ·rintro r ⟨h1, h2⟩
  exact ⟨h1, Ext.tr (by (repeat (first | exact Ext.rfl | assumption | (refine Ext.al ?_ _) | (refine Ext.dw ?_) | (refine Ext.set ?_ (by first | omega | (simp only [World.size_alloc, size_setRow, Ac]; omega)) _) | (refine Ext.tr ?_ (by assumption))))) h2⟩
theorem EK {s : Value} {vs : List Ver} {w : World} (ha : Bn w s vs) : Ag (EV P 22 #[.agg #[s]] w) fun r => r.1 = .bool (closed vs) ∧ Ext w r.2 := by
 have ha' := ha
 obtain ⟨aa, ca, hs, hm⟩ := ha.len
 subst hs
 refine Ag.enter plain mixed (Hs _ _) (by kernel_rfl) (n := 1) (by kernel_rfl) rfl ?_
 simp (disch := first | omega | (simp only [World.size_alloc, size_setRow, Ac]; done) | (simp only [World.size_alloc, size_setRow, Ac]; omega) | (simp only [List.length_set, Array.length_toList]; omega)) [-Option.bind_some, Ae, Af, Ad]
 refine Ag.bind (J3 (ha'.mono (Ext.Ak (by (repeat (first | exact Ext.rfl | assumption | (refine Ext.al ?_ _) | (refine Ext.dw ?_) | (refine Ext.set ?_ (by first | omega | (simp only [World.size_alloc, size_setRow, Ac]; omega)) _) | (refine Ext.tr ?_ (by assumption)))))))) ?_
 rintro ⟨_, w1⟩ ⟨rfl, hE⟩
 have hx1 := (hE.Ah (b := w.heap.size) (by simp)).trans (Af rfl)
 cases ho : Bd vs
 ·simp (disch := first | omega | (simp only [World.size_alloc, size_setRow, Ac]; done) | (simp only [World.size_alloc, size_setRow, Ac]; omega) | (simp only [List.length_set, Array.length_toList]; omega)) [-Option.bind_some, Ae, Af, Ad, ho, closed]
  (repeat (first | exact Ext.rfl | assumption | (refine Ext.al ?_ _) | (refine Ext.dw ?_) | (refine Ext.set ?_ (by first | omega | (simp only [World.size_alloc, size_setRow, Ac]; omega)) _) | (refine Ext.tr ?_ (by assumption))))
 ·simp (disch := first | omega | (simp only [World.size_alloc, size_setRow, Ac]; done) | (simp only [World.size_alloc, size_setRow, Ac]; omega) | (simp only [List.length_set, Array.length_toList]; omega)) [-Option.bind_some, Ae, Af, Ad, ho, hx1]
  refine Ag.bind (Kz ho (ha'.mono (Ext.Ak (by (repeat (first | exact Ext.rfl | assumption | (refine Ext.al ?_ _) | (refine Ext.dw ?_) | (refine Ext.set ?_ (by first | omega | (simp only [World.size_alloc, size_setRow, Ac]; omega)) _) | (refine Ext.tr ?_ (by assumption)))))))) ?_
  rintro ⟨_, w2⟩ ⟨rfl, hE2⟩
  simp (disch := first | omega | (simp only [World.size_alloc, size_setRow, Ac]; done) | (simp only [World.size_alloc, size_setRow, Ac]; omega) | (simp only [List.length_set, Array.length_toList]; omega)) [-Option.bind_some, Ae, Af, Ad, closed, ho]
  (repeat (first | exact Ext.rfl | assumption | (refine Ext.al ?_ _) | (refine Ext.dw ?_) | (refine Ext.set ?_ (by first | omega | (simp only [World.size_alloc, size_setRow, Ac]; omega)) _) | (refine Ext.tr ?_ (by assumption))))
theorem NP (n : Int) (w : World) : Ag (EV P 56 #[i64 n] w) fun r => r = (.bool (PT n), w) := by
 refine Ag.enter plain mixed (Mi _ _) (by kernel_rfl) (n := 1) (by kernel_rfl) rfl ?_
 simp (disch := first | omega | (simp only [World.size_alloc, size_setRow, Ac]; done) | (simp only [World.size_alloc, size_setRow, Ac]; omega) | (simp only [List.length_set, Array.length_toList]; omega)) [-Option.bind_some]
 refine Ag.bind (DY _ _ _ _) ?_
 rintro _ rfl
 simp (disch := first | omega | (simp only [World.size_alloc, size_setRow, Ac]; done) | (simp only [World.size_alloc, size_setRow, Ac]; omega) | (simp only [List.length_set, Array.length_toList]; omega)) [-Option.bind_some]
 rfl
theorem MI {s : ByteArray} (hs : s.size ≤ 140737488351232) : ∀ (d k : Nat) (e : Env) (w : World), k + d = s.size → e 0 = .string s → e 5 = i64 s.size → e 6 = i64 k →
  Ag (DD e w) fun r => r = (.bool ((s.toList.drop k).all FM && decide ((s.size : Int) ≤ 8)), w) := by
 intro d
 induction d with
 | zero =>
  intro k e w hd h0 h5 h6
  rw [Fq]
  simp (disch := first | omega | (simp only [World.size_alloc, size_setRow, Ac]; done) | (simp only [World.size_alloc, size_setRow, Ac]; omega) | (simp only [List.length_set, Array.length_toList]; omega)) [-Option.bind_some, Ae, Af, Ad, h0, h5, h6, show ¬ k < s.size by omega, show s.size ≤ k by omega]
  rw [List.drop_eq_nil_of_le (by rw [Hp]; omega)]
  simp
 | succ d ih =>
  intro k e w hd h0 h5 h6
  rw [Fq]
  have hlt : k < s.size := by omega
  obtain ⟨b, hb, hdx⟩ := Am (l := s.toList) (k := k) (by rw [Hp]; omega)
  have hix := fun w => RA (P := P) (t := 9) (by kernel_rfl) s (i := k) (by omega) (b := b) (by simpa using hb) w
  have hby : b.toNat < 256 := UInt8.toNat_lt b
  rw [hdx]
  simp (disch := first | omega | (simp only [World.size_alloc, size_setRow, Ac]; done) | (simp only [World.size_alloc, size_setRow, Ac]; omega) | (simp only [List.length_set, Array.length_toList]; omega)) [-Option.bind_some, Ae, Af, Ad, h0, h5, h6, hlt, hix]
  rw [Ho (by omega) (by omega)]
  refine Ag.bind (DY _ _ _ _) ?_
  rintro _ rfl
  cases hk : FM b
  ·have hk' : (decide (33 ≤ (b.toNat : Int)) && decide ((b.toNat : Int) ≤ 126)) = false := hk
   simp (disch := first | omega | (simp only [World.size_alloc, size_setRow, Ac]; done) | (simp only [World.size_alloc, size_setRow, Ac]; omega) | (simp only [List.length_set, Array.length_toList]; omega)) [-Option.bind_some, Ae, Af, Ad, hk', hk]
  ·have hk' : (decide (33 ≤ (b.toNat : Int)) && decide ((b.toNat : Int) ≤ 126)) = true := hk
   simp (disch := first | omega | (simp only [World.size_alloc, size_setRow, Ac]; done) | (simp only [World.size_alloc, size_setRow, Ac]; omega) | (simp only [List.length_set, Array.length_toList]; omega)) [-Option.bind_some, Ae, Af, Ad, hk', h6]
   refine Ag.mono (ih (k + 1) _ w (by omega) h0 h5 (congrArg i64 (Ho (by omega) (by omega)))) ?_
   rintro _ rfl
   simp [hk]
theorem MJ {s : ByteArray} (hs : s.size ≤ 140737488351232) (w : World) : Ag (EV P 118 #[.string s] w) fun r => r = (.bool (J9 s), w) := by
 refine Ag.enter plain mixed (Le _ _) (by kernel_rfl) (n := 1) (by kernel_rfl) rfl ?_
 simp (disch := first | omega | (simp only [World.size_alloc, size_setRow, Ac]; done) | (simp only [World.size_alloc, size_setRow, Ac]; omega) | (simp only [List.length_set, Array.length_toList]; omega)) [-Option.bind_some, Ae, Af, Ad]
 exact MI hs s.size 0 _ w (by omega) rfl rfl rfl
theorem Gk {s f : Value} {xs : List Tag} {p : Tag → Bool} {w0 : World} (hf : ∀ x ∈ xs, ∀ w, Ext w0 w → Ag (QA P f #[x.v] w) fun r => r.1 = .bool (p x) ∧ Ext w r.2) :
  ∀ (d k : Nat) (e : Env) (w : World), k + d = xs.length → e 0 = s → e 1 = f → e 7 = i64 xs.length → e 8 = i64 k → AM w0 s xs → Ext w0 w →
  Ag (Br e w) fun r => ∃ i : Int, r.1 = i64 i ∧ decide (0 ≤ i) = (xs.drop k).any p ∧ Ext w0 r.2 := by
 intro d
 induction d with
 | zero =>
  intro k e w hd h0 h1 h7 h8 ha hE
  rw [Co]
  simp (disch := first | omega | (simp only [World.size_alloc, size_setRow, Ac]; done) | (simp only [World.size_alloc, size_setRow, Ac]; omega) | (simp only [List.length_set, Array.length_toList]; omega)) [-Option.bind_some, Ae, Af, Ad, h0, h1, h7, h8, show ¬ k < xs.length by omega, show xs.length ≤ k by omega]
  rw [List.drop_eq_nil_of_le (by omega)]
  exact ⟨by simp, hE⟩
 | succ d ih =>
  intro k e w hd h0 h1 h7 h8 ha hE
  obtain ⟨aa, ca, hs, hm⟩ := ha.len
  rw [Co]
  have hlt : k < xs.length := by omega
  obtain ⟨x, hx, hdx⟩ := Am hlt
  obtain ⟨b1, o1, c1, hs1, hA0⟩ := ha.at hx
  have hA := hA0.mono (Ext.Ak hE)
  have p0 := hA 0 _ rfl
  have p1 := hA 1 _ rfl
  simp only [Nat.add_zero] at p0
  rw [hdx]
  subst hs1
  simp (disch := first | omega | (simp only [World.size_alloc, size_setRow, Ac]; done) | (simp only [World.size_alloc, size_setRow, Ac]; omega) | (simp only [List.length_set, Array.length_toList]; omega)) [-Option.bind_some, Ae, Af, Ad, h0, h1, h7, h8, hlt, EJ, p0, p1]
  refine Ag.bind (hf x (List.mem_of_getElem? hx) _ hE) ?_
  rintro ⟨_, w1⟩ ⟨rfl, hE1⟩
  cases hp : p x
  ·simp (disch := first | omega | (simp only [World.size_alloc, size_setRow, Ac]; done) | (simp only [World.size_alloc, size_setRow, Ac]; omega) | (simp only [List.length_set, Array.length_toList]; omega)) [-Option.bind_some, Ae, Af, Ad, hp, h8]
   refine Ag.mono (ih (k + 1) _ w1 (by omega) h0 h1 h7 (congrArg i64 (Ho (by omega) (by omega))) ha (hE.tr hE1)) ?_
   rintro r ⟨i, h2, h3, h4⟩
   exact ⟨i, h2, by simpa [hp] using h3, h4⟩
  ·simp (disch := first | omega | (simp only [World.size_alloc, size_setRow, Ac]; done) | (simp only [World.size_alloc, size_setRow, Ac]; omega) | (simp only [List.length_set, Array.length_toList]; omega)) [-Option.bind_some, Ae, Af, Ad, hp]
   exact hE.tr hE1
theorem ET {s f : Value} {xs : List Tag} {p : Tag → Bool} {w : World} (ha : AM w s xs) (hf : ∀ x ∈ xs, ∀ w', Ext w w' → Ag (QA P f #[x.v] w') fun r => r.1 = .bool (p x) ∧ Ext w' r.2) :
  Ag (EV P 72 #[s, f] w) fun r => r.1 = .bool (xs.any p) ∧ Ext w r.2 := by
 have ha' := ha
 obtain ⟨aa, ca, hs, hm⟩ := ha.len
 subst hs
 have hi : Ag (EV P 95 #[.slice aa xs.length ca, f] w) fun r => ∃ i : Int, r.1 = i64 i ∧ decide (0 ≤ i) = xs.any p ∧ Ext w r.2 := by
  refine Ag.enter plain mixed (FT _ _ _) (by kernel_rfl) (n := 2) (by kernel_rfl) rfl ?_
  simp (disch := first | omega | (simp only [World.size_alloc, size_setRow, Ac]; done) | (simp only [World.size_alloc, size_setRow, Ac]; omega) | (simp only [List.length_set, Array.length_toList]; omega)) [-Option.bind_some, Ae, Af, Ad]
  exact Gk hf xs.length 0 _ w (by omega) rfl rfl rfl rfl ha' Ext.rfl
 refine Ag.enter plain mixed (EG _ _ _) (by kernel_rfl) (n := 2) (by kernel_rfl) rfl ?_
 simp (disch := first | omega | (simp only [World.size_alloc, size_setRow, Ac]; done) | (simp only [World.size_alloc, size_setRow, Ac]; omega) | (simp only [List.length_set, Array.length_toList]; omega)) [-Option.bind_some, Ae, Af, Ad]
 refine Ag.bind hi ?_
 rintro ⟨_, w1⟩ ⟨i, rfl, h2, hE⟩
 simp (disch := first | omega | (simp only [World.size_alloc, size_setRow, Ac]; done) | (simp only [World.size_alloc, size_setRow, Ac]; omega) | (simp only [List.length_set, Array.length_toList]; omega)) [-Option.bind_some, Ae, Af, Ad, h2]
 exact hE
theorem KA (x : Tag) (w : World) : Ag (EV P 73 #[x.v] w) fun r => r.1 = .bool (!CI x) ∧ Ext w r.2 := by
 refine Ag.enter plain mixed (JB _ _) (by kernel_rfl) (n := 1) (by kernel_rfl) rfl ?_
 simp (disch := first | omega | (simp only [World.size_alloc, size_setRow, Ac]; done) | (simp only [World.size_alloc, size_setRow, Ac]; omega) | (simp only [List.length_set, Array.length_toList]; omega)) [-Option.bind_some, Ae, Af, Ad]
 refine Ag.bind (Ja x _) ?_
 rintro ⟨_, w1⟩ ⟨rfl, hE⟩
 simp (disch := first | omega | (simp only [World.size_alloc, size_setRow, Ac]; done) | (simp only [World.size_alloc, size_setRow, Ac]; omega) | (simp only [List.length_set, Array.length_toList]; omega)) [-Option.bind_some, Ae, Af, Ad]
 (repeat (first | exact Ext.rfl | assumption | (refine Ext.al ?_ _) | (refine Ext.dw ?_) | (refine Ext.set ?_ (by first | omega | (simp only [World.size_alloc, size_setRow, Ac]; omega)) _) | (refine Ext.tr ?_ (by assumption))))
theorem FL {s : Value} {xs : List Tag} {w : World} (ha : AM w s xs) : Ag (EV P 40 #[.agg #[s]] w) fun r => r.1 = .bool (BS xs) ∧ Ext w r.2 := by
 have ha' := ha
 obtain ⟨aa, ca, hs, hm⟩ := ha.len
 subst hs
 refine Ag.enter plain mixed (KY _ _) (by kernel_rfl) (n := 1) (by kernel_rfl) rfl ?_
 have hq : ((xs.length : Int) == 4) = (xs.length == 4) := by rw [Bool.eq_iff_iff]; simp only [beq_iff_eq]; omega
 cases h4 : (xs.length == 4)
 ·simp (disch := first | omega | (simp only [World.size_alloc, size_setRow, Ac]; done) | (simp only [World.size_alloc, size_setRow, Ac]; omega) | (simp only [List.length_set, Array.length_toList]; omega)) [-Option.bind_some, Ae, Af, Ad, hq, h4, BS]
  (repeat (first | exact Ext.rfl | assumption | (refine Ext.al ?_ _) | (refine Ext.dw ?_) | (refine Ext.set ?_ (by first | omega | (simp only [World.size_alloc, size_setRow, Ac]; omega)) _) | (refine Ext.tr ?_ (by assumption))))
 ·simp (disch := first | omega | (simp only [World.size_alloc, size_setRow, Ac]; done) | (simp only [World.size_alloc, size_setRow, Ac]; omega) | (simp only [List.length_set, Array.length_toList]; omega)) [-Option.bind_some, Ae, Af, Ad, hq, h4]
  refine Ag.bind (ET (p := fun x => !CI x) (ha'.mono (Ext.Ak (by (repeat (first | exact Ext.rfl | assumption | (refine Ext.al ?_ _) | (refine Ext.dw ?_) | (refine Ext.set ?_ (by first | omega | (simp only [World.size_alloc, size_setRow, Ac]; omega)) _) | (refine Ext.tr ?_ (by assumption))))))) ?_) ?_
  ·intro x _ w' _
   rw [Rz (P := P) (g := 73) (by kernel_rfl) [] [] [x.v] w']
   exact KA x w'
  rintro ⟨_, w1⟩ ⟨rfl, hE⟩
  simp (disch := first | omega | (simp only [World.size_alloc, size_setRow, Ac]; done) | (simp only [World.size_alloc, size_setRow, Ac]; omega) | (simp only [List.length_set, Array.length_toList]; omega)) [-Option.bind_some, Ae, Af, Ad]
  refine ⟨?_, by (repeat (first | exact Ext.rfl | assumption | (refine Ext.al ?_ _) | (refine Ext.dw ?_) | (refine Ext.set ?_ (by first | omega | (simp only [World.size_alloc, size_setRow, Ac]; omega)) _) | (refine Ext.tr ?_ (by assumption))))⟩
  simp only [BS, h4, Bool.and_true]
  rw [Bool.eq_iff_iff]
  simp
theorem Iu {s : Value} {xs : List Tag} : ∀ (d k : Nat) (e : Env) (w : World) (m : Int), k + d = xs.length → e 3 = i64 m → e 7 = s → e 8 = i64 xs.length → e 9 = i64 k → AM w s xs →
  Ag (BL e w) fun r => r.1 = i64 (EM m (xs.drop k)) ∧ Ext w r.2 := by
 intro d
 induction d with
 | zero =>
  intro k e w m hd h3 h7 h8 h9 ha
  rw [Dx]
  simp (disch := first | omega | (simp only [World.size_alloc, size_setRow, Ac]; done) | (simp only [World.size_alloc, size_setRow, Ac]; omega) | (simp only [List.length_set, Array.length_toList]; omega)) [-Option.bind_some, h3, h8, h9, show ¬ k < xs.length by omega]
  rw [List.drop_eq_nil_of_le (by omega)]
  exact ⟨rfl, by (repeat (first | exact Ext.rfl | assumption | (refine Ext.al ?_ _) | (refine Ext.dw ?_) | (refine Ext.set ?_ (by first | omega | (simp only [World.size_alloc, size_setRow, Ac]; omega)) _) | (refine Ext.tr ?_ (by assumption))))⟩
 | succ d ih =>
  intro k e w m hd h3 h7 h8 h9 ha
  obtain ⟨aa, ca, hs, hm⟩ := ha.len
  rw [Dx]
  have hlt : k < xs.length := by omega
  obtain ⟨x, hx, hdx⟩ := Am hlt
  obtain ⟨b1, o1, c1, hs1, hA⟩ := ha.at hx
  have p0 := hA 0 _ rfl
  have p1 := hA 1 _ rfl
  simp only [Nat.add_zero] at p0
  rw [hdx]
  subst hs1
  simp (disch := first | omega | (simp only [World.size_alloc, size_setRow, Ac]; done) | (simp only [World.size_alloc, size_setRow, Ac]; omega) | (simp only [List.length_set, Array.length_toList]; omega)) [-Option.bind_some, Af, h3, h7, h8, h9, hlt, EJ, p0, p1, Sm]
  have hE : Ext w ((w.alloc (.cells #[i64 0, i64 0] 36)).setRow w.heap.size #[i64 x.t, i64 x.p]) := by (repeat (first | exact Ext.rfl | assumption | (refine Ext.al ?_ _) | (refine Ext.dw ?_) | (refine Ext.set ?_ (by first | omega | (simp only [World.size_alloc, size_setRow, Ac]; omega)) _) | (refine Ext.tr ?_ (by assumption))))
  refine Ag.mono (ih (k + 1) _ _ (if m < x.t then x.t else m) (by omega) rfl h7 h8 (congrArg i64 (Ho (by omega) (by omega))) (ha.mono (Ext.Ak hE))) ?_
  rintro r ⟨h4, h5⟩
  exact ⟨by rw [h4]; rfl, hE.tr h5⟩
theorem Iv {s : Value} {xs : List Tag} {w : World} (ha : AM w s xs) : Ag (EV P 89 #[.agg #[s]] w) fun r => r.1 = i64 (EM 0 xs) ∧ Ext w r.2 := by
 have ha' := ha
 obtain ⟨aa, ca, hs, hm⟩ := ha.len
 subst hs
 refine Ag.enter plain mixed (Hx _ _) (by kernel_rfl) (n := 1) (by kernel_rfl) rfl ?_
 simp (disch := first | omega | (simp only [World.size_alloc, size_setRow, Ac]; done) | (simp only [World.size_alloc, size_setRow, Ac]; omega) | (simp only [List.length_set, Array.length_toList]; omega)) [-Option.bind_some, Af]
 refine Ag.mono (Iu xs.length 0 _ _ 0 (by omega) rfl rfl rfl rfl (ha'.mono (Ext.Ak (by (repeat (first | exact Ext.rfl | assumption | (refine Ext.al ?_ _) | (refine Ext.dw ?_) | (refine Ext.set ?_ (by first | omega | (simp only [World.size_alloc, size_setRow, Ac]; omega)) _) | (refine Ext.tr ?_ (by assumption)))))))) ?_
 rintro r ⟨h1, h2⟩
 exact ⟨h1, (Ext.al Ext.rfl _).tr h2⟩
theorem Jc {s u : Value} {xs ys : List Tag} {c t' : Nat} (hy4 : ys.length = xs.length) : ∀ (d k : Nat) (e : Env) (w : World), k + d = xs.length → e 3 = pt c 0 → e 8 = s → e 9 = i64 xs.length → e 10 = i64 k →
  hp w c = some (.cells #[u] t' (0, 0)) → AM w s xs → AM w u ys →
  Ag (BU e w) fun r => r.1 = .bool (under (xs.drop k) (ys.drop k)) ∧ Ext w r.2 := by
 intro d
 induction d with
 | zero =>
  intro k e w hd h3 h8 h9 h10 hy ha hb
  rw [DJ]
  simp (disch := first | omega | (simp only [World.size_alloc, size_setRow, Ac]; done) | (simp only [World.size_alloc, size_setRow, Ac]; omega) | (simp only [List.length_set, Array.length_toList]; omega)) [-Option.bind_some, Ae, Af, Ad, h3, h8, h9, h10, show ¬ k < xs.length by omega, show xs.length ≤ k by omega]
  rw [List.drop_eq_nil_of_le (by omega)]
  exact ⟨rfl, by (repeat (first | exact Ext.rfl | assumption | (refine Ext.al ?_ _) | (refine Ext.dw ?_) | (refine Ext.set ?_ (by first | omega | (simp only [World.size_alloc, size_setRow, Ac]; omega)) _) | (refine Ext.tr ?_ (by assumption))))⟩
 | succ d ih =>
  intro k e w hd h3 h8 h9 h10 hy ha hb
  rw [DJ]
  obtain ⟨_, _, _, hm⟩ := ha.len
  have hlt : k < xs.length := by omega
  have hlt' : k < ys.length := by omega
  obtain ⟨x, hxk, hdx⟩ := Am hlt
  obtain ⟨y, hyk, hdy⟩ := Am hlt'
  obtain ⟨b1, o1, c1, hs1, hA⟩ := ha.at hxk
  obtain ⟨b2, o2, c2, hs2, hB⟩ := hb.at hyk
  have p0 := hA 0 _ rfl
  have p1 := hA 1 _ rfl
  have q0 := hB 0 _ rfl
  have q1 := hB 1 _ rfl
  have hb2 := hB.lt
  have hcl := Aq hy
  simp only [Nat.add_zero] at p0 q0
  subst hs1
  subst hs2
  simp (disch := first | omega | (simp only [World.size_alloc, size_setRow, Ac]; done) | (simp only [World.size_alloc, size_setRow, Ac]; omega) | (simp only [List.length_set, Array.length_toList]; omega)) [-Option.bind_some, Ae, Af, Ad, h3, h8, h9, h10, hy, hlt, hlt', EJ, p0, p1, q0, q1]
  refine Ag.bind (G7 y x _) ?_
  rintro ⟨_, w1⟩ ⟨rfl, hE⟩
  have hE' : Ext w w1 := Ext.tr (by (repeat (first | exact Ext.rfl | assumption | (refine Ext.al ?_ _) | (refine Ext.dw ?_) | (refine Ext.set ?_ (by first | omega | (simp only [World.size_alloc, size_setRow, Ac]; omega)) _) | (refine Ext.tr ?_ (by assumption))))) hE
  cases hl : AH y x
  ·simp (disch := first | omega | (simp only [World.size_alloc, size_setRow, Ac]; done) | (simp only [World.size_alloc, size_setRow, Ac]; omega) | (simp only [List.length_set, Array.length_toList]; omega)) [-Option.bind_some, Ae, Af, Ad, hl, h10]
   refine Ag.mono (ih (k + 1) _ w1 (by omega) h3 h8 h9 (congrArg i64 (Ho (by omega) (by omega))) ((hE'.Ah hcl).trans hy) (ha.mono (Ext.Ak hE')) (hb.mono (Ext.Ak hE'))) ?_
   rintro r ⟨h6, h7⟩
   exact ⟨by rw [h6, hdx, hdy]; simp [under, hl], hE'.tr h7⟩
  ·simp (disch := first | omega | (simp only [World.size_alloc, size_setRow, Ac]; done) | (simp only [World.size_alloc, size_setRow, Ac]; omega) | (simp only [List.length_set, Array.length_toList]; omega)) [-Option.bind_some, Ae, Af, Ad, hl]
   exact ⟨by rw [hdx, hdy]; simp [under, hl], hE'⟩
theorem FA {s u : Value} {xs ys : List Tag} (hy4 : ys.length = xs.length) {w : World} (ha : AM w s xs) (hb : AM w u ys) : Ag (EV P 41 #[.agg #[s], .agg #[u]] w) fun r => r.1 = .bool (under xs ys) ∧ Ext w r.2 := by
 have ha' := ha
 have hb' := hb
 obtain ⟨aa, ca, hs, hm⟩ := ha.len
 obtain ⟨ab, cb, hu, _⟩ := hb.len
 subst hs
 subst hu
 refine Ag.enter plain mixed (H5 _ _ _) (by kernel_rfl) (n := 2) (by kernel_rfl) rfl ?_
 simp (disch := first | omega | (simp only [World.size_alloc, size_setRow, Ac]; done) | (simp only [World.size_alloc, size_setRow, Ac]; omega) | (simp only [List.length_set, Array.length_toList]; omega)) [-Option.bind_some, Ae, Af, Ad]
 refine Ag.mono (Jc (c := w.heap.size + 1) hy4 xs.length 0 _ _ (by omega) rfl rfl rfl rfl (Af (by simp)) (ha'.mono (Ext.Ak (by (repeat (first | exact Ext.rfl | assumption | (refine Ext.al ?_ _) | (refine Ext.dw ?_) | (refine Ext.set ?_ (by first | omega | (simp only [World.size_alloc, size_setRow, Ac]; omega)) _) | (refine Ext.tr ?_ (by assumption))))))) (hb'.mono (Ext.Ak (by (repeat (first | exact Ext.rfl | assumption | (refine Ext.al ?_ _) | (refine Ext.dw ?_) | (refine Ext.set ?_ (by first | omega | (simp only [World.size_alloc, size_setRow, Ac]; omega)) _) | (refine Ext.tr ?_ (by assumption)))))))) ?_
 rintro r ⟨h1, h2⟩
 exact ⟨h1, (Ext.al (Ext.al Ext.rfl _) _).tr h2⟩
theorem G8 (e : Env) (w : World) (h12 : e 12 = i64 0) (h13 : e 13 = i64 0) : Ag (BM e w) fun r => r = (.bool true, w) := by
 rw [Ge]
 simp (disch := first | omega | (simp only [World.size_alloc, size_setRow, Ac]; done) | (simp only [World.size_alloc, size_setRow, Ac]; omega) | (simp only [List.length_set, Array.length_toList]; omega)) [-Option.bind_some, Ae, Af, Ad, h12, h13]
theorem G9 {s : Value} {xs : List Tag} {w : World} (ha : AM w s xs) : Ag (EV P 105 #[s, .slice none 0 0] w) fun r => r = (.bool (xs.length == 0), w) := by
 obtain ⟨aa, ca, hs, hm⟩ := ha.len
 subst hs
 refine Ag.enter plain mixed (Hy _ _ _) (by kernel_rfl) (n := 2) (by kernel_rfl) rfl ?_
 by_cases h : xs.length = 0
 ·simp (disch := first | omega | (simp only [World.size_alloc, size_setRow, Ac]; done) | (simp only [World.size_alloc, size_setRow, Ac]; omega) | (simp only [List.length_set, Array.length_toList]; omega)) [-Option.bind_some, Ae, Af, Ad, h]
  refine Ag.mono (G8 _ w rfl rfl) ?_
  rintro _ rfl
  rfl
 ·have hne : ((xs.length : Int) != 0) = true := by simp only [bne_iff_ne, ne_eq]; omega
  simp (disch := first | omega | (simp only [World.size_alloc, size_setRow, Ac]; done) | (simp only [World.size_alloc, size_setRow, Ac]; omega) | (simp only [List.length_set, Array.length_toList]; omega)) [-Option.bind_some, Ae, Af, Ad, h, hne]
theorem KB {cs : List Value} {v : Ver} {w : World} (ha : Gm w cs v) : Ag (EV P 79 #[.agg cs.toArray, .agg #[i64 0, i64 0, i64 0, .slice none 0 0, .string ⟨#[]⟩, .bool false]] w) fun r => r.1 = .bool (AV v) ∧ Ext w r.2 := by
 obtain ⟨s, rfl, ha, ht⟩ := ha
 have ha' := ha
 obtain ⟨aa, ca, hs, hm⟩ := ha.len
 subst hs
 refine Ag.enter plain mixed (JD _ _ _) (by kernel_rfl) (n := 2) (by kernel_rfl) rfl ?_
 cases hk : (v.key == 0)
 ·have : AV v = false := by simp [AV, hk]
  simp (disch := first | omega | (simp only [World.size_alloc, size_setRow, Ac]; done) | (simp only [World.size_alloc, size_setRow, Ac]; omega) | (simp only [List.length_set, Array.length_toList]; omega)) [-Option.bind_some, Ae, Af, Ad, hk, this]
  (repeat (first | exact Ext.rfl | assumption | (refine Ext.al ?_ _) | (refine Ext.dw ?_) | (refine Ext.set ?_ (by first | omega | (simp only [World.size_alloc, size_setRow, Ac]; omega)) _) | (refine Ext.tr ?_ (by assumption))))
 cases hz : ((v.tag.t == 0) && (v.tag.p == 0))
 ·have : AV v = false := by simp [AV, RD hz]
  simp (disch := first | omega | (simp only [World.size_alloc, size_setRow, Ac]; done) | (simp only [World.size_alloc, size_setRow, Ac]; omega) | (simp only [List.length_set, Array.length_toList]; omega)) [-Option.bind_some, Ae, Af, Ad, hk, hz, this]
  (repeat (first | exact Ext.rfl | assumption | (refine Ext.al ?_ _) | (refine Ext.dw ?_) | (refine Ext.set ?_ (by first | omega | (simp only [World.size_alloc, size_setRow, Ac]; omega)) _) | (refine Ext.tr ?_ (by assumption))))
 simp (disch := first | omega | (simp only [World.size_alloc, size_setRow, Ac]; done) | (simp only [World.size_alloc, size_setRow, Ac]; omega) | (simp only [List.length_set, Array.length_toList]; omega)) [-Option.bind_some, Ae, Af, Ad, hk, hz]
 refine Ag.bind (G9 (ha'.mono (Ext.Ak (by (repeat (first | exact Ext.rfl | assumption | (refine Ext.al ?_ _) | (refine Ext.dw ?_) | (refine Ext.set ?_ (by first | omega | (simp only [World.size_alloc, size_setRow, Ac]; omega)) _) | (refine Ext.tr ?_ (by assumption)))))))) ?_
 rintro _ rfl
 cases h0 : (v.past.length == 0)
 ·have : AV v = false := by simp [AV, h0]
  simp (disch := first | omega | (simp only [World.size_alloc, size_setRow, Ac]; done) | (simp only [World.size_alloc, size_setRow, Ac]; omega) | (simp only [List.length_set, Array.length_toList]; omega)) [-Option.bind_some, Ae, Af, Ad, h0, this]
  (repeat (first | exact Ext.rfl | assumption | (refine Ext.al ?_ _) | (refine Ext.dw ?_) | (refine Ext.set ?_ (by first | omega | (simp only [World.size_alloc, size_setRow, Ac]; omega)) _) | (refine Ext.tr ?_ (by assumption))))
 cases hx : v.text.toList.isEmpty
 ·have : AV v = false := by simp [AV, DH, hx]
  simp (disch := first | omega | (simp only [World.size_alloc, size_setRow, Ac]; done) | (simp only [World.size_alloc, size_setRow, Ac]; omega) | (simp only [List.length_set, Array.length_toList]; omega)) [-Option.bind_some, Ae, Af, Ad, h0, hx, this]
  (repeat (first | exact Ext.rfl | assumption | (refine Ext.al ?_ _) | (refine Ext.dw ?_) | (refine Ext.set ?_ (by first | omega | (simp only [World.size_alloc, size_setRow, Ac]; omega)) _) | (refine Ext.tr ?_ (by assumption))))
 cases hg : v.gone
 ·have : AV v = true := by simp only [beq_iff_eq] at hk h0; simp [AV, DH, hk, hx, hg, PU hz, List.eq_nil_of_length_eq_zero h0]
  simp (disch := first | omega | (simp only [World.size_alloc, size_setRow, Ac]; done) | (simp only [World.size_alloc, size_setRow, Ac]; omega) | (simp only [List.length_set, Array.length_toList]; omega)) [-Option.bind_some, Ae, Af, Ad, h0, hx, hg, this]
  (repeat (first | exact Ext.rfl | assumption | (refine Ext.al ?_ _) | (refine Ext.dw ?_) | (refine Ext.set ?_ (by first | omega | (simp only [World.size_alloc, size_setRow, Ac]; omega)) _) | (refine Ext.tr ?_ (by assumption))))
 ·have : AV v = false := by simp [AV, hg]
  simp (disch := first | omega | (simp only [World.size_alloc, size_setRow, Ac]; done) | (simp only [World.size_alloc, size_setRow, Ac]; omega) | (simp only [List.length_set, Array.length_toList]; omega)) [-Option.bind_some, Ae, Af, Ad, h0, hx, hg, this]
  (repeat (first | exact Ext.rfl | assumption | (refine Ext.al ?_ _) | (refine Ext.dw ?_) | (refine Ext.set ?_ (by first | omega | (simp only [World.size_alloc, size_setRow, Ac]; omega)) _) | (refine Ext.tr ?_ (by assumption))))
theorem Iw {cs : List Value} {v : Ver} {w : World} (ha : Gm w cs v) : Ag (EV P 106 #[.agg cs.toArray] w) fun r => r.1 = .bool (Ef v) ∧ Ext w r.2 := by
 obtain ⟨s, rfl, ha, ht⟩ := ha
 have ha' := ha
 obtain ⟨aa, ca, hs, hm⟩ := ha.len
 subst hs
 refine Ag.enter plain mixed (Hz _ _) (by kernel_rfl) (n := 1) (by kernel_rfl) rfl ?_
 simp (disch := first | omega | (simp only [World.size_alloc, size_setRow, Ac]; done) | (simp only [World.size_alloc, size_setRow, Ac]; omega) | (simp only [List.length_set, Array.length_toList]; omega)) [-Option.bind_some, Ae, Af, Ad]
 refine Ag.bind (NP _ _) ?_
 rintro _ rfl
 cases hk : PT v.key
 ·simp (disch := first | omega | (simp only [World.size_alloc, size_setRow, Ac]; done) | (simp only [World.size_alloc, size_setRow, Ac]; omega) | (simp only [List.length_set, Array.length_toList]; omega)) [-Option.bind_some, Ae, Af, Ad, hk, Ef]
  (repeat (first | exact Ext.rfl | assumption | (refine Ext.al ?_ _) | (refine Ext.dw ?_) | (refine Ext.set ?_ (by first | omega | (simp only [World.size_alloc, size_setRow, Ac]; omega)) _) | (refine Ext.tr ?_ (by assumption))))
 simp (disch := first | omega | (simp only [World.size_alloc, size_setRow, Ac]; done) | (simp only [World.size_alloc, size_setRow, Ac]; omega) | (simp only [List.length_set, Array.length_toList]; omega)) [-Option.bind_some, Ae, Af, Ad, hk]
 refine Ag.bind (MJ ht _) ?_
 rintro _ rfl
 cases hx : J9 v.text
 ·simp (disch := first | omega | (simp only [World.size_alloc, size_setRow, Ac]; done) | (simp only [World.size_alloc, size_setRow, Ac]; omega) | (simp only [List.length_set, Array.length_toList]; omega)) [-Option.bind_some, Ae, Af, Ad, hx, Ef]
  (repeat (first | exact Ext.rfl | assumption | (refine Ext.al ?_ _) | (refine Ext.dw ?_) | (refine Ext.set ?_ (by first | omega | (simp only [World.size_alloc, size_setRow, Ac]; omega)) _) | (refine Ext.tr ?_ (by assumption))))
 have fin : ∀ w1, Ext w w1 → (v.gone = false ∨ v.text.toList.isEmpty = true) → Ag (EV P 40 #[.agg #[.slice aa v.past.length ca]] w1) fun r => r.1 = .bool (Ef v) ∧ Ext w r.2 := by
  intro w1 hE hg
  refine Ag.mono (FL (ha'.mono (Ext.Ak hE))) ?_
  rintro r ⟨h1, h2⟩
  have : (!v.gone || DH v.text) = true := by rcases hg with h | h <;> simp [h, DH]
  exact ⟨by rw [h1]; simp [Ef, hk, hx, this], hE.tr h2⟩
 cases hg : v.gone
 ·simp (disch := first | omega | (simp only [World.size_alloc, size_setRow, Ac]; done) | (simp only [World.size_alloc, size_setRow, Ac]; omega) | (simp only [List.length_set, Array.length_toList]; omega)) [-Option.bind_some, Ae, Af, Ad, hx, hg]
  refine Ag.bind (fin _ (by (repeat (first | exact Ext.rfl | assumption | (refine Ext.al ?_ _) | (refine Ext.dw ?_) | (refine Ext.set ?_ (by first | omega | (simp only [World.size_alloc, size_setRow, Ac]; omega)) _) | (refine Ext.tr ?_ (by assumption))))) (.inl hg)) ?_
  rintro ⟨_, w1⟩ ⟨rfl, hE⟩
  simp (disch := first | omega | (simp only [World.size_alloc, size_setRow, Ac]; done) | (simp only [World.size_alloc, size_setRow, Ac]; omega) | (simp only [List.length_set, Array.length_toList]; omega)) [-Option.bind_some, Ae, Af, Ad]
  exact hE
 ·cases he : v.text.toList.isEmpty
  ·have : Ef v = false := by simp [Ef, hg, DH, he]
   simp (disch := first | omega | (simp only [World.size_alloc, size_setRow, Ac]; done) | (simp only [World.size_alloc, size_setRow, Ac]; omega) | (simp only [List.length_set, Array.length_toList]; omega)) [-Option.bind_some, Ae, Af, Ad, hx, hg, he, this]
   (repeat (first | exact Ext.rfl | assumption | (refine Ext.al ?_ _) | (refine Ext.dw ?_) | (refine Ext.set ?_ (by first | omega | (simp only [World.size_alloc, size_setRow, Ac]; omega)) _) | (refine Ext.tr ?_ (by assumption))))
  ·simp (disch := first | omega | (simp only [World.size_alloc, size_setRow, Ac]; done) | (simp only [World.size_alloc, size_setRow, Ac]; omega) | (simp only [List.length_set, Array.length_toList]; omega)) [-Option.bind_some, Ae, Af, Ad, hx, hg, he]
   refine Ag.bind (fin _ (by (repeat (first | exact Ext.rfl | assumption | (refine Ext.al ?_ _) | (refine Ext.dw ?_) | (refine Ext.set ?_ (by first | omega | (simp only [World.size_alloc, size_setRow, Ac]; omega)) _) | (refine Ext.tr ?_ (by assumption))))) (.inr he)) ?_
   rintro ⟨_, w1⟩ ⟨rfl, hE⟩
   simp (disch := first | omega | (simp only [World.size_alloc, size_setRow, Ac]; done) | (simp only [World.size_alloc, size_setRow, Ac]; omega) | (simp only [List.length_set, Array.length_toList]; omega)) [-Option.bind_some, Ae, Af, Ad]
   exact hE
theorem NQ {cs : List Value} {v : Ver} {w : World} (ha : Gm w cs v) : Ag (EV P 80 #[.agg cs.toArray] w) fun r => r.1 = .bool (BF v) ∧ Ext w r.2 := by
 have hav := ha
 obtain ⟨s, rfl, ha, ht⟩ := ha
 have ha' := ha
 obtain ⟨aa, ca, hs, hm⟩ := ha.len
 subst hs
 refine Ag.enter plain mixed (Mm _ _) (by kernel_rfl) (n := 1) (by kernel_rfl) rfl ?_
 simp (disch := first | omega | (simp only [World.size_alloc, size_setRow, Ac]; done) | (simp only [World.size_alloc, size_setRow, Ac]; omega) | (simp only [List.length_set, Array.length_toList]; omega)) [-Option.bind_some, Ae, Af, Ad]
 refine Ag.bind (Iw (hav.mono (Ext.Ak (by (repeat (first | exact Ext.rfl | assumption | (refine Ext.al ?_ _) | (refine Ext.dw ?_) | (refine Ext.set ?_ (by first | omega | (simp only [World.size_alloc, size_setRow, Ac]; omega)) _) | (refine Ext.tr ?_ (by assumption)))))))) ?_
 rintro ⟨_, w1⟩ ⟨rfl, hE⟩
 have hE' : Ext w w1 := Ext.tr (by (repeat (first | exact Ext.rfl | assumption | (refine Ext.al ?_ _) | (refine Ext.dw ?_) | (refine Ext.set ?_ (by first | omega | (simp only [World.size_alloc, size_setRow, Ac]; omega)) _) | (refine Ext.tr ?_ (by assumption))))) hE
 have hx1 : hp w1 w.heap.size = some (.cells #[i64 v.key, i64 v.tag.t, i64 v.tag.p, Value.slice aa v.past.length ca, .string v.text, .bool v.gone] 49 (0, 0)) := (hE.Ah (by simp)).trans ((Bg _ _).trans (Af rfl))
 cases hw : Ef v
 ·simp (disch := first | omega | (simp only [World.size_alloc, size_setRow, Ac]; done) | (simp only [World.size_alloc, size_setRow, Ac]; omega) | (simp only [List.length_set, Array.length_toList]; omega)) [-Option.bind_some, Ae, Af, Ad, hw, BF]
  exact hE'
 simp (disch := first | omega | (simp only [World.size_alloc, size_setRow, Ac]; done) | (simp only [World.size_alloc, size_setRow, Ac]; omega) | (simp only [List.length_set, Array.length_toList]; omega)) [-Option.bind_some, Ae, Af, Ad, hw, hx1]
 refine Ag.bind (Ja v.tag _) ?_
 rintro ⟨_, w2⟩ ⟨rfl, hE2⟩
 have hx2 := (hE2.Ah (Aq hx1)).trans hx1
 cases hg : CI v.tag
 ·simp (disch := first | omega | (simp only [World.size_alloc, size_setRow, Ac]; done) | (simp only [World.size_alloc, size_setRow, Ac]; omega) | (simp only [List.length_set, Array.length_toList]; omega)) [-Option.bind_some, Ae, Af, Ad, hg, hx2, hx1, BF]
  exact hE'.tr hE2
 simp (disch := first | omega | (simp only [World.size_alloc, size_setRow, Ac]; done) | (simp only [World.size_alloc, size_setRow, Ac]; omega) | (simp only [List.length_set, Array.length_toList]; omega)) [-Option.bind_some, Ae, Af, Ad, hg, hx1, hx2]
 refine Ag.bind (Iv (ha'.mono (Ext.Ak (hE'.tr hE2)))) ?_
 rintro ⟨_, w3⟩ ⟨rfl, hE3⟩
 have hx3 := (hE3.Ah (Aq hx2)).trans hx2
 simp (disch := first | omega | (simp only [World.size_alloc, size_setRow, Ac]; done) | (simp only [World.size_alloc, size_setRow, Ac]; omega) | (simp only [List.length_set, Array.length_toList]; omega)) [-Option.bind_some, Ae, Af, Ad, hx3, hx2, hx1, BF, hw, hg]
 exact (hE'.tr hE2).tr hE3
theorem KC (w : World) : Ag (EV P 17 #[] w) fun r => ∃ g, r.1 = .agg #[.slice (some ⟨g, 0, none⟩) 4 4] ∧ w.heap.size ≤ g ∧ hp r.2 g = some (.cells #[i64 0, i64 0, i64 0, i64 0, i64 0, i64 0, i64 0, i64 0] 36 (0, 0)) ∧ Ext w r.2 := by
 refine Ag.enter plain mixed (Jx _) (by kernel_rfl) (n := 0) (by kernel_rfl) rfl ?_
 have hmk := fun w => RB (P := P) CD (z := [i64 0, i64 0]) (by kernel_rfl) rfl (by omega) (l := 4) (c := 4) (by omega) (by omega) (by omega) (by omega) w
 simp only [show (4 : Int).toNat = 4 from rfl, HL, List.append_nil, List.cons_append, List.nil_append] at hmk
 simp (disch := first | omega | (simp only [World.size_alloc, size_setRow, Ac]; done) | (simp only [World.size_alloc, size_setRow, Ac]; omega) | (simp only [List.length_set, Array.length_toList]; omega)) [-Option.bind_some, Ae, Af, Ad, hmk]
 (repeat (first | exact Ext.rfl | assumption | (refine Ext.al ?_ _) | (refine Ext.dw ?_) | (refine Ext.set ?_ (by first | omega | (simp only [World.size_alloc, size_setRow, Ac]; omega)) _) | (refine Ext.tr ?_ (by assumption))))
theorem LK {s : Value} {vs : List Ver} {b t : Nat} : ∀ (d k : Nat) (e : Env) (w : World), k + d = vs.length → e 1 = pt b 0 → e 6 = s → e 7 = i64 vs.length → e 8 = i64 k → hp w b = some (.cells #[s] t (0, 0)) → Bn w s vs →
  Ag (B9 e w) fun r => r.1 = .bool (CP k (vs.drop k) && (vs.length == 4)) ∧ Ext w r.2 := by
 intro d
 induction d with
 | zero =>
  intro k e w hd h1 h6 h7 h8 hx ha
  obtain ⟨aa, ca, hs, hm⟩ := ha.len
  rw [EE]
  subst hs
  have hq : ((vs.length : Int) == 4) = (vs.length == 4) := by rw [Bool.eq_iff_iff]; simp only [beq_iff_eq]; omega
  simp (disch := first | omega | (simp only [World.size_alloc, size_setRow, Ac]; done) | (simp only [World.size_alloc, size_setRow, Ac]; omega) | (simp only [List.length_set, Array.length_toList]; omega)) [-Option.bind_some, Ae, Af, Ad, h1, h6, h7, h8, hx, show ¬ k < vs.length by omega, show vs.length ≤ k by omega, hq]
  rw [List.drop_eq_nil_of_le (by omega)]
  exact ⟨by simp [CP], by (repeat (first | exact Ext.rfl | assumption | (refine Ext.al ?_ _) | (refine Ext.dw ?_) | (refine Ext.set ?_ (by first | omega | (simp only [World.size_alloc, size_setRow, Ac]; omega)) _) | (refine Ext.tr ?_ (by assumption))))⟩
 | succ d ih =>
  intro k e w hd h1 h6 h7 h8 hx ha
  obtain ⟨aa, ca, hs, hm⟩ := ha.len
  rw [EE]
  have hlt : k < vs.length := by omega
  obtain ⟨v, hv, hdx⟩ := Am hlt
  obtain ⟨b1, o1, c1, cs, hs1, hA, hcs⟩ := ha.at hv
  have hcs' := hcs
  obtain ⟨sp, rfl, hsp, hts⟩ := hcs'
  obtain ⟨ap, cp, hsp', hpl⟩ := hsp.len
  subst hsp'
  have p0 := hA 0 _ rfl
  have p1 := hA 1 _ rfl
  have p2 := hA 2 _ rfl
  have p3 := hA 3 _ rfl
  have p4 := hA 4 _ rfl
  have p5 := hA 5 _ rfl
  simp only [Nat.add_zero] at p0
  have hsl : CP k (vs.drop k) = (Cd k v && CP (k + 1) (vs.drop (k + 1))) := by rw [hdx]; rfl
  have next : ∀ w1, Ext w w1 → Cd k v = true → ∀ e : Env, e 1 = pt b 0 → e 6 = s → e 7 = i64 vs.length → e 8 = i64 (k + 1 : Nat) → Ag (B9 e w1) fun r => r.1 = .bool (CP k (vs.drop k) && (vs.length == 4)) ∧ Ext w r.2 := by
   intro w1 hE ho e h1 h6 h7 h8
   refine Ag.mono (ih (k + 1) e w1 (by omega) h1 h6 h7 h8 ((hE.Ah (Aq hx)).trans hx) (ha.mono (Ext.Ak hE))) ?_
   rintro r ⟨h4, h5⟩
   exact ⟨by rw [h4, hsl, ho, Bool.true_and], hE.tr h5⟩
  have cnt : i64 (IntKind.i64.wrap ((k : Int) + 1)) = i64 (k + 1 : Nat) := congrArg i64 (Ho (by omega) (by omega))
  subst hs1
  simp (disch := first | omega | (simp only [World.size_alloc, size_setRow, Ac]; done) | (simp only [World.size_alloc, size_setRow, Ac]; omega) | (simp only [List.length_set, Array.length_toList]; omega)) [-Option.bind_some, Ae, Af, Ad, h1, h6, h7, h8, hlt, AW, p0, p1, p2, p3, p4, p5]
  refine Ag.bind (KB (cs := [i64 v.key, i64 v.tag.t, i64 v.tag.p, .slice ap v.past.length cp, .string v.text, .bool v.gone]) (hcs.mono (Ext.Ak (by (repeat (first | exact Ext.rfl | assumption | (refine Ext.al ?_ _) | (refine Ext.dw ?_) | (refine Ext.set ?_ (by first | omega | (simp only [World.size_alloc, size_setRow, Ac]; omega)) _) | (refine Ext.tr ?_ (by assumption)))))))) ?_
  rintro ⟨_, w1⟩ ⟨rfl, hE⟩
  have hE' : Ext w w1 := Ext.tr (by (repeat (first | exact Ext.rfl | assumption | (refine Ext.al ?_ _) | (refine Ext.dw ?_) | (refine Ext.set ?_ (by first | omega | (simp only [World.size_alloc, size_setRow, Ac]; omega)) _) | (refine Ext.tr ?_ (by assumption))))) hE
  have hx1 : hp w1 w.heap.size = some (.cells #[i64 v.key, i64 v.tag.t, i64 v.tag.p, .slice ap v.past.length cp, .string v.text, .bool v.gone] 49 (0, 0)) := (hE.Ah (by simp)).trans (by simp (disch := first | omega | (simp only [World.size_alloc, size_setRow, Ac]; done) | (simp only [World.size_alloc, size_setRow, Ac]; omega) | (simp only [List.length_set, Array.length_toList]; omega)) [-Option.bind_some, Ae, Af, Ad])
  cases hn : AV v
  case true =>
   simp (disch := first | omega | (simp only [World.size_alloc, size_setRow, Ac]; done) | (simp only [World.size_alloc, size_setRow, Ac]; omega) | (simp only [List.length_set, Array.length_toList]; omega)) [-Option.bind_some, Ae, Af, Ad, hn, h8]
   exact next w1 hE' (by simp [Cd, hn]) _ h1 h6 h7 cnt
  simp (disch := first | omega | (simp only [World.size_alloc, size_setRow, Ac]; done) | (simp only [World.size_alloc, size_setRow, Ac]; omega) | (simp only [List.length_set, Array.length_toList]; omega)) [-Option.bind_some, Ae, Af, Ad, hn, hx1]
  refine Ag.bind (NQ (cs := [i64 v.key, i64 v.tag.t, i64 v.tag.p, .slice ap v.past.length cp, .string v.text, .bool v.gone]) (hcs.mono (Ext.Ak hE'))) ?_
  rintro ⟨_, w2⟩ ⟨rfl, hE2⟩
  have hx2 := (hE2.Ah (Aq hx1)).trans hx1
  have hE3 := hE'.tr hE2
  cases hvo : BF v
  ·simp (disch := first | omega | (simp only [World.size_alloc, size_setRow, Ac]; done) | (simp only [World.size_alloc, size_setRow, Ac]; omega) | (simp only [List.length_set, Array.length_toList]; omega)) [-Option.bind_some, Ae, Af, Ad, hvo, hsl, Cd, hn]
   exact hE3
  cases hk : (v.key != (k : Int))
  case true =>
   simp (disch := first | omega | (simp only [World.size_alloc, size_setRow, Ac]; done) | (simp only [World.size_alloc, size_setRow, Ac]; omega) | (simp only [List.length_set, Array.length_toList]; omega)) [-Option.bind_some, Ae, Af, Ad, hvo, hx2, hk, hsl, Cd, hn]
   simp only [bne_iff_ne, ne_eq] at hk
   exact ⟨fun h => (hk h).elim, hE3⟩
  simp (disch := first | omega | (simp only [World.size_alloc, size_setRow, Ac]; done) | (simp only [World.size_alloc, size_setRow, Ac]; omega) | (simp only [List.length_set, Array.length_toList]; omega)) [-Option.bind_some, Ae, Af, Ad, hvo, hx2, hk, h8]
  simp only [bne_eq_false_iff_eq] at hk
  exact next w2 hE3 (by simp [Cd, hvo, hk]) _ h1 h6 h7 cnt
theorem DG {s : Value} {vs : List Ver} {w : World} (ha : Bn w s vs) : Ag (EV P 45 #[.agg #[s]] w) fun r => r.1 = .bool (Bd vs) ∧ Ext w r.2 := by
 have ha' := ha
 obtain ⟨aa, ca, hs, hm⟩ := ha.len
 subst hs
 refine Ag.enter plain mixed (Km _ _) (by kernel_rfl) (n := 1) (by kernel_rfl) rfl ?_
 simp (disch := first | omega | (simp only [World.size_alloc, size_setRow, Ac]; done) | (simp only [World.size_alloc, size_setRow, Ac]; omega) | (simp only [List.length_set, Array.length_toList]; omega)) [-Option.bind_some, Ae, Af, Ad]
 refine Ag.mono (LK vs.length 0 _ _ (by omega) rfl rfl rfl rfl (Af rfl) (ha'.mono (Ext.Ak (by (repeat (first | exact Ext.rfl | assumption | (refine Ext.al ?_ _) | (refine Ext.dw ?_) | (refine Ext.set ?_ (by first | omega | (simp only [World.size_alloc, size_setRow, Ac]; omega)) _) | (refine Ext.tr ?_ (by assumption)))))))) ?_
 rintro r ⟨h1, h2⟩
 exact ⟨h1, (Ext.al Ext.rfl _).tr h2⟩
theorem Jd {s : Value} {vs : List Ver} {b2 b3 g : Nat} {w0 : World} (h4 : vs.length = 4) (h02 : w0.heap.size ≤ b2) (h03 : w0.heap.size ≤ b3) (h0g : w0.heap.size ≤ g) (h23 : b2 ≠ b3) (hg2 : g ≠ b2) (hg3 : g ≠ b3) :
  ∀ (d k : Nat) (e : Env) (w : World) (cur : Array Value) (c0 : Value), k + d = vs.length → e 2 = pt b2 0 → e 3 = pt b3 0 → e 8 = s → e 9 = i64 4 → e 10 = i64 k →
  hp w b2 = some (.cells #[c0] 32 (0, 0)) → hp w b3 = some (.cells #[.slice (some ⟨g, 0, none⟩) 4 4] 32 (0, 0)) → hp w g = some (.cells cur 36 (0, 0)) → cur.size = 8 → cur.toList.take (k * 2) = CO (AG (vs.take k)) →
  Bn w0 s vs → Ext w0 w →
  Ag (BV e w) fun r => r.1 = .agg #[.slice (some ⟨g, 0, none⟩) 4 4] ∧ (∃ c : Array Value, hp r.2 g = some (.cells c 36 (0, 0)) ∧ c.toList = CO (AG vs)) ∧ Ext w0 r.2 := by
 intro d
 induction d with
 | zero =>
  intro k e w cur c0 hd h2 h3 h8 h9 h10 hx2 hx3 hg hc ht ha hE
  obtain rfl : k = 4 := by omega
  rw [DK]
  simp (disch := first | omega | (simp only [World.size_alloc, size_setRow, Ac]; done) | (simp only [World.size_alloc, size_setRow, Ac]; omega) | (simp only [List.length_set, Array.length_toList]; omega)) [-Option.bind_some, Ae, Af, Ad, h2, h3, h8, h9, h10, hx2, hx3]
  rw [List.take_of_length_le (by simp; omega), List.take_of_length_le (by omega)] at ht
  exact ⟨⟨cur, hg, ht⟩, by (repeat (first | exact Ext.rfl | assumption | (refine Ext.al ?_ _) | (refine Ext.dw ?_) | (refine Ext.set ?_ (by first | omega | (simp only [World.size_alloc, size_setRow, Ac]; omega)) _) | (refine Ext.tr ?_ (by assumption))))⟩
 | succ d ih =>
  intro k e w cur c0 hd h2 h3 h8 h9 h10 hx2 hx3 hg hc ht ha hE
  rw [DK]
  have hlt : k < vs.length := by omega
  have hlt4 : k < 4 := by omega
  obtain ⟨v, hv, hdx⟩ := Am hlt
  obtain ⟨b1, o1, c1, cs, hs1, hA0, hcs⟩ := ha.at hv
  have hA := hA0.mono (Ext.Ak hE)
  obtain ⟨sp, rfl, hsp, hts⟩ := hcs
  obtain ⟨ap, cp, hsp', hpl⟩ := hsp.len
  subst hsp'
  have p0 := hA 0 _ rfl
  have p1 := hA 1 _ rfl
  have p2 := hA 2 _ rfl
  have p3 := hA 3 _ rfl
  have p4 := hA 4 _ rfl
  have p5 := hA 5 _ rfl
  simp only [Nat.add_zero] at p0
  have l2 := Aq hx2
  have l3 := Aq hx3
  have lg := Aq hg
  have hkk : k * 2 + 2 ≤ cur.size := by omega
  have hpt := Sn (cur := cur) (vs := GB v.tag) (n := 4) (m := 2) hc hlt4 rfl
  subst hs1
  simp (disch := first | omega | (simp only [World.size_alloc, size_setRow, Ac]; done) | (simp only [World.size_alloc, size_setRow, Ac]; omega) | (simp only [List.length_set, Array.length_toList]; omega)) [-Option.bind_some, Ae, Af, Ad, h2, h3, h8, h9, h10, hlt, hlt4, show (k : Int) < 4 by omega, AW, EJ, p0, p1, p2, p3, p4, p5, hx3, hg, hkk]
  refine Ag.mono (ih (k + 1) _ _ _ c0 (by omega) h2 h3 h8 h9 (congrArg i64 (Ho (by omega) (by omega))) (by simp (disch := first | omega | (simp only [World.size_alloc, size_setRow, Ac]; done) | (simp only [World.size_alloc, size_setRow, Ac]; omega) | (simp only [List.length_set, Array.length_toList]; omega)) [-Option.bind_some, Ae, Af, Ad, hx2]) (by simp (disch := first | omega | (simp only [World.size_alloc, size_setRow, Ac]; done) | (simp only [World.size_alloc, size_setRow, Ac]; omega) | (simp only [List.length_set, Array.length_toList]; omega)) [-Option.bind_some, Ae, Af, Ad, hx3]) (by rw [DQ, Ad (by omega), Ae lg, hg]; rfl) (by simpa using hpt.1)
   ?_ ha (by (repeat (first | exact Ext.rfl | assumption | (refine Ext.al ?_ _) | (refine Ext.dw ?_) | (refine Ext.set ?_ (by first | omega | (simp only [World.size_alloc, size_setRow, Ac]; omega)) _) | (refine Ext.tr ?_ (by assumption)))))) fun _ h => h
  rw [FE hv]
  have : AG (vs.take k ++ [v]) = AG (vs.take k) ++ [v.tag] := by simp [AG]
  rw [this, Nd, ← ht]
  simpa [CO] using hpt.2
theorem FB {s : Value} {vs : List Ver} (h4 : vs.length = 4) {w : World} (ha : Bn w s vs) : Ag (EV P 48 #[.agg #[s]] w) fun r => ∃ s', r.1 = .agg #[s'] ∧ BK 36 w.heap.size r.2 s' (AG vs) ∧ Ext w r.2 := by
 have ha' := ha
 obtain ⟨aa, ca, hs, hm⟩ := ha.len
 subst hs
 refine Ag.enter plain mixed (H7 _ _) (by kernel_rfl) (n := 1) (by kernel_rfl) rfl ?_
 simp (disch := first | omega | (simp only [World.size_alloc, size_setRow, Ac]; done) | (simp only [World.size_alloc, size_setRow, Ac]; omega) | (simp only [List.length_set, Array.length_toList]; omega)) [-Option.bind_some, Ae, Af, Ad]
 refine Ag.bind (KC _) ?_
 rintro ⟨_, w1⟩ ⟨g, rfl, hg0, hg, hE⟩
 have hsz := hE.size
 have hgl := Aq hg
 simp only [World.size_alloc] at hsz hg0 hgl
 have hx1 := (hE.Ah (b := w.heap.size) (by simp only [World.size_alloc]; omega)).trans ((Ae (by simp)).trans (Af rfl))
 have hx2 := (hE.Ah (b := w.heap.size + 1) (by simp)).trans (Af (by simp))
 simp (disch := first | omega | (simp only [World.size_alloc, size_setRow, Ac]; done) | (simp only [World.size_alloc, size_setRow, Ac]; omega) | (simp only [List.length_set, Array.length_toList]; omega)) [-Option.bind_some, Ae, Af, Ad, hx1, hE.Ah]
 refine Ag.mono (Jd (s := .slice aa vs.length ca) (vs := vs) (b2 := w.heap.size + 1) (b3 := w1.heap.size) (g := g) (w0 := w) h4 (by omega) (by omega) (by omega) (by omega) (by omega) (by omega) vs.length 0 _ _ _ _ (by omega) rfl rfl rfl (congrArg i64 (show (vs.length : Int) = 4 by omega)) rfl
  ((Ad (by omega)).trans ((Ae (by omega)).trans hx2)) (by rw [DQ, Af rfl]; rfl) ((Ad (by omega)).trans ((Ae (by omega)).trans hg)) rfl rfl ha' (by (repeat (first | exact Ext.rfl | assumption | (refine Ext.al ?_ _) | (refine Ext.dw ?_) | (refine Ext.set ?_ (by first | omega | (simp only [World.size_alloc, size_setRow, Ac]; omega)) _) | (refine Ext.tr ?_ (by assumption)))))) ?_
 rintro ⟨_, w2⟩ ⟨rfl, ⟨c, hc, hl⟩, hE2⟩
 have hsz : c.size = (AG vs).length * 2 := by rw [← CC, ← hl]; simp
 have htl : (AG vs).length = 4 := by simp [AG, h4]
 refine ⟨_, rfl, ⟨⟨by rw [CC], by omega, .inr ⟨g, 4, c, by rw [htl], by omega, hc, by omega, by omega, by omega, ?_⟩⟩, by omega⟩, hE2⟩
 rw [hl, ← CC, List.take_length]
theorem Ha {cs : List Value} {v : Ver} {s : Value} {vs : List Ver} {b t : Nat} (h4 : vs.length = 4) (hv4 : v.tag ≠ Tag.zero → v.past.length = 4) {w : World} (hv : Gm w cs v) (hx : hp w b = some (.cells #[s] t (0, 0))) (ha : Bn w s vs) :
  Ag (EV P 47 #[.agg cs.toArray, pt b 0] w) fun r => r.1 = .bool (!Bo (AG vs) v) ∧ Ext w r.2 := by
 obtain ⟨sp, rfl, hp', ht⟩ := hv
 have hp2 := hp'
 have ha' := ha
 obtain ⟨aa, ca, hs, hm⟩ := ha.len
 obtain ⟨ap, cp, hsp, hpm⟩ := hp'.len
 subst hs
 subst hsp
 have hbl := Aq hx
 refine Ag.enter plain mixed (Gz _ _ _) (by kernel_rfl) (n := 2) (by kernel_rfl) rfl ?_
 cases hz : ((v.tag.t == 0) && (v.tag.p == 0))
 ·have hne := RD hz
  simp (disch := first | omega | (simp only [World.size_alloc, size_setRow, Ac]; done) | (simp only [World.size_alloc, size_setRow, Ac]; omega) | (simp only [List.length_set, Array.length_toList]; omega)) [-Option.bind_some, Ae, Af, Ad, hz, hx]
  refine Ag.bind (FB h4 (ha'.mono (Ext.Ak (by (repeat (first | exact Ext.rfl | assumption | (refine Ext.al ?_ _) | (refine Ext.dw ?_) | (refine Ext.set ?_ (by first | omega | (simp only [World.size_alloc, size_setRow, Ac]; omega)) _) | (refine Ext.tr ?_ (by assumption)))))))) ?_
  rintro ⟨_, w1⟩ ⟨s', rfl, hf, hE⟩
  have hE' : Ext w w1 := Ext.tr (by (repeat (first | exact Ext.rfl | assumption | (refine Ext.al ?_ _) | (refine Ext.dw ?_) | (refine Ext.set ?_ (by first | omega | (simp only [World.size_alloc, size_setRow, Ac]; omega)) _) | (refine Ext.tr ?_ (by assumption))))) hE
  have hx1 := (hE.Ah (b := w.heap.size) (by simp)).trans ((Bg _ _).trans (Af rfl))
  simp (disch := first | omega | (simp only [World.size_alloc, size_setRow, Ac]; done) | (simp only [World.size_alloc, size_setRow, Ac]; omega) | (simp only [List.length_set, Array.length_toList]; omega)) [-Option.bind_some, Ae, Af, Ad, hx1]
  refine Ag.bind (FA (by rw [hv4 hne]; simp [AG, h4]) (hp2.mono (Ext.Ak hE')) hf.r) ?_
  rintro ⟨_, w2⟩ ⟨rfl, hE2⟩
  simp (disch := first | omega | (simp only [World.size_alloc, size_setRow, Ac]; done) | (simp only [World.size_alloc, size_setRow, Ac]; omega) | (simp only [List.length_set, Array.length_toList]; omega)) [-Option.bind_some, Ae, Af, Ad, Bo, hne]
  exact hE'.tr hE2
 ·have hc : Bo (AG vs) v = true := by simp [Bo, PU hz]
  simp (disch := first | omega | (simp only [World.size_alloc, size_setRow, Ac]; done) | (simp only [World.size_alloc, size_setRow, Ac]; omega) | (simp only [List.length_set, Array.length_toList]; omega)) [-Option.bind_some, Ae, Af, Ad, hz, hc]
  (repeat (first | exact Ext.rfl | assumption | (refine Ext.al ?_ _) | (refine Ext.dw ?_) | (refine Ext.set ?_ (by first | omega | (simp only [World.size_alloc, size_setRow, Ac]; omega)) _) | (refine Ext.tr ?_ (by assumption))))
theorem Gl {s f : Value} {xs : List Ver} {p : Ver → Bool} {w0 : World} (hf : ∀ x ∈ xs, ∀ cs w, Ext w0 w → Gm w cs x → Ag (QA P f #[.agg cs.toArray] w) fun r => r.1 = .bool (p x) ∧ Ext w r.2) :
  ∀ (d k : Nat) (e : Env) (w : World), k + d = xs.length → e 0 = s → e 1 = f → e 7 = i64 xs.length → e 8 = i64 k → Bn w0 s xs → Ext w0 w →
  Ag (Bq e w) fun r => ∃ i : Int, r.1 = i64 i ∧ decide (0 ≤ i) = (xs.drop k).any p ∧ Ext w0 r.2 := by
 intro d
 induction d with
 | zero =>
  intro k e w hd h0 h1 h7 h8 ha hE
  rw [Cn]
  simp (disch := first | omega | (simp only [World.size_alloc, size_setRow, Ac]; done) | (simp only [World.size_alloc, size_setRow, Ac]; omega) | (simp only [List.length_set, Array.length_toList]; omega)) [-Option.bind_some, Ae, Af, Ad, h0, h1, h7, h8, show ¬ k < xs.length by omega, show xs.length ≤ k by omega]
  rw [List.drop_eq_nil_of_le (by omega)]
  exact ⟨by simp, hE⟩
 | succ d ih =>
  intro k e w hd h0 h1 h7 h8 ha hE
  obtain ⟨aa, ca, hs, hm⟩ := ha.len
  rw [Cn]
  have hlt : k < xs.length := by omega
  obtain ⟨x, hx, hdx⟩ := Am hlt
  obtain ⟨b1, o1, c1, cs, hs1, hA0, hcs0⟩ := ha.at hx
  have hcs := hcs0.mono (Ext.Ak hE)
  have hla := At.ld (P := P) (t := 49) (by kernel_rfl) (by rw [hcs.length]; kernel_rfl) (hA0.mono (Ext.Ak hE))
  rw [hdx]
  subst hs1
  simp (disch := first | omega | (simp only [World.size_alloc, size_setRow, Ac]; done) | (simp only [World.size_alloc, size_setRow, Ac]; omega) | (simp only [List.length_set, Array.length_toList]; omega)) [-Option.bind_some, Ae, Af, Ad, h0, h1, h7, h8, hlt, AW, hla, -LI]
  refine Ag.bind (hf x (List.mem_of_getElem? hx) cs _ hE hcs) ?_
  rintro ⟨_, w1⟩ ⟨rfl, hE1⟩
  cases hp : p x
  ·simp (disch := first | omega | (simp only [World.size_alloc, size_setRow, Ac]; done) | (simp only [World.size_alloc, size_setRow, Ac]; omega) | (simp only [List.length_set, Array.length_toList]; omega)) [-Option.bind_some, Ae, Af, Ad, hp, h8]
   refine Ag.mono (ih (k + 1) _ w1 (by omega) h0 h1 h7 (congrArg i64 (Ho (by omega) (by omega))) ha (hE.tr hE1)) ?_
   rintro r ⟨i, h2, h3, h4⟩
   exact ⟨i, h2, by simpa [hp] using h3, h4⟩
  ·simp (disch := first | omega | (simp only [World.size_alloc, size_setRow, Ac]; done) | (simp only [World.size_alloc, size_setRow, Ac]; omega) | (simp only [List.length_set, Array.length_toList]; omega)) [-Option.bind_some, Ae, Af, Ad, hp]
   exact hE.tr hE1
theorem EU {s f : Value} {xs : List Ver} {p : Ver → Bool} {w : World} (ha : Bn w s xs) (hf : ∀ x ∈ xs, ∀ cs w', Ext w w' → Gm w' cs x → Ag (QA P f #[.agg cs.toArray] w') fun r => r.1 = .bool (p x) ∧ Ext w' r.2) :
  Ag (EV P 46 #[s, f] w) fun r => r.1 = .bool (xs.any p) ∧ Ext w r.2 := by
 have ha' := ha
 obtain ⟨aa, ca, hs, hm⟩ := ha.len
 subst hs
 have hi : Ag (EV P 81 #[.slice aa xs.length ca, f] w) fun r => ∃ i : Int, r.1 = i64 i ∧ decide (0 ≤ i) = xs.any p ∧ Ext w r.2 := by
  refine Ag.enter plain mixed (FR _ _ _) (by kernel_rfl) (n := 2) (by kernel_rfl) rfl ?_
  simp (disch := first | omega | (simp only [World.size_alloc, size_setRow, Ac]; done) | (simp only [World.size_alloc, size_setRow, Ac]; omega) | (simp only [List.length_set, Array.length_toList]; omega)) [-Option.bind_some, Ae, Af, Ad]
  exact Gl hf xs.length 0 _ w (by omega) rfl rfl rfl rfl ha' Ext.rfl
 refine Ag.enter plain mixed (EF _ _ _) (by kernel_rfl) (n := 2) (by kernel_rfl) rfl ?_
 simp (disch := first | omega | (simp only [World.size_alloc, size_setRow, Ac]; done) | (simp only [World.size_alloc, size_setRow, Ac]; omega) | (simp only [List.length_set, Array.length_toList]; omega)) [-Option.bind_some, Ae, Af, Ad]
 refine Ag.bind hi ?_
 rintro ⟨_, w1⟩ ⟨i, rfl, h2, hE⟩
 simp (disch := first | omega | (simp only [World.size_alloc, size_setRow, Ac]; done) | (simp only [World.size_alloc, size_setRow, Ac]; omega) | (simp only [List.length_set, Array.length_toList]; omega)) [-Option.bind_some, Ae, Af, Ad, h2]
 exact hE
theorem B7 {s : Value} {vs : List Ver} {w : World} (ha : Bn w s vs) : Ag (EV P 21 #[.agg #[s]] w) fun r => r.1 = .bool (closed vs) ∧ Ext w r.2 := by
 have ha' := ha
 obtain ⟨aa, ca, hs, hm⟩ := ha.len
 subst hs
 refine Ag.enter plain mixed (Hr _ _) (by kernel_rfl) (n := 1) (by kernel_rfl) rfl ?_
 simp (disch := first | omega | (simp only [World.size_alloc, size_setRow, Ac]; done) | (simp only [World.size_alloc, size_setRow, Ac]; omega) | (simp only [List.length_set, Array.length_toList]; omega)) [-Option.bind_some, Ae, Af, Ad]
 refine Ag.bind (DG (ha'.mono (Ext.Ak (by (repeat (first | exact Ext.rfl | assumption | (refine Ext.al ?_ _) | (refine Ext.dw ?_) | (refine Ext.set ?_ (by first | omega | (simp only [World.size_alloc, size_setRow, Ac]; omega)) _) | (refine Ext.tr ?_ (by assumption)))))))) ?_
 rintro ⟨_, w1⟩ ⟨rfl, hE⟩
 have hE' : Ext w w1 := Ext.tr (by (repeat (first | exact Ext.rfl | assumption | (refine Ext.al ?_ _) | (refine Ext.dw ?_) | (refine Ext.set ?_ (by first | omega | (simp only [World.size_alloc, size_setRow, Ac]; omega)) _) | (refine Ext.tr ?_ (by assumption))))) hE
 have hx1 := (hE.Ah (b := w.heap.size) (by simp)).trans (Af rfl)
 cases ho : Bd vs
 ·simp (disch := first | omega | (simp only [World.size_alloc, size_setRow, Ac]; done) | (simp only [World.size_alloc, size_setRow, Ac]; omega) | (simp only [List.length_set, Array.length_toList]; omega)) [-Option.bind_some, Ae, Af, Ad, ho, closed]
  exact hE'
 ·simp (disch := first | omega | (simp only [World.size_alloc, size_setRow, Ac]; done) | (simp only [World.size_alloc, size_setRow, Ac]; omega) | (simp only [List.length_set, Array.length_toList]; omega)) [-Option.bind_some, Ae, Af, Ad, ho, hx1]
  refine Ag.bind (EU (p := fun v => !Bo (AG vs) v) (ha'.mono (Ext.Ak hE')) ?_) ?_
  ·intro v hv cs w' hE2 hcs
   rw [Rz (P := P) (g := 47) (by kernel_rfl) [] [pt w.heap.size 0] [.agg cs.toArray] w']
   obtain ⟨k, hk⟩ := List.getElem?_of_mem hv
   refine Ha (Ee ho) (fun hne => ?_) hcs ((hE2.Ah (Aq hx1)).trans hx1) (ha'.mono (Ext.Ak (hE'.tr hE2)))
   rcases Ke ho hk with h | h
   ·exact absurd h hne
   ·exact h.2
  rintro ⟨_, w2⟩ ⟨rfl, hE2⟩
  simp (disch := first | omega | (simp only [World.size_alloc, size_setRow, Ac]; done) | (simp only [World.size_alloc, size_setRow, Ac]; omega) | (simp only [List.length_set, Array.length_toList]; omega)) [-Option.bind_some, Ae, Af, Ad, closed, ho]
  refine ⟨?_, hE'.tr hE2⟩
  rw [Bool.eq_iff_iff]
  simp
theorem J4 {s : Value} {vs : List Ver} {w : World} (ha : Bn w s vs) : Ag (EV P 23 #[.agg #[s]] w) fun r => ∃ s', r.1 = .agg #[s'] ∧ BK 36 w.heap.size r.2 s' (if Bd vs then AG vs else []) ∧ Ext w r.2 := by
 have ha' := ha
 obtain ⟨aa, ca, hs, hm⟩ := ha.len
 subst hs
 refine Ag.enter plain mixed (IL _ _) (by kernel_rfl) (n := 1) (by kernel_rfl) rfl ?_
 simp (disch := first | omega | (simp only [World.size_alloc, size_setRow, Ac]; done) | (simp only [World.size_alloc, size_setRow, Ac]; omega) | (simp only [List.length_set, Array.length_toList]; omega)) [-Option.bind_some, Ae, Af, Ad]
 refine Ag.bind (DG (ha'.mono (Ext.Ak (by (repeat (first | exact Ext.rfl | assumption | (refine Ext.al ?_ _) | (refine Ext.dw ?_) | (refine Ext.set ?_ (by first | omega | (simp only [World.size_alloc, size_setRow, Ac]; omega)) _) | (refine Ext.tr ?_ (by assumption)))))))) ?_
 rintro ⟨_, w1⟩ ⟨rfl, hE⟩
 have hs := hE.size
 simp only [World.size_alloc] at hs
 have hx1 := (hE.Ah (b := w.heap.size) (by simp only [World.size_alloc]; omega)).trans ((Ae (by simp)).trans (Af rfl))
 have hx2 := (hE.Ah (b := w.heap.size + 1) (by simp)).trans (Af (by simp))
 have hE' : Ext w w1 := Ext.tr (by (repeat (first | exact Ext.rfl | assumption | (refine Ext.al ?_ _) | (refine Ext.dw ?_) | (refine Ext.set ?_ (by first | omega | (simp only [World.size_alloc, size_setRow, Ac]; omega)) _) | (refine Ext.tr ?_ (by assumption))))) hE
 cases ho : Bd vs
 ·simp (disch := first | omega | (simp only [World.size_alloc, size_setRow, Ac]; done) | (simp only [World.size_alloc, size_setRow, Ac]; omega) | (simp only [List.length_set, Array.length_toList]; omega)) [-Option.bind_some, Ae, Af, Ad, ho, hx2]
  exact ⟨⟨IC.nil _ _ _ _, by simp⟩, by (repeat (first | exact Ext.rfl | assumption | (refine Ext.al ?_ _) | (refine Ext.dw ?_) | (refine Ext.set ?_ (by first | omega | (simp only [World.size_alloc, size_setRow, Ac]; omega)) _) | (refine Ext.tr ?_ (by assumption))))⟩
 ·simp (disch := first | omega | (simp only [World.size_alloc, size_setRow, Ac]; done) | (simp only [World.size_alloc, size_setRow, Ac]; omega) | (simp only [List.length_set, Array.length_toList]; omega)) [-Option.bind_some, Ae, Af, Ad, ho, hx1]
  refine Ag.bind (FB (Ee ho) (ha'.mono (Ext.Ak hE'))) ?_
  rintro ⟨_, w2⟩ ⟨s', rfl, hf, hE2⟩
  obtain ⟨ab, cb, hs', _⟩ := hf.r.len
  subst hs'
  have hs2 := hE2.size
  have hy2 := (hE2.Ah (Aq hx2)).trans hx2
  simp (disch := first | omega | (simp only [World.size_alloc, size_setRow, Ac]; done) | (simp only [World.size_alloc, size_setRow, Ac]; omega) | (simp only [List.length_set, Array.length_toList]; omega)) [-Option.bind_some, Ae, Af, Ad, hy2]
  refine ⟨(hf.Ak fun b hb => ?_).from (by omega), by (repeat (first | exact Ext.rfl | assumption | (refine Ext.al ?_ _) | (refine Ext.dw ?_) | (refine Ext.set ?_ (by first | omega | (simp only [World.size_alloc, size_setRow, Ac]; omega)) _) | (refine Ext.tr ?_ (by assumption))))⟩
  have := (hf.lt b hb).1
  exact Ad (by omega)
theorem MK {s u : Value} {xs ys : List Tag} {b1 b2 b3 b4 t1 t2 B : Nat} {w0 : World} (hx4 : xs.length = 4) (hy4 : ys.length = 4) (hb1 : b1 < B) (hb2 : b2 < B) (hb3 : b3 < B) (hb4 : b4 < B) (h03 : w0.heap.size ≤ b3) (h04 : w0.heap.size ≤ b4) (h41 : b4 ≠ b1) (h42 : b4 ≠ b2) (h43 : b4 ≠ b3) :
  ∀ (d k : Nat) (e : Env) (w : World) (sv c0 : Value), k + d = 4 → e 2 = pt b1 0 → e 3 = pt b2 0 → e 4 = pt b3 0 → e 5 = pt b4 0 → e 6 = i64 k →
  hp w b1 = some (.cells #[s] t1 (0, 0)) → hp w b2 = some (.cells #[u] t2 (0, 0)) → hp w b3 = some (.cells #[c0] 32 (0, 0)) → hp w b4 = some (.cells #[sv] 32 (0, 0)) → AM w0 s xs → AM w0 u ys → Ext w0 w → B ≤ w.heap.size →
  BK 36 B w sv ((BT xs ys).take k) →
  Ag (Dm e w) fun r => ∃ s', r.1 = .agg #[s'] ∧ BK 36 B r.2 s' (BT xs ys) ∧ Ext w0 r.2 := by
 have hjl : (BT xs ys).length = 4 := by rw [Gn (by omega), hx4]
 intro d
 induction d with
 | zero =>
  intro k e w sv c0 hd h2 h3 h4 h5 h6 hx1 hx2 hx3 hx4 ha hb hE hBw hf
  rw [Fc]
  obtain rfl : k = 4 := by omega
  rw [List.take_of_length_le (by omega)] at hf
  obtain ⟨ab, cb, hsv, _⟩ := hf.r.len
  subst hsv
  simp (disch := first | omega | (simp only [World.size_alloc, size_setRow, Ac]; done) | (simp only [World.size_alloc, size_setRow, Ac]; omega) | (simp only [List.length_set, Array.length_toList]; omega)) [-Option.bind_some, h4, h5, h6, hx3, hx4]
  refine ⟨hf.Ak fun b hb => Ad ?_, by (repeat (first | exact Ext.rfl | assumption | (refine Ext.al ?_ _) | (refine Ext.dw ?_) | (refine Ext.set ?_ (by first | omega | (simp only [World.size_alloc, size_setRow, Ac]; omega)) _) | (refine Ext.tr ?_ (by assumption))))⟩
  have := (hf.lt b hb).1
  omega
 | succ d ih =>
  intro k e w sv c0 hd h2 h3 h4 h5 h6 hx1 hx2 hx3 hx4' ha hb hE hBw hf
  rw [Fc]
  have hlt : k < xs.length := by omega
  have hlt' : k < ys.length := by omega
  obtain ⟨x, hxk, _⟩ := Am hlt
  obtain ⟨y, hyk, _⟩ := Am hlt'
  obtain ⟨d1, o1, c1, hs1, hA⟩ := (ha.mono (Ext.Ak hE)).at hxk
  obtain ⟨d2, o2, c2, hs2, hB⟩ := (hb.mono (Ext.Ak hE)).at hyk
  have p0 := hA 0 _ rfl
  have p1 := hA 1 _ rfl
  have q0 := hB 0 _ rfl
  have q1 := hB 1 _ rfl
  simp only [Nat.add_zero] at p0 q0
  subst hs1
  subst hs2
  obtain ⟨ab, cb, hsv, hfl⟩ := hf.r.len
  subst hsv
  have htl : ((BT xs ys).take k).length = k := by rw [List.length_take]; omega
  rw [htl] at hf hx4' hfl
  simp (disch := first | omega | (simp only [World.size_alloc, size_setRow, Ac]; done) | (simp only [World.size_alloc, size_setRow, Ac]; omega) | (simp only [List.length_set, Array.length_toList]; omega)) [-Option.bind_some, h2, h3, h5, h6, hx1, hx2, hx4', hx4, hy4, show (k : Int) < 4 by omega, EJ, p0, p1, q0, q1]
  refine Ag.bind (Jb x y _) ?_
  rintro ⟨_, w1⟩ ⟨rfl, hE1⟩
  have hE1' : Ext w w1 := (Cc w).tr hE1
  have z1 := hE1'.size
  have Y4 := (hE1'.Ah (Aq hx4')).trans hx4'
  have ly4 := Aq Y4
  have hf1 := hf.Ak (w' := w1) fun b hb => hE1'.Ah (hf.lt b hb).2
  simp (disch := first | omega | (simp only [World.size_alloc, size_setRow, Ac]; done) | (simp only [World.size_alloc, size_setRow, Ac]; omega) | (simp only [List.length_set, Array.length_toList]; omega)) [-Option.bind_some, Ae, Y4]
  refine Ag.bind (PS (x := CK x y) CD (by kernel_rfl) (hf1.Ak fun b hb => Ae (hf1.lt b hb).2) (by simp only [World.size_alloc]; omega) ?_ (by omega)) ?_
  ·intro j u hj
   rw [Af rfl, Bt, ← CX, Nat.zero_add]
   exact hj
  rintro ⟨s', w2⟩ ⟨hf2, hBut⟩
  have hk2 : ∀ b, b < B → hp w2 b = hp w b := fun b hb => (hBut.Ah b (by simp only [World.size_alloc]; omega) (fun e => absurd (hf.lt b (Option.mem_toList.2 e)).1 (by omega))).trans ((Ae (by omega)).trans (hE1'.Ah (by omega)))
  have hE2 : Ext w0 w2 := Ext.VJ (b := w1.alloc _) ((hE.tr hE1').al _) hBut fun x hx => by have := (hf.lt x (Option.mem_toList.2 hx)).1; omega
  have hsz : w1.heap.size < w2.heap.size := by have := hBut.size; simp only [World.size_alloc] at this; omega
  obtain ⟨ac, c3, hsv, hfl1⟩ := hf2.r.len
  have e1 : ((BT xs ys).take k ++ [CK x y]).length = k + 1 := by rw [List.length_append, htl]; rfl
  try dsimp only at hsv
  rw [e1] at hsv
  subst hsv
  simp (disch := first | omega | (simp only [World.size_alloc, size_setRow, Ac]; done) | (simp only [World.size_alloc, size_setRow, Ac]; omega) | (simp only [List.length_set, Array.length_toList]; omega)) [-Option.bind_some, hk2, hx4']
  refine Ag.mono (ih (k + 1) _ _ _ c0 (by omega) h2 h3 h4 h5 (congrArg i64 (Ho (by omega) (by omega))) ((Ad (Ne.symm h41)).trans ((hk2 _ hb1).trans hx1)) ((Ad (Ne.symm h42)).trans ((hk2 _ hb2).trans hx2)) ((Ad (Ne.symm h43)).trans ((hk2 _ hb3).trans hx3)) (by rw [DQ, hk2 _ hb4, hx4']; rfl) ha hb (by (repeat (first | exact Ext.rfl | assumption | (refine Ext.al ?_ _) | (refine Ext.dw ?_) | (refine Ext.set ?_ (by first | omega | (simp only [World.size_alloc, size_setRow, Ac]; omega)) _) | (refine Ext.tr ?_ (by assumption))))) (by simp; omega) ?_) fun _ h => h
  rw [FE (Nj hxk hyk)]
  have hf3 : ∀ cs, BK 36 B (w2.setRow b4 cs) _ ((BT xs ys).take k ++ [CK x y]) := fun cs => hf2.Ak fun b hb => Ad (by have := (hf2.lt b hb).1; omega)
  exact hf3 _
theorem ML {s u : Value} {xs ys : List Tag} (hx4 : xs.length = 4) (hy4 : ys.length = 4) {w : World} (ha : AM w s xs) (hb : AM w u ys) : Ag (EV P 67 #[.agg #[s], .agg #[u]] w) fun r => ∃ s', r.1 = .agg #[s'] ∧ BK 36 w.heap.size r.2 s' (BT xs ys) ∧ Ext w r.2 := by
 have ha' := ha
 have hb' := hb
 obtain ⟨aa, ca, hs, hm⟩ := ha.len
 obtain ⟨ab, cb, hu, _⟩ := hb.len
 subst hs
 subst hu
 refine Ag.enter plain mixed (K4 _ _ _) (by kernel_rfl) (n := 2) (by kernel_rfl) rfl ?_
 simp (disch := first | omega | (simp only [World.size_alloc, size_setRow, Ac]; done) | (simp only [World.size_alloc, size_setRow, Ac]; omega) | (simp only [List.length_set, Array.length_toList]; omega)) [-Option.bind_some, Af]
 refine Ag.mono (MK (s := .slice aa xs.length ca) (u := .slice ab ys.length cb) (xs := xs) (ys := ys) (b1 := w.heap.size) (b2 := w.heap.size + 1) (b3 := w.heap.size + 2) (b4 := w.heap.size + 3) (B := w.heap.size + 4) (w0 := w) (t1 := 32) (t2 := 32) hx4 hy4 (by omega) (by omega) (by omega) (by omega) (by omega) (by omega) (by omega) (by omega) (by omega) 4 0 _ _ _ _ (by omega) rfl rfl rfl rfl rfl
  (by simp (disch := first | omega | (simp only [World.size_alloc, size_setRow, Ac]; done) | (simp only [World.size_alloc, size_setRow, Ac]; omega) | (simp only [List.length_set, Array.length_toList]; omega)) [-Option.bind_some, Ae, Af, Ad]; first | done | rfl) (by simp (disch := first | omega | (simp only [World.size_alloc, size_setRow, Ac]; done) | (simp only [World.size_alloc, size_setRow, Ac]; omega) | (simp only [List.length_set, Array.length_toList]; omega)) [-Option.bind_some, Ae, Af, Ad]; first | done | rfl) (by simp (disch := first | omega | (simp only [World.size_alloc, size_setRow, Ac]; done) | (simp only [World.size_alloc, size_setRow, Ac]; omega) | (simp only [List.length_set, Array.length_toList]; omega)) [-Option.bind_some, Ae, Af, Ad]; first | done | rfl) (by simp (disch := first | omega | (simp only [World.size_alloc, size_setRow, Ac]; done) | (simp only [World.size_alloc, size_setRow, Ac]; omega) | (simp only [List.length_set, Array.length_toList]; omega)) [-Option.bind_some, Af]; first | done | rfl) ha' hb' (by (repeat (first | exact Ext.rfl | assumption | (refine Ext.al ?_ _) | (refine Ext.dw ?_) | (refine Ext.set ?_ (by first | omega | (simp only [World.size_alloc, size_setRow, Ac]; omega)) _) | (refine Ext.tr ?_ (by assumption))))) (by simp) ⟨IC.nil _ _ _ _, by simp⟩) ?_
 rintro ⟨_, w1⟩ ⟨s', rfl, hf, hE⟩
 exact ⟨s', rfl, hf.from (by omega), hE⟩
theorem Ix {s : Value} {xs : List Tag} {w : World} (ha : AM w s xs) : Ag (EV P 69 #[s] w) fun r => BK 36 w.heap.size r.2 r.1 xs ∧ Ext w r.2 := by
 have ha' := ha
 obtain ⟨⟨aa, ca, hs, hn, hA⟩, hm⟩ := ha
 subst hs
 refine Ag.enter plain mixed (Hw _ _) (by kernel_rfl) (n := 1) (by kernel_rfl) rfl ?_
 have hnil := Pm (P := P) CD
 cases aa with
 | none =>
  have hx : xs = [] := by
   rcases hA with h | ⟨b, o, h, _⟩
   ·have := congrArg List.length h
    rw [CC] at this
    exact List.eq_nil_of_length_eq_zero (by simp only [List.length_nil] at this; omega)
   ·cases h
  subst hx
  simp (disch := first | omega | (simp only [World.size_alloc, size_setRow, Ac]; done) | (simp only [World.size_alloc, size_setRow, Ac]; omega) | (simp only [List.length_set, Array.length_toList]; omega)) [-Option.bind_some, hnil]
  exact ⟨⟨IC.nil _ _ _ _, by simp⟩, by (repeat (first | exact Ext.rfl | assumption | (refine Ext.al ?_ _) | (refine Ext.dw ?_) | (refine Ext.set ?_ (by first | omega | (simp only [World.size_alloc, size_setRow, Ac]; omega)) _) | (refine Ext.tr ?_ (by assumption))))⟩
 | some a =>
  simp (disch := first | omega | (simp only [World.size_alloc, size_setRow, Ac]; done) | (simp only [World.size_alloc, size_setRow, Ac]; omega) | (simp only [List.length_set, Array.length_toList]; omega)) [-Option.bind_some, hnil]
  have hown : IC (w.alloc (.cells #[] 36)) w.heap.size 36 2 (.slice (some ⟨w.heap.size, 0, none⟩) 0 0) 0 [] :=
   ⟨rfl, by omega, .inr ⟨w.heap.size, 0, #[], rfl, by omega, Af rfl, by omega, by omega, by simp, by simp⟩⟩
  by_cases h0 : xs.length = 0
  ·have hx : xs = [] := List.eq_nil_of_length_eq_zero h0
   subst hx
   simp (disch := first | omega | (simp only [World.size_alloc, size_setRow, Ac]; done) | (simp only [World.size_alloc, size_setRow, Ac]; omega) | (simp only [List.length_set, Array.length_toList]; omega)) [-Option.bind_some, He (P := P) (ty := 30) CD]
   exact ⟨⟨hown, by simp⟩, by (repeat (first | exact Ext.rfl | assumption | (refine Ext.al ?_ _) | (refine Ext.dw ?_) | (refine Ext.set ?_ (by first | omega | (simp only [World.size_alloc, size_setRow, Ac]; omega)) _) | (refine Ext.tr ?_ (by assumption))))⟩
  ·obtain ⟨b, o, hab, hA2⟩ : ∃ b o, some a = some ⟨b, o, none⟩ ∧ At w b o (CO xs) := by
    rcases hA with h | h
    ·have := congrArg List.length h
     rw [CC] at this
     simp at this
     omega
    ·exact h
   cases hab
   refine Ag.bind (NW (P := P) CD (z := [i64 0, i64 0]) (by kernel_rfl) rfl (by omega) hown (by simp) (hA2.mono fun b hb => Ae hb) (CC xs) ?_ (by omega) (by omega) (by omega)) ?_
   ·rw [List.all_eq_true]
    intro v hv
    simp only [CO, List.mem_flatten, List.mem_map] at hv
    obtain ⟨l, ⟨t, _, rfl⟩, hv⟩ := hv
    simp only [List.mem_cons, List.not_mem_nil, or_false] at hv
    rcases hv with rfl | rfl <;> rfl
   rintro ⟨s', w1⟩ ⟨h1, h2, _⟩
   try dsimp only at *
   simp only [Nat.zero_add, List.nil_append] at h1
   simp (disch := first | omega | (simp only [World.size_alloc, size_setRow, Ac]; done) | (simp only [World.size_alloc, size_setRow, Ac]; omega) | (simp only [List.length_set, Array.length_toList]; omega)) [-Option.bind_some]
   exact ⟨⟨h1, hm⟩, Ext.VJ (b := w.alloc _) (by (repeat (first | exact Ext.rfl | assumption | (refine Ext.al ?_ _) | (refine Ext.dw ?_) | (refine Ext.set ?_ (by first | omega | (simp only [World.size_alloc, size_setRow, Ac]; omega)) _) | (refine Ext.tr ?_ (by assumption))))) h2 fun x hx => by simp only [Ax, Option.some.injEq] at hx; omega⟩
theorem Je {B : Nat} {s : Value} {xs : List Tag} {w : World} (hf : BK 36 B w s xs) : Ag (EV P 68 #[s] w) fun r => r.2 = w ∧ BK 36 B w r.1 xs := by
 obtain ⟨⟨hl, hn, ho⟩, hm⟩ := hf
 refine Ag.enter plain mixed (H9 _ _) (by kernel_rfl) (n := 1) (by kernel_rfl) rfl ?_
 rcases ho with ⟨rfl, h0⟩ | ⟨g, cap, cur, rfl, hg, hh, hc, hcm, hsz, ht⟩
 ·simp (disch := first | omega | (simp only [World.size_alloc, size_setRow, Ac]; done) | (simp only [World.size_alloc, size_setRow, Ac]; omega) | (simp only [List.length_set, Array.length_toList]; omega)) [-Option.bind_some, SL (P := P) CD]
  have hx : xs = [] := List.eq_nil_of_length_eq_zero h0
  subst hx
  exact ⟨IC.nil _ _ _ _, by simp⟩
 ·simp (disch := first | omega | (simp only [World.size_alloc, size_setRow, Ac]; done) | (simp only [World.size_alloc, size_setRow, Ac]; omega) | (simp only [List.length_set, Array.length_toList]; omega)) [-Option.bind_some, SL (P := P) CD]
  exact ⟨⟨hl, hn, .inr ⟨g, xs.length, cur, rfl, hg, hh, by omega, by omega, by omega, ht⟩⟩, hm⟩
theorem Iy {s : Value} {xs : List Tag} {w : World} (ha : AM w s xs) : Ag (EV P 36 #[.agg #[s]] w) fun r => ∃ s', r.1 = .agg #[s'] ∧ BK 36 w.heap.size r.2 s' xs ∧ Ext w r.2 := by
 have ha' := ha
 obtain ⟨aa, ca, hs, hm⟩ := ha.len
 subst hs
 refine Ag.enter plain mixed (Ht _ _) (by kernel_rfl) (n := 1) (by kernel_rfl) rfl ?_
 simp (disch := first | omega | (simp only [World.size_alloc, size_setRow, Ac]; done) | (simp only [World.size_alloc, size_setRow, Ac]; omega) | (simp only [List.length_set, Array.length_toList]; omega)) [-Option.bind_some, Ae, Af]
 refine Ag.bind (Ix (ha'.mono (Ext.Ak (by (repeat (first | exact Ext.rfl | assumption | (refine Ext.al ?_ _) | (refine Ext.dw ?_) | (refine Ext.set ?_ (by first | omega | (simp only [World.size_alloc, size_setRow, Ac]; omega)) _) | (refine Ext.tr ?_ (by assumption)))))))) ?_
 rintro ⟨s1, w1⟩ ⟨hf, hE⟩
 try dsimp only at *
 have z1 := hE.size
 simp only [World.size_alloc] at z1 hf
 refine Ag.bind (Je hf) ?_
 rintro ⟨s2, w2⟩ ⟨rfl, hf2⟩
 try dsimp only at *
 obtain ⟨a2, c2, hs2, _⟩ := hf2.r.len
 subst hs2
 have X2 := (hE.Ah (b := w.heap.size + 1) (by simp)).trans (Af (by simp))
 simp (disch := first | omega | (simp only [World.size_alloc, size_setRow, Ac]; done) | (simp only [World.size_alloc, size_setRow, Ac]; omega) | (simp only [List.length_set, Array.length_toList]; omega)) [-Option.bind_some, X2]
 refine ⟨(hf2.Ak fun b hb => ?_).from (by omega), by (repeat (first | exact Ext.rfl | assumption | (refine Ext.al ?_ _) | (refine Ext.dw ?_) | (refine Ext.set ?_ (by first | omega | (simp only [World.size_alloc, size_setRow, Ac]; omega)) _) | (refine Ext.tr ?_ (by assumption))))⟩
 have := (hf2.lt b hb).1
 exact Ad (by omega)
theorem Jf {s u : Value} {xs ys : List Tag} {w : World} (ha : AM w s xs) (hb : AM w u ys) : Ag (EV P 19 #[.agg #[s], .agg #[u]] w) fun r => r.1 = .bool (BS xs && BS ys && under xs ys) ∧ Ext w r.2 := by
 have ha' := ha
 have hb' := hb
 obtain ⟨aa, ca, hs, hm⟩ := ha.len
 obtain ⟨ab, cb, hu, _⟩ := hb.len
 subst hs
 subst hu
 refine Ag.enter plain mixed (H2 _ _ _) (by kernel_rfl) (n := 2) (by kernel_rfl) rfl ?_
 simp (disch := first | omega | (simp only [World.size_alloc, size_setRow, Ac]; done) | (simp only [World.size_alloc, size_setRow, Ac]; omega) | (simp only [List.length_set, Array.length_toList]; omega)) [-Option.bind_some, Ae, Af, Ad]
 refine Ag.bind (FL (ha'.mono (Ext.Ak (by (repeat (first | exact Ext.rfl | assumption | (refine Ext.al ?_ _) | (refine Ext.dw ?_) | (refine Ext.set ?_ (by first | omega | (simp only [World.size_alloc, size_setRow, Ac]; omega)) _) | (refine Ext.tr ?_ (by assumption)))))))) ?_
 rintro ⟨_, w1⟩ ⟨rfl, hE⟩
 try dsimp only at *
 have E1 : Ext w w1 := Ext.tr (by (repeat (first | exact Ext.rfl | assumption | (refine Ext.al ?_ _) | (refine Ext.dw ?_) | (refine Ext.set ?_ (by first | omega | (simp only [World.size_alloc, size_setRow, Ac]; omega)) _) | (refine Ext.tr ?_ (by assumption))))) hE
 have X1 := (hE.Ah (b := w.heap.size) (by simp only [World.size_alloc]; omega)).trans ((Ae (by simp)).trans (Af rfl))
 have Y1 := (hE.Ah (b := w.heap.size + 1) (by simp)).trans (Af (by simp))
 cases hp : BS xs
 ·simp (disch := first | omega | (simp only [World.size_alloc, size_setRow, Ac]; done) | (simp only [World.size_alloc, size_setRow, Ac]; omega) | (simp only [List.length_set, Array.length_toList]; omega)) [-Option.bind_some, Ae, Af, Ad, hp]
  exact E1
 simp (disch := first | omega | (simp only [World.size_alloc, size_setRow, Ac]; done) | (simp only [World.size_alloc, size_setRow, Ac]; omega) | (simp only [List.length_set, Array.length_toList]; omega)) [-Option.bind_some, Ae, Af, Ad, hp, Y1]
 refine Ag.bind (FL (hb'.mono (Ext.Ak E1))) ?_
 rintro ⟨_, w2⟩ ⟨rfl, hE2⟩
 try dsimp only at *
 have X2 := (hE2.Ah (Aq X1)).trans X1
 have Y2 := (hE2.Ah (Aq Y1)).trans Y1
 cases hq : BS ys
 ·simp (disch := first | omega | (simp only [World.size_alloc, size_setRow, Ac]; done) | (simp only [World.size_alloc, size_setRow, Ac]; omega) | (simp only [List.length_set, Array.length_toList]; omega)) [-Option.bind_some, Ae, Af, Ad, hq]
  exact E1.tr hE2
 simp (disch := first | omega | (simp only [World.size_alloc, size_setRow, Ac]; done) | (simp only [World.size_alloc, size_setRow, Ac]; omega) | (simp only [List.length_set, Array.length_toList]; omega)) [-Option.bind_some, Ae, Af, Ad, hq, X2, Y2]
 refine Ag.bind (FA (by rw [LU hp, LU hq]) (ha'.mono (Ext.Ak (E1.tr hE2))) (hb'.mono (Ext.Ak (E1.tr hE2)))) ?_
 rintro ⟨_, w3⟩ ⟨rfl, hE3⟩
 try dsimp only at *
 simp (disch := first | omega | (simp only [World.size_alloc, size_setRow, Ac]; done) | (simp only [World.size_alloc, size_setRow, Ac]; omega) | (simp only [List.length_set, Array.length_toList]; omega)) [-Option.bind_some, Ae, Af, Ad]
 exact (E1.tr hE2).tr hE3
end Go.Proofs.YtjhhommnkaemlaaGreat.X
set_option maxHeartbeats 1000000
namespace Go.Proofs.YtjhhommnkaemlaaGreat.X
open Go Go.Ev Go.RowKit
abbrev Bj : Lay (List Tag) := Gc 36
abbrev Bz : Lay Ver := KF 36
abbrev AB : Lay (List Ver) := EP 36 49
theorem At.new {w : World} {cs : List Value} {E : TypeId} : At (w.alloc (.cells cs.toArray E)) w.heap.size 0 cs := by
 intro j v hv
 rw [Af rfl, Bt, ← CX, Nat.zero_add]
 simpa using hv
theorem Iz {a : Option Addr} {n c : Nat} {S : Nat → Prop} {xs : List Tag} {w : World} (ha : D Bj S w [.slice a n c] xs) :
  Ag (EV P 36 #[.agg #[.slice a n c]] w) fun r => ∃ a' c', r.1 = .agg #[.slice a' xs.length c'] ∧ O Bj (In w.heap.size r.2.heap.size) r.2 [.slice a' xs.length c'] xs ∧ Ext w r.2 := by
 refine Ag.mono (Iy ha.AM) ?_
 rintro ⟨_, w1⟩ ⟨s, rfl, h1, h2⟩
 obtain ⟨a', c', rfl, h3⟩ := Sr h1
 exact ⟨a', c', rfl, h3, h2⟩
theorem FC {S : Nat → Prop} {cs : List Value} {v : Ver} {w : World} (ha : D Bz S w cs v) :
  Ag (EV P 52 #[.agg cs.toArray] w) fun r => ∃ ds, r.1 = .agg ds.toArray ∧ O Bz (In w.heap.size r.2.heap.size) r.2 ds v ∧ Ext w r.2 := by
 obtain ⟨a, c, rfl, h1, h2⟩ := D.Bv.1 ha
 refine Ag.enter plain mixed (H8 _ _) (by kernel_rfl) (n := 1) (by kernel_rfl) rfl ?_
 simp (disch := first | exact xD | fail) [-Option.bind_some, qs]
 refine Ag.bind (Iz (h1.ext xE)) ?_
 rintro ⟨_, w1⟩ ⟨a1, c1, rfl, o1, E1⟩
 try dsimp only at a1 c1 o1 E1
 have zE1 := E1.size
 try simp only [qz] at zE1
 simp (disch := first | exact xD | fail) [-Option.bind_some, qs, E1.Ah]
 refine ⟨(O.Bv.2 ⟨a1, c1, rfl, o1.Ak (by intro b hS hb; (try dsimp only at hS); (try simp only [In, qz] at hS hb); first | rfl | (simp (disch := first | exact xF | fail) only [E1.Ah, qk]; done)), h2⟩).wide ?_, xE⟩
 intro b hS hb
 simp only [In, World.size_alloc, size_setRow] at *
 omega
theorem IA {a : Option Addr} {c : Nat} {S : Nat → Prop} {xs : List Ver} {w0 : World} :
  ∀ (d k : Nat) (e : Env) (w : World) (a3 : Option Addr) (c3 : Nat), k + d = xs.length → e 3 = .slice a3 k c3 → e 9 = .slice a xs.length c → e 10 = i64 xs.length → e 11 = i64 k → D AB S w0 [.slice a xs.length c] xs → Ext w0 w →
  O AB (In w0.heap.size w.heap.size) w [.slice a3 k c3] (xs.take k) →
  Ag (BX e w) fun r => ∃ a' c', r.1 = .slice a' xs.length c' ∧ O AB (In w0.heap.size r.2.heap.size) r.2 [.slice a' xs.length c'] xs ∧ Ext w0 r.2 := by
 intro d
 induction d with
 | zero =>
  intro k e w a3 c3 hd e3 e9 e10 e11 ha E0 ho
  have zE0 := E0.size
  try simp only [qz] at zE0
  rw [DL]
  obtain rfl : k = xs.length := by omega
  rw [List.take_length] at ho
  simp (disch := first | exact xD | fail) [-Option.bind_some, qs, e3, e9, e10, e11, E0.Ah]
  exact ⟨_, _, ⟨rfl, rfl⟩, ho, E0⟩
 | succ d ih =>
  intro k e w a3 c3 hd e3 e9 e10 e11 ha E0 ho
  have zE0 := E0.size
  try simp only [qz] at zE0
  rw [DL]
  have hlt : k < xs.length := by omega
  obtain ⟨x, hx, _⟩ := Am hlt
  have hn := ha.n
  obtain ⟨b1, o1, cs1, rfl, A1, D1, _, l1⟩ := (ha.ext E0).at (by decide) hx
  obtain ⟨a2, c2, rfl, hp2, ht⟩ := D.Bv.1 D1
  have p0 := A1 0 _ rfl
  have p1 := A1 1 _ rfl
  have p2 := A1 2 _ rfl
  have p3 := A1 3 _ rfl
  have p4 := A1 4 _ rfl
  have p5 := A1 5 _ rfl
  simp only [AX, Cs, AO, Nat.add_zero] at p0 p1 p2 p3 p4 p5
  have htk : (xs.take k).length = k := by rw [List.length_take]; omega
  simp (disch := first | exact xD | fail) [-Option.bind_some, qs, AW, e3, e9, e10, e11, E0.Ah, hlt, p0, p1, p2, p3, p4, p5]
  refine Ag.bind (FC (D1.ext xE)) ?_
  rintro ⟨_, w1⟩ ⟨ds, rfl, o2, E1⟩
  try dsimp only at ds o2 E1
  have zE1 := E1.size
  try simp only [qz] at zE1
  have zds := O.Bv.1 o2
  obtain ⟨a4, c4, rfl, _, _⟩ := zds
  simp (disch := first | exact xD | fail) [-Option.bind_some, qs, e3, e9, e10, e11, E0.Ah, hlt, p0, p1, p2, p3, p4, p5, E1.Ah]
  refine Ag.bind (O.app (mx := 1954687338211) Cj Ed rfl (by decide) (ho.Ak (by intro b hS hb; (try dsimp only at hS); (try simp only [In, qz] at hS hb); first | rfl | (simp (disch := first | exact xF | fail) only [E0.Ah, E1.Ah, qk]; done))) (o2.Ak (by intro b hS hb; (try dsimp only at hS); (try simp only [In, qz] at hS hb); first | rfl | (simp (disch := first | exact xF | fail) only [E0.Ah, E1.Ah, qk]; done))) (by intro b hb h1 h2; simp only [In, World.size_alloc, size_setRow] at *; omega) At.new (by omega) (by decide) (by decide)) ?_
  rintro ⟨_, w2⟩ ⟨a5, c5, rfl, o3, M2⟩
  have zM2 := M2.size
  try simp only [qz] at zM2
  try dsimp only at o3 M2
  have zM2 := M2.size
  simp only [World.size_alloc, size_setRow] at zM2
  rw [htk, ← FE hx] at o3
  rw [htk]
  simp (disch := first | exact xD | fail) [-Option.bind_some, qs, e3, e9, e10, e11, E0.Ah, hlt, p0, p1, p2, p3, p4, p5, E1.Ah, M2.Ah]
  refine Ag.mono (ih (k + 1) _ _ a5 c5 (by omega) xA xA xA xA ha ?_ (o3.wide ?_)) fun _ h => h
  ·exact Mod.after (E0.tr xE) M2 (by intro x hx h; simp only [In] at h; omega)
  ·intro b h1 h2
   simp only [In, World.size_alloc, size_setRow] at *
   omega
theorem Jg {a : Option Addr} {n c : Nat} {S : Nat → Prop} {xs : List Ver} {w : World} (ha : D AB S w [.slice a n c] xs) :
  Ag (EV P 85 #[.slice a n c] w) fun r => ∃ a' c', r.1 = .slice a' xs.length c' ∧ O AB (In w.heap.size r.2.heap.size) r.2 [.slice a' xs.length c'] xs ∧ Ext w r.2 := by
 obtain ⟨rfl, hm, _⟩ := ha.n
 refine Ag.enter plain mixed (Ic _ _) (by kernel_rfl) (n := 1) (by kernel_rfl) rfl ?_
 simp (disch := first | exact xD | fail) [-Option.bind_some, qs]
 refine Ag.bind (O.Uy (L := Bz) (mx := 1954687338211) Cj Ed rfl (by decide) hm (by decide) (by decide)) ?_
 rintro ⟨_, w1⟩ ⟨rfl, o1, z1, E1⟩
 have zE1 := E1.size
 try simp only [qz] at zE1
 dsimp only at o1 z1 E1
 simp (disch := first | exact xD | fail) [-Option.bind_some, qs, E1.Ah]
 exact IA xs.length 0 _ w1 _ _ (by omega) rfl rfl rfl rfl ha E1 (o1.wide (by intro b h1 h2; simp only [In]; omega))
theorem HJ {a : Option Addr} {n c : Nat} {S : Nat → Prop} {xs : List Ver} {w : World} (ha : D AB S w [.slice a n c] xs) :
  Ag (EV P 51 #[.agg #[.slice a n c]] w) fun r => ∃ a' c', r.1 = .agg #[.slice a' xs.length c'] ∧ O AB (In w.heap.size r.2.heap.size) r.2 [.slice a' xs.length c'] xs ∧ Ext w r.2 := by
 obtain ⟨rfl, hm, _⟩ := ha.n
 refine Ag.enter plain mixed (GH _ _) (by kernel_rfl) (n := 1) (by kernel_rfl) rfl ?_
 simp (disch := first | exact xD | fail) [-Option.bind_some, qs]
 refine Ag.bind (Jg (ha.ext xE)) ?_
 rintro ⟨_, w1⟩ ⟨a1, c1, rfl, o1, E1⟩
 try dsimp only at a1 c1 o1 E1
 have zE1 := E1.size
 try simp only [qz] at zE1
 simp (disch := first | exact xD | fail) [-Option.bind_some, qs, E1.Ah]
 exact ⟨_, _, ⟨rfl, rfl⟩, (o1.Ak (by intro b hS hb; (try dsimp only at hS); (try simp only [In, qz] at hS hb); first | rfl | (simp (disch := first | exact xF | fail) only [E1.Ah, qk]; done))).wide (by intro b h1 h2; simp only [In, World.size_alloc, size_setRow] at *; omega), xE⟩
theorem AZ {S : Nat → Prop} {cs : List Value} {v : Ver} {w : World} (ha : D Bz S w cs v) :
  Ag (EV P 98 #[.agg cs.toArray] w) fun r => ∃ ds, r.1 = .agg ds.toArray ∧ O Bz (In w.heap.size r.2.heap.size) r.2 ds v ∧ Ext w r.2 := by
 obtain ⟨a, c, rfl, h1, h2⟩ := D.Bv.1 ha
 have hn := h1.n
 refine Ag.enter plain mixed (La _ _) (by kernel_rfl) (n := 1) (by kernel_rfl) rfl ?_
 simp (disch := first | exact xD | fail) [-Option.bind_some, qs]
 refine Ag.bind (O.KG (L := EN) (mx := 8796093021952) Cb CD Gt rfl (by decide) (O.empty (g := w.heap.size + 1 + 1) (by first | assumption | rfl | (simp (disch := first | exact xD | fail) [-Option.bind_some, qs]; done))) (h1.ext xE) (by simp; omega) (by decide) (by decide)) ?_
 rintro ⟨_, w1⟩ ⟨a1, c1, rfl, o1, M1⟩
 have zM1 := M1.size
 try simp only [qz] at zM1
 dsimp only at o1 M1
 have zM1 := M1.size
 simp only [World.size_alloc, List.nil_append, List.length_nil, Nat.zero_add] at o1 zM1
 have X1 := M1.Ah w.heap.size (by simp only [World.size_alloc]; omega) (by omega)
 have X2 := M1.Ah (w.heap.size + 1) (by simp only [World.size_alloc]; omega) (by omega)
 simp (disch := first | exact xD | fail) [-Option.bind_some, qs, M1.Ah]
 refine ⟨(O.Bv.2 ⟨a1, c1, rfl, o1.Ak (by intro b hS hb; (try dsimp only at hS); (try simp only [In, qz] at hS hb); first | rfl | (simp (disch := first | exact xF | fail) only [qk]; done)), h2⟩).wide xV, ?_⟩
 exact Ext.set (Ext.set (Mod.after (a := w) xE M1 (by intro x hx h; omega)) (by omega) _) (by omega) _
theorem HK {a : Option Addr} {c g1 g2 g3 : Nat} {S : Nat → Prop} {xs : List Ver} {w0 : World} (h12 : g1 < g3) (h32 : g2 < g3) (h03 : w0.heap.size ≤ g1) (h02 : w0.heap.size ≤ g2) (hne : g1 ≠ g2) :
  ∀ (d k : Nat) (e : Env) (w : World) (a3 : Option Addr) (c3 : Nat) (sv : Value), k + d = xs.length → e 1 = pt g1 0 → e 2 = pt g2 0 → e 3 = pt g3 0 → e 4 = i64 k → hp w g1 = some (.cells #[.slice a xs.length c] 44 (0, 0)) → hp w g2 = some (.cells #[sv] 44 (0, 0)) → hp w g3 = some (.cells #[.slice a3 k c3] 44 (0, 0)) →
  D AB S w0 [.slice a xs.length c] xs → Ext w0 w → O AB (In (g3 + 1) w.heap.size) w [.slice a3 k c3] (xs.take k) →
  Ag (BN e w) fun r => ∃ a' c', r.1 = .agg #[.slice a' xs.length c'] ∧ O AB (In (g3 + 1) r.2.heap.size) r.2 [.slice a' xs.length c'] xs ∧ Ext w0 r.2 := by
 intro d
 induction d with
 | zero =>
  intro k e w a3 c3 sv hd e1 e2 e3 e4 X1 X2 X3 ha E0 ho
  have zE0 := E0.size
  try simp only [qz] at zE0
  rw [DE]
  obtain rfl : k = xs.length := by omega
  rw [List.take_length] at ho
  simp (disch := first | exact xD | fail) [-Option.bind_some, e1, e2, e3, e4, X1, X2, X3]
  exact ⟨_, _, ⟨rfl, rfl⟩, ho.Ak (by intro b hS hb; (try dsimp only at hS); (try simp only [In] at hS hb); first | rfl | (simp (disch := first | exact xF | fail) only [qk]; done)), xE⟩
 | succ d ih =>
  intro k e w a3 c3 sv hd e1 e2 e3 e4 X1 X2 X3 ha E0 ho
  have zE0 := E0.size
  try simp only [qz] at zE0
  rw [DE]
  have hlt : k < xs.length := by omega
  obtain ⟨x, hx, _⟩ := Am hlt
  have hn := ha.n
  obtain ⟨b1, o1, cs1, rfl, A1, D1, _, l1⟩ := (ha.ext E0).at (by decide) hx
  obtain ⟨a2, c2, rfl, hp2, ht⟩ := D.Bv.1 D1
  have p0 := A1 0 _ rfl
  have p1 := A1 1 _ rfl
  have p2 := A1 2 _ rfl
  have p3 := A1 3 _ rfl
  have p4 := A1 4 _ rfl
  have p5 := A1 5 _ rfl
  simp only [AX, Nat.add_zero] at p0 p1 p2 p3 p4 p5
  have htk : (xs.take k).length = k := by rw [List.length_take]; omega
  have y1 := Aq X1
  have y2 := Aq X2
  have y3 := Aq X3
  simp (disch := first | exact xD | fail) [-Option.bind_some, qs, AW, e1, e3, e4, X1, X3, hlt, p0, p1, p2, p3, p4, p5]
  refine Ag.bind (AZ (D1.ext xE)) ?_
  rintro ⟨_, w1⟩ ⟨ds, rfl, o2, E1⟩
  try dsimp only at ds o2 E1
  have zE1 := E1.size
  try simp only [qz] at zE1
  have zds := O.Bv.1 o2
  obtain ⟨a4, c4, rfl, _, _⟩ := zds
  simp (disch := first | exact xD | fail) [-Option.bind_some, qs, X3, E1.Ah]
  refine Ag.bind (O.app (L := Bz) (mx := 1954687338211) Cj Ed rfl (by decide) (ho.Ak (by intro b hS hb; (try dsimp only at hS); (try simp only [In] at hS hb); first | rfl | (simp (disch := first | exact xF | fail) only [E1.Ah, qk]; done))) (o2.Ak (by intro b hS hb; (try dsimp only at hS); (try simp only [In, qz] at hS hb); first | rfl | (simp (disch := first | exact xF | fail) only [qk]; done))) (by intro b hb h1 h2; simp only [In, World.size_alloc, Ac] at *; omega) At.new (by omega) (by decide) (by decide)) ?_
  rintro ⟨_, w2⟩ ⟨a5, c5, rfl, o3, M2⟩
  have zM2 := M2.size
  try simp only [qz] at zM2
  try dsimp only at o3 M2
  have zM2 := M2.size
  simp only [World.size_alloc] at zM2
  rw [htk, ← FE hx] at o3
  rw [htk]
  have Y1 : hp w2 g1 = hp w g1 := (M2.Ah g1 (by simp only [World.size_alloc]; omega) (by simp only [In]; omega)).trans (by first | assumption | rfl | (simp (disch := first | exact xD | fail) [-Option.bind_some, qs, X1, E1.Ah]; done))
  have Y2 : hp w2 g2 = hp w g2 := (M2.Ah g2 (by simp only [World.size_alloc]; omega) (by simp only [In]; omega)).trans (by first | assumption | rfl | (simp (disch := first | exact xD | fail) [-Option.bind_some, qs, X2, E1.Ah]; done))
  have Y3 : hp w2 g3 = hp w g3 := (M2.Ah g3 (by simp only [World.size_alloc]; omega) (by simp only [In]; omega)).trans (by first | assumption | rfl | (simp (disch := first | exact xD | fail) [-Option.bind_some, qs, X3, E1.Ah]; done))
  simp (disch := first | exact xD | fail) [-Option.bind_some, Y3, X3]
  have E3 : Ext w0 w2 := Mod.after (E0.tr xE) M2 (by intro x hx h; simp only [In] at h; omega)
  have zE3 := E3.size
  try simp only [qz] at zE3
  refine Ag.mono (ih (k + 1) _ _ a5 c5 sv (by omega) xA xA xA xA (by first | assumption | rfl | (simp (disch := first | exact xD | fail) [-Option.bind_some, qs, Y1, X1]; done)) (by first | assumption | rfl | (simp (disch := first | exact xD | fail) [-Option.bind_some, qs, Y2, X2]; done)) (by first | assumption | rfl | (simp (disch := first | exact xD | fail) [-Option.bind_some, Y3, X3]; done)) ha xE (((o3.wide ?_).Ak (S := In (g3 + 1) w2.heap.size) (by intro b hS hb; (try dsimp only at hS); (try simp only [In] at hS hb); first | rfl | (simp (disch := first | exact xF | fail) only [qk]; done))).wide ?_)) fun _ h => h
  ·intro b h1 h2
   simp only [In, World.size_alloc, Ac] at *
   omega
  ·intro b h1 h2
   simp only [In, size_setRow] at *
   omega
theorem EL {a : Option Addr} {n c : Nat} {S : Nat → Prop} {xs : List Ver} {w : World} (ha : D AB S w [.slice a n c] xs) :
  Ag (EV P 119 #[.agg #[.slice a n c]] w) fun r => ∃ a' c', r.1 = .agg #[.slice a' xs.length c'] ∧ O AB (In w.heap.size r.2.heap.size) r.2 [.slice a' xs.length c'] xs ∧ Ext w r.2 := by
 obtain ⟨rfl, hm, _⟩ := ha.n
 refine Ag.enter plain mixed (HG _ _) (by kernel_rfl) (n := 1) (by kernel_rfl) rfl ?_
 simp (disch := first | exact xD | fail) [-Option.bind_some, qs]
 refine Ag.mono (HK (g1 := w.heap.size) (g2 := w.heap.size + 1) (g3 := w.heap.size + 2) (w0 := w) (by omega) (by omega) (by omega) (by omega) (by omega) xs.length 0 _ _ _ _ (.slice none 0 0) (by omega) rfl rfl rfl rfl (by first | assumption | rfl | (simp (disch := first | exact xD | fail) [-Option.bind_some, qs]; done)) (by first | assumption | rfl | (simp (disch := first | exact xD | fail) [-Option.bind_some, qs]; done)) (by first | assumption | rfl | (simp (disch := first | exact xD | fail) [-Option.bind_some, qs]; done)) ha xE O.nil) ?_
 rintro ⟨_, w1⟩ ⟨a1, c1, rfl, o1, E1⟩
 have zE1 := E1.size
 try simp only [] at zE1
 exact ⟨a1, c1, rfl, o1.wide xV, E1⟩
theorem Jh {a : Option Addr} {n c : Nat} {S S1 : Nat → Prop} {xs : List Ver} {cs : List Value} {v : Ver} {w : World} (ho : O AB S w [.slice a n c] xs) (hv : D Bz S1 w cs v) (h0 : 0 ≤ v.key) (h1 : v.key.toNat < xs.length) :
  Ag (EV P 102 #[.agg #[.slice a n c], .agg cs.toArray] w) fun r => r.1 = .agg #[.slice a xs.length c] ∧ O AB (fun b => S b ∨ In w.heap.size r.2.heap.size b) r.2 [.slice a xs.length c] (DI xs v) ∧ Mod S w r.2 := by
 obtain ⟨rfl, hm, _⟩ := ho.n
 obtain ⟨av, cv, rfl, hv1, hv2⟩ := D.Bv.1 hv
 obtain ⟨u, hu, _⟩ := Am h1
 obtain ⟨g, cur, ds, S2, rfl, hSg, hgl, hg, hle, hx1, hS2, put⟩ := ho.row (by decide) hu
 obtain ⟨au, cu, rfl, hu1, hu2⟩ := O.Bv.1 hx1
 simp only [AX] at hg hle put
 have hk : v.key < xs.length := by omega
 refine Ag.enter plain mixed (Mq _ _ _) (by kernel_rfl) (n := 2) (by kernel_rfl) rfl ?_
 simp (disch := first | exact xD | fail) [-Option.bind_some, qs, -Aa, -Ab, qm, AW, hg]
 refine Ag.bind (AN u.tag v.tag _) ?_
 rintro ⟨_, w1⟩ ⟨rfl, E1⟩
 try dsimp only at E1
 have zE1 := E1.size
 try simp only [qz] at zE1
 cases hl : AH u.tag v.tag
 ·rw [Ps hu hl]
  simp (disch := first | exact xD | fail) [-Option.bind_some, qs, -Aa, -Ab, qm, FX, E1.Ah]
  exact ⟨(ho.Ak (by intro b hS hb; (try dsimp only at hS); (try simp only [In, qz] at hS hb); first | rfl | (simp (disch := first | exact xF | fail) only [E1.Ah, qk]; done))).wide (fun b h _ => .inl h), xM⟩
 ·rw [L7 hu hl]
  simp (disch := first | exact xD | fail) [-Option.bind_some, qs, -Aa, -Ab, AW, E1.Ah]
  refine Ag.bind (AZ (hv.ext xE)) ?_
  rintro ⟨_, w2⟩ ⟨es, rfl, o2, E2⟩
  try dsimp only at es o2 E2
  have zE2 := E2.size
  try simp only [qz] at zE2
  have zds := O.Bv.1 o2
  obtain ⟨ae, ce, rfl, _, _⟩ := zds
  simp (disch := first | exact xD | fail) [-Option.bind_some, qs, -Aa, -Ab, qm, FX, hg, E1.Ah, E2.Ah]
  refine ⟨(put _ _ v _ (o2.Ak (by intro b hS hb; (try dsimp only at hS); (try simp only [In, qz] at hS hb); first | rfl | (simp (disch := first | exact xF | fail) only [qk]; done))) (by first | assumption | rfl | (simp (disch := first | exact xD | fail) [-Option.bind_some, qs, -Aa, -Ab, hg, E1.Ah, E2.Ah]; done)) (by intro b _ _ _ _; first | rfl | (simp (disch := first | exact xF | fail) only [E1.Ah, E2.Ah, qk]; done)) ?_).wide ?_, xM⟩
  ·intro b h1 h2
   simp only [In, size_setRow, Ac] at *
   right
   omega
  ·intro b h1 h2
   simp only [In, size_setRow, Ac] at *
   exact h1.imp id (by omega)
def BB (xs ys : List Ver) : List Ver := if Bd xs && Bd ys then CR xs ys else []
theorem Ji {a4 a5 : Option Addr} {c4 c5 g4 g5 B : Nat} {S1 : Nat → Prop} {xs ys : List Ver} {w0 : World} (h4 : g4 < B) (h5 : B ≤ g5) (h04 : w0.heap.size ≤ g4) :
  ∀ (d k : Nat) (e : Env) (w : World) (sv : Value), k + d = ys.length → xs.length = ys.length → e 4 = pt g4 0 → e 5 = pt g5 0 → e 20 = .slice a4 ys.length c4 → e 21 = i64 ys.length → e 22 = i64 k → hp w g4 = some (.cells #[sv] 44 (0, 0)) → hp w g5 = some (.cells #[.slice a5 xs.length c5] 44 (0, 0)) →
  D AB S1 w0 [.slice a4 ys.length c4] ys → Ext w0 w → O AB (fun b => In B w.heap.size b ∧ b ≠ g5) w [.slice a5 xs.length c5] (Gx xs ys k) →
  Ag (Ce e w) fun r => r.1 = .agg #[.slice a5 xs.length c5] ∧ O AB (In B r.2.heap.size) r.2 [.slice a5 xs.length c5] (CR xs ys) ∧ Ext w0 r.2 := by
 intro d
 induction d with
 | zero =>
  intro k e w sv hd hxy e4 e5 e20 e21 e22 X4 X5 ha E0 ho
  have zE0 := E0.size
  try simp only [qz] at zE0
  rw [DZ]
  obtain rfl : k = ys.length := by omega
  rw [Qw hxy (by omega)] at ho
  simp (disch := first | exact xD | fail) [-Option.bind_some, qs, e4, e5, e20, e21, e22, X4, X5, E0.Ah]
  exact ⟨(ho.Ak (by intro b hS hb; (try dsimp only at hS); (try simp only [In, qz] at hS hb); first | rfl | (simp (disch := first | exact xF | fail) only [E0.Ah, qk]; done))).wide xV, xE⟩
 | succ d ih =>
  intro k e w sv hd hxy e4 e5 e20 e21 e22 X4 X5 ha E0 ho
  have zE0 := E0.size
  try simp only [qz] at zE0
  rw [DZ]
  have hlt : k < ys.length := by omega
  have hlt2 : k < xs.length := by omega
  obtain ⟨x, hx, _⟩ := Am hlt2
  obtain ⟨y, hy, _⟩ := Am hlt
  have hn := ha.n
  have y4 := Aq X4
  have y5 := Aq X5
  obtain ⟨b1, o1, cs1, rfl, A1, D1, _, l1⟩ := (ha.ext E0).at (by decide) hy
  obtain ⟨a2, c2, rfl, hp2, ht⟩ := D.Bv.1 D1
  have p0 := A1 0 _ rfl
  have p1 := A1 1 _ rfl
  have p2 := A1 2 _ rfl
  have p3 := A1 3 _ rfl
  have p4 := A1 4 _ rfl
  have p5 := A1 5 _ rfl
  simp only [AX, Cs, AO, Nat.add_zero] at p0 p1 p2 p3 p4 p5
  have hjk := Np hxy hx
  obtain ⟨b2, o2, cs2, hb2, A2, D2, _, l2⟩ := ho.d.at (by decide) hjk
  subst hb2
  obtain ⟨a3, c3, rfl, hp3, ht3⟩ := D.Bv.1 D2
  have q0 := A2 0 _ rfl
  have q1 := A2 1 _ rfl
  have q2 := A2 2 _ rfl
  have q3 := A2 3 _ rfl
  have q4 := A2 4 _ rfl
  have q5 := A2 5 _ rfl
  simp only [AX, Cs, AO, Nat.add_zero] at q0 q1 q2 q3 q4 q5
  simp (disch := first | exact xD | fail) [-Option.bind_some, qs, AW, e4, e5, e20, e21, e22, X4, X5, E0.Ah, hlt, hlt2, p0, p1, p2, p3, p4, p5, q0, q1, q2, q3, q4, q5]
  refine Ag.bind (G7 x.tag y.tag _) ?_
  rintro ⟨_, w1⟩ ⟨rfl, E1⟩
  try dsimp only at E1
  have zE1 := E1.size
  try simp only [qz] at zE1
  cases hl : AH x.tag y.tag
  ·rw [← Pv hxy hx hy hl] at ho
   simp (disch := first | exact xD | fail) [-Option.bind_some, qs, D8, e4, e5, e20, e21, e22, X4, X5, E0.Ah, hlt, hlt2, p0, p1, p2, p3, p4, p5, q0, q1, q2, q3, q4, q5, E1.Ah]
   refine Ag.mono (ih (k + 1) _ _ sv (by omega) hxy xA xA xA xA xA (by first | assumption | rfl | (simp (disch := first | exact xD | fail) [-Option.bind_some, qs, e4, e5, e20, e21, e22, X4, X5, E0.Ah, hlt, hlt2, p0, p1, p2, p3, p4, p5, q0, q1, q2, q3, q4, q5, E1.Ah]; done)) (by first | assumption | rfl | (simp (disch := first | exact xD | fail) [-Option.bind_some, qs, e4, e5, e20, e21, e22, X4, X5, E0.Ah, hlt, hlt2, p0, p1, p2, p3, p4, p5, q0, q1, q2, q3, q4, q5, E1.Ah]; done)) ha xE ((ho.Ak (by intro b hS hb; (try dsimp only at hS); (try simp only [In, qz] at hS hb); first | rfl | (simp (disch := first | exact xF | fail) only [E0.Ah, E1.Ah, qk]; done))).wide ?_)) fun _ h => h
   intro b h1 h2
   simp only [In, World.size_alloc, size_setRow, Ac] at *
   omega
  ·simp (disch := first | exact xD | fail) [-Option.bind_some, qs, e4, e5, e20, e21, e22, X4, X5, E0.Ah, hlt, hlt2, p0, p1, p2, p3, p4, p5, q0, q1, q2, q3, q4, q5, E1.Ah]
   refine Ag.bind (FC (D1.ext xE)) ?_
   rintro ⟨_, w2⟩ ⟨es, rfl, oe, E2⟩
   try dsimp only at es oe E2
   have zE2 := E2.size
   try simp only [qz] at zE2
   have zds := O.Bv.1 oe
   obtain ⟨ae, ce, rfl, _, _⟩ := zds
   obtain ⟨g, cur, ds, S2, hgg, hSg, hgl, hg, hle, hx1, hS2, put⟩ := ho.row (by decide) hjk
   simp only [Option.some.injEq, Addr.mk.injEq] at hgg
   obtain ⟨rfl, rfl, _⟩ := hgg
   obtain ⟨au, cu, rfl, hu1, hu2⟩ := O.Bv.1 hx1
   simp only [AX] at hg hle put
   simp only [In, World.size_alloc, size_setRow, Ac] at hSg
   have hset := Nq hxy hx hy
   rw [hl] at hset
   simp only [if_true] at hset
   simp (disch := first | exact xD | fail) [-Option.bind_some, qs, -Aa, -Ab, qm, AW, D8, show k < xs.length by omega, e4, e5, e20, e21, e22, X4, X5, E0.Ah, hlt, hlt2, p0, p1, p2, p3, p4, p5, q0, q1, q2, q3, q4, q5, E1.Ah, E2.Ah, hg]
   refine Ag.mono (ih (k + 1) _ _ sv (by omega) hxy xA xA xA xA xA (by first | assumption | rfl | (simp (disch := first | exact xD | fail) [-Option.bind_some, qs, -Aa, -Ab, qm, e4, e5, e20, e21, e22, X4, X5, E0.Ah, hlt, hlt2, p0, p1, p2, p3, p4, p5, q0, q1, q2, q3, q4, q5, E1.Ah, E2.Ah, hg]; done)) (by first | assumption | rfl | (simp (disch := first | exact xD | fail) [-Option.bind_some, qs, -Aa, -Ab, qm, e4, e5, e20, e21, e22, X4, X5, E0.Ah, hlt, hlt2, p0, p1, p2, p3, p4, p5, q0, q1, q2, q3, q4, q5, E1.Ah, E2.Ah, hg]; done)) ha xE ?_) fun _ h => h
   rw [← hset]
   refine (put _ _ y _ (oe.Ak (by intro b hS hb; (try dsimp only at hS); (try simp only [In, qz] at hS hb); first | rfl | (simp (disch := first | exact xF | fail) only [E0.Ah, E1.Ah, E2.Ah, qk]; done))) (by first | assumption | rfl | (simp (disch := first | exact xD | fail) [-Option.bind_some, qs, -Aa, -Ab, qm, e4, e5, e20, e21, e22, X4, X5, E0.Ah, hlt, hlt2, p0, p1, p2, p3, p4, p5, q0, q1, q2, q3, q4, q5, E1.Ah, E2.Ah, hg]; done)) (by intro b _ _ _ _; first | rfl | (simp (disch := first | exact xF | fail) only [E0.Ah, E1.Ah, E2.Ah, qk]; done)) ?_).wide ?_
   ·intro b h1 h2
    simp only [In, World.size_alloc, size_setRow, Ac] at *
    omega
   ·intro b h1 h2
    simp only [In, World.size_alloc, size_setRow, Ac] at *
    omega
theorem J5 {a b : Option Addr} {n c m d : Nat} {S S1 : Nat → Prop} {xs ys : List Ver} {w : World} (ha : D AB S w [.slice a n c] xs) (hb : D AB S1 w [.slice b m d] ys) :
  Ag (EV P 25 #[.agg #[.slice a n c], .agg #[.slice b m d]] w) fun r => ∃ a' c', r.1 = .agg #[.slice a' (BB xs ys).length c'] ∧ O AB (In w.heap.size r.2.heap.size) r.2 [.slice a' (BB xs ys).length c'] (BB xs ys) ∧ Ext w r.2 := by
 obtain ⟨rfl, hm, _⟩ := ha.n
 obtain ⟨rfl, hm2, _⟩ := hb.n
 refine Ag.post fun Q hQ => ?_
 refine Ag.enter plain mixed (IM _ _ _) (by kernel_rfl) (n := 2) (by kernel_rfl) rfl ?_
 simp (disch := first | exact xD | fail) [-Option.bind_some, qs]
 refine Ag.bind (DG (D.Bn (ha.ext xE))) ?_
 rintro ⟨_, w1⟩ ⟨rfl, E1⟩
 try dsimp only at E1
 have zE1 := E1.size
 try simp only [qz] at zE1
 cases h1 : Bd xs
 ·have e : BB xs ys = [] := by simp [BB, h1]
  rw [e] at hQ
  simp (disch := first | exact xD | fail) [-Option.bind_some, qs, E1.Ah]
  exact hQ _ ⟨_, _, rfl, O.nil, xE⟩
 simp (disch := first | exact xD | fail) [-Option.bind_some, qs, E1.Ah]
 refine Ag.bind (DG (D.Bn (hb.ext xE))) ?_
 rintro ⟨_, w2⟩ ⟨rfl, E2⟩
 try dsimp only at E2
 have zE2 := E2.size
 try simp only [qz] at zE2
 cases h2 : Bd ys
 ·have e : BB xs ys = [] := by simp [BB, h2]
  rw [e] at hQ
  simp (disch := first | exact xD | fail) [-Option.bind_some, qs, E1.Ah, E2.Ah]
  exact hQ _ ⟨_, _, rfl, O.nil, xE⟩
 have e : BB xs ys = CR xs ys := by simp [BB, h1, h2]
 have hxy : xs.length = ys.length := by rw [Ee h1, Ee h2]
 rw [e, BJ hxy] at hQ
 simp (disch := first | exact xD | fail) [-Option.bind_some, qs, E1.Ah, E2.Ah]
 refine Ag.bind (HJ (ha.ext xE)) ?_
 rintro ⟨_, w3⟩ ⟨a3, c3, rfl, o3, E3⟩
 try dsimp only at a3 c3 o3 E3
 have zE3 := E3.size
 try simp only [qz] at zE3
 simp (disch := first | exact xD | fail) [-Option.bind_some, qs, E1.Ah, E2.Ah, E3.Ah]
 refine Ag.mono (Ji (a5 := a3) (c5 := c3) (g4 := w.heap.size + 1 + 1) (g5 := w3.heap.size) (B := w.heap.size + 1 + 1 + 1) (w0 := w) (by omega) (by omega) (by omega) ys.length 0 _ _ (.slice none 0 0) (by omega) hxy rfl rfl rfl rfl rfl (by first | assumption | rfl | (simp (disch := first | exact xD | fail) [-Option.bind_some, qs, E1.Ah, E2.Ah, E3.Ah]; done)) (by first | assumption | rfl | (simp (disch := first | exact xD | fail) [-Option.bind_some, qs, E1.Ah, E2.Ah, E3.Ah]; done)) hb xE ?_) ?_
 ·rw [Pu]
  exact (o3.Ak (by intro b hS hb; (try dsimp only at hS); (try simp only [In, qz] at hS hb); first | rfl | (simp (disch := first | exact xF | fail) only [E1.Ah, E2.Ah, E3.Ah, qk]; done))).wide xV
 ·rintro ⟨_, w4⟩ ⟨rfl, o4, E4⟩
  have zE4 := E4.size
  try simp only [qz] at zE4
  exact hQ _ ⟨_, _, rfl, o4.wide xV, E4⟩
abbrev Na : Lay CNode := Jr 36 49
abbrev AU : Lay (List CNode) := LZ 36 49 86
def Rm : Ver := ⟨0, ⟨0, 0⟩, [], ⟨#[]⟩, false⟩
def Jj : CNode := ⟨List.replicate 4 Rm, []⟩
theorem OE (w : World) : O Bz (fun _ => False) w [i64 0, i64 0, i64 0, .slice none 0 0, .string ⟨#[]⟩, .bool false] Rm :=
 O.Bv.2 ⟨none, 0, rfl, O.nil, by decide⟩
theorem KD (w : World) : Ag (EV P 24 #[] w) fun r => ∃ a c, r.1 = .agg #[.slice a 4 c] ∧ O AB (In w.heap.size r.2.heap.size) r.2 [.slice a 4 c] (List.replicate 4 Rm) ∧ Ext w r.2 := by
 refine Ag.post fun Q hQ => ?_
 refine Ag.enter plain mixed (Jy _) (by kernel_rfl) (n := 0) (by kernel_rfl) rfl ?_
 simp (disch := first | exact xD | fail) [-Option.bind_some, qs]
 refine Ag.bind (O.make (L := Bz) (mx := 1954687338211) (n := 4) Cj Ed rfl (by decide) OE (by decide) (by decide) (by decide)) ?_
 rintro ⟨_, w1⟩ ⟨rfl, o1, z1, E1⟩
 have zE1 := E1.size
 try simp only [qz] at zE1
 try dsimp only at o1 z1 E1
 have X1 := E1.Ah (b := w.heap.size) (by simp)
 simp only [World.size_alloc] at z1 o1
 simp (disch := first | exact xD | fail) [-Option.bind_some, qs, -Aa, -Ab, qm, E1.Ah, X1]
 exact hQ _ ⟨_, _, rfl, (o1.Ak (by intro b hS hb; (try dsimp only at hS); (try simp only [In, qz] at hS hb); first | rfl | (simp (disch := first | exact xF | fail) only [E1.Ah, qk]; done))).wide xV, xE⟩
theorem Jk (w : World) : Ag (EV P 101 #[] w) fun r => ∃ a c, r.1 = .agg #[.slice a 4 c] ∧ O AB (In w.heap.size r.2.heap.size) r.2 [.slice a 4 c] (List.replicate 4 Rm) ∧ Ext w r.2 := by
 refine Ag.post fun Q hQ => ?_
 refine Ag.enter plain mixed (Mp _) (by kernel_rfl) (n := 0) (by kernel_rfl) rfl ?_
 simp (disch := first | exact xD | fail) [-Option.bind_some]
 refine Ag.bind (O.make (L := Bz) (mx := 1954687338211) (n := 4) Cj Ed rfl (by decide) OE (by decide) (by decide) (by decide)) ?_
 rintro ⟨_, w1⟩ ⟨rfl, o1, z1, E1⟩
 have zE1 := E1.size
 try simp only [qz] at zE1
 try dsimp only at o1 z1 E1
 have X1 := E1.Ah (b := w.heap.size) (by simp)
 simp only [World.size_alloc] at z1 o1
 simp (disch := first | exact xD | fail) [-Option.bind_some, qs, -Aa, -Ab, qm, E1.Ah]
 exact hQ _ ⟨_, _, rfl, (o1.Ak (by intro b hS hb; (try dsimp only at hS); (try simp only [In, qz] at hS hb); first | rfl | (simp (disch := first | exact xF | fail) only [qk]; done))).wide xV, xE⟩
def BA (n : Int) : List CNode := if (decide (1 ≤ n) && decide (n ≤ 4)) then List.replicate n.toNat Jj else []
theorem Se {α : Type} (k : Nat) (x : α) : List.replicate k x ++ [x] = List.replicate (k + 1) x := by rw [List.replicate_succ']
theorem J6 {g2 g3 B n : Nat} {w0 : World} (h2 : g2 < B) (h02 : w0.heap.size ≤ g2) (h3 : w0.heap.size ≤ g3) (h23 : g2 ≠ g3) (hn4 : n ≤ 4) :
  ∀ (d k : Nat) (e : Env) (w : World) (a3 : Option Addr) (c3 : Nat) (sv : Value), k + d = n → e 0 = i64 n → e 2 = pt g2 0 → e 3 = pt g3 0 → e 4 = i64 k → hp w g2 = some (.cells #[sv] 81 (0, 0)) → hp w g3 = some (.cells #[.slice a3 k c3] 81 (0, 0)) → Ext w0 w → B ≤ w.heap.size →
  O AU (fun b => In B w.heap.size b ∧ b ≠ g3) w [.slice a3 k c3] (List.replicate k Jj) →
  Ag (CB e w) fun r => ∃ a' c', r.1 = .agg #[.slice a' n c'] ∧ O AU (In B r.2.heap.size) r.2 [.slice a' n c'] (List.replicate n Jj) ∧ Ext w0 r.2 := by
 intro d
 induction d with
 | zero =>
  intro k e w a3 c3 sv hd e0 e2 e3 ei X2 X3 E0 hB ho
  have zE0 := E0.size
  try simp only [qz] at zE0
  rw [Eu]
  obtain rfl : k = n := by omega
  refine Ag.post fun Q hQ => ?_
  simp (disch := first | exact xD | fail) [-Option.bind_some, -Aa, -Ab, qm, e0, e2, e3, ei, X2, X3]
  exact hQ _ ⟨_, _, rfl, (ho.Ak (by intro b hS hb; (try dsimp only at hS); (try simp only [In] at hS hb); first | rfl | (simp (disch := first | exact xF | fail) only [qk]; done))).wide xV, xE⟩
 | succ d ih =>
  intro k e w a3 c3 sv hd e0 e2 e3 ei X2 X3 E0 hB ho
  have zE0 := E0.size
  try simp only [qz] at zE0
  rw [Eu]
  have hlt : k < n := by omega
  have y2 := Aq X2
  have y3 := Aq X3
  refine Ag.post fun Q hQ => ?_
  simp (disch := first | exact xD | fail) [-Option.bind_some, qs, -Aa, -Ab, e0, e3, ei, X3, hlt]
  refine Ag.bind (Jk _) ?_
  rintro ⟨_, w1⟩ ⟨a1, c1, rfl, o1, E1⟩
  try dsimp only at a1 c1 o1 E1
  have zE1 := E1.size
  try simp only [qz] at zE1
  simp (disch := first | exact xD | fail) [-Option.bind_some, qs, -Aa, -Ab, X3, E1.Ah]
  refine Ag.bind (O.app (L := Na) (x := Jj) (mx := 2932031007317) (S1 := In (dw w).heap.size w1.heap.size) LH OB rfl (by decide) (ho.Ak (by intro b hS hb; (try dsimp only at hS); (try simp only [In] at hS hb); first | rfl | (simp (disch := first | exact xF | fail) only [E1.Ah, qk]; done))) ((O.FF (v := Jj) (S2 := fun _ => False) (o1.Ak (by intro b hS hb; (try dsimp only at hS); (try simp only [In, qz] at hS hb); first | rfl | (simp (disch := first | exact xF | fail) only [qk]; done))) O.nil (fun _ _ _ h => h)).wide (by intro b h _; exact h.elim id fun h => h.elim)) (by intro b hb h1 h2; simp only [In, World.size_alloc, Ac] at *; omega) At.new (by rw [List.length_replicate]; omega) (by decide) (by decide)) ?_
  rintro ⟨_, w2⟩ ⟨a5, c5, rfl, o3, M2⟩
  have zM2 := M2.size
  try simp only [qz] at zM2
  try dsimp only at o3 M2
  have zM2 := M2.size
  simp only [World.size_alloc] at zM2
  rw [Se, List.length_replicate] at o3
  rw [List.length_replicate]
  have Y2 : hp w2 g2 = hp w g2 := (M2.Ah g2 xN xN).trans (by first | assumption | rfl | (simp (disch := first | exact xD | fail) [-Option.bind_some, qs, X2, E1.Ah]; done))
  have Y3 : hp w2 g3 = hp w g3 := (M2.Ah g3 xN xN).trans (by first | assumption | rfl | (simp (disch := first | exact xD | fail) [-Option.bind_some, qs, X3, E1.Ah]; done))
  simp (disch := first | exact xD | fail) [-Option.bind_some, -Aa, -Ab, qm, X3, Y3]
  have E3 : Ext w0 w2 := Mod.after (E0.tr xE) M2 xI
  have zE3 := E3.size
  try simp only [qz] at zE3
  refine Ag.mono (ih (k + 1) _ _ a5 c5 sv (by omega) xA xA xA xA (by first | assumption | rfl | (simp (disch := first | exact xD | fail) [-Option.bind_some, qs, -Aa, -Ab, Y2, X2]; done)) (by first | assumption | rfl | (simp (disch := first | exact xD | fail) [-Option.bind_some, -Aa, -Ab, Y3, X3]; done)) xE xN (((o3.wide (S' := fun b => In B w2.heap.size b ∧ b ≠ g3) ?_).Ak (by intro b hS hb; (try dsimp only at hS); (try simp only [In] at hS hb); first | rfl | (simp (disch := first | exact xF | fail) only [qk]; done))).wide ?_)) hQ
  ·intro b h1 h2
   simp only [In, World.size_alloc, Ac] at *
   omega
  ·intro b h1 h2
   simp only [In, World.size_alloc, size_setRow, Ac] at *
   omega
theorem Gw (n : Int) {w : World} : Ag (EV P 120 #[i64 n] w) fun r => ∃ a c, r.1 = .agg #[.slice a (BA n).length c] ∧ O AU (In w.heap.size r.2.heap.size) r.2 [.slice a (BA n).length c] (BA n) ∧ Ext w r.2 := by
 refine Ag.post fun Q hQ => ?_
 refine Ag.enter plain mixed (JO _ _) (by kernel_rfl) (n := 1) (by kernel_rfl) rfl ?_
 simp (disch := first | exact xD | fail) [-Option.bind_some, qs, -Aa, -Ab, qm]
 refine Ag.bind (AK _ _ _ _) ?_
 rintro _ rfl
 cases h : (decide (1 ≤ n) && decide (n ≤ 4))
 ·have e : BA n = [] := by simp [BA, h]
  rw [e] at hQ
  simp (disch := first | exact xD | fail) [-Option.bind_some, qs, -Aa, -Ab, qm]
  exact hQ _ ⟨_, _, rfl, O.nil, xE⟩
 have e : BA n = List.replicate n.toNat Jj := by simp [BA, h]
 simp only [Bool.and_eq_true, decide_eq_true_eq] at h
 obtain ⟨m, rfl⟩ : ∃ m : Nat, n = m := ⟨n.toNat, by omega⟩
 rw [e, List.length_replicate, Int.toNat_natCast] at hQ
 simp (disch := first | exact xD | fail) [-Option.bind_some, -Aa, -Ab]
 refine Ag.mono (J6 (g2 := w.heap.size) (g3 := w.heap.size + 1) (B := w.heap.size + 1) (n := m) (w0 := w) (by omega) (by omega) (by omega) (by omega) (by omega) m 0 _ _ none 0 (.slice none 0 0) (by omega) rfl rfl rfl rfl (by first | assumption | rfl | (simp (disch := first | exact xD | fail) [-Option.bind_some, qs, -Aa, -Ab]; done)) (by first | assumption | rfl | (simp (disch := first | exact xD | fail) [-Option.bind_some, qs, -Aa, -Ab]; done)) xE xN O.nil) ?_
 rintro ⟨_, w4⟩ ⟨a4, c4, rfl, o4, E4⟩
 have zE4 := E4.size
 try simp only [] at zE4
 exact hQ _ ⟨_, _, rfl, o4.wide xV, E4⟩
def J7 (ns : List CNode) : List Ver := match ns[ns.length - 1]? with
 | some n => n.store
 | none => []
theorem HW {a : Option Addr} {n c : Nat} {S : Nat → Prop} {vs : List Ver} {w : World} (h4 : vs.length = 4) (ha : D AB S w [.slice a n c] vs) :
  Ag (EV P 83 #[.agg #[.slice a n c]] w) fun r => ∃ a' c', r.1 = .agg #[.slice a' (AG vs).length c'] ∧ O Bj (In w.heap.size r.2.heap.size) r.2 [.slice a' (AG vs).length c'] (AG vs) ∧ Ext w r.2 := by
 refine Ag.mono (HV  (D.Bn ha)) ?_
 rintro r ⟨s', h1, f2, E2⟩
 have zE2 := E2.size
 try simp only [qz] at zE2
 obtain ⟨a3, c3, hs', o3⟩ := (Pr f2).GD
 obtain rfl := (List.cons.inj hs').1
 exact ⟨a3, c3, h1, o3, E2⟩
theorem LL {a : Option Addr} {c g1 g2 g3 g5 B k : Nat} {S : Nat → Prop} {xs : List CNode} {x : CNode} {w0 : World} {R : Value × World → Prop} (h12 : g1 < g2) (h32 : g2 < g3) (h02 : w0.heap.size ≤ g1) (h3B : g3 < B) (hB5 : B ≤ g5)
  (ha : D AU S w0 [.slice a xs.length c] xs) (hlt : k < xs.length) (hx : xs[k]? = some x)
  (nx : ∀ (e : Env) (w : World) (a3 : Option Addr) (c3 : Nat) (sv : Value), e 1 = pt g1 0 → e 2 = pt g2 0 → e 3 = pt g3 0 → e 4 = i64 ((k + 1 : Nat) : Int) → hp w g1 = some (.cells #[.slice a xs.length c] 81 (0, 0)) → hp w g2 = some (.cells #[sv] 81 (0, 0)) → hp w g3 = some (.cells #[.slice a3 (k + 1) c3] 81 (0, 0)) →
   Ext w0 w → O AU (fun b => In w0.heap.size w.heap.size b ∧ b ≠ g1 ∧ b ≠ g2 ∧ b ≠ g3) w [.slice a3 (k + 1) c3] (xs.take (k + 1)) → Ag (Cq e w) R) :
  ∀ (d j : Nat) (e : Env) (w : World) (a3 a5 a6 : Option Addr) (c3 c5 c6 : Nat) (sv : Value), j + d = x.wait.length → e 1 = pt g1 0 → e 2 = pt g2 0 → e 3 = pt g3 0 → e 4 = i64 k → e 5 = pt g5 0 → e 6 = i64 j →
   hp w g1 = some (.cells #[.slice a xs.length c] 81 (0, 0)) → hp w g2 = some (.cells #[sv] 81 (0, 0)) → hp w g3 = some (.cells #[.slice a3 k c3] 81 (0, 0)) → hp w g5 = some (.cells #[.slice a5 x.store.length c5, .slice a6 j c6] 86 (0, 0)) →
   Ext w0 w → O AU (fun b => In w0.heap.size B b ∧ b ≠ g1 ∧ b ≠ g2 ∧ b ≠ g3) w [.slice a3 k c3] (xs.take k) → O AB (In B g5) w [.slice a5 x.store.length c5] x.store → O AB (In (g5 + 1) w.heap.size) w [.slice a6 j c6] (x.wait.take j) →
   Ag (DB e w) R := by
 have hn := ha.n
 have htk : (xs.take k).length = k := by rw [List.length_take]; omega
 intro d
 induction d with
 | zero =>
  intro j e w a3 a5 a6 c3 c5 c6 sv hd e1 e2 e3 e4 e5 e6 X1 X2 X3 X5 E0 ho o5 o6
  have zE0 := E0.size
  try simp only [qz] at zE0
  rw [Fo]
  obtain rfl : j = x.wait.length := by omega
  rw [List.take_length] at o6
  obtain ⟨b1, o1, cs1, rfl, A1, D1, _, l1⟩ := (ha.ext E0).at (by decide) hx
  obtain ⟨a2, c2, a4, c4, rfl, h2, h3⟩ := D.node.1 D1
  have p0 := A1 0 _ rfl
  have p1 := A1 1 _ rfl
  simp only [AO, Nat.add_zero] at p0 p1
  have y1 := Aq X1
  have y2 := Aq X2
  have y3 := Aq X3
  have y5 := Aq X5
  have zE0 := E0.size
  refine Ag.post fun Q hQ => ?_
  simp (disch := first | exact xD | fail) [-Option.bind_some, qs, -Aa, -Ab, e1, e3, e4, e5, e6, X1, X3, X5, Cr, p1]
  refine Ag.bind (O.app (L := Na) (mx := 2932031007317) LH OB rfl (by decide) (ho.Ak (by intro b hS hb; (try dsimp only at hS); (try simp only [In] at hS hb); first | rfl | (simp (disch := first | exact xF | fail) only [qk]; done))) (O.FF (v := x) (o5.Ak (by intro b hS hb; (try dsimp only at hS); (try simp only [In] at hS hb); first | rfl | (simp (disch := first | exact xF | fail) only [qk]; done))) (o6.Ak (by intro b hS hb; (try dsimp only at hS); (try simp only [In] at hS hb); first | rfl | (simp (disch := first | exact xF | fail) only [qk]; done))) xI) ?_ At.new (by omega) (by decide) (by decide)) ?_
  ·intro b hb h1 h2
   simp only [In, World.size_alloc] at *
   omega
  rintro ⟨_, w3⟩ ⟨a7, c7, rfl, o7, M3⟩
  have zM3 := M3.size
  try simp only [qz] at zM3
  try dsimp only at o7 M3
  have zM3 := M3.size
  simp only [World.size_alloc] at zM3
  rw [htk, ← FE hx] at o7
  rw [htk]
  have Y1 : hp w3 g1 = hp w g1 := (M3.Ah g1 xN xN).trans (by first | assumption | rfl | (simp (disch := first | exact xD | fail) [-Option.bind_some, qs, X1]; done))
  have Y2 : hp w3 g2 = hp w g2 := (M3.Ah g2 xN xN).trans (by first | assumption | rfl | (simp (disch := first | exact xD | fail) [-Option.bind_some, qs, X2]; done))
  have Y3 : hp w3 g3 = hp w g3 := (M3.Ah g3 xN xN).trans (by first | assumption | rfl | (simp (disch := first | exact xD | fail) [-Option.bind_some, qs, X3]; done))
  simp (disch := first | exact xD | fail) [-Option.bind_some, -Aa, -Ab, qm, X3, Y3]
  have E3 : Ext w0 w3 := Mod.after (E0.tr xE) M3 xI
  have zE3 := E3.size
  try simp only [qz] at zE3
  refine Ag.mono (nx _ _ a7 c7 sv xA xA xA xA (by first | assumption | rfl | (simp (disch := first | exact xD | fail) [-Option.bind_some, qs, -Aa, -Ab, Y1, X1]; done)) (by first | assumption | rfl | (simp (disch := first | exact xD | fail) [-Option.bind_some, qs, -Aa, -Ab, Y2, X2]; done)) (by first | assumption | rfl | (simp (disch := first | exact xD | fail) [-Option.bind_some, -Aa, -Ab, Y3, X3]; done)) xE (((o7.wide (S' := fun b => In w0.heap.size w3.heap.size b ∧ b ≠ g1 ∧ b ≠ g2 ∧ b ≠ g3) ?_).Ak (by intro b hS hb; (try dsimp only at hS); (try simp only [In] at hS hb); first | rfl | (simp (disch := first | exact xF | fail) only [qk]; done))).wide ?_)) hQ
  ·intro b h1 h2
   simp only [In, World.size_alloc] at *
   omega
  ·intro b h1 h2
   simp only [In, World.size_alloc, size_setRow] at *
   omega
 | succ d ih =>
  intro j e w a3 a5 a6 c3 c5 c6 sv hd e1 e2 e3 e4 e5 e6 X1 X2 X3 X5 E0 ho o5 o6
  have zE0 := E0.size
  try simp only [qz] at zE0
  rw [Fo]
  have hlj : j < x.wait.length := by omega
  obtain ⟨v, hv, _⟩ := Am hlj
  obtain ⟨b1, o1, cs1, rfl, A1, D1, _, l1⟩ := (ha.ext E0).at (by decide) hx
  obtain ⟨a2, c2, a4, c4, rfl, h2, h3⟩ := D.node.1 D1
  have p0 := A1 0 _ rfl
  have p1 := A1 1 _ rfl
  simp only [AO, Nat.add_zero] at p0 p1
  have hn3 := h3.n
  obtain ⟨b2, o2, cs2, rfl, A2, D2, _, l2⟩ := h3.at (by decide) hv
  have D2' := D2
  obtain ⟨av, cv, rfl, hq1, ht1⟩ := D.Bv.1 D2
  have q0 := A2 0 _ rfl
  have q1 := A2 1 _ rfl
  have q2 := A2 2 _ rfl
  have q3 := A2 3 _ rfl
  have q4 := A2 4 _ rfl
  have q5 := A2 5 _ rfl
  simp only [AX, Nat.add_zero] at q0 q1 q2 q3 q4 q5
  have htj : (x.wait.take j).length = j := by rw [List.length_take]; omega
  have y1 := Aq X1
  have y2 := Aq X2
  have y3 := Aq X3
  have y5 := Aq X5
  have zE0 := E0.size
  refine Ag.post fun Q hQ => ?_
  simp (disch := first | exact xD | fail) [-Option.bind_some, qs, -Aa, -Ab, e1, e4, e5, e6, X1, X5, Cr, AW, show (j : Int) < x.wait.length by omega, p1, q0, q1, q2, q3, q4, q5]
  refine Ag.bind (AZ (D2'.ext xE)) ?_
  rintro ⟨_, w1⟩ ⟨ds, rfl, o8, E1⟩
  try dsimp only at ds o8 E1
  have zE1 := E1.size
  try simp only [qz] at zE1
  have zo := O.Bv.1 o8
  obtain ⟨a8, c8, rfl, _, _⟩ := zo
  simp (disch := first | exact xD | fail) [-Option.bind_some, qs, -Aa, -Ab, X5, E1.Ah]
  refine Ag.bind (O.app (L := Bz) (mx := 1954687338211) Cj Ed rfl (by decide) (o6.Ak (by intro b hS hb; (try dsimp only at hS); (try simp only [In] at hS hb); first | rfl | (simp (disch := first | exact xF | fail) only [E1.Ah, qk]; done))) (o8.Ak (by intro b hS hb; (try dsimp only at hS); (try simp only [In, qz] at hS hb); first | rfl | (simp (disch := first | exact xF | fail) only [qk]; done))) ?_ At.new (by omega) (by decide) (by decide)) ?_
  ·intro b hb h1 h2
   simp only [In, World.size_alloc, Ac] at *
   omega
  rintro ⟨_, w3⟩ ⟨a7, c7, rfl, o7, M3⟩
  have zM3 := M3.size
  try simp only [qz] at zM3
  try dsimp only at o7 M3
  have zM3 := M3.size
  simp only [World.size_alloc] at zM3
  rw [htj, ← FE hv] at o7
  rw [htj]
  have Y1 : hp w3 g1 = hp w g1 := (M3.Ah g1 xN xN).trans (by first | assumption | rfl | (simp (disch := first | exact xD | fail) [-Option.bind_some, qs, X1, E1.Ah]; done))
  have Y2 : hp w3 g2 = hp w g2 := (M3.Ah g2 xN xN).trans (by first | assumption | rfl | (simp (disch := first | exact xD | fail) [-Option.bind_some, qs, X2, E1.Ah]; done))
  have Y3 : hp w3 g3 = hp w g3 := (M3.Ah g3 xN xN).trans (by first | assumption | rfl | (simp (disch := first | exact xD | fail) [-Option.bind_some, qs, X3, E1.Ah]; done))
  have Y5 : hp w3 g5 = hp w g5 := (M3.Ah g5 xN xN).trans (by first | assumption | rfl | (simp (disch := first | exact xD | fail) [-Option.bind_some, qs, X5, E1.Ah]; done))
  simp (disch := first | exact xD | fail) [-Option.bind_some, -Aa, -Ab, qm, X5, Y5]
  have E3 : Ext w0 w3 := Mod.after (E0.tr xE) M3 xI
  have zE3 := E3.size
  try simp only [qz] at zE3
  refine Ag.mono (ih (j + 1) _ _ a3 a5 a7 c3 c5 c7 sv (by omega) xA xA xA xA xA xA (by first | assumption | rfl | (simp (disch := first | exact xD | fail) [-Option.bind_some, qs, -Aa, -Ab, Y1, X1]; done)) (by first | assumption | rfl | (simp (disch := first | exact xD | fail) [-Option.bind_some, qs, -Aa, -Ab, Y2, X2]; done)) (by first | assumption | rfl | (simp (disch := first | exact xD | fail) [-Option.bind_some, qs, -Aa, -Ab, Y3, X3]; done)) (by first | assumption | rfl | (simp (disch := first | exact xD | fail) [-Option.bind_some, -Aa, -Ab, Y5, X5]; done)) xE (ho.Ak ?_) (o5.Ak ?_) (((o7.wide (S' := In (g5 + 1) w3.heap.size) ?_).Ak (by intro b hS hb; (try dsimp only at hS); (try simp only [In] at hS hb); first | rfl | (simp (disch := first | exact xF | fail) only [qk]; done))).wide ?_)) hQ
  ·intro b hS hb
   simp only [In] at hS
   exact (show hp _ b = hp w3 b from (by first | assumption | rfl | (simp (disch := first | exact xD | fail) [-Option.bind_some, qs, E1.Ah, M3.Ah]; done))).trans ((M3.Ah b xN xN).trans (by first | assumption | rfl | (simp (disch := first | exact xD | fail) [-Option.bind_some, qs, E1.Ah]; done)))
  ·intro b hS hb
   simp only [In] at hS
   exact (show hp _ b = hp w3 b from (by first | assumption | rfl | (simp (disch := first | exact xD | fail) [-Option.bind_some, qs, E1.Ah, M3.Ah]; done))).trans ((M3.Ah b xN xN).trans (by first | assumption | rfl | (simp (disch := first | exact xD | fail) [-Option.bind_some, qs, E1.Ah]; done)))
  ·intro b h1 h2
   simp only [In, World.size_alloc, Ac] at *
   omega
  ·intro b h1 h2
   simp only [In, World.size_alloc, size_setRow, Ac] at *
   omega
theorem LM {a : Option Addr} {c g1 g2 g3 : Nat} {S : Nat → Prop} {xs : List CNode} {w0 : World} (h12 : g1 < g2) (h32 : g2 < g3) (h02 : w0.heap.size ≤ g1) (ha : D AU S w0 [.slice a xs.length c] xs) :
  ∀ (d k : Nat) (e : Env) (w : World) (a3 : Option Addr) (c3 : Nat) (sv : Value), k + d = xs.length → e 1 = pt g1 0 → e 2 = pt g2 0 → e 3 = pt g3 0 → e 4 = i64 k → hp w g1 = some (.cells #[.slice a xs.length c] 81 (0, 0)) → hp w g2 = some (.cells #[sv] 81 (0, 0)) → hp w g3 = some (.cells #[.slice a3 k c3] 81 (0, 0)) →
  Ext w0 w → O AU (fun b => In w0.heap.size w.heap.size b ∧ b ≠ g1 ∧ b ≠ g2 ∧ b ≠ g3) w [.slice a3 k c3] (xs.take k) →
  Ag (Cq e w) fun r => ∃ a' c', r.1 = .agg #[.slice a' xs.length c'] ∧ O AU (In w0.heap.size r.2.heap.size) r.2 [.slice a' xs.length c'] xs ∧ Ext w0 r.2 := by
 have hn := ha.n
 intro d
 induction d with
 | zero =>
  intro k e w a3 c3 sv hd e1 e2 e3 e4 X1 X2 X3 E0 ho
  have zE0 := E0.size
  try simp only [qz] at zE0
  rw [Fm]
  obtain rfl : k = xs.length := by omega
  rw [List.take_length] at ho
  have y1 := Aq X1
  have y2 := Aq X2
  have y3 := Aq X3
  refine Ag.post fun Q hQ => ?_
  simp (disch := first | exact xD | fail) [-Option.bind_some, -Aa, -Ab, qm, e1, e2, e3, e4, X1, X2, X3]
  exact hQ _ ⟨_, _, rfl, (ho.Ak (by intro b hS hb; (try dsimp only at hS); (try simp only [In] at hS hb); first | rfl | (simp (disch := first | exact xF | fail) only [qk]; done))).wide xV, xE⟩
 | succ d ih =>
  intro k e w a3 c3 sv hd e1 e2 e3 e4 X1 X2 X3 E0 ho
  have zE0 := E0.size
  try simp only [qz] at zE0
  rw [Fm]
  have hlt : k < xs.length := by omega
  obtain ⟨x, hx, _⟩ := Am hlt
  have l2 := fun (g5 B : Nat) (h3B : g3 < B) (hB5 : B ≤ g5) => LL (c := c) h12 h32 h02 h3B hB5 ha hlt hx (fun e w a3 c3 sv e1 e2 e3 e4 X1 X2 X3 E0 ho => ih (k + 1) e w a3 c3 sv (by omega) e1 e2 e3 e4 X1 X2 X3 E0 ho)
  obtain ⟨b1, o1, cs1, rfl, A1, D1, _, l1⟩ := (ha.ext E0).at (by decide) hx
  obtain ⟨a2, c2, a4, c4, rfl, h2, h3⟩ := D.node.1 D1
  have p0 := A1 0 _ rfl
  have p1 := A1 1 _ rfl
  simp only [AO, Nat.add_zero] at p0 p1
  have y1 := Aq X1
  have y2 := Aq X2
  have y3 := Aq X3
  have zE0 := E0.size
  refine Ag.post fun Q hQ => ?_
  simp (disch := first | exact xD | fail) [-Option.bind_some, qs, -Aa, -Ab, e1, e4, X1, hlt, Cr, p0]
  refine Ag.bind (EL (h2.ext xE)) ?_
  rintro ⟨_, w1⟩ ⟨a5, c5, rfl, o5, E1⟩
  try dsimp only at a5 c5 o5 E1
  have zE1 := E1.size
  try simp only [qz] at zE1
  simp (disch := first | exact xD | fail) [-Option.bind_some, -Aa, -Ab, qm]
  refine Ag.mono (l2 w1.heap.size w.heap.size (by omega) (by omega) x.wait.length 0 _ _ a3 a5 none c3 c5 0 sv (by omega) xA xA xA xA xA xA (by first | assumption | rfl | (simp (disch := first | exact xD | fail) [-Option.bind_some, qs, -Aa, -Ab, X1, E1.Ah]; done)) (by first | assumption | rfl | (simp (disch := first | exact xD | fail) [-Option.bind_some, qs, -Aa, -Ab, X2, E1.Ah]; done)) (by first | assumption | rfl | (simp (disch := first | exact xD | fail) [-Option.bind_some, qs, -Aa, -Ab, X3, E1.Ah]; done)) (by first | assumption | rfl | (simp (disch := first | exact xD | fail) [-Option.bind_some, qs, -Aa, -Ab]; done)) xE ((ho.Ak (by intro b hS hb; (try dsimp only at hS); (try simp only [In] at hS hb); first | rfl | (simp (disch := first | exact xF | fail) only [E1.Ah, qk]; done))).wide xV) (o5.Ak (by intro b hS hb; (try dsimp only at hS); (try simp only [In] at hS hb); first | rfl | (simp (disch := first | exact xF | fail) only [qk]; done))) ?_) hQ
  exact O.nil
theorem HX {a : Option Addr} {n c : Nat} {S : Nat → Prop} {xs : List CNode} {w : World} (ha : D AU S w [.slice a n c] xs) :
  Ag (EV P 111 #[.agg #[.slice a n c]] w) fun r => ∃ a' c', r.1 = .agg #[.slice a' xs.length c'] ∧ O AU (In w.heap.size r.2.heap.size) r.2 [.slice a' xs.length c'] xs ∧ Ext w r.2 := by
 obtain ⟨rfl, hm, _⟩ := ha.n
 refine Ag.post fun Q hQ => ?_
 refine Ag.enter plain mixed (Lc _ _) (by kernel_rfl) (n := 1) (by kernel_rfl) rfl ?_
 simp (disch := first | exact xD | fail) [-Option.bind_some, qs, -Aa, -Ab, qm]
 refine Ag.mono (LM (g1 := w.heap.size) (g2 := w.heap.size + 1) (g3 := w.heap.size + 1 + 1) (w0 := w) (by omega) (by omega) (by omega) ha xs.length 0 _ _ none 0 (.slice none 0 0) (by omega) rfl rfl rfl rfl (by first | assumption | rfl | (simp (disch := first | exact xD | fail) [-Option.bind_some, qs, -Aa, -Ab]; done)) (by first | assumption | rfl | (simp (disch := first | exact xD | fail) [-Option.bind_some, qs, -Aa, -Ab]; done)) (by first | assumption | rfl | (simp (disch := first | exact xD | fail) [-Option.bind_some, qs, -Aa, -Ab]; done)) xE O.nil) ?_
 rintro r ⟨a4, c4, h1, o4, E4⟩
 have zE4 := E4.size
 try simp only [qz] at zE4
 exact hQ _ ⟨_, _, h1, o4, E4⟩
def Ek (ns : List CNode) : List CNode := ns ++ [⟨J7 ns, []⟩]
theorem MN {a : Option Addr} {n c : Nat} {S : Nat → Prop} {ns : List CNode} {w : World} (h0 : 0 < ns.length) (h4 : ns.length < 4) (ho : O AU S w [.slice a n c] ns) :
  Ag (EV P 130 #[.agg #[.slice a n c]] w) fun r => ∃ a' c', r.1 = .agg #[.slice a' (Ek ns).length c'] ∧ O AU (fun b => S b ∨ In w.heap.size r.2.heap.size b) r.2 [.slice a' (Ek ns).length c'] (Ek ns) ∧ Mod S w r.2 := by
 obtain ⟨rfl, hm, _⟩ := ho.n
 have ho := ho.wide (S' := fun b => S b ∧ b < w.heap.size) (fun b h1 h2 => ⟨h1, h2⟩)
 obtain ⟨x, hx, _⟩ := Am (l := ns) (k := ns.length - 1) (by omega)
 have hj : Ek ns = ns ++ [⟨x.store, []⟩] := by rw [Ek, J7, hx]
 have hjl : (Ek ns).length = ns.length + 1 := by rw [hj, List.length_append]; rfl
 obtain ⟨b1, o1, cs1, ha1, A1, D1, _, l1⟩ := ho.d.at (by decide) hx
 obtain ⟨a2, c2, a4, c4, rfl, h2, h3⟩ := D.node.1 D1
 subst ha1
 have p0 := A1 0 _ rfl
 have p1 := A1 1 _ rfl
 simp only [AO, Nat.add_zero] at p0 p1
 refine Ag.post fun Q hQ => ?_
 refine Ag.enter plain mixed (KQ _ _) (by kernel_rfl) (n := 1) (by kernel_rfl) rfl ?_
 simp (disch := first | exact xD | fail) [-Option.bind_some, qs, -Aa, -Ab, Cr, show (ns.length : Int) - 1 = ((ns.length - 1 : Nat) : Int) by omega, p0]
 refine Ag.bind (EL (h2.ext xE)) ?_
 rintro ⟨_, w2⟩ ⟨a2, c2, rfl, o2, E2⟩
 try dsimp only at a2 c2 o2 E2
 have zE2 := E2.size
 try simp only [qz] at zE2
 simp (disch := first | exact xD | fail) [-Option.bind_some, qs, -Aa, -Ab, E2.Ah]
 refine Ag.bind (O.app (L := Na) (x := ⟨x.store, []⟩) (mx := 2932031007317) LH OB rfl (by decide) (ho.Ak (by intro b hS hb; (try dsimp only at hS); (try simp only [In, qz] at hS hb); first | rfl | (simp (disch := first | exact xF | fail) only [E2.Ah, qk]; done))) (O.FF (v := ⟨x.store, []⟩) (S2 := fun _ => False) (o2.Ak (by intro b hS hb; (try dsimp only at hS); (try simp only [In, qz] at hS hb); first | rfl | (simp (disch := first | exact xF | fail) only [qk]; done))) O.nil (fun _ _ _ h => h)) ?_ At.new (by omega) (by decide) (by decide)) ?_
 ·intro b hb h1 h2
  simp only [In, World.size_alloc, Ac, or_false] at *
  omega
 rintro ⟨_, w3⟩ ⟨a3, c3, rfl, o3, M3⟩
 have zM3 := M3.size
 try simp only [qz] at zM3
 try dsimp only at o3 M3
 have zM3 := M3.size
 simp only [World.size_alloc] at zM3
 have M4 : Mod S w w3 := Mod.A8 (Mod.of xE _) M3 (fun x _ h => h.1)
 have zM4 := M4.size
 try simp only [qz] at zM4
 have Y1 : hp w3 w.heap.size = some (.cells #[.slice (some ⟨b1, o1, none⟩) ns.length c] 81 (0, 0)) := (M3.Ah w.heap.size xN (fun h => by omega)).trans (by first | assumption | rfl | (simp (disch := first | exact xD | fail) [-Option.bind_some, qs, -Aa, -Ab, E2.Ah]; done))
 have Y2 : hp w3 (w.heap.size + 1) = some (.cells #[.slice none 0 0] 81 (0, 0)) := (M3.Ah (w.heap.size + 1) xN (fun h => by omega)).trans (by first | assumption | rfl | (simp (disch := first | exact xD | fail) [-Option.bind_some, qs, -Aa, -Ab, E2.Ah]; done))
 rw [hjl, hj] at hQ
 simp (disch := first | exact xD | fail) [-Option.bind_some, qs, -Aa, -Ab, qm, Y1, Y2]
 refine hQ _ ⟨a3, c3, rfl, (o3.Ak ?_).wide ?_, (M4.AE (.inl (by omega)) _).AE (.inl (by omega)) _⟩
 ·intro b hS hb
  simp only [In, World.size_alloc, Ac, or_false] at *
  rw [Ad (by omega), Ad (by omega)]
 ·intro b h1 h2
  simp only [In, World.size_alloc, size_setRow, Ac, or_false] at *
  rcases h1 with h | h | h
  ·exact .inl h.1
  ·exact .inr (by omega)
  ·exact .inr (by omega)
theorem GQ (a b : Nat) : (a : Int).tmod (b : Int) = ((a % b : Nat) : Int) := by
 rw [Int.tmod_eq_emod_of_nonneg (by omega)]; rfl
theorem Lj (a b : Nat) : (a : Int).tdiv (b : Int) = ((a / b : Nat) : Int) := by
 rw [Int.tdiv_eq_ediv_of_nonneg (by omega)]; rfl
theorem IB {w : World} {s : Value} {ns : List Int} (h : CZ w s ns) {i : Nat} (hi : i < ns.length) : ∃ (b o c m : Nat), s = .slice (some ⟨b, o, none⟩) ns.length c ∧ BC (hp w b) (o + i) = some (.int .u8 (m : Int)) ∧ m ≤ 255 ∧ b < w.heap.size := by
 obtain ⟨a, c, h1, h2, h3, h4, h5⟩ := h
 rcases h5 with h5 | ⟨b, o, h5, h6⟩
 ·subst h5; simp at hi
 ·subst h5
  have hm := h4 ns[i] (List.getElem_mem hi)
  obtain ⟨m, hmm⟩ := Int.eq_ofNat_of_zero_le hm.1
  have hc := h6 i (.int .u8 (m : Int)) (by rw [List.getElem?_map, List.getElem?_eq_getElem hi, hmm]; rfl)
  refine ⟨b, o, c, m, h1, hc, by omega, ?_⟩
  rcases Nat.lt_or_ge b w.heap.size with h' | h'
  ·exact h'
  ·rw [hp, Array.getElem?_eq_none h'] at hc; simp [BC] at hc
theorem PN {s : Value} {ns : List Int} (h : ns.length ≠ 0) : CQ s ns = (Ax s).toList := by
 cases ns with
 | nil => exact absurd rfl h
 | cons n ns => rfl
theorem Jl {b p t : Nat} {k : Nat} (hk : 1 ≤ k) (hk2 : k ≤ 1000000) (hp0 : p ≤ 1000000000000) {s : Value} {ns : List Int} {w : World} (hr : Vh t w b s p) (hs : CZ w s ns) (hn : ns.length ≤ 1000000000000) (hb : ∀ x ∈ CQ s ns, x ≠ b) :
  Ag (EV P 42 #[pt b 0, i64 k] w) fun r => ∃ m : Nat, r.1 = i64 m ∧ m < k ∧ Vh t r.2 b s ((p + 1 : Nat) : Int) ∧ But w r.2 (some b) := by
 have hs' := hs
 obtain ⟨a, c, rfl, hc, hcm, _, _⟩ := hs
 unfold Vh at *
 have hwr : ∀ x : Int, 0 ≤ x → x ≤ 9000000000000000000 → IntKind.i64.wrap x = x := fun x h0 h1 => Ho (by omega) (by omega)
 have b1 : But w (w.setRow b #[.slice a ns.length c, i64 ((p : Int) + 1)]) (some b) := But.set w b _
 have hx1 : hp (w.setRow b #[.slice a ns.length c, i64 ((p : Int) + 1)]) b = some (.cells #[.slice a ns.length c, i64 (((p + 1 : Nat)) : Int)] t (0, 0)) := by rw [DQ, hr]; rfl
 refine Ag.enter plain mixed (H6 _ _ _) (by kernel_rfl) (n := 2) (by kernel_rfl) rfl ?_
 have kk : ¬ (k : Int) < 1 := by omega
 have kn : (k : Int) ≠ 0 := by omega
 by_cases h0 : ns.length = 0
 ·have hz : ((ns.length : Int) == 0) = true := by simp only [beq_iff_eq]; omega
  simp (disch := first | omega | (simp only [World.size_alloc, size_setRow, Ac]; done) | (simp only [World.size_alloc, size_setRow, Ac]; omega) | (simp only [List.length_set, Array.length_toList]; omega)) [-Option.bind_some, LQ, hr, hwr, hz, kk]
  exact ⟨0, rfl, by omega, b1⟩
 have hz : ((ns.length : Int) == 0) = false := by simp only [beq_eq_false_iff_ne, ne_eq]; omega
 by_cases h1 : p < ns.length
 ·obtain ⟨d, o, c', m, hs, hcell, hm, hd⟩ := IB hs' h1
  have hdb : d ≠ b := hb d (by rw [PN h0]; simp [hs, Ax])
  simp only [Value.slice.injEq, true_and] at hs
  obtain ⟨rfl, rfl⟩ := hs
  have hm1 : (m : Int).tmod (k : Int) = ((m % k : Nat) : Int) := GQ m k
  simp (disch := first | omega | (simp only [World.size_alloc, size_setRow, Ac]; done) | (simp only [World.size_alloc, size_setRow, Ac]; omega) | (simp only [List.length_set, Array.length_toList]; omega)) [-Option.bind_some, Ad, LQ, hr, hwr, hz, h1, kk, SE, hcell, Ad, NV, hm1]
  exact ⟨m % k, rfl, Nat.mod_lt _ (by omega), b1⟩
 have g1 : p % ns.length < ns.length := Nat.mod_lt _ (by omega)
 have g2 : (p * 7 + 3) % ns.length < ns.length := Nat.mod_lt _ (by omega)
 obtain ⟨d, o, c', m1, hs, hcell1, hm1, hd⟩ := IB hs' g1
 obtain ⟨d2, o2, c2, m2, hs2, hcell2, hm2, hd2⟩ := IB hs' g2
 have hdb : d ≠ b := hb d (by rw [PN h0]; simp [hs, Ax])
 have he := hs.symm.trans hs2
 simp only [Value.slice.injEq, Option.some.injEq, Addr.mk.injEq, true_and, and_true] at he hs
 obtain ⟨⟨rfl, rfl⟩, rfl⟩ := he
 obtain ⟨rfl, rfl⟩ := hs
 have t1 : (p : Int).tmod (ns.length : Int) = ((p % ns.length : Nat) : Int) := GQ _ _
 have t2 : ((p : Int) * 7 + 3).tmod (ns.length : Int) = (((p * 7 + 3) % ns.length : Nat) : Int) := GQ (p * 7 + 3) _
 have t3 : (p : Int).tdiv (ns.length : Int) = ((p / ns.length : Nat) : Int) := Lj _ _
 have t4 : p / ns.length ≤ p := Nat.div_le_self _ _
 generalize p % ns.length = q1 at *
 generalize (p * 7 + 3) % ns.length = q2 at *
 generalize p / ns.length = q3 at *
 have hn0 : (ns.length : Int) ≠ 0 := by omega
 simp (disch := first | omega | (simp only [World.size_alloc, size_setRow, Ac]; done) | (simp only [World.size_alloc, size_setRow, Ac]; omega) | (simp only [List.length_set, Array.length_toList]; omega)) [-Option.bind_some, Ad, LQ, hr, hwr, hz, h1, kk, SE, hcell1, hcell2, Ad, NV, Tz, t1, t2, t3]
 obtain ⟨X, hX⟩ : ∃ X : Nat, X = m1 * 131 + m2 * 1117 + p * 29 + q3 * 53 := ⟨_, rfl⟩
 have hXi : (m1 : Int) * 131 + m2 * 1117 + p * 29 + q3 * 53 = (X : Int) := by omega
 have hXd : (X : Int).tdiv 64 = ((X / 64 : Nat) : Int) := Lj X 64
 rw [hXi, hXd, hwr _ (by omega) (by omega)]
 have hxo := fun x y w => (TB (P := P) 3 x y (a := X) (b := X / 64) (by omega) (by omega) w).1
 rw [hxo]
 generalize (X ^^^ X / 64 : Nat) = Y
 have hY : (Y : Int).tmod (k : Int) = ((Y % k : Nat) : Int) := GQ Y k
 simp (disch := first | omega | (simp only [World.size_alloc, size_setRow, Ac]; done) | (simp only [World.size_alloc, size_setRow, Ac]; omega) | (simp only [List.length_set, Array.length_toList]; omega)) [-Option.bind_some, NV, hY]
 exact ⟨Y % k, rfl, Nat.mod_lt _ (by omega), by simp (disch := first | omega | (simp only [World.size_alloc, size_setRow, Ac]; done) | (simp only [World.size_alloc, size_setRow, Ac]; omega) | (simp only [List.length_set, Array.length_toList]; omega)) [-Option.bind_some, hr], b1.tr (But.of (Cc _) _)⟩
def R (w : World) (B g p : Nat) : Prop := ∃ s ns, Vh 93 w g s p ∧ CZ w s ns ∧ ns.length ≤ 1000000000000 ∧ (∀ x ∈ CQ s ns, x < B) ∧ B ≤ g
theorem R.lt {w : World} {B g p : Nat} (h : R w B g p) : B ≤ g ∧ g < w.heap.size := by
 obtain ⟨s, ns, h1, h2, h3, h4, h5⟩ := h
 exact ⟨h5, Aq h1⟩
theorem R.Ak {w w' : World} {B g p : Nat} (h : R w B g p) (k : ∀ b, b < B ∨ b = g → b < w.heap.size → hp w' b = hp w b) : R w' B g p := by
 obtain ⟨s, ns, h1, h2, h3, h4, h5⟩ := h
 refine ⟨s, ns, (k g (.inr rfl) (Aq h1)).trans h1, ?_, h3, h4, h5⟩
 obtain ⟨a, c, q1, q2, q3, q4, q5⟩ := h2
 refine ⟨a, c, q1, q2, q3, q4, ?_⟩
 cases ns with
 | nil => exact .inl rfl
 | cons n ns =>
  rcases q5 with q5 | ⟨d, o, q6, q7⟩
  ·cases q5
  ·subst q1; subst q6
   have hd := h4 d (by simp [CQ, Ax])
   exact .inr ⟨d, o, rfl, q7.same (k d (.inl hd) (At.lt (l := ns.map (Value.int .u8)) q7))⟩
theorem R.ext {w w' : World} {B g p : Nat} (h : R w B g p) (k : Ext w w') : R w' B g p := h.Ak fun b _ hb => k.Ah hb
theorem Al {B g p k : Nat} (hk : 1 ≤ k) (hk2 : k ≤ 1000000) (hp0 : p ≤ 1000000000000) {w : World} (hr : R w B g p) :
  Ag (EV P 42 #[pt g 0, i64 k] w) fun r => ∃ m : Nat, r.1 = i64 m ∧ m < k ∧ R r.2 B g (p + 1) ∧ Mod (fun b => b = g) w r.2 := by
 obtain ⟨s, ns, h1, h2, h3, h4, h5⟩ := hr
 have hb : ∀ x ∈ CQ s ns, x ≠ g := fun x hx => by have := h4 x hx; omega
 refine Ag.mono (Jl hk hk2 hp0 h1 h2 h3 hb) ?_
 rintro r ⟨m, e1, e2, e3, M⟩
 have M' : Mod (fun b => b = g) w r.2 := ⟨M.os, M.tape, M.output, M.size, fun b hb hne => M.Ah b hb (by simpa using fun h => hne h.symm)⟩
 have R0 : R w B g p := ⟨s, ns, h1, h2, h3, h4, h5⟩
 refine ⟨m, e1, e2, ⟨s, ns, e3, ?_, h3, h4, h5⟩, M'⟩
 obtain ⟨a, c, q1, q2, q3, q4, q5⟩ := h2
 refine ⟨a, c, q1, q2, q3, q4, ?_⟩
 cases ns with
 | nil => exact .inl rfl
 | cons n ns =>
  rcases q5 with q5 | ⟨d, o, q6, q7⟩
  ·cases q5
  ·subst q1; subst q6
   have hd := h4 d (by simp [CQ, Ax])
   exact .inr ⟨d, o, rfl, q7.same (M'.Ah d (At.lt (l := ns.map (Value.int .u8)) q7) (by omega))⟩
theorem LN {s : Value} {ns : List Int} {w : World} (hs : CZ w s ns) (hn : ns.length ≤ 1000000000000) :
  Ag (EV P 27 #[s] w) fun r => ∃ g, r.1 = pt g 0 ∧ R r.2 w.heap.size g 0 ∧ Ext w r.2 := by
 have hlt : ∀ x ∈ CQ s ns, x < w.heap.size := by
  intro x hx
  obtain ⟨a, c, q1, q2, q3, q4, q5⟩ := hs
  cases ns with
  | nil => simp [CQ] at hx
  | cons n ns =>
   rcases q5 with q5 | ⟨d, o, q6, q7⟩
   ·cases q5
   ·subst q1; subst q6
    simp only [CQ, Ax, Option.toList_some, List.mem_singleton] at hx
    rw [hx]
    exact At.lt (l := ns.map (Value.int .u8)) q7
 have fin : ∀ (e : Env) (s : Value) (ns : List Int), e 0 = s → CZ w s ns → ns.length ≤ 1000000000000 → (∀ x ∈ CQ s ns, x < w.heap.size) → Ag (CT e w) fun r => ∃ g, r.1 = pt g 0 ∧ R r.2 w.heap.size g 0 ∧ Ext w r.2 := by
  intro e s ns e0 hs hn hlt
  have hs' := hs
  obtain ⟨a, c, rfl, q2, q3, q4, q5⟩ := hs
  refine Ag.post fun Q hQ => ?_
  rw [H4]
  simp (disch := first | exact xD | fail) [-Option.bind_some, -Aa, -Ab, e0]
  refine hQ _ ⟨w.heap.size, rfl, ⟨_, ns, ?_, hs'.mono (Ext.Ak xE), hn, hlt, by omega⟩, xE⟩
  show hp _ _ = _
  exact (by first | assumption | rfl | (simp (disch := first | exact xD | fail) [-Option.bind_some, qs, -Aa, -Ab]; done))
 have hs' := hs
 obtain ⟨a, c, rfl, q2, q3, q4, q5⟩ := hs
 refine Ag.post fun Q hQ => ?_
 refine Ag.enter plain mixed (Kl _ _) (by kernel_rfl) (n := 1) (by kernel_rfl) rfl ?_
 by_cases hl : 2000 < ns.length
 ·have hts : CZ w (.slice a 2000 c) (ns.take 2000) := by
   refine ⟨a, c, by rw [List.length_take]; congr 1; omega, by rw [List.length_take]; omega, q3, fun n hn => q4 n (List.mem_of_mem_take hn), ?_⟩
   rcases q5 with q5 | ⟨d, o, q6, q7⟩
   ·subst q5; simp at hl
   ·refine .inr ⟨d, o, q6, fun j v hv => q7 j v ?_⟩
    rw [List.map_take, List.getElem?_take] at hv
    split at hv
    ·exact hv
    ·cases hv
  simp (disch := first | exact xD | fail) [-Option.bind_some, -Aa, -Ab, show (2000 : Int) < ns.length by omega, Sk (P := P) SD]
  refine Ag.mono (fin _ (.slice a 2000 c) (ns.take 2000) rfl hts (by rw [List.length_take]; omega) ?_) hQ
  intro x hx
  refine hlt x ?_
  cases ns with
  | nil => simp at hl
  | cons n ns =>
   cases a with
   | none => simp [CQ, Ax] at hx
   | some _ => simpa [CQ, Ax] using hx
 ·simp (disch := first | exact xD | fail) [-Option.bind_some, -Aa, -Ab, show ¬ (2000 : Int) < ns.length by omega]
  exact Ag.mono (fin _ _ ns rfl hs' hn hlt) hQ
theorem Bf {B g p b k c : Nat} {ints : List Int} (hk : 1 ≤ k) (hk2 : k ≤ 1000000) (hp0 : p ≤ 1000000000000) {w : World} (hl : ints.length = k) (hA : At w b 0 (ints.map fun n => i64 n)) (hbg : b ≠ g) (hr : R w B g p) :
  Ag (EV P 34 #[pt g 0, .slice (some ⟨b, 0, none⟩) k c] w) fun r => ∃ n ∈ ints, r.1 = i64 n ∧ R r.2 B g (p + 1) ∧ Mod (fun b => b = g) w r.2 := by
 refine Ag.post fun Q hQ => ?_
 refine Ag.enter plain mixed (IP _ _ _) (by kernel_rfl) (n := 2) (by kernel_rfl) rfl ?_
 simp (disch := first | exact xD | fail) [-Option.bind_some, -Aa, -Ab]
 refine Ag.bind (Al hk hk2 hp0 hr) ?_
 rintro ⟨_, w1⟩ ⟨m, rfl, hm, R1, M1⟩
 have zM1 := M1.size
 try simp only [] at zM1
 try dsimp only at R1 M1
 obtain ⟨n, hn, _⟩ := Am (l := ints) (k := m) (by omega)
 have hA1 := hA m (i64 n) (by rw [List.getElem?_map, hn]; rfl)
 have hbl : b < w.heap.size := by
  rcases Nat.lt_or_ge b w.heap.size with h | h
  ·exact h
  ·rw [hp, Array.getElem?_eq_none h] at hA1; simp [BC] at hA1
 rw [Nat.zero_add] at hA1
 simp (disch := first | exact xD | fail) [-Option.bind_some, -Aa, -Ab, Q8, hA1, M1.Ah]
 exact hQ _ ⟨n, List.mem_of_getElem? hn, rfl, R1, M1⟩
end Go.Proofs.YtjhhommnkaemlaaGreat.X
