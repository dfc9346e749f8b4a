/- A part of the proof, without conditions. -/
import Derived.Test.YtjhhommnkaemlaaGreatEvS
import Derived.Test.YtjhhommnkaemlaaGreatEvT
import Derived.Test.YtjhhommnkaemlaaGreatEvF0
import Derived.Test.YtjhhommnkaemlaaGreatEvF1
import Derived.Test.YtjhhommnkaemlaaGreatEvF2
import Derived.Test.YtjhhommnkaemlaaGreatEvF3
import Derived.Test.YtjhhommnkaemlaaGreatEvF4
import Derived.Test.YtjhhommnkaemlaaGreatEvF5
set_option linter.unusedVariables false
set_option linter.unusedSimpArgs false
set_option linter.deprecated false
set_option maxRecDepth 100000
namespace Go.Proofs.YtjhhommnkaemlaaGreat.X
open Go Go.Ev Go.RowKit
theorem AD (n a b : Int) (w : World) : Ae (EV P 37 #[i64 n, i64 a, i64 b] w) fun r => r = (.bool (decide (a ≤ n) && decide (n ≤ b)), w) := by
 refine Ae.enter plain mixed (NL _ _ _ _) (by kernel_rfl) (n := 3) (by kernel_rfl) rfl ?_
 cases h : decide (a ≤ n) <;> simp (disch := first | omega | (simp only [World.size_alloc, size_setRow, Ad]; done) | (simp only [World.size_alloc, size_setRow, Ad]; omega) | (simp only [List.length_set, Array.length_toList]; omega)) [-Option.bind_some, h]
theorem BI (n a b : Int) (w : World) : Ae (EV P 35 #[i64 n, i64 a, i64 b] w) fun r => r = (.bool (decide (a ≤ n) && decide (n ≤ b)), w) := by
 refine Ae.enter plain mixed (KC _ _ _ _) (by kernel_rfl) (n := 3) (by kernel_rfl) rfl ?_
 cases h : decide (a ≤ n) <;> simp (disch := first | omega | (simp only [World.size_alloc, size_setRow, Ad]; done) | (simp only [World.size_alloc, size_setRow, Ad]; omega) | (simp only [List.length_set, Array.length_toList]; omega)) [-Option.bind_some, h]
theorem KX (n : Int) (w : World) : Ae (EV P 88 #[i64 n] w) fun r => r = (.bool (decide (0 ≤ n) && decide (n ≤ 2)), w) := by
 refine Ae.enter plain mixed (Kg _ _) (by kernel_rfl) (n := 1) (by kernel_rfl) rfl ?_
 simp (disch := first | omega | (simp only [World.size_alloc, size_setRow, Ad]; done) | (simp only [World.size_alloc, size_setRow, Ad]; omega) | (simp only [List.length_set, Array.length_toList]; omega)) [-Option.bind_some]
 refine Ae.bind (BI n 0 2 w) ?_
 rintro _ rfl
 simp (disch := first | omega | (simp only [World.size_alloc, size_setRow, Ad]; done) | (simp only [World.size_alloc, size_setRow, Ad]; omega) | (simp only [List.length_set, Array.length_toList]; omega)) [-Option.bind_some]
theorem KY (x : Tag) (w : World) : Ae (EV P 92 #[x.v] w) fun r => r.1 = .bool (DC x) ∧ Ext w r.2 := by
 refine Ae.enter plain mixed (Kh _ _) (by kernel_rfl) (n := 1) (by kernel_rfl) rfl ?_
 cases h : ((x.t == 0) && (x.p == 0))
 ·simp (disch := first | omega | (simp only [World.size_alloc, size_setRow, Ad]; done) | (simp only [World.size_alloc, size_setRow, Ad]; omega) | (simp only [List.length_set, Array.length_toList]; omega)) [-Option.bind_some, An, h]
  refine Ae.bind (AD _ _ _ _) ?_
  rintro _ rfl
  cases h1 : (decide (1 ≤ x.t) && decide (x.t ≤ 999))
  ·simp (disch := first | omega | (simp only [World.size_alloc, size_setRow, Ad]; done) | (simp only [World.size_alloc, size_setRow, Ad]; omega) | (simp only [List.length_set, Array.length_toList]; omega)) [-Option.bind_some, h1, Ext.alloc, DC, h]
  ·simp (disch := first | omega | (simp only [World.size_alloc, size_setRow, Ad]; done) | (simp only [World.size_alloc, size_setRow, Ad]; omega) | (simp only [List.length_set, Array.length_toList]; omega)) [-Option.bind_some, An]
   refine Ae.bind (AD _ _ _ _) ?_
   rintro _ rfl
   simp (disch := first | omega | (simp only [World.size_alloc, size_setRow, Ad]; done) | (simp only [World.size_alloc, size_setRow, Ad]; omega) | (simp only [List.length_set, Array.length_toList]; omega)) [-Option.bind_some, Ext.alloc, DC, h, h1]
 ·simp (disch := first | omega | (simp only [World.size_alloc, size_setRow, Ad]; done) | (simp only [World.size_alloc, size_setRow, Ad]; omega) | (simp only [List.length_set, Array.length_toList]; omega)) [-Option.bind_some, An, h, Ext.alloc, DC]
theorem Oc (x : Tag) (w : World) : Ae (EV P 57 #[x.v] w) fun r => r.1 = .bool (DC x) ∧ Ext w r.2 := by
 refine Ae.enter plain mixed (Mn _ _) (by kernel_rfl) (n := 1) (by kernel_rfl) rfl ?_
 cases h : ((x.t == 0) && (x.p == 0))
 ·simp (disch := first | omega | (simp only [World.size_alloc, size_setRow, Ad]; done) | (simp only [World.size_alloc, size_setRow, Ad]; omega) | (simp only [List.length_set, Array.length_toList]; omega)) [-Option.bind_some, An, h]
  refine Ae.bind (BI _ _ _ _) ?_
  rintro _ rfl
  cases h1 : (decide (1 ≤ x.t) && decide (x.t ≤ 999))
  ·simp (disch := first | omega | (simp only [World.size_alloc, size_setRow, Ad]; done) | (simp only [World.size_alloc, size_setRow, Ad]; omega) | (simp only [List.length_set, Array.length_toList]; omega)) [-Option.bind_some, h1, Ext.alloc, DC, h]
  ·simp (disch := first | omega | (simp only [World.size_alloc, size_setRow, Ad]; done) | (simp only [World.size_alloc, size_setRow, Ad]; omega) | (simp only [List.length_set, Array.length_toList]; omega)) [-Option.bind_some, An]
   refine Ae.bind (KX _ _) ?_
   rintro _ rfl
   simp (disch := first | omega | (simp only [World.size_alloc, size_setRow, Ad]; done) | (simp only [World.size_alloc, size_setRow, Ad]; omega) | (simp only [List.length_set, Array.length_toList]; omega)) [-Option.bind_some, Ext.alloc, DC, h, h1]
 ·simp (disch := first | omega | (simp only [World.size_alloc, size_setRow, Ad]; done) | (simp only [World.size_alloc, size_setRow, Ad]; omega) | (simp only [List.length_set, Array.length_toList]; omega)) [-Option.bind_some, An, h, Ext.alloc, DC]
theorem GC (a : Int) (w : World) : Ae (EV P 94 #[i64 a] w) fun r => r = (.bool false, w) := by
 refine Ae.enter plain mixed (JF _ _) (by kernel_rfl) (n := 1) (by kernel_rfl) rfl ?_
 simp (disch := first | omega | (simp only [World.size_alloc, size_setRow, Ad]; done) | (simp only [World.size_alloc, size_setRow, Ad]; omega) | (simp only [List.length_set, Array.length_toList]; omega)) [-Option.bind_some]
theorem Fk (a b : Int) (w : World) : Ae (EV P 71 #[i64 a, i64 b] w) fun r => r = (i64 (if a < b then -1 else if b < a then 1 else 0), w) := by
 refine Ae.enter plain mixed (H0 _ _ _) (by kernel_rfl) (n := 2) (by kernel_rfl) rfl ?_
 simp (disch := first | omega | (simp only [World.size_alloc, size_setRow, Ad]; done) | (simp only [World.size_alloc, size_setRow, Ad]; omega) | (simp only [List.length_set, Array.length_toList]; omega)) [-Option.bind_some]
 refine Ae.bind (GC _ _) ?_
 rintro _ rfl
 simp (disch := first | omega | (simp only [World.size_alloc, size_setRow, Ad]; done) | (simp only [World.size_alloc, size_setRow, Ad]; omega) | (simp only [List.length_set, Array.length_toList]; omega)) [-Option.bind_some]
 refine Ae.bind (GC _ _) ?_
 rintro _ rfl
 simp (disch := first | omega | (simp only [World.size_alloc, size_setRow, Ad]; done) | (simp only [World.size_alloc, size_setRow, Ad]; omega) | (simp only [List.length_set, Array.length_toList]; omega)) [-Option.bind_some]
 by_cases h : a < b
 ·simp (disch := first | omega | (simp only [World.size_alloc, size_setRow, Ad]; done) | (simp only [World.size_alloc, size_setRow, Ad]; omega) | (simp only [List.length_set, Array.length_toList]; omega)) [-Option.bind_some, h]
 ·by_cases h2 : b < a <;> simp (disch := first | omega | (simp only [World.size_alloc, size_setRow, Ad]; done) | (simp only [World.size_alloc, size_setRow, Ad]; omega) | (simp only [List.length_set, Array.length_toList]; omega)) [-Option.bind_some, h, h2]
theorem Od {b : Nat} {x y : Int} {w : World} {e z} (h : hp w b = some (.cells #[i64 x, i64 y] e z)) : Ae (EV P 70 #[.slice (some ⟨b, 0, none⟩) 2 2] w) fun r => r = (i64 (if x = 0 then y else x), w) := by
 have i0 := RL (b := b) (o := 0) (n := 2) (c := 2) (i := 0) (by omega) (by omega)
 have i1 := RL (b := b) (o := 0) (n := 2) (c := 2) (i := 1) (by omega) (by omega)
 have l2 : ∀ e : Env, e 3 = i64 0 → e 7 = i64 2 → e 8 = i64 2 → Ae (CB e w) fun r => r = (i64 0, w) := by
  intro e h3 h7 h8
  rw [DG]
  simp (disch := first | omega | (simp only [World.size_alloc, size_setRow, Ad]; done) | (simp only [World.size_alloc, size_setRow, Ad]; omega) | (simp only [List.length_set, Array.length_toList]; omega)) [-Option.bind_some, h3, h7, h8]
 have l1 : ∀ e : Env, e 3 = i64 0 → e 6 = .slice (some ⟨b, 0, none⟩) 2 2 → e 7 = i64 2 → e 8 = i64 1 → Ae (CB e w) fun r => r = (i64 y, w) := by
  intro e h3 h6 h7 h8
  rw [DG]
  cases hy : (y != 0)
  ·simp (disch := first | omega | (simp only [World.size_alloc, size_setRow, Ad]; done) | (simp only [World.size_alloc, size_setRow, Ad]; omega) | (simp only [List.length_set, Array.length_toList]; omega)) [-Option.bind_some, h3, h6, h7, h8, h, i1, hy]
   simp only [bne_eq_false_iff_eq] at hy
   subst hy
   exact l2 _ h3 h7 (congrArg i64 (Kv (by omega) (by omega)))
  ·simp (disch := first | omega | (simp only [World.size_alloc, size_setRow, Ad]; done) | (simp only [World.size_alloc, size_setRow, Ad]; omega) | (simp only [List.length_set, Array.length_toList]; omega)) [-Option.bind_some, h3, h6, h7, h8, h, i1, hy]
 refine Ae.enter plain mixed (MK _ _) (by kernel_rfl) (n := 1) (by kernel_rfl) rfl ?_
 simp (disch := first | omega | (simp only [World.size_alloc, size_setRow, Ad]; done) | (simp only [World.size_alloc, size_setRow, Ad]; omega) | (simp only [List.length_set, Array.length_toList]; omega)) [-Option.bind_some]
 rw [DG]
 have e3 : (AK (AN #[Value.slice (some ⟨b, 0, none⟩) 2 2]) [(2, i64 0), (3, i64 0), (6, Value.slice (some ⟨b, 0, none⟩) 2 2), (7, i64 2), (8, i64 0)]) 3 = i64 0 := rfl
 have e6 : (AK (AN #[Value.slice (some ⟨b, 0, none⟩) 2 2]) [(2, i64 0), (3, i64 0), (6, Value.slice (some ⟨b, 0, none⟩) 2 2), (7, i64 2), (8, i64 0)]) 6 = Value.slice (some ⟨b, 0, none⟩) 2 2 := rfl
 have e7 : (AK (AN #[Value.slice (some ⟨b, 0, none⟩) 2 2]) [(2, i64 0), (3, i64 0), (6, Value.slice (some ⟨b, 0, none⟩) 2 2), (7, i64 2), (8, i64 0)]) 7 = i64 2 := rfl
 have e8 : (AK (AN #[Value.slice (some ⟨b, 0, none⟩) 2 2]) [(2, i64 0), (3, i64 0), (6, Value.slice (some ⟨b, 0, none⟩) 2 2), (7, i64 2), (8, i64 0)]) 8 = i64 0 := rfl
 show Ae (_ : Option (Value × World)) _
 simp only [e3, e6, e7, e8]
 generalize (AK (AN #[Value.slice (some ⟨b, 0, none⟩) 2 2]) [(2, i64 0), (3, i64 0), (6, Value.slice (some ⟨b, 0, none⟩) 2 2), (7, i64 2), (8, i64 0)]) = e at *
 cases hx : (x != 0)
 ·simp (disch := first | omega | (simp only [World.size_alloc, size_setRow, Ad]; done) | (simp only [World.size_alloc, size_setRow, Ad]; omega) | (simp only [List.length_set, Array.length_toList]; omega)) [-Option.bind_some, h, i0, hx]
  refine Ae.mono (l1 _ e3 e6 e7 (congrArg i64 (Kv (by omega) (by omega)))) ?_
  rintro _ rfl
  simp only [bne_eq_false_iff_eq] at hx
  simp [hx]
 ·simp (disch := first | omega | (simp only [World.size_alloc, size_setRow, Ad]; done) | (simp only [World.size_alloc, size_setRow, Ad]; omega) | (simp only [List.length_set, Array.length_toList]; omega)) [-Option.bind_some, h, i0, hx]
  simp only [bne_iff_ne, ne_eq] at hx
  simp [hx]
theorem HV (x y : Tag) (w : World) : Ae (EV P 39 #[x.v, y.v] w) fun r => r.1 = i64 (if x.t < y.t then -1 else if y.t < x.t then 1 else if x.p < y.p then -1 else if y.p < x.p then 1 else 0) ∧ Ext w r.2 := by
 refine Ae.enter plain mixed (Hp _ _ _) (by kernel_rfl) (n := 2) (by kernel_rfl) rfl ?_
 simp (disch := first | omega | (simp only [World.size_alloc, size_setRow, Ad]; done) | (simp only [World.size_alloc, size_setRow, Ad]; omega) | (simp only [List.length_set, Array.length_toList]; omega)) [-Option.bind_some, Ag, An]
 refine Ae.bind (Fk _ _ _) ?_
 rintro _ rfl
 simp (disch := first | omega | (simp only [World.size_alloc, size_setRow, Ad]; done) | (simp only [World.size_alloc, size_setRow, Ad]; omega) | (simp only [List.length_set, Array.length_toList]; omega)) [-Option.bind_some, Ag, An]
 refine Ae.bind (Fk _ _ _) ?_
 rintro _ rfl
 simp (disch := first | omega | (simp only [World.size_alloc, size_setRow, Ad]; done) | (simp only [World.size_alloc, size_setRow, Ad]; omega) | (simp only [List.length_set, Array.length_toList]; omega)) [-Option.bind_some]
 refine Ae.bind (Od (An (by simp only [World.size_alloc, Ad]))) ?_
 rintro _ rfl
 simp (disch := first | omega | (simp only [World.size_alloc, size_setRow, Ad]; done) | (simp only [World.size_alloc, size_setRow, Ad]; omega) | (simp only [List.length_set, Array.length_toList]; omega)) [-Option.bind_some]
 refine ⟨?_, by (repeat (first | exact Ext.rfl | assumption | (refine Ext.al ?_ _) | (refine Ext.dw ?_) | (refine Ext.set ?_ (by first | omega | (simp only [World.size_alloc, size_setRow, Ad]; omega)) _) | (refine Ext.tr ?_ (by assumption))))⟩
 by_cases h1 : x.t < y.t
 ·simp [h1]
 ·by_cases h2 : y.t < x.t <;> simp [h1, h2]
theorem EN (x y : Tag) (w : World) : Ae (EV P 18 #[x.v, y.v] w) fun r => r.1 = .bool (AG x y) ∧ Ext w r.2 := by
 refine Ae.enter plain mixed (Kp _ _ _) (by kernel_rfl) (n := 2) (by kernel_rfl) rfl ?_
 simp (disch := first | omega | (simp only [World.size_alloc, size_setRow, Ad]; done) | (simp only [World.size_alloc, size_setRow, Ad]; omega) | (simp only [List.length_set, Array.length_toList]; omega)) [-Option.bind_some, Ag, An]
 refine Ae.bind (HV x y _) ?_
 rintro ⟨_, w1⟩ ⟨rfl, hE⟩
 simp (disch := first | omega | (simp only [World.size_alloc, size_setRow, Ad]; done) | (simp only [World.size_alloc, size_setRow, Ad]; omega) | (simp only [List.length_set, Array.length_toList]; omega)) [-Option.bind_some]
 refine ⟨?_, by (repeat (first | exact Ext.rfl | assumption | (refine Ext.al ?_ _) | (refine Ext.dw ?_) | (refine Ext.set ?_ (by first | omega | (simp only [World.size_alloc, size_setRow, Ad]; omega)) _) | (refine Ext.tr ?_ (by assumption))))⟩
 unfold AG
 by_cases h1 : x.t < y.t
 ·simp [h1]
 ·by_cases h2 : y.t < x.t
  ·have : ¬ x.t = y.t := by omega
   simp [h1, h2, this]
  ·have : x.t = y.t := by omega
   simp [this]
   by_cases h3 : x.p < y.p
   ·simp [h3]
   ·by_cases h4 : y.p < x.p <;> simp [h3, h4]
theorem HI (x y : Tag) (w : World) : Ae (EV P 109 #[x.v, y.v] w) fun r => r.1 = (Bl x y).v ∧ Ext w r.2 := by
 refine Ae.enter plain mixed (KM _ _ _) (by kernel_rfl) (n := 2) (by kernel_rfl) rfl ?_
 simp (disch := first | omega | (simp only [World.size_alloc, size_setRow, Ad]; done) | (simp only [World.size_alloc, size_setRow, Ad]; omega) | (simp only [List.length_set, Array.length_toList]; omega)) [-Option.bind_some, Ag, An]
 refine Ae.bind (EN x y _) ?_
 rintro ⟨_, w1⟩ ⟨rfl, hE⟩
 have hs := hE.size
 simp only [World.size_alloc] at hs
 cases h : AG x y
 ·simp (disch := first | omega | (simp only [World.size_alloc, size_setRow, Ad]; done) | (simp only [World.size_alloc, size_setRow, Ad]; omega) | (simp only [List.length_set, Array.length_toList]; omega)) [-Option.bind_some, Ag, An, Bl, h, hE.Ai]
  (repeat (first | exact Ext.rfl | assumption | (refine Ext.al ?_ _) | (refine Ext.dw ?_) | (refine Ext.set ?_ (by first | omega | (simp only [World.size_alloc, size_setRow, Ad]; omega)) _) | (refine Ext.tr ?_ (by assumption))))
 ·simp (disch := first | omega | (simp only [World.size_alloc, size_setRow, Ad]; done) | (simp only [World.size_alloc, size_setRow, Ad]; omega) | (simp only [List.length_set, Array.length_toList]; omega)) [-Option.bind_some, Ag, An, Bl, h, hE.Ai]
  (repeat (first | exact Ext.rfl | assumption | (refine Ext.al ?_ _) | (refine Ext.dw ?_) | (refine Ext.set ?_ (by first | omega | (simp only [World.size_alloc, size_setRow, Ad]; omega)) _) | (refine Ext.tr ?_ (by assumption))))
theorem AM (x y : Tag) (w : World) : Ae (EV P 63 #[x.v, y.v] w) fun r => r.1 = .bool (AG x y) ∧ Ext w r.2 := by
 refine Ae.enter plain mixed (KF _ _ _) (by kernel_rfl) (n := 2) (by kernel_rfl) rfl ?_
 cases h1 : decide (x.t < y.t)
 ·cases h2 : (x.t == y.t)
  ·simp (disch := first | omega | (simp only [World.size_alloc, size_setRow, Ad]; done) | (simp only [World.size_alloc, size_setRow, Ad]; omega) | (simp only [List.length_set, Array.length_toList]; omega)) [-Option.bind_some, Ag, An, h1, h2, AG]
   (repeat (first | exact Ext.rfl | assumption | (refine Ext.al ?_ _) | (refine Ext.dw ?_) | (refine Ext.set ?_ (by first | omega | (simp only [World.size_alloc, size_setRow, Ad]; omega)) _) | (refine Ext.tr ?_ (by assumption))))
  ·simp (disch := first | omega | (simp only [World.size_alloc, size_setRow, Ad]; done) | (simp only [World.size_alloc, size_setRow, Ad]; omega) | (simp only [List.length_set, Array.length_toList]; omega)) [-Option.bind_some, Ag, An, h1, h2, AG]
   (repeat (first | exact Ext.rfl | assumption | (refine Ext.al ?_ _) | (refine Ext.dw ?_) | (refine Ext.set ?_ (by first | omega | (simp only [World.size_alloc, size_setRow, Ad]; omega)) _) | (refine Ext.tr ?_ (by assumption))))
 ·simp (disch := first | omega | (simp only [World.size_alloc, size_setRow, Ad]; done) | (simp only [World.size_alloc, size_setRow, Ad]; omega) | (simp only [List.length_set, Array.length_toList]; omega)) [-Option.bind_some, Ag, An, h1, AG]
  (repeat (first | exact Ext.rfl | assumption | (refine Ext.al ?_ _) | (refine Ext.dw ?_) | (refine Ext.set ?_ (by first | omega | (simp only [World.size_alloc, size_setRow, Ad]; omega)) _) | (refine Ext.tr ?_ (by assumption))))
theorem IE (x y : Tag) (w : World) : Ae (EV P 93 #[x.v, y.v] w) fun r => r.1 = (Bl x y).v ∧ Ext w r.2 := by
 refine Ae.enter plain mixed (ML _ _ _) (by kernel_rfl) (n := 2) (by kernel_rfl) rfl ?_
 simp (disch := first | omega | (simp only [World.size_alloc, size_setRow, Ad]; done) | (simp only [World.size_alloc, size_setRow, Ad]; omega) | (simp only [List.length_set, Array.length_toList]; omega)) [-Option.bind_some, Ag, An]
 refine Ae.bind (AM x y _) ?_
 rintro ⟨_, w1⟩ ⟨rfl, hE⟩
 have hs := hE.size
 simp only [World.size_alloc] at hs
 cases h : AG x y
 ·simp (disch := first | omega | (simp only [World.size_alloc, size_setRow, Ad]; done) | (simp only [World.size_alloc, size_setRow, Ad]; omega) | (simp only [List.length_set, Array.length_toList]; omega)) [-Option.bind_some, Ag, An, Bl, h, hE.Ai]
  (repeat (first | exact Ext.rfl | assumption | (refine Ext.al ?_ _) | (refine Ext.dw ?_) | (refine Ext.set ?_ (by first | omega | (simp only [World.size_alloc, size_setRow, Ad]; omega)) _) | (refine Ext.tr ?_ (by assumption))))
 ·simp (disch := first | omega | (simp only [World.size_alloc, size_setRow, Ad]; done) | (simp only [World.size_alloc, size_setRow, Ad]; omega) | (simp only [List.length_set, Array.length_toList]; omega)) [-Option.bind_some, Ag, An, Bl, h, hE.Ai]
  (repeat (first | exact Ext.rfl | assumption | (refine Ext.al ?_ _) | (refine Ext.dw ?_) | (refine Ext.set ?_ (by first | omega | (simp only [World.size_alloc, size_setRow, Ad]; omega)) _) | (refine Ext.tr ?_ (by assumption))))
theorem Kc {s : ByteArray} (hs : s.size ≤ 140737488351232) : ∀ (d k : Nat) (e : Env) (w : World), k + d = s.size → e 0 = .string s → e 3 = i64 k →
  Ae (Cq e w) fun r => r = (.bool ((s.toList.drop k).all GW && decide ((s.size : Int) ≤ 8)), w) := by
 intro d
 induction d with
 | zero =>
  intro k e w hd h0 h3
  rw [Ej]
  simp (disch := first | omega | (simp only [World.size_alloc, size_setRow, Ad]; done) | (simp only [World.size_alloc, size_setRow, Ad]; omega) | (simp only [List.length_set, Array.length_toList]; omega)) [-Option.bind_some, h0, h3, show ¬ k < s.size by omega]
  rw [List.drop_eq_nil_of_le (by rw [Nr]; omega)]
  simp
 | succ d ih =>
  intro k e w hd h0 h3
  rw [Ej]
  have hlt : k < s.size := by omega
  obtain ⟨b, hb, hdx⟩ := Ak (l := s.toList) (k := k) (by rw [Nr]; omega)
  have hix := fun w => UD (P := P) (t := 9) (by kernel_rfl) s (i := k) (by omega) (b := b) (by simpa using hb) w
  rw [hdx]
  cases hb1 : decide ((b.toNat : Int) < 33)
  ·cases hb2 : decide ((b.toNat : Int) > 126)
   ·simp (disch := first | omega | (simp only [World.size_alloc, size_setRow, Ad]; done) | (simp only [World.size_alloc, size_setRow, Ad]; omega) | (simp only [List.length_set, Array.length_toList]; omega)) [-Option.bind_some, h0, h3, hlt, hix, hb1, hb2]
    refine Ae.mono (ih (k + 1) _ w (by omega) h0 (congrArg i64 (Kv (by omega) (by omega)))) ?_
    rintro _ rfl
    simp only [decide_eq_false_iff_not] at hb1 hb2
    have hby : GW b = true := by simp only [GW, Bool.and_eq_true, decide_eq_true_eq]; omega
    simp [hby]
   ·simp (disch := first | omega | (simp only [World.size_alloc, size_setRow, Ad]; done) | (simp only [World.size_alloc, size_setRow, Ad]; omega) | (simp only [List.length_set, Array.length_toList]; omega)) [-Option.bind_some, h0, h3, hlt, hix, hb1, hb2]
    simp only [decide_eq_true_eq] at hb2
    have hby : GW b = false := by simp only [GW, Bool.and_eq_false_iff, decide_eq_false_iff_not]; omega
    simp [hby]
  ·simp (disch := first | omega | (simp only [World.size_alloc, size_setRow, Ad]; done) | (simp only [World.size_alloc, size_setRow, Ad]; omega) | (simp only [List.length_set, Array.length_toList]; omega)) [-Option.bind_some, h0, h3, hlt, hix, hb1]
   simp only [decide_eq_true_eq] at hb1
   have hby : GW b = false := by simp only [GW, Bool.and_eq_false_iff, decide_eq_false_iff_not]; omega
   simp [hby]
theorem Kd {s : ByteArray} (hs : s.size ≤ 140737488351232) (w : World) : Ae (EV P 107 #[.string s] w) fun r => r = (.bool (Rz s), w) := by
 refine Ae.enter plain mixed (Jo _ _) (by kernel_rfl) (n := 1) (by kernel_rfl) rfl ?_
 simp (disch := first | omega | (simp only [World.size_alloc, size_setRow, Ad]; done) | (simp only [World.size_alloc, size_setRow, Ad]; omega) | (simp only [List.length_set, Array.length_toList]; omega)) [-Option.bind_some]
 exact Kc hs s.size 0 _ w (by omega) rfl rfl
theorem Ke {s u : Value} {xs ys : List Tag} {b c t t' : Nat} (hx4 : xs.length = 4) (hy4 : ys.length = 4) : ∀ (d k : Nat) (e : Env) (w : World), k + d = 4 → e 2 = pt b 0 → e 3 = pt c 0 → e 5 = i64 k →
  hp w b = some (.cells #[s] t (0, 0)) → hp w c = some (.cells #[u] t' (0, 0)) → A0 w s xs → A0 w u ys →
  Ae (Cu e w) fun r => r.1 = .bool (under (xs.drop k) (ys.drop k)) ∧ Ext w r.2 := by
 intro d
 induction d with
 | zero =>
  intro k e w hd h2 h3 h5 hx hy ha hb
  rw [El]
  obtain rfl : k = 4 := by omega
  simp (disch := first | omega | (simp only [World.size_alloc, size_setRow, Ad]; done) | (simp only [World.size_alloc, size_setRow, Ad]; omega) | (simp only [List.length_set, Array.length_toList]; omega)) [-Option.bind_some, h5]
  rw [List.drop_eq_nil_of_le (by omega)]
  exact ⟨rfl, by (repeat (first | exact Ext.rfl | assumption | (refine Ext.al ?_ _) | (refine Ext.dw ?_) | (refine Ext.set ?_ (by first | omega | (simp only [World.size_alloc, size_setRow, Ad]; omega)) _) | (refine Ext.tr ?_ (by assumption))))⟩
 | succ d ih =>
  intro k e w hd h2 h3 h5 hx hy ha hb
  rw [El]
  have hlt : k < xs.length := by omega
  obtain ⟨x, hxk, hdx⟩ := Ak hlt
  obtain ⟨y, hyk, hdy⟩ := Ak (show k < ys.length by omega)
  obtain ⟨b1, o1, c1, hs1, hA⟩ := ha.at hxk
  obtain ⟨b2, o2, c2, hs2, hB⟩ := hb.at hyk
  have p0 := hA 0 _ rfl
  have p1 := hA 1 _ rfl
  have q0 := hB 0 _ rfl
  have q1 := hB 1 _ rfl
  simp only [Nat.add_zero] at p0 q0
  subst hs1
  subst hs2
  simp (disch := first | omega | (simp only [World.size_alloc, size_setRow, Ad]; done) | (simp only [World.size_alloc, size_setRow, Ad]; omega) | (simp only [List.length_set, Array.length_toList]; omega)) [-Option.bind_some, h2, h3, h5, hx, hy, hx4, hy4, show (k : Int) < 4 by omega, Em, p0, p1, q0, q1]
  refine Ae.bind (AM y x _) ?_
  rintro ⟨_, w1⟩ ⟨rfl, hE⟩
  have hE' : Ext w w1 := (BJ w).tr hE
  cases hl : AG y x
  ·simp (disch := first | omega | (simp only [World.size_alloc, size_setRow, Ad]; done) | (simp only [World.size_alloc, size_setRow, Ad]; omega) | (simp only [List.length_set, Array.length_toList]; omega)) [-Option.bind_some]
   refine Ae.mono (ih (k + 1) _ w1 (by omega) h2 h3 (congrArg i64 (Kv (by omega) (by omega))) ((hE'.Ai (Aq hx)).trans hx) ((hE'.Ai (Aq hy)).trans hy) (ha.mono (Ext.Aj hE')) (hb.mono (Ext.Aj hE'))) ?_
   rintro r ⟨h6, h7⟩
   exact ⟨by rw [h6, hdx, hdy]; simp [under, hl], hE'.tr h7⟩
  ·simp (disch := first | omega | (simp only [World.size_alloc, size_setRow, Ad]; done) | (simp only [World.size_alloc, size_setRow, Ad]; omega) | (simp only [List.length_set, Array.length_toList]; omega)) [-Option.bind_some]
   exact ⟨by rw [hdx, hdy]; simp [under, hl], hE'⟩
theorem Ec {s u : Value} {xs ys : List Tag} (hx4 : xs.length = 4) (hy4 : ys.length = 4) {w : World} (ha : A0 w s xs) (hb : A0 w u ys) : Ae (EV P 84 #[.agg #[s], .agg #[u]] w) fun r => r.1 = .bool (under xs ys) ∧ Ext w r.2 := by
 have ha' := ha
 have hb' := hb
 obtain ⟨aa, ca, hs, hm⟩ := ha.len
 obtain ⟨ab, cb, hu, _⟩ := hb.len
 subst hs
 subst hu
 refine Ae.enter plain mixed (JE _ _ _) (by kernel_rfl) (n := 2) (by kernel_rfl) rfl ?_
 simp (disch := first | omega | (simp only [World.size_alloc, size_setRow, Ad]; done) | (simp only [World.size_alloc, size_setRow, Ad]; omega) | (simp only [List.length_set, Array.length_toList]; omega)) [-Option.bind_some]
 refine Ae.mono (Ke hx4 hy4 4 0 _ _ (by omega) rfl rfl rfl ((Ag (by simp)).trans (An rfl)) (An (by simp)) (ha'.mono (Ext.Aj (by (repeat (first | exact Ext.rfl | assumption | (refine Ext.al ?_ _) | (refine Ext.dw ?_) | (refine Ext.set ?_ (by first | omega | (simp only [World.size_alloc, size_setRow, Ad]; omega)) _) | (refine Ext.tr ?_ (by assumption))))))) (hb'.mono (Ext.Aj (by (repeat (first | exact Ext.rfl | assumption | (refine Ext.al ?_ _) | (refine Ext.dw ?_) | (refine Ext.set ?_ (by first | omega | (simp only [World.size_alloc, size_setRow, Ad]; omega)) _) | (refine Ext.tr ?_ (by assumption)))))))) ?_
 rintro r ⟨h1, h2⟩
 exact ⟨h1, (Ext.al (Ext.al Ext.rfl _) _).tr h2⟩
theorem Mz {s : Value} {vs : List Ver} {b1 b2 b3 t1 B : Nat} {w0 : World} (hb1 : b1 < B) (hb2 : b2 < B) (hb3 : b3 < B) (h0b2 : w0.heap.size ≤ b2) (h0b3 : w0.heap.size ≤ b3) (h21 : b2 ≠ b1) (h31 : b3 ≠ b1) (h32 : b3 ≠ b2) : ∀ (d k : Nat) (e : Env) (w : World) (sv c0 : Value), k + d = vs.length → e 1 = pt b1 0 → e 2 = pt b2 0 → e 3 = pt b3 0 → e 4 = i64 k →
  hp w b1 = some (.cells #[s] t1 (0, 0)) → hp w b2 = some (.cells #[c0] 32 (0, 0)) → hp w b3 = some (.cells #[sv] 32 (0, 0)) → IP w0 s vs → Ext w0 w → B ≤ w.heap.size →
  Bx 36 B w sv (B9 (vs.take k)) →
  Ae (Dg e w) fun r => ∃ s', r.1 = .agg #[s'] ∧ Bx 36 B r.2 s' (B9 vs) ∧ Ext w0 r.2 := by
 intro d
 induction d with
 | zero =>
  intro k e w sv c0 hd h1 h2 h3 h4 hx1 hx2 hx3 ha hE hBw hf
  obtain ⟨aa, ca, hs, hm⟩ := ha.len
  rw [Ft]
  subst hs
  obtain ⟨ab, cb, hsv, _⟩ := hf.r.len
  subst hsv
  simp (disch := first | omega | (simp only [World.size_alloc, size_setRow, Ad]; done) | (simp only [World.size_alloc, size_setRow, Ad]; omega) | (simp only [List.length_set, Array.length_toList]; omega)) [-Option.bind_some, h1, h2, h3, h4, hx1, hx2, hx3, show ¬ k < vs.length by omega]
  rw [List.take_of_length_le (by omega)] at hf ⊢
  refine ⟨hf.Aj fun b hb => Ac ?_, by (repeat (first | exact Ext.rfl | assumption | (refine Ext.al ?_ _) | (refine Ext.dw ?_) | (refine Ext.set ?_ (by first | omega | (simp only [World.size_alloc, size_setRow, Ad]; omega)) _) | (refine Ext.tr ?_ (by assumption))))⟩
  have := (hf.lt b hb).1
  omega
 | succ d ih =>
  intro k e w sv c0 hd h1 h2 h3 h4 hx1 hx2 hx3 ha hE hBw hf
  rw [Ft]
  have hlt : k < vs.length := by omega
  obtain ⟨v, hv, hdx⟩ := Ak hlt
  obtain ⟨_, _, _, hm⟩ := ha.len
  obtain ⟨bb, oo, cc, cs, hs1, hA0, hcs0⟩ := ha.at hv
  have hA := hA0.mono (Ext.Aj hE)
  obtain ⟨sp, rfl, _, _⟩ := hcs0
  have p1 := hA 1 _ rfl
  have p2 := hA 2 _ rfl
  have hbl := Aq hx3
  have hbb : bb < w.heap.size := hA.lt
  subst hs1
  obtain ⟨ab, cb, hsv, hfl⟩ := hf.r.len
  subst hsv
  have htl : (B9 (vs.take k)).length = k := by simp [B9]; omega
  simp (disch := first | omega | (simp only [World.size_alloc, size_setRow, Ad]; done) | (simp only [World.size_alloc, size_setRow, Ad]; omega) | (simp only [List.length_set, Array.length_toList]; omega)) [-Option.bind_some, Ag, h1, h3, h4, hx1, hx3, hlt, BP, p1, p2]
  refine Ae.bind (Qe (x := v.tag) CD (by kernel_rfl) (hf.Aj fun b hb => (Ag (by simp only [Ad]; exact (hf.lt b hb).2)).trans (BB w b)) (by simp only [World.size_alloc, Ad]; omega) ?_ (by omega)) ?_
  ·intro j u hj
   rw [An (by simp only [Ad]), Bm, ← BQ, Nat.zero_add]
   exact hj
  rintro ⟨s', w1⟩ ⟨hf1, hBut⟩
  have hk1 : ∀ b, b < B → hp w1 b = hp w b := fun b hb => (hBut.Ai b (by simp only [World.size_alloc, Ad]; omega) (fun e => absurd (hf.lt b (Option.mem_toList.2 e)).1 (by omega))).trans ((Ag (by simp only [Ad]; omega)).trans (BB w b))
  have hE1 : Ext w0 w1 := Ext.VL (b := (dw w).alloc _) (by (repeat (first | exact Ext.rfl | assumption | (refine Ext.al ?_ _) | (refine Ext.dw ?_) | (refine Ext.set ?_ (by first | omega | (simp only [World.size_alloc, size_setRow, Ad]; omega)) _) | (refine Ext.tr ?_ (by assumption))))) hBut fun x hx => by have := (hf.lt x (Option.mem_toList.2 hx)).1; omega
  have hsz : w.heap.size < w1.heap.size := by have := hBut.size; simp only [World.size_alloc, Ad] at this; omega
  obtain ⟨ac, c3, hsv, hfl1⟩ := hf1.r.len
  subst hsv
  simp (disch := first | omega | (simp only [World.size_alloc, size_setRow, Ad]; done) | (simp only [World.size_alloc, size_setRow, Ad]; omega) | (simp only [List.length_set, Array.length_toList]; omega)) [-Option.bind_some, hk1, hx3]
  refine Ae.mono (ih (k + 1) _ _ _ c0 (by omega) h1 h2 h3 (congrArg i64 (Kv (by omega) (by omega))) ((Ac (by omega)).trans ((hk1 _ hb1).trans hx1)) ((Ac (by omega)).trans ((hk1 _ hb2).trans hx2)) (by rw [B8, hk1 _ hb3, hx3]; rfl) ha (by (repeat (first | exact Ext.rfl | assumption | (refine Ext.al ?_ _) | (refine Ext.dw ?_) | (refine Ext.set ?_ (by first | omega | (simp only [World.size_alloc, size_setRow, Ad]; omega)) _) | (refine Ext.tr ?_ (by assumption))))) (by simp; omega) ?_) fun _ h => h
  rw [Hk hv]
  have : B9 (vs.take k ++ [v]) = B9 (vs.take k) ++ [v.tag] := by simp [B9]
  rw [this]
  have hf2 : ∀ cs, Bx 36 B (w1.setRow b3 cs) _ (B9 (vs.take k) ++ [v.tag]) := fun cs => hf1.Aj fun b hb => Ac (by have := (hf1.lt b hb).1; omega)
  simpa using hf2 _
theorem MD {s : Value} {vs : List Ver} {w : World} (ha : IP w s vs) : Ae (EV P 83 #[.agg #[s]] w) fun r => ∃ s', r.1 = .agg #[s'] ∧ Bx 36 w.heap.size r.2 s' (B9 vs) ∧ Ext w r.2 := by
 have ha' := ha
 obtain ⟨aa, ca, hs, hm⟩ := ha.len
 subst hs
 refine Ae.enter plain mixed (Lb _ _) (by kernel_rfl) (n := 1) (by kernel_rfl) rfl ?_
 simp (disch := first | omega | (simp only [World.size_alloc, size_setRow, Ad]; done) | (simp only [World.size_alloc, size_setRow, Ad]; omega) | (simp only [List.length_set, Array.length_toList]; omega)) [-Option.bind_some, An]
 refine Ae.mono (Mz (s := .slice aa vs.length ca) (vs := vs) (b1 := w.heap.size) (b2 := w.heap.size + 1) (b3 := w.heap.size + 2) (B := w.heap.size + 3) (w0 := w) (t1 := 44) (by omega) (by omega) (by omega) (by omega) (by omega) (by omega) (by omega) (by omega) vs.length 0 _ _ _ _ (by omega) rfl rfl rfl rfl
  (by simp (disch := first | omega | (simp only [World.size_alloc, size_setRow, Ad]; done) | (simp only [World.size_alloc, size_setRow, Ad]; omega) | (simp only [List.length_set, Array.length_toList]; omega)) [-Option.bind_some, Ag, An, Ac]; first | done | rfl) (by simp (disch := first | omega | (simp only [World.size_alloc, size_setRow, Ad]; done) | (simp only [World.size_alloc, size_setRow, Ad]; omega) | (simp only [List.length_set, Array.length_toList]; omega)) [-Option.bind_some, Ag, An, Ac]; first | done | rfl) (by simp (disch := first | omega | (simp only [World.size_alloc, size_setRow, Ad]; done) | (simp only [World.size_alloc, size_setRow, Ad]; omega) | (simp only [List.length_set, Array.length_toList]; omega)) [-Option.bind_some, An]; first | done | rfl) ha' (by (repeat (first | exact Ext.rfl | assumption | (refine Ext.al ?_ _) | (refine Ext.dw ?_) | (refine Ext.set ?_ (by first | omega | (simp only [World.size_alloc, size_setRow, Ad]; omega)) _) | (refine Ext.tr ?_ (by assumption))))) (by simp) ⟨Il.nil _ _ _ _, by simp [B9]⟩) ?_
 rintro ⟨_, w1⟩ ⟨s', rfl, hf, hE⟩
 exact ⟨s', rfl, hf.from (by omega), hE⟩
theorem Oe (n : Int) (w : World) : Ae (EV P 56 #[i64 n] w) fun r => r = (.bool (TE n), w) := by
 refine Ae.enter plain mixed (Mm _ _) (by kernel_rfl) (n := 1) (by kernel_rfl) rfl ?_
 simp (disch := first | omega | (simp only [World.size_alloc, size_setRow, Ad]; done) | (simp only [World.size_alloc, size_setRow, Ad]; omega) | (simp only [List.length_set, Array.length_toList]; omega)) [-Option.bind_some]
 refine Ae.bind (BI _ _ _ _) ?_
 rintro _ rfl
 simp (disch := first | omega | (simp only [World.size_alloc, size_setRow, Ad]; done) | (simp only [World.size_alloc, size_setRow, Ad]; omega) | (simp only [List.length_set, Array.length_toList]; omega)) [-Option.bind_some]
 rfl
theorem HW {s : Value} {xs : List Tag} : ∀ (d k : Nat) (e : Env) (w : World) (m : Int), k + d = xs.length → e 3 = i64 m → e 7 = s → e 8 = i64 xs.length → e 9 = i64 k → A0 w s xs →
  Ae (BL e w) fun r => r.1 = i64 (EP m (xs.drop k)) ∧ Ext w r.2 := by
 intro d
 induction d with
 | zero =>
  intro k e w m hd h3 h7 h8 h9 ha
  rw [Dh]
  simp (disch := first | omega | (simp only [World.size_alloc, size_setRow, Ad]; done) | (simp only [World.size_alloc, size_setRow, Ad]; omega) | (simp only [List.length_set, Array.length_toList]; omega)) [-Option.bind_some, h3, h8, h9, show ¬ k < xs.length by omega]
  rw [List.drop_eq_nil_of_le (by omega)]
  exact ⟨rfl, by (repeat (first | exact Ext.rfl | assumption | (refine Ext.al ?_ _) | (refine Ext.dw ?_) | (refine Ext.set ?_ (by first | omega | (simp only [World.size_alloc, size_setRow, Ad]; omega)) _) | (refine Ext.tr ?_ (by assumption))))⟩
 | succ d ih =>
  intro k e w m hd h3 h7 h8 h9 ha
  obtain ⟨aa, ca, hs, hm⟩ := ha.len
  rw [Dh]
  have hlt : k < xs.length := by omega
  obtain ⟨x, hx, hdx⟩ := Ak hlt
  obtain ⟨b1, o1, c1, hs1, hA⟩ := ha.at hx
  have p0 := hA 0 _ rfl
  have p1 := hA 1 _ rfl
  simp only [Nat.add_zero] at p0
  rw [hdx]
  subst hs1
  simp (disch := first | omega | (simp only [World.size_alloc, size_setRow, Ad]; done) | (simp only [World.size_alloc, size_setRow, Ad]; omega) | (simp only [List.length_set, Array.length_toList]; omega)) [-Option.bind_some, An, h3, h7, h8, h9, hlt, Em, p0, p1, Tm]
  have hE : Ext w ((w.alloc (.cells #[i64 0, i64 0] 36)).setRow w.heap.size #[i64 x.t, i64 x.p]) := by (repeat (first | exact Ext.rfl | assumption | (refine Ext.al ?_ _) | (refine Ext.dw ?_) | (refine Ext.set ?_ (by first | omega | (simp only [World.size_alloc, size_setRow, Ad]; omega)) _) | (refine Ext.tr ?_ (by assumption))))
  refine Ae.mono (ih (k + 1) _ _ (if m < x.t then x.t else m) (by omega) rfl h7 h8 (congrArg i64 (Kv (by omega) (by omega))) (ha.mono (Ext.Aj hE))) ?_
  rintro r ⟨h4, h5⟩
  exact ⟨by rw [h4]; rfl, hE.tr h5⟩
theorem HX {s : Value} {xs : List Tag} {w : World} (ha : A0 w s xs) : Ae (EV P 89 #[.agg #[s]] w) fun r => r.1 = i64 (EP 0 xs) ∧ Ext w r.2 := by
 have ha' := ha
 obtain ⟨aa, ca, hs, hm⟩ := ha.len
 subst hs
 refine Ae.enter plain mixed (HA _ _) (by kernel_rfl) (n := 1) (by kernel_rfl) rfl ?_
 simp (disch := first | omega | (simp only [World.size_alloc, size_setRow, Ad]; done) | (simp only [World.size_alloc, size_setRow, Ad]; omega) | (simp only [List.length_set, Array.length_toList]; omega)) [-Option.bind_some, An]
 refine Ae.mono (HW xs.length 0 _ _ 0 (by omega) rfl rfl rfl rfl (ha'.mono (Ext.Aj (by (repeat (first | exact Ext.rfl | assumption | (refine Ext.al ?_ _) | (refine Ext.dw ?_) | (refine Ext.set ?_ (by first | omega | (simp only [World.size_alloc, size_setRow, Ad]; omega)) _) | (refine Ext.tr ?_ (by assumption)))))))) ?_
 rintro r ⟨h1, h2⟩
 exact ⟨h1, (Ext.al Ext.rfl _).tr h2⟩
theorem ME {s u : Value} {xs ys : List Tag} {b1 b2 b3 b4 t1 t2 B : Nat} {w0 : World} (hx4 : xs.length = 4) (hy4 : ys.length = 4) (hb1 : b1 < B) (hb2 : b2 < B) (hb3 : b3 < B) (hb4 : b4 < B) (h03 : w0.heap.size ≤ b3) (h04 : w0.heap.size ≤ b4) (h41 : b4 ≠ b1) (h42 : b4 ≠ b2) (h43 : b4 ≠ b3) :
  ∀ (d k : Nat) (e : Env) (w : World) (sv c0 : Value), k + d = 4 → e 2 = pt b1 0 → e 3 = pt b2 0 → e 4 = pt b3 0 → e 5 = pt b4 0 → e 6 = i64 k →
  hp w b1 = some (.cells #[s] t1 (0, 0)) → hp w b2 = some (.cells #[u] t2 (0, 0)) → hp w b3 = some (.cells #[c0] 32 (0, 0)) → hp w b4 = some (.cells #[sv] 32 (0, 0)) → A0 w0 s xs → A0 w0 u ys → Ext w0 w → B ≤ w.heap.size →
  Bx 36 B w sv ((AF xs ys).take k) →
  Ae (Da e w) fun r => ∃ s', r.1 = .agg #[s'] ∧ Bx 36 B r.2 s' (AF xs ys) ∧ Ext w0 r.2 := by
 have hjl : (AF xs ys).length = 4 := by rw [Dj (by omega), hx4]
 intro d
 induction d with
 | zero =>
  intro k e w sv c0 hd h2 h3 h4 h5 h6 hx1 hx2 hx3 hx4 ha hb hE hBw hf
  rw [Fm]
  obtain rfl : k = 4 := by omega
  rw [List.take_of_length_le (by omega)] at hf
  obtain ⟨ab, cb, hsv, _⟩ := hf.r.len
  subst hsv
  simp (disch := first | omega | (simp only [World.size_alloc, size_setRow, Ad]; done) | (simp only [World.size_alloc, size_setRow, Ad]; omega) | (simp only [List.length_set, Array.length_toList]; omega)) [-Option.bind_some, h4, h5, h6, hx3, hx4]
  refine ⟨hf.Aj fun b hb => Ac ?_, by (repeat (first | exact Ext.rfl | assumption | (refine Ext.al ?_ _) | (refine Ext.dw ?_) | (refine Ext.set ?_ (by first | omega | (simp only [World.size_alloc, size_setRow, Ad]; omega)) _) | (refine Ext.tr ?_ (by assumption))))⟩
  have := (hf.lt b hb).1
  omega
 | succ d ih =>
  intro k e w sv c0 hd h2 h3 h4 h5 h6 hx1 hx2 hx3 hx4' ha hb hE hBw hf
  rw [Fm]
  have hlt : k < xs.length := by omega
  have hlt' : k < ys.length := by omega
  obtain ⟨x, hxk, _⟩ := Ak hlt
  obtain ⟨y, hyk, _⟩ := Ak hlt'
  obtain ⟨d1, o1, c1, hs1, hA⟩ := (ha.mono (Ext.Aj hE)).at hxk
  obtain ⟨d2, o2, c2, hs2, hB⟩ := (hb.mono (Ext.Aj hE)).at hyk
  have p0 := hA 0 _ rfl
  have p1 := hA 1 _ rfl
  have q0 := hB 0 _ rfl
  have q1 := hB 1 _ rfl
  simp only [Nat.add_zero] at p0 q0
  subst hs1
  subst hs2
  obtain ⟨ab, cb, hsv, hfl⟩ := hf.r.len
  subst hsv
  have htl : ((AF xs ys).take k).length = k := by rw [List.length_take]; omega
  rw [htl] at hf hx4' hfl
  simp (disch := first | omega | (simp only [World.size_alloc, size_setRow, Ad]; done) | (simp only [World.size_alloc, size_setRow, Ad]; omega) | (simp only [List.length_set, Array.length_toList]; omega)) [-Option.bind_some, h2, h3, h5, h6, hx1, hx2, hx4', hx4, hy4, show (k : Int) < 4 by omega, Em, p0, p1, q0, q1]
  refine Ae.bind (IE x y _) ?_
  rintro ⟨_, w1⟩ ⟨rfl, hE1⟩
  have hE1' : Ext w w1 := (BJ w).tr hE1
  have z1 := hE1'.size
  have Y4 := (hE1'.Ai (Aq hx4')).trans hx4'
  have ly4 := Aq Y4
  have hf1 := hf.Aj (w' := w1) fun b hb => hE1'.Ai (hf.lt b hb).2
  simp (disch := first | omega | (simp only [World.size_alloc, size_setRow, Ad]; done) | (simp only [World.size_alloc, size_setRow, Ad]; omega) | (simp only [List.length_set, Array.length_toList]; omega)) [-Option.bind_some, Ag, Y4]
  refine Ae.bind (Qe (x := Bl x y) CD (by kernel_rfl) (hf1.Aj fun b hb => Ag (hf1.lt b hb).2) (by simp only [World.size_alloc]; omega) ?_ (by omega)) ?_
  ·intro j u hj
   rw [An rfl, Bm, ← BQ, Nat.zero_add]
   exact hj
  rintro ⟨s', w2⟩ ⟨hf2, hBut⟩
  have hk2 : ∀ b, b < B → hp w2 b = hp w b := fun b hb => (hBut.Ai b (by simp only [World.size_alloc]; omega) (fun e => absurd (hf.lt b (Option.mem_toList.2 e)).1 (by omega))).trans ((Ag (by omega)).trans (hE1'.Ai (by omega)))
  have hE2 : Ext w0 w2 := Ext.VL (b := w1.alloc _) ((hE.tr hE1').al _) hBut fun x hx => by have := (hf.lt x (Option.mem_toList.2 hx)).1; omega
  have hsz : w1.heap.size < w2.heap.size := by have := hBut.size; simp only [World.size_alloc] at this; omega
  obtain ⟨ac, c3, hsv, hfl1⟩ := hf2.r.len
  have e1 : ((AF xs ys).take k ++ [Bl x y]).length = k + 1 := by rw [List.length_append, htl]; rfl
  try dsimp only at hsv
  rw [e1] at hsv
  subst hsv
  simp (disch := first | omega | (simp only [World.size_alloc, size_setRow, Ad]; done) | (simp only [World.size_alloc, size_setRow, Ad]; omega) | (simp only [List.length_set, Array.length_toList]; omega)) [-Option.bind_some, hk2, hx4']
  refine Ae.mono (ih (k + 1) _ _ _ c0 (by omega) h2 h3 h4 h5 (congrArg i64 (Kv (by omega) (by omega))) ((Ac (Ne.symm h41)).trans ((hk2 _ hb1).trans hx1)) ((Ac (Ne.symm h42)).trans ((hk2 _ hb2).trans hx2)) ((Ac (Ne.symm h43)).trans ((hk2 _ hb3).trans hx3)) (by rw [B8, hk2 _ hb4, hx4']; rfl) ha hb (by (repeat (first | exact Ext.rfl | assumption | (refine Ext.al ?_ _) | (refine Ext.dw ?_) | (refine Ext.set ?_ (by first | omega | (simp only [World.size_alloc, size_setRow, Ad]; omega)) _) | (refine Ext.tr ?_ (by assumption))))) (by simp; omega) ?_) fun _ h => h
  rw [Hk (JH hxk hyk)]
  have hf3 : ∀ cs, Bx 36 B (w2.setRow b4 cs) _ ((AF xs ys).take k ++ [Bl x y]) := fun cs => hf2.Aj fun b hb => Ac (by have := (hf2.lt b hb).1; omega)
  exact hf3 _
theorem MF {s u : Value} {xs ys : List Tag} (hx4 : xs.length = 4) (hy4 : ys.length = 4) {w : World} (ha : A0 w s xs) (hb : A0 w u ys) : Ae (EV P 67 #[.agg #[s], .agg #[u]] w) fun r => ∃ s', r.1 = .agg #[s'] ∧ Bx 36 w.heap.size r.2 s' (AF xs ys) ∧ Ext w r.2 := by
 have ha' := ha
 have hb' := hb
 obtain ⟨aa, ca, hs, hm⟩ := ha.len
 obtain ⟨ab, cb, hu, _⟩ := hb.len
 subst hs
 subst hu
 refine Ae.enter plain mixed (K8 _ _ _) (by kernel_rfl) (n := 2) (by kernel_rfl) rfl ?_
 simp (disch := first | omega | (simp only [World.size_alloc, size_setRow, Ad]; done) | (simp only [World.size_alloc, size_setRow, Ad]; omega) | (simp only [List.length_set, Array.length_toList]; omega)) [-Option.bind_some, An]
 refine Ae.mono (ME (s := .slice aa xs.length ca) (u := .slice ab ys.length cb) (xs := xs) (ys := ys) (b1 := w.heap.size) (b2 := w.heap.size + 1) (b3 := w.heap.size + 2) (b4 := w.heap.size + 3) (B := w.heap.size + 4) (w0 := w) (t1 := 32) (t2 := 32) hx4 hy4 (by omega) (by omega) (by omega) (by omega) (by omega) (by omega) (by omega) (by omega) (by omega) 4 0 _ _ _ _ (by omega) rfl rfl rfl rfl rfl
  (by simp (disch := first | omega | (simp only [World.size_alloc, size_setRow, Ad]; done) | (simp only [World.size_alloc, size_setRow, Ad]; omega) | (simp only [List.length_set, Array.length_toList]; omega)) [-Option.bind_some, Ag, An, Ac]; first | done | rfl) (by simp (disch := first | omega | (simp only [World.size_alloc, size_setRow, Ad]; done) | (simp only [World.size_alloc, size_setRow, Ad]; omega) | (simp only [List.length_set, Array.length_toList]; omega)) [-Option.bind_some, Ag, An, Ac]; first | done | rfl) (by simp (disch := first | omega | (simp only [World.size_alloc, size_setRow, Ad]; done) | (simp only [World.size_alloc, size_setRow, Ad]; omega) | (simp only [List.length_set, Array.length_toList]; omega)) [-Option.bind_some, Ag, An, Ac]; first | done | rfl) (by simp (disch := first | omega | (simp only [World.size_alloc, size_setRow, Ad]; done) | (simp only [World.size_alloc, size_setRow, Ad]; omega) | (simp only [List.length_set, Array.length_toList]; omega)) [-Option.bind_some, An]; first | done | rfl) ha' hb' (by (repeat (first | exact Ext.rfl | assumption | (refine Ext.al ?_ _) | (refine Ext.dw ?_) | (refine Ext.set ?_ (by first | omega | (simp only [World.size_alloc, size_setRow, Ad]; omega)) _) | (refine Ext.tr ?_ (by assumption))))) (by simp) ⟨Il.nil _ _ _ _, by simp⟩) ?_
 rintro ⟨_, w1⟩ ⟨s', rfl, hf, hE⟩
 exact ⟨s', rfl, hf.from (by omega), hE⟩
theorem HY {s : Value} {xs : List Tag} {w : World} (ha : A0 w s xs) : Ae (EV P 69 #[s] w) fun r => Bx 36 w.heap.size r.2 r.1 xs ∧ Ext w r.2 := by
 have ha' := ha
 obtain ⟨⟨aa, ca, hs, hn, hA⟩, hm⟩ := ha
 subst hs
 refine Ae.enter plain mixed (Hz _ _) (by kernel_rfl) (n := 1) (by kernel_rfl) rfl ?_
 have hnil := PN (P := P) CD
 cases aa with
 | none =>
  have hx : xs = [] := by
   rcases hA with h | ⟨b, o, h, _⟩
   ·have := congrArg List.length h
    rw [Es] at this
    exact List.eq_nil_of_length_eq_zero (by simp only [List.length_nil] at this; omega)
   ·cases h
  subst hx
  simp (disch := first | omega | (simp only [World.size_alloc, size_setRow, Ad]; done) | (simp only [World.size_alloc, size_setRow, Ad]; omega) | (simp only [List.length_set, Array.length_toList]; omega)) [-Option.bind_some, hnil]
  exact ⟨⟨Il.nil _ _ _ _, by simp⟩, by (repeat (first | exact Ext.rfl | assumption | (refine Ext.al ?_ _) | (refine Ext.dw ?_) | (refine Ext.set ?_ (by first | omega | (simp only [World.size_alloc, size_setRow, Ad]; omega)) _) | (refine Ext.tr ?_ (by assumption))))⟩
 | some a =>
  simp (disch := first | omega | (simp only [World.size_alloc, size_setRow, Ad]; done) | (simp only [World.size_alloc, size_setRow, Ad]; omega) | (simp only [List.length_set, Array.length_toList]; omega)) [-Option.bind_some, hnil]
  have hown : Il (w.alloc (.cells #[] 36)) w.heap.size 36 2 (.slice (some ⟨w.heap.size, 0, none⟩) 0 0) 0 [] :=
   ⟨rfl, by omega, .inr ⟨w.heap.size, 0, #[], rfl, by omega, An rfl, by omega, by omega, by simp, by simp⟩⟩
  by_cases h0 : xs.length = 0
  ·have hx : xs = [] := List.eq_nil_of_length_eq_zero h0
   subst hx
   simp (disch := first | omega | (simp only [World.size_alloc, size_setRow, Ad]; done) | (simp only [World.size_alloc, size_setRow, Ad]; omega) | (simp only [List.length_set, Array.length_toList]; omega)) [-Option.bind_some, Ge (P := P) (ty := 30) CD]
   exact ⟨⟨hown, by simp⟩, by (repeat (first | exact Ext.rfl | assumption | (refine Ext.al ?_ _) | (refine Ext.dw ?_) | (refine Ext.set ?_ (by first | omega | (simp only [World.size_alloc, size_setRow, Ad]; omega)) _) | (refine Ext.tr ?_ (by assumption))))⟩
  ·obtain ⟨b, o, hab, hA2⟩ : ∃ b o, some a = some ⟨b, o, none⟩ ∧ At w b o (CN xs) := by
    rcases hA with h | h
    ·have := congrArg List.length h
     rw [Es] at this
     simp at this
     omega
    ·exact h
   cases hab
   refine Ae.bind (Kw (P := P) CD (z := [i64 0, i64 0]) (by kernel_rfl) rfl (by omega) hown (by simp) (hA2.mono fun b hb => Ag hb) (Es xs) ?_ (by omega) (by omega) (by omega)) ?_
   ·rw [List.all_eq_true]
    intro v hv
    simp only [CN, List.mem_flatten, List.mem_map] at hv
    obtain ⟨l, ⟨t, _, rfl⟩, hv⟩ := hv
    simp only [List.mem_cons, List.not_mem_nil, or_false] at hv
    rcases hv with rfl | rfl <;> rfl
   rintro ⟨s', w1⟩ ⟨h1, h2, _⟩
   try dsimp only at *
   simp only [Nat.zero_add, List.nil_append] at h1
   simp (disch := first | omega | (simp only [World.size_alloc, size_setRow, Ad]; done) | (simp only [World.size_alloc, size_setRow, Ad]; omega) | (simp only [List.length_set, Array.length_toList]; omega)) [-Option.bind_some]
   exact ⟨⟨h1, hm⟩, Ext.VL (b := w.alloc _) (by (repeat (first | exact Ext.rfl | assumption | (refine Ext.al ?_ _) | (refine Ext.dw ?_) | (refine Ext.set ?_ (by first | omega | (simp only [World.size_alloc, size_setRow, Ad]; omega)) _) | (refine Ext.tr ?_ (by assumption))))) h2 fun x hx => by simp only [Av, Option.some.injEq] at hx; omega⟩
theorem IF {B : Nat} {s : Value} {xs : List Tag} {w : World} (hf : Bx 36 B w s xs) : Ae (EV P 68 #[s] w) fun r => r.2 = w ∧ Bx 36 B w r.1 xs := by
 obtain ⟨⟨hl, hn, ho⟩, hm⟩ := hf
 refine Ae.enter plain mixed (HZ _ _) (by kernel_rfl) (n := 1) (by kernel_rfl) rfl ?_
 rcases ho with ⟨rfl, h0⟩ | ⟨g, cap, cur, rfl, hg, hh, hc, hcm, hsz, ht⟩
 ·simp (disch := first | omega | (simp only [World.size_alloc, size_setRow, Ad]; done) | (simp only [World.size_alloc, size_setRow, Ad]; omega) | (simp only [List.length_set, Array.length_toList]; omega)) [-Option.bind_some, TN (P := P) CD]
  have hx : xs = [] := List.eq_nil_of_length_eq_zero h0
  subst hx
  exact ⟨Il.nil _ _ _ _, by simp⟩
 ·simp (disch := first | omega | (simp only [World.size_alloc, size_setRow, Ad]; done) | (simp only [World.size_alloc, size_setRow, Ad]; omega) | (simp only [List.length_set, Array.length_toList]; omega)) [-Option.bind_some, TN (P := P) CD]
  exact ⟨⟨hl, hn, .inr ⟨g, xs.length, cur, rfl, hg, hh, by omega, by omega, by omega, ht⟩⟩, hm⟩
theorem EO {s : Value} {xs : List Tag} {w : World} (ha : A0 w s xs) : Ae (EV P 36 #[.agg #[s]] w) fun r => ∃ s', r.1 = .agg #[s'] ∧ Bx 36 w.heap.size r.2 s' xs ∧ Ext w r.2 := by
 have ha' := ha
 obtain ⟨aa, ca, hs, hm⟩ := ha.len
 subst hs
 refine Ae.enter plain mixed (Ho _ _) (by kernel_rfl) (n := 1) (by kernel_rfl) rfl ?_
 simp (disch := first | omega | (simp only [World.size_alloc, size_setRow, Ad]; done) | (simp only [World.size_alloc, size_setRow, Ad]; omega) | (simp only [List.length_set, Array.length_toList]; omega)) [-Option.bind_some, Ag, An]
 refine Ae.bind (HY (ha'.mono (Ext.Aj (by (repeat (first | exact Ext.rfl | assumption | (refine Ext.al ?_ _) | (refine Ext.dw ?_) | (refine Ext.set ?_ (by first | omega | (simp only [World.size_alloc, size_setRow, Ad]; omega)) _) | (refine Ext.tr ?_ (by assumption)))))))) ?_
 rintro ⟨s1, w1⟩ ⟨hf, hE⟩
 try dsimp only at *
 have z1 := hE.size
 simp only [World.size_alloc] at z1 hf
 refine Ae.bind (IF hf) ?_
 rintro ⟨s2, w2⟩ ⟨rfl, hf2⟩
 try dsimp only at *
 obtain ⟨a2, c2, hs2, _⟩ := hf2.r.len
 subst hs2
 have X2 := (hE.Ai (b := w.heap.size + 1) (by simp)).trans (An (by simp))
 simp (disch := first | omega | (simp only [World.size_alloc, size_setRow, Ad]; done) | (simp only [World.size_alloc, size_setRow, Ad]; omega) | (simp only [List.length_set, Array.length_toList]; omega)) [-Option.bind_some, X2]
 refine ⟨(hf2.Aj fun b hb => ?_).from (by omega), by (repeat (first | exact Ext.rfl | assumption | (refine Ext.al ?_ _) | (refine Ext.dw ?_) | (refine Ext.set ?_ (by first | omega | (simp only [World.size_alloc, size_setRow, Ad]; omega)) _) | (refine Ext.tr ?_ (by assumption))))⟩
 have := (hf2.lt b hb).1
 exact Ac (by omega)
theorem MG {s u : Value} {xs : List Tag} {b c t t' : Nat} : ∀ (d k : Nat) (e : Env) (w : World), k + d = xs.length → e 2 = pt b 0 → e 3 = pt c 0 → e 5 = i64 k →
  hp w b = some (.cells #[s] t (0, 0)) → hp w c = some (.cells #[u] t' (0, 0)) → A0 w s xs → A0 w u xs →
  Ae (Du e w) fun r => r.1 = .bool true ∧ Ext w r.2 := by
 intro d
 induction d with
 | zero =>
  intro k e w hd h2 h3 h5 hx hy ha hb
  rw [FD]
  obtain ⟨aa, ca, hs, hm⟩ := ha.len
  subst hs
  simp (disch := first | omega | (simp only [World.size_alloc, size_setRow, Ad]; done) | (simp only [World.size_alloc, size_setRow, Ad]; omega) | (simp only [List.length_set, Array.length_toList]; omega)) [-Option.bind_some, h2, h5, hx, show ¬ k < xs.length by omega]
  (repeat (first | exact Ext.rfl | assumption | (refine Ext.al ?_ _) | (refine Ext.dw ?_) | (refine Ext.set ?_ (by first | omega | (simp only [World.size_alloc, size_setRow, Ad]; omega)) _) | (refine Ext.tr ?_ (by assumption))))
 | succ d ih =>
  intro k e w hd h2 h3 h5 hx hy ha hb
  rw [FD]
  obtain ⟨_, _, _, hm⟩ := ha.len
  have hlt : k < xs.length := by omega
  obtain ⟨x, hxk, _⟩ := Ak hlt
  obtain ⟨b1, o1, c1, hs1, hA⟩ := ha.at hxk
  obtain ⟨b2, o2, c2, hs2, hB⟩ := hb.at hxk
  have p0 := hA 0 _ rfl
  have p1 := hA 1 _ rfl
  have q0 := hB 0 _ rfl
  have q1 := hB 1 _ rfl
  simp only [Nat.add_zero] at p0 q0
  subst hs1
  subst hs2
  simp (disch := first | omega | (simp only [World.size_alloc, size_setRow, Ad]; done) | (simp only [World.size_alloc, size_setRow, Ad]; omega) | (simp only [List.length_set, Array.length_toList]; omega)) [-Option.bind_some, h2, h3, h5, hx, hy, hlt, Em, p0, p1, q0, q1]
  refine Ae.mono (ih (k + 1) _ _ (by omega) h2 h3 (congrArg i64 (Kv (by omega) (by omega))) ((BB _ _).trans hx) ((BB _ _).trans hy) (ha.mono (Ext.Aj (BJ w))) (hb.mono (Ext.Aj (BJ w)))) ?_
  rintro r ⟨h6, h7⟩
  exact ⟨h6, (BJ w).tr h7⟩
theorem MH {s u : Value} {xs : List Tag} {w : World} (ha : A0 w s xs) (hb : A0 w u xs) : Ae (EV P 15 #[.agg #[s], .agg #[u]] w) fun r => r.1 = .bool true ∧ Ext w r.2 := by
 have ha' := ha
 have hb' := hb
 obtain ⟨aa, ca, hs, hm⟩ := ha.len
 obtain ⟨ab, cb, hu, _⟩ := hb.len
 subst hs
 subst hu
 refine Ae.enter plain mixed (LZ _ _ _) (by kernel_rfl) (n := 2) (by kernel_rfl) rfl ?_
 simp (disch := first | omega | (simp only [World.size_alloc, size_setRow, Ad]; done) | (simp only [World.size_alloc, size_setRow, Ad]; omega) | (simp only [List.length_set, Array.length_toList]; omega)) [-Option.bind_some, Ag, An, bne_self_eq_false]
 refine Ae.mono (MG (c := w.heap.size + 1) xs.length 0 _ _ (by omega) rfl rfl rfl ((Ag (by simp)).trans (An rfl)) (An (by simp)) (ha'.mono (Ext.Aj (by (repeat (first | exact Ext.rfl | assumption | (refine Ext.al ?_ _) | (refine Ext.dw ?_) | (refine Ext.set ?_ (by first | omega | (simp only [World.size_alloc, size_setRow, Ad]; omega)) _) | (refine Ext.tr ?_ (by assumption))))))) (hb'.mono (Ext.Aj (by (repeat (first | exact Ext.rfl | assumption | (refine Ext.al ?_ _) | (refine Ext.dw ?_) | (refine Ext.set ?_ (by first | omega | (simp only [World.size_alloc, size_setRow, Ad]; omega)) _) | (refine Ext.tr ?_ (by assumption)))))))) ?_
 rintro r ⟨h1, h2⟩
 exact ⟨h1, (Ext.al (Ext.al Ext.rfl _) _).tr h2⟩
theorem Jy {u sv : Value} {xs ys : List Tag} {b4 b5 B : Nat} {w0 : World} (hl4 : xs.length = ys.length) (h04 : w0.heap.size ≤ b4) (h05 : w0.heap.size ≤ b5) (h0B : w0.heap.size ≤ B) (hne : ∀ b ∈ (Av sv).toList, b ≠ b4 ∧ b ≠ b5) (h45 : b4 ≠ b5) (hym : ys.length ≤ 8796093021952) :
  ∀ (d k : Nat) (e : Env) (w : World) (c0 : Value), k + d = ys.length → e 4 = pt b4 0 → e 5 = pt b5 0 → e 11 = u → e 12 = i64 ys.length → e 13 = i64 k →
  hp w b4 = some (.cells #[c0] 32 (0, 0)) → hp w b5 = some (.cells #[sv] 32 (0, 0)) → A0 w0 u ys → Ext w0 w → Bx 36 B w sv ((AF xs ys).take k ++ xs.drop k) →
  Ae (Cd e w) fun r => r.1 = .agg #[sv] ∧ Bx 36 B r.2 sv (AF xs ys) ∧ Ext w0 r.2 := by
 have hjl : (AF xs ys).length = xs.length := Dj hl4
 intro d
 induction d with
 | zero =>
  intro k e w c0 hd h4 h5 h11 h12 h13 hx4 hx5 hb hE hf
  rw [DW]
  rw [List.take_of_length_le (by omega), List.drop_eq_nil_of_le (by omega), List.append_nil] at hf
  obtain ⟨ab, cb, hsv, _⟩ := hf.r.len
  subst hsv
  obtain rfl : k = ys.length := by omega
  simp (disch := first | omega | (simp only [World.size_alloc, size_setRow, Ad]; done) | (simp only [World.size_alloc, size_setRow, Ad]; omega) | (simp only [List.length_set, Array.length_toList]; omega)) [-Option.bind_some, h4, h5, h12, h13, hx4, hx5]
  exact ⟨hf.Aj fun b hb => Ac (hne b hb).1, by (repeat (first | exact Ext.rfl | assumption | (refine Ext.al ?_ _) | (refine Ext.dw ?_) | (refine Ext.set ?_ (by first | omega | (simp only [World.size_alloc, size_setRow, Ad]; omega)) _) | (refine Ext.tr ?_ (by assumption))))⟩
 | succ d ih =>
  intro k e w c0 hd h4 h5 h11 h12 h13 hx4 hx5 hb hE hf
  rw [DW]
  have hlt : k < ys.length := by omega
  have hlx : k < xs.length := by omega
  obtain ⟨x, hxk, hdx⟩ := Ak hlx
  obtain ⟨y, hyk, _⟩ := Ak hlt
  obtain ⟨b2, o2, c2, hs2, hB⟩ := (hb.mono (Ext.Aj hE)).at hyk
  have q0 := hB 0 _ rfl
  have q1 := hB 1 _ rfl
  have hL : ((AF xs ys).take k ++ xs.drop k).length = xs.length := by simp only [List.length_append, List.length_take, List.length_drop]; omega
  have hLk : ((AF xs ys).take k ++ xs.drop k)[k]? = some x := by
   rw [List.getElem?_append_right (by simp only [List.length_take]; omega), List.length_take, hjl, show k - min k xs.length = 0 by omega, hdx]; rfl
  obtain ⟨d1, o1, c1, hs1, hA⟩ := hf.r.at hLk
  obtain ⟨g, cap, cur, hs, hg, hgl, hh, hle, hput⟩ := hf.put (j := k) (by omega)
  rw [hL] at hs1 hs hle
  have hin := hs1.symm.trans hs
  simp only [Value.slice.injEq, Option.some.injEq, Addr.mk.injEq, true_and, and_true] at hin
  obtain ⟨⟨rfl, rfl⟩, rfl⟩ := hin
  have p0 := hA 0 _ rfl
  have p1 := hA 1 _ rfl
  simp only [Nat.add_zero, Nat.zero_add] at p0 p1 q0
  have hb2 := hB.lt
  have l5 := Aq hx5
  have hgn := hne d1 (by simp [hs, Av])
  have hg4 : b4 ≠ d1 := fun e => hgn.1 e.symm
  have hg5 : b5 ≠ d1 := fun e => hgn.2 e.symm
  subst hs2
  subst hs
  simp (disch := first | omega | (simp only [World.size_alloc, size_setRow, Ad]; done) | (simp only [World.size_alloc, size_setRow, Ad]; omega) | (simp only [List.length_set, Array.length_toList]; omega)) [-Option.bind_some, Ag, An, Ac, h5, h11, h12, h13, hx5, hlt, Em, p0, p1, q0, q1]
  refine Ae.bind (HI x y _) ?_
  rintro ⟨_, w1⟩ ⟨rfl, hE1⟩
  try dsimp only at *
  have E1 : Ext w w1 := Ext.tr (by (repeat (first | exact Ext.rfl | assumption | (refine Ext.al ?_ _) | (refine Ext.dw ?_) | (refine Ext.set ?_ (by first | omega | (simp only [World.size_alloc, size_setRow, Ad]; omega)) _) | (refine Ext.tr ?_ (by assumption))))) hE1
  have X5 := (E1.Ai l5).trans hx5
  have G1 := (E1.Ai hgl).trans hh
  have X4 := (E1.Ai (Aq hx4)).trans hx4
  simp (disch := first | omega | (simp only [World.size_alloc, size_setRow, Ad]; done) | (simp only [World.size_alloc, size_setRow, Ad]; omega) | (simp only [List.length_set, Array.length_toList]; omega)) [-Option.bind_some, X5, G1, PA, -Aa, show k * 2 + 2 ≤ cur.size by omega]
  refine Ae.mono (ih (k + 1) _ _ c0 (by omega) h4 h5 h11 h12 (congrArg i64 (Kv (by omega) (by omega))) ((Ac hg4).trans X4) ((Ac hg5).trans X5) hb (Ext.set (hE.tr E1) (by omega) _) ?_) fun _ h => h
  rw [← QG hxk hyk hl4]
  refine hput (Bl x y) _ ?_
  rw [B8, G1]; rfl
theorem Jz {s u : Value} {xs ys : List Tag} (hl4 : xs.length = ys.length) {w : World} (ha : A0 w s xs) (hb : A0 w u ys) : Ae (EV P 90 #[.agg #[s], .agg #[u]] w) fun r => ∃ s', r.1 = .agg #[s'] ∧ Bx 36 w.heap.size r.2 s' (AF xs ys) ∧ Ext w r.2 := by
 have ha' := ha
 have hb' := hb
 obtain ⟨aa, ca, hs, hm⟩ := ha.len
 obtain ⟨ab, cb, hu, hym⟩ := hb.len
 subst hs
 subst hu
 refine Ae.enter plain mixed (II _ _ _) (by kernel_rfl) (n := 2) (by kernel_rfl) rfl ?_
 simp (disch := first | omega | (simp only [World.size_alloc, size_setRow, Ad]; done) | (simp only [World.size_alloc, size_setRow, Ad]; omega) | (simp only [List.length_set, Array.length_toList]; omega)) [-Option.bind_some, Ag, An]
 refine Ae.bind (EO (ha'.mono (Ext.Aj (by (repeat (first | exact Ext.rfl | assumption | (refine Ext.al ?_ _) | (refine Ext.dw ?_) | (refine Ext.set ?_ (by first | omega | (simp only [World.size_alloc, size_setRow, Ad]; omega)) _) | (refine Ext.tr ?_ (by assumption)))))))) ?_
 rintro ⟨_, w1⟩ ⟨s1, rfl, hf, hE⟩
 try dsimp only at *
 have z1 := hE.size
 simp only [World.size_alloc] at z1 hf
 have Y1 := (hE.Ai (b := w.heap.size + 1) (by simp only [World.size_alloc]; omega)).trans ((Ag (by simp)).trans (An (by simp)))
 have Z1 := (hE.Ai (b := w.heap.size + 1 + 1) (by simp)).trans (An (by simp))
 obtain ⟨a1, c1, hs1, _⟩ := hf.r.len
 subst hs1
 simp (disch := first | omega | (simp only [World.size_alloc, size_setRow, Ad]; done) | (simp only [World.size_alloc, size_setRow, Ad]; omega) | (simp only [List.length_set, Array.length_toList]; omega)) [-Option.bind_some, Ag, Ac, Y1]
 have D1 : Ext w1 ((w1.alloc (.cells #[.slice none 0 0] 32)).setRow w1.heap.size #[.slice a1 xs.length c1]) := by (repeat (first | exact Ext.rfl | assumption | (refine Ext.al ?_ _) | (refine Ext.dw ?_) | (refine Ext.set ?_ (by first | omega | (simp only [World.size_alloc, size_setRow, Ad]; omega)) _) | (refine Ext.tr ?_ (by assumption))))
 refine Ae.mono (Jy (u := .slice ab ys.length cb) (sv := .slice a1 xs.length c1) (xs := xs) (ys := ys) (b4 := w.heap.size + 1 + 1) (b5 := w1.heap.size) (B := w.heap.size + 3) (w0 := w) hl4 (by omega) (by omega) (by omega) (fun b hb => by have := hf.lt b hb; omega) (by omega) hym ys.length 0 _ _ _ (by omega) rfl rfl rfl rfl rfl
  ((Ac (by omega)).trans ((Ag (by omega)).trans Z1)) (by rw [B8, An rfl]; rfl) hb' (Ext.tr (by (repeat (first | exact Ext.rfl | assumption | (refine Ext.al ?_ _) | (refine Ext.dw ?_) | (refine Ext.set ?_ (by first | omega | (simp only [World.size_alloc, size_setRow, Ad]; omega)) _) | (refine Ext.tr ?_ (by assumption))))) D1) ?_) ?_
 ·rw [List.take_zero, List.nil_append, List.drop_zero]
  exact hf.Aj fun b hb => D1.Ai (hf.lt b hb).2
 rintro ⟨_, w2⟩ ⟨rfl, h1, h2⟩
 try dsimp only at *
 exact ⟨_, rfl, h1.from (by omega), h2⟩
end Go.Proofs.YtjhhommnkaemlaaGreat.X
