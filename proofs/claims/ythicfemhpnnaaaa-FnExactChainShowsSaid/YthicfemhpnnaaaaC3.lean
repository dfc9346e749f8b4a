/- A part of the proof: an evaluator of the model, its laws, and contracts of functions; no condition. -/
import Derived.Test.YthicfemhpnnaaaaC1
set_option linter.unusedVariables false
set_option linter.unusedSimpArgs false
set_option maxRecDepth 100000
namespace Go.Proofs.Ythicfemhpnnaaaa.X
open Go Go.Ev Go.RowKit
theorem cmp_isNaN_int_c (a : Int) (w : World) : Ret (EV P 163 #[i64 a] w) fun r => r = (.bool false, w) := by
  refine Ret.enter plain mixed (cmp_isNaN_int_fn _ _) (by kernel_rfl) (n := 1) (by kernel_rfl) rfl ?_
  simp (disch := first | omega | (simp only [World.size_alloc, size_setRow, dw_size]; done) | (simp only [World.size_alloc, size_setRow, dw_size]; omega) | (simp only [List.length_set, Array.length_toList]; omega)) [-Option.bind_some, hp_alloc_lt, hp_alloc_eq, hp_set_ne]
theorem cmp_Compare_int_c (a b : Int) (w : World) : Ret (EV P 158 #[i64 a, i64 b] w) fun r => r = (i64 (if a < b then -1 else if b < a then 1 else 0), w) := by
  refine Ret.enter plain mixed (cmp_Compare_int_fn _ _ _) (by kernel_rfl) (n := 2) (by kernel_rfl) rfl ?_
  simp (disch := first | omega | (simp only [World.size_alloc, size_setRow, dw_size]; done) | (simp only [World.size_alloc, size_setRow, dw_size]; omega) | (simp only [List.length_set, Array.length_toList]; omega)) [-Option.bind_some, hp_alloc_lt, hp_alloc_eq, hp_set_ne]
  refine Ret.bind (cmp_isNaN_int_c _ _) ?_
  rintro _ rfl
  simp (disch := first | omega | (simp only [World.size_alloc, size_setRow, dw_size]; done) | (simp only [World.size_alloc, size_setRow, dw_size]; omega) | (simp only [List.length_set, Array.length_toList]; omega)) [-Option.bind_some, hp_alloc_lt, hp_alloc_eq, hp_set_ne]
  refine Ret.bind (cmp_isNaN_int_c _ _) ?_
  rintro _ rfl
  simp (disch := first | omega | (simp only [World.size_alloc, size_setRow, dw_size]; done) | (simp only [World.size_alloc, size_setRow, dw_size]; omega) | (simp only [List.length_set, Array.length_toList]; omega)) [-Option.bind_some, hp_alloc_lt, hp_alloc_eq, hp_set_ne]
  by_cases h : a < b
  · simp (disch := first | omega | (simp only [World.size_alloc, size_setRow, dw_size]; done) | (simp only [World.size_alloc, size_setRow, dw_size]; omega) | (simp only [List.length_set, Array.length_toList]; omega)) [-Option.bind_some, hp_alloc_lt, hp_alloc_eq, hp_set_ne, h]
  · by_cases h2 : b < a <;> simp (disch := first | omega | (simp only [World.size_alloc, size_setRow, dw_size]; done) | (simp only [World.size_alloc, size_setRow, dw_size]; omega) | (simp only [List.length_set, Array.length_toList]; omega)) [-Option.bind_some, hp_alloc_lt, hp_alloc_eq, hp_set_ne, h, h2]
theorem cmp_Or_int_c {b : Nat} {x y : Int} {w : World} {e z} (h : hp w b = some (.cells #[i64 x, i64 y] e z)) : Ret (EV P 157 #[.slice (some ⟨b, 0, none⟩) 2 2] w) fun r => r = (i64 (if x = 0 then y else x), w) := by
  have i0 := ia_78 (b := b) (o := 0) (n := 2) (c := 2) (i := 0) (by omega) (by omega)
  have i1 := ia_78 (b := b) (o := 0) (n := 2) (c := 2) (i := 1) (by omega) (by omega)
  have l2 : ∀ e : Env, e 3 = i64 0 → e 7 = i64 2 → e 8 = i64 2 → Ret (cmp_Or_int_l1 e w) fun r => r = (i64 0, w) := by
    intro e h3 h7 h8
    rw [cmp_Or_int_l1_eq]
    simp (disch := first | omega | (simp only [World.size_alloc, size_setRow, dw_size]; done) | (simp only [World.size_alloc, size_setRow, dw_size]; omega) | (simp only [List.length_set, Array.length_toList]; omega)) [-Option.bind_some, hp_alloc_lt, hp_alloc_eq, hp_set_ne, h3, h7, h8]
  have l1 : ∀ e : Env, e 3 = i64 0 → e 6 = .slice (some ⟨b, 0, none⟩) 2 2 → e 7 = i64 2 → e 8 = i64 1 → Ret (cmp_Or_int_l1 e w) fun r => r = (i64 y, w) := by
    intro e h3 h6 h7 h8
    rw [cmp_Or_int_l1_eq]
    cases hy : (y != 0)
    · simp (disch := first | omega | (simp only [World.size_alloc, size_setRow, dw_size]; done) | (simp only [World.size_alloc, size_setRow, dw_size]; omega) | (simp only [List.length_set, Array.length_toList]; omega)) [-Option.bind_some, hp_alloc_lt, hp_alloc_eq, hp_set_ne, h3, h6, h7, h8, h, i1, hy]
      simp only [bne_eq_false_iff_eq] at hy
      subst hy
      exact l2 _ h3 h7 (congrArg i64 (w64 (by omega) (by omega)))
    · simp (disch := first | omega | (simp only [World.size_alloc, size_setRow, dw_size]; done) | (simp only [World.size_alloc, size_setRow, dw_size]; omega) | (simp only [List.length_set, Array.length_toList]; omega)) [-Option.bind_some, hp_alloc_lt, hp_alloc_eq, hp_set_ne, h3, h6, h7, h8, h, i1, hy]
  refine Ret.enter plain mixed (cmp_Or_int_fn _ _) (by kernel_rfl) (n := 1) (by kernel_rfl) rfl ?_
  simp (disch := first | omega | (simp only [World.size_alloc, size_setRow, dw_size]; done) | (simp only [World.size_alloc, size_setRow, dw_size]; omega) | (simp only [List.length_set, Array.length_toList]; omega)) [-Option.bind_some, hp_alloc_lt, hp_alloc_eq, hp_set_ne]
  rw [cmp_Or_int_l1_eq]
  have e3 : (ups (env0 #[Value.slice (some ⟨b, 0, none⟩) 2 2]) [(2, i64 0), (3, i64 0), (6, Value.slice (some ⟨b, 0, none⟩) 2 2), (7, i64 2), (8, i64 0)]) 3 = i64 0 := rfl
  have e6 : (ups (env0 #[Value.slice (some ⟨b, 0, none⟩) 2 2]) [(2, i64 0), (3, i64 0), (6, Value.slice (some ⟨b, 0, none⟩) 2 2), (7, i64 2), (8, i64 0)]) 6 = Value.slice (some ⟨b, 0, none⟩) 2 2 := rfl
  have e7 : (ups (env0 #[Value.slice (some ⟨b, 0, none⟩) 2 2]) [(2, i64 0), (3, i64 0), (6, Value.slice (some ⟨b, 0, none⟩) 2 2), (7, i64 2), (8, i64 0)]) 7 = i64 2 := rfl
  have e8 : (ups (env0 #[Value.slice (some ⟨b, 0, none⟩) 2 2]) [(2, i64 0), (3, i64 0), (6, Value.slice (some ⟨b, 0, none⟩) 2 2), (7, i64 2), (8, i64 0)]) 8 = i64 0 := rfl
  show Ret (_ : Option (Value × World)) _
  simp only [show ((2 : Nat) : Int) = 2 from rfl, e3, e6, e7, e8]
  generalize (ups (env0 #[Value.slice (some ⟨b, 0, none⟩) 2 2]) [(2, i64 0), (3, i64 0), (6, Value.slice (some ⟨b, 0, none⟩) 2 2), (7, i64 2), (8, i64 0)]) = e at *
  cases hx : (x != 0)
  · simp (disch := first | omega | (simp only [World.size_alloc, size_setRow, dw_size]; done) | (simp only [World.size_alloc, size_setRow, dw_size]; omega) | (simp only [List.length_set, Array.length_toList]; omega)) [-Option.bind_some, hp_alloc_lt, hp_alloc_eq, hp_set_ne, h, i0, hx]
    refine Ret.mono (l1 _ e3 e6 e7 (congrArg i64 (w64 (by omega) (by omega)))) ?_
    rintro _ rfl
    simp only [bne_eq_false_iff_eq] at hx
    simp [hx]
  · simp (disch := first | omega | (simp only [World.size_alloc, size_setRow, dw_size]; done) | (simp only [World.size_alloc, size_setRow, dw_size]; omega) | (simp only [List.length_set, Array.length_toList]; omega)) [-Option.bind_some, hp_alloc_lt, hp_alloc_eq, hp_set_ne, h, i0, hx]
    simp only [bne_iff_ne, ne_eq] at hx
    simp [hx]
theorem impl_Tag_compare_c (x y : Tag) (w : World) : Ret (EV P 149 #[x.v, y.v] w) fun r => r.1 = i64 (if x.t < y.t then -1 else if y.t < x.t then 1 else if x.p < y.p then -1 else if y.p < x.p then 1 else 0) ∧ Ext w r.2 := by
  refine Ret.enter plain mixed (impl_Tag_compare_fn _ _ _) (by kernel_rfl) (n := 2) (by kernel_rfl) rfl ?_
  simp (disch := first | omega | (simp only [World.size_alloc, size_setRow, dw_size]; done) | (simp only [World.size_alloc, size_setRow, dw_size]; omega) | (simp only [List.length_set, Array.length_toList]; omega)) [-Option.bind_some, hp_alloc_lt, hp_alloc_eq, hp_set_ne]
  refine Ret.bind (cmp_Compare_int_c _ _ _) ?_
  rintro _ rfl
  simp (disch := first | omega | (simp only [World.size_alloc, size_setRow, dw_size]; done) | (simp only [World.size_alloc, size_setRow, dw_size]; omega) | (simp only [List.length_set, Array.length_toList]; omega)) [-Option.bind_some, hp_alloc_lt, hp_alloc_eq, hp_set_ne]
  refine Ret.bind (cmp_Compare_int_c _ _ _) ?_
  rintro _ rfl
  simp (disch := first | omega | (simp only [World.size_alloc, size_setRow, dw_size]; done) | (simp only [World.size_alloc, size_setRow, dw_size]; omega) | (simp only [List.length_set, Array.length_toList]; omega)) [-Option.bind_some, hp_alloc_lt, hp_alloc_eq, hp_set_ne]
  refine Ret.bind (cmp_Or_int_c (hp_alloc_eq (by simp only [World.size_alloc, dw_size]))) ?_
  rintro _ rfl
  simp (disch := first | omega | (simp only [World.size_alloc, size_setRow, dw_size]; done) | (simp only [World.size_alloc, size_setRow, dw_size]; omega) | (simp only [List.length_set, Array.length_toList]; omega)) [-Option.bind_some, hp_alloc_lt, hp_alloc_eq, hp_set_ne]
  refine ⟨?_, by (repeat (first | exact Ext.rfl | assumption | (refine Ext.al ?_ _) | (refine Ext.dw ?_) | (refine Ext.set ?_ (by first | omega | (simp only [World.size_alloc, size_setRow, dw_size]; omega)) _) | (refine Ext.tr ?_ (by assumption))))⟩
  by_cases h1 : x.t < y.t
  · simp [h1]
  · by_cases h2 : y.t < x.t <;> simp [h1, h2]
theorem impl_TagLess_c (x y : Tag) (w : World) : Ret (EV P 126 #[x.v, y.v] w) fun r => r.1 = .bool (tagLess x y) ∧ Ext w r.2 := by
  refine Ret.enter plain mixed (impl_TagLess_fn _ _ _) (by kernel_rfl) (n := 2) (by kernel_rfl) rfl ?_
  simp (disch := first | omega | (simp only [World.size_alloc, size_setRow, dw_size]; done) | (simp only [World.size_alloc, size_setRow, dw_size]; omega) | (simp only [List.length_set, Array.length_toList]; omega)) [-Option.bind_some, hp_alloc_lt, hp_alloc_eq, hp_set_ne]
  refine Ret.bind (impl_Tag_compare_c x y _) ?_
  rintro ⟨_, w1⟩ ⟨rfl, hE⟩
  simp (disch := first | omega | (simp only [World.size_alloc, size_setRow, dw_size]; done) | (simp only [World.size_alloc, size_setRow, dw_size]; omega) | (simp only [List.length_set, Array.length_toList]; omega)) [-Option.bind_some, hp_alloc_lt, hp_alloc_eq, hp_set_ne]
  refine ⟨?_, by (repeat (first | exact Ext.rfl | assumption | (refine Ext.al ?_ _) | (refine Ext.dw ?_) | (refine Ext.set ?_ (by first | omega | (simp only [World.size_alloc, size_setRow, dw_size]; omega)) _) | (refine Ext.tr ?_ (by assumption))))⟩
  unfold tagLess
  by_cases h1 : x.t < y.t
  · simp [h1]
  · by_cases h2 : y.t < x.t
    · have : ¬ x.t = y.t := by omega
      simp [h1, h2, this]
    · have : x.t = y.t := by omega
      simp [this]
      by_cases h3 : x.p < y.p
      · simp [h3]
      · by_cases h4 : y.p < x.p <;> simp [h3, h4]
theorem spec_l1Less_c (x y : Tag) (w : World) : Ret (EV P 119 #[x.v, y.v] w) fun r => r.1 = .bool (tagLess x y) ∧ Ext w r.2 := by
  refine Ret.enter plain mixed (spec_l1Less_fn _ _ _) (by kernel_rfl) (n := 2) (by kernel_rfl) rfl ?_
  cases h1 : decide (x.t < y.t)
  · cases h2 : (x.t == y.t)
    · simp (disch := first | omega | (simp only [World.size_alloc, size_setRow, dw_size]; done) | (simp only [World.size_alloc, size_setRow, dw_size]; omega) | (simp only [List.length_set, Array.length_toList]; omega)) [-Option.bind_some, hp_alloc_lt, hp_alloc_eq, hp_set_ne, h1, h2, tagLess]
      (repeat (first | exact Ext.rfl | assumption | (refine Ext.al ?_ _) | (refine Ext.dw ?_) | (refine Ext.set ?_ (by first | omega | (simp only [World.size_alloc, size_setRow, dw_size]; omega)) _) | (refine Ext.tr ?_ (by assumption))))
    · simp (disch := first | omega | (simp only [World.size_alloc, size_setRow, dw_size]; done) | (simp only [World.size_alloc, size_setRow, dw_size]; omega) | (simp only [List.length_set, Array.length_toList]; omega)) [-Option.bind_some, hp_alloc_lt, hp_alloc_eq, hp_set_ne, h1, h2, tagLess]
      (repeat (first | exact Ext.rfl | assumption | (refine Ext.al ?_ _) | (refine Ext.dw ?_) | (refine Ext.set ?_ (by first | omega | (simp only [World.size_alloc, size_setRow, dw_size]; omega)) _) | (refine Ext.tr ?_ (by assumption))))
  · simp (disch := first | omega | (simp only [World.size_alloc, size_setRow, dw_size]; done) | (simp only [World.size_alloc, size_setRow, dw_size]; omega) | (simp only [List.length_set, Array.length_toList]; omega)) [-Option.bind_some, hp_alloc_lt, hp_alloc_eq, hp_set_ne, h1, tagLess]
    (repeat (first | exact Ext.rfl | assumption | (refine Ext.al ?_ _) | (refine Ext.dw ?_) | (refine Ext.set ?_ (by first | omega | (simp only [World.size_alloc, size_setRow, dw_size]; omega)) _) | (refine Ext.tr ?_ (by assumption))))
end Go.Proofs.Ythicfemhpnnaaaa.X
