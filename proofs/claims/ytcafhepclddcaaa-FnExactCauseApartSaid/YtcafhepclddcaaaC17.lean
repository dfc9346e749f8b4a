/- A part of the proof: an evaluator of the model, its laws, and contracts of functions; no condition. -/
import Derived.Test.YtcafhepclddcaaaEvS
import Derived.Test.YtcafhepclddcaaaEvT
import Derived.Test.YtcafhepclddcaaaEvF0
import Derived.Test.YtcafhepclddcaaaEvF1
import Derived.Test.YtcafhepclddcaaaEvF2
import Derived.Test.YtcafhepclddcaaaEvF3
import Derived.Test.YtcafhepclddcaaaEvF4
set_option linter.unusedVariables false
set_option linter.unusedSimpArgs false
set_option maxRecDepth 100000
namespace Go.Proofs.Ytcafhepclddcaaa.X
open Go Go.Ev Go.RowKit
theorem spec_l1In_c (n a b : Int) (w : World) : Ret (EV P 54 #[i64 n, i64 a, i64 b] w) fun r => r = (.bool (decide (a ≤ n) && decide (n ≤ b)), w) := by
  refine Ret.enter plain mixed (spec_l1In_fn _ _ _ _) (by kernel_rfl) (n := 3) (by kernel_rfl) rfl ?_
  cases h : decide (a ≤ n) <;> simp (disch := first | omega | (simp only [World.size_alloc, size_setRow, dw_size]; done) | (simp only [World.size_alloc, size_setRow, dw_size]; omega) | (simp only [List.length_set, Array.length_toList]; omega)) [-Option.bind_some, hp_alloc_lt, hp_alloc_eq, hp_set_ne, h]
theorem impl_within_c (n a b : Int) (w : World) : Ret (EV P 56 #[i64 n, i64 a, i64 b] w) fun r => r = (.bool (decide (a ≤ n) && decide (n ≤ b)), w) := by
  refine Ret.enter plain mixed (impl_within_fn _ _ _ _) (by kernel_rfl) (n := 3) (by kernel_rfl) rfl ?_
  cases h : decide (a ≤ n) <;> simp (disch := first | omega | (simp only [World.size_alloc, size_setRow, dw_size]; done) | (simp only [World.size_alloc, size_setRow, dw_size]; omega) | (simp only [List.length_set, Array.length_toList]; omega)) [-Option.bind_some, hp_alloc_lt, hp_alloc_eq, hp_set_ne, h]
theorem impl_placeOk_c (n : Int) (w : World) : Ret (EV P 111 #[i64 n] w) fun r => r = (.bool (decide (0 ≤ n) && decide (n ≤ 2)), w) := by
  refine Ret.enter plain mixed (impl_placeOk_fn _ _) (by kernel_rfl) (n := 1) (by kernel_rfl) rfl ?_
  simp (disch := first | omega | (simp only [World.size_alloc, size_setRow, dw_size]; done) | (simp only [World.size_alloc, size_setRow, dw_size]; omega) | (simp only [List.length_set, Array.length_toList]; omega)) [-Option.bind_some, hp_alloc_lt, hp_alloc_eq, hp_set_ne]
  refine Ret.bind (impl_within_c n 0 2 w) ?_
  rintro _ rfl
  simp (disch := first | omega | (simp only [World.size_alloc, size_setRow, dw_size]; done) | (simp only [World.size_alloc, size_setRow, dw_size]; omega) | (simp only [List.length_set, Array.length_toList]; omega)) [-Option.bind_some, hp_alloc_lt, hp_alloc_eq, hp_set_ne]
theorem spec_l1TagOk_c (x : Tag) (w : World) : Ret (EV P 108 #[x.v] w) fun r => r.1 = .bool (tagOk x) ∧ Ext w r.2 := by
  refine Ret.enter plain mixed (spec_l1TagOk_fn _ _) (by kernel_rfl) (n := 1) (by kernel_rfl) rfl ?_
  cases h : ((x.t == 0) && (x.p == 0))
  · simp (disch := first | omega | (simp only [World.size_alloc, size_setRow, dw_size]; done) | (simp only [World.size_alloc, size_setRow, dw_size]; omega) | (simp only [List.length_set, Array.length_toList]; omega)) [-Option.bind_some, hp_alloc_lt, hp_alloc_eq, hp_set_ne, h]
    refine Ret.bind (spec_l1In_c _ _ _ _) ?_
    rintro _ rfl
    cases h1 : (decide (1 ≤ x.t) && decide (x.t ≤ 999))
    · simp (disch := first | omega | (simp only [World.size_alloc, size_setRow, dw_size]; done) | (simp only [World.size_alloc, size_setRow, dw_size]; omega) | (simp only [List.length_set, Array.length_toList]; omega)) [-Option.bind_some, hp_alloc_lt, hp_alloc_eq, hp_set_ne, h1, Ext.alloc, tagOk, h]
    · simp (disch := first | omega | (simp only [World.size_alloc, size_setRow, dw_size]; done) | (simp only [World.size_alloc, size_setRow, dw_size]; omega) | (simp only [List.length_set, Array.length_toList]; omega)) [-Option.bind_some, hp_alloc_lt, hp_alloc_eq, hp_set_ne, h1]
      refine Ret.bind (spec_l1In_c _ _ _ _) ?_
      rintro _ rfl
      simp (disch := first | omega | (simp only [World.size_alloc, size_setRow, dw_size]; done) | (simp only [World.size_alloc, size_setRow, dw_size]; omega) | (simp only [List.length_set, Array.length_toList]; omega)) [-Option.bind_some, hp_alloc_lt, hp_alloc_eq, hp_set_ne, Ext.alloc, tagOk, h, h1]
  · simp (disch := first | omega | (simp only [World.size_alloc, size_setRow, dw_size]; done) | (simp only [World.size_alloc, size_setRow, dw_size]; omega) | (simp only [List.length_set, Array.length_toList]; omega)) [-Option.bind_some, hp_alloc_lt, hp_alloc_eq, hp_set_ne, h, Ext.alloc, tagOk]
theorem impl_TagOk_c (x : Tag) (w : World) : Ret (EV P 93 #[x.v] w) fun r => r.1 = .bool (tagOk x) ∧ Ext w r.2 := by
  refine Ret.enter plain mixed (impl_TagOk_fn _ _) (by kernel_rfl) (n := 1) (by kernel_rfl) rfl ?_
  cases h : ((x.t == 0) && (x.p == 0))
  · simp (disch := first | omega | (simp only [World.size_alloc, size_setRow, dw_size]; done) | (simp only [World.size_alloc, size_setRow, dw_size]; omega) | (simp only [List.length_set, Array.length_toList]; omega)) [-Option.bind_some, hp_alloc_lt, hp_alloc_eq, hp_set_ne, h]
    refine Ret.bind (impl_within_c _ _ _ _) ?_
    rintro _ rfl
    cases h1 : (decide (1 ≤ x.t) && decide (x.t ≤ 999))
    · simp (disch := first | omega | (simp only [World.size_alloc, size_setRow, dw_size]; done) | (simp only [World.size_alloc, size_setRow, dw_size]; omega) | (simp only [List.length_set, Array.length_toList]; omega)) [-Option.bind_some, hp_alloc_lt, hp_alloc_eq, hp_set_ne, h1, Ext.alloc, tagOk, h]
    · simp (disch := first | omega | (simp only [World.size_alloc, size_setRow, dw_size]; done) | (simp only [World.size_alloc, size_setRow, dw_size]; omega) | (simp only [List.length_set, Array.length_toList]; omega)) [-Option.bind_some, hp_alloc_lt, hp_alloc_eq, hp_set_ne, h1]
      refine Ret.bind (impl_placeOk_c _ _) ?_
      rintro _ rfl
      simp (disch := first | omega | (simp only [World.size_alloc, size_setRow, dw_size]; done) | (simp only [World.size_alloc, size_setRow, dw_size]; omega) | (simp only [List.length_set, Array.length_toList]; omega)) [-Option.bind_some, hp_alloc_lt, hp_alloc_eq, hp_set_ne, Ext.alloc, tagOk, h, h1]
  · simp (disch := first | omega | (simp only [World.size_alloc, size_setRow, dw_size]; done) | (simp only [World.size_alloc, size_setRow, dw_size]; omega) | (simp only [List.length_set, Array.length_toList]; omega)) [-Option.bind_some, hp_alloc_lt, hp_alloc_eq, hp_set_ne, h, Ext.alloc, tagOk]
theorem laws_toTag_c (x : Tag) (w : World) : Ret (EV P 26 #[x.v] w) fun r => r.1 = x.v ∧ Ext w r.2 := by
  refine Ret.enter plain mixed (laws_toTag_fn _ _) (by kernel_rfl) (n := 1) (by kernel_rfl) rfl ?_
  simp (disch := first | omega | (simp only [World.size_alloc, size_setRow, dw_size]; done) | (simp only [World.size_alloc, size_setRow, dw_size]; omega) | (simp only [List.length_set, Array.length_toList]; omega)) [-Option.bind_some, hp_alloc_lt, hp_alloc_eq, hp_set_ne]
  (repeat (first | exact Ext.rfl | assumption | (refine Ext.al ?_ _) | (refine Ext.dw ?_) | (refine Ext.set ?_ (by first | omega | (simp only [World.size_alloc, size_setRow, dw_size]; omega)) _) | (refine Ext.tr ?_ (by assumption))))
end Go.Proofs.Ytcafhepclddcaaa.X
set_option linter.unusedVariables false
set_option linter.unusedSimpArgs false
set_option maxRecDepth 100000
namespace Go.Proofs.Ytcafhepclddcaaa.X
open Go Go.Ev Go.RowKit
theorem laws_eqTag_c (x y : Tag) (w : World) : Ret (EV P 63 #[x.v, y.v] w) fun r => r.1 = .bool (decide (x = y)) ∧ Ext w r.2 := by
  refine Ret.enter plain mixed (laws_eqTag_fn _ _ _) (by kernel_rfl) (n := 2) (by kernel_rfl) rfl ?_
  obtain ⟨a, b⟩ := x
  obtain ⟨c, d⟩ := y
  cases h : (a != c)
  · cases h1 : (b != d)
    · simp (disch := first | omega | (simp only [World.size_alloc, size_setRow, dw_size]; done) | (simp only [World.size_alloc, size_setRow, dw_size]; omega) | (simp only [List.length_set, Array.length_toList]; omega)) [-Option.bind_some, hp_alloc_lt, hp_alloc_eq, hp_set_ne, h, h1]
      simp only [bne_eq_false_iff_eq] at h h1
      exact ⟨⟨h, h1⟩, by (repeat (first | exact Ext.rfl | assumption | (refine Ext.al ?_ _) | (refine Ext.dw ?_) | (refine Ext.set ?_ (by first | omega | (simp only [World.size_alloc, size_setRow, dw_size]; omega)) _) | (refine Ext.tr ?_ (by assumption))))⟩
    · simp (disch := first | omega | (simp only [World.size_alloc, size_setRow, dw_size]; done) | (simp only [World.size_alloc, size_setRow, dw_size]; omega) | (simp only [List.length_set, Array.length_toList]; omega)) [-Option.bind_some, hp_alloc_lt, hp_alloc_eq, hp_set_ne, h, h1]
      simp only [bne_iff_ne, ne_eq] at h1
      exact ⟨fun _ => h1, by (repeat (first | exact Ext.rfl | assumption | (refine Ext.al ?_ _) | (refine Ext.dw ?_) | (refine Ext.set ?_ (by first | omega | (simp only [World.size_alloc, size_setRow, dw_size]; omega)) _) | (refine Ext.tr ?_ (by assumption))))⟩
  · simp (disch := first | omega | (simp only [World.size_alloc, size_setRow, dw_size]; done) | (simp only [World.size_alloc, size_setRow, dw_size]; omega) | (simp only [List.length_set, Array.length_toList]; omega)) [-Option.bind_some, hp_alloc_lt, hp_alloc_eq, hp_set_ne, h]
    simp only [bne_iff_ne, ne_eq] at h
    exact ⟨fun h' => (h h').elim, by (repeat (first | exact Ext.rfl | assumption | (refine Ext.al ?_ _) | (refine Ext.dw ?_) | (refine Ext.set ?_ (by first | omega | (simp only [World.size_alloc, size_setRow, dw_size]; omega)) _) | (refine Ext.tr ?_ (by assumption))))⟩
end Go.Proofs.Ytcafhepclddcaaa.X
set_option linter.unusedVariables false
set_option linter.unusedSimpArgs false
set_option maxRecDepth 100000
namespace Go.Proofs.Ytcafhepclddcaaa.X
open Go Go.Ev Go.RowKit
theorem cmp_isNaN_int_c (a : Int) (w : World) : Ret (EV P 127 #[i64 a] w) fun r => r = (.bool false, w) := by
  refine Ret.enter plain mixed (cmp_isNaN_int_fn _ _) (by kernel_rfl) (n := 1) (by kernel_rfl) rfl ?_
  simp (disch := first | omega | (simp only [World.size_alloc, size_setRow, dw_size]; done) | (simp only [World.size_alloc, size_setRow, dw_size]; omega) | (simp only [List.length_set, Array.length_toList]; omega)) [-Option.bind_some, hp_alloc_lt, hp_alloc_eq, hp_set_ne]
theorem cmp_Compare_int_c (a b : Int) (w : World) : Ret (EV P 101 #[i64 a, i64 b] w) fun r => r = (i64 (if a < b then -1 else if b < a then 1 else 0), w) := by
  refine Ret.enter plain mixed (cmp_Compare_int_fn _ _ _) (by kernel_rfl) (n := 2) (by kernel_rfl) rfl ?_
  simp (disch := first | omega | (simp only [World.size_alloc, size_setRow, dw_size]; done) | (simp only [World.size_alloc, size_setRow, dw_size]; omega) | (simp only [List.length_set, Array.length_toList]; omega)) [-Option.bind_some, hp_alloc_lt, hp_alloc_eq, hp_set_ne]
  refine Ret.bind (cmp_isNaN_int_c _ _) ?_
  rintro _ rfl
  simp (disch := first | omega | (simp only [World.size_alloc, size_setRow, dw_size]; done) | (simp only [World.size_alloc, size_setRow, dw_size]; omega) | (simp only [List.length_set, Array.length_toList]; omega)) [-Option.bind_some, hp_alloc_lt, hp_alloc_eq, hp_set_ne]
  refine Ret.bind (cmp_isNaN_int_c _ _) ?_
  rintro _ rfl
  simp (disch := first | omega | (simp only [World.size_alloc, size_setRow, dw_size]; done) | (simp only [World.size_alloc, size_setRow, dw_size]; omega) | (simp only [List.length_set, Array.length_toList]; omega)) [-Option.bind_some, hp_alloc_lt, hp_alloc_eq, hp_set_ne]
  by_cases h : a < b
  · simp (disch := first | omega | (simp only [World.size_alloc, size_setRow, dw_size]; done) | (simp only [World.size_alloc, size_setRow, dw_size]; omega) | (simp only [List.length_set, Array.length_toList]; omega)) [-Option.bind_some, hp_alloc_lt, hp_alloc_eq, hp_set_ne, h]
  · by_cases h2 : b < a <;> simp (disch := first | omega | (simp only [World.size_alloc, size_setRow, dw_size]; done) | (simp only [World.size_alloc, size_setRow, dw_size]; omega) | (simp only [List.length_set, Array.length_toList]; omega)) [-Option.bind_some, hp_alloc_lt, hp_alloc_eq, hp_set_ne, h, h2]
theorem cmp_Or_int_c {b : Nat} {x y : Int} {w : World} {e z} (h : hp w b = some (.cells #[i64 x, i64 y] e z)) : Ret (EV P 100 #[.slice (some ⟨b, 0, none⟩) 2 2] w) fun r => r = (i64 (if x = 0 then y else x), w) := by
  have i0 := ia_139 (b := b) (o := 0) (n := 2) (c := 2) (i := 0) (by omega) (by omega)
  have i1 := ia_139 (b := b) (o := 0) (n := 2) (c := 2) (i := 1) (by omega) (by omega)
  have l2 : ∀ e : Env, e 3 = i64 0 → e 7 = i64 2 → e 8 = i64 2 → Ret (cmp_Or_int_l1 e w) fun r => r = (i64 0, w) := by
    intro e h3 h7 h8
    rw [cmp_Or_int_l1_eq]
    simp (disch := first | omega | (simp only [World.size_alloc, size_setRow, dw_size]; done) | (simp only [World.size_alloc, size_setRow, dw_size]; omega) | (simp only [List.length_set, Array.length_toList]; omega)) [-Option.bind_some, hp_alloc_lt, hp_alloc_eq, hp_set_ne, h3, h7, h8]
  have l1 : ∀ e : Env, e 3 = i64 0 → e 6 = .slice (some ⟨b, 0, none⟩) 2 2 → e 7 = i64 2 → e 8 = i64 1 → Ret (cmp_Or_int_l1 e w) fun r => r = (i64 y, w) := by
    intro e h3 h6 h7 h8
    rw [cmp_Or_int_l1_eq]
    cases hy : (y != 0)
    · simp (disch := first | omega | (simp only [World.size_alloc, size_setRow, dw_size]; done) | (simp only [World.size_alloc, size_setRow, dw_size]; omega) | (simp only [List.length_set, Array.length_toList]; omega)) [-Option.bind_some, hp_alloc_lt, hp_alloc_eq, hp_set_ne, h3, h6, h7, h8, h, i1, hy]
      simp only [bne_eq_false_iff_eq] at hy
      subst hy
      exact l2 _ h3 h7 (congrArg i64 (w64 (by omega) (by omega)))
    · simp (disch := first | omega | (simp only [World.size_alloc, size_setRow, dw_size]; done) | (simp only [World.size_alloc, size_setRow, dw_size]; omega) | (simp only [List.length_set, Array.length_toList]; omega)) [-Option.bind_some, hp_alloc_lt, hp_alloc_eq, hp_set_ne, h3, h6, h7, h8, h, i1, hy]
  refine Ret.enter plain mixed (cmp_Or_int_fn _ _) (by kernel_rfl) (n := 1) (by kernel_rfl) rfl ?_
  simp (disch := first | omega | (simp only [World.size_alloc, size_setRow, dw_size]; done) | (simp only [World.size_alloc, size_setRow, dw_size]; omega) | (simp only [List.length_set, Array.length_toList]; omega)) [-Option.bind_some, hp_alloc_lt, hp_alloc_eq, hp_set_ne]
  rw [cmp_Or_int_l1_eq]
  have e3 : (ups (env0 #[Value.slice (some ⟨b, 0, none⟩) 2 2]) [(2, i64 0), (3, i64 0), (6, Value.slice (some ⟨b, 0, none⟩) 2 2), (7, i64 2), (8, i64 0)]) 3 = i64 0 := rfl
  have e6 : (ups (env0 #[Value.slice (some ⟨b, 0, none⟩) 2 2]) [(2, i64 0), (3, i64 0), (6, Value.slice (some ⟨b, 0, none⟩) 2 2), (7, i64 2), (8, i64 0)]) 6 = Value.slice (some ⟨b, 0, none⟩) 2 2 := rfl
  have e7 : (ups (env0 #[Value.slice (some ⟨b, 0, none⟩) 2 2]) [(2, i64 0), (3, i64 0), (6, Value.slice (some ⟨b, 0, none⟩) 2 2), (7, i64 2), (8, i64 0)]) 7 = i64 2 := rfl
  have e8 : (ups (env0 #[Value.slice (some ⟨b, 0, none⟩) 2 2]) [(2, i64 0), (3, i64 0), (6, Value.slice (some ⟨b, 0, none⟩) 2 2), (7, i64 2), (8, i64 0)]) 8 = i64 0 := rfl
  show Ret (_ : Option (Value × World)) _
  simp only [show ((2 : Nat) : Int) = 2 from rfl, e3, e6, e7, e8]
  generalize (ups (env0 #[Value.slice (some ⟨b, 0, none⟩) 2 2]) [(2, i64 0), (3, i64 0), (6, Value.slice (some ⟨b, 0, none⟩) 2 2), (7, i64 2), (8, i64 0)]) = e at *
  cases hx : (x != 0)
  · simp (disch := first | omega | (simp only [World.size_alloc, size_setRow, dw_size]; done) | (simp only [World.size_alloc, size_setRow, dw_size]; omega) | (simp only [List.length_set, Array.length_toList]; omega)) [-Option.bind_some, hp_alloc_lt, hp_alloc_eq, hp_set_ne, h, i0, hx]
    refine Ret.mono (l1 _ e3 e6 e7 (congrArg i64 (w64 (by omega) (by omega)))) ?_
    rintro _ rfl
    simp only [bne_eq_false_iff_eq] at hx
    simp [hx]
  · simp (disch := first | omega | (simp only [World.size_alloc, size_setRow, dw_size]; done) | (simp only [World.size_alloc, size_setRow, dw_size]; omega) | (simp only [List.length_set, Array.length_toList]; omega)) [-Option.bind_some, hp_alloc_lt, hp_alloc_eq, hp_set_ne, h, i0, hx]
    simp only [bne_iff_ne, ne_eq] at hx
    simp [hx]
theorem impl_Tag_compare_c (x y : Tag) (w : World) : Ret (EV P 62 #[x.v, y.v] w) fun r => r.1 = i64 (if x.t < y.t then -1 else if y.t < x.t then 1 else if x.p < y.p then -1 else if y.p < x.p then 1 else 0) ∧ Ext w r.2 := by
  refine Ret.enter plain mixed (impl_Tag_compare_fn _ _ _) (by kernel_rfl) (n := 2) (by kernel_rfl) rfl ?_
  simp (disch := first | omega | (simp only [World.size_alloc, size_setRow, dw_size]; done) | (simp only [World.size_alloc, size_setRow, dw_size]; omega) | (simp only [List.length_set, Array.length_toList]; omega)) [-Option.bind_some, hp_alloc_lt, hp_alloc_eq, hp_set_ne]
  refine Ret.bind (cmp_Compare_int_c _ _ _) ?_
  rintro _ rfl
  simp (disch := first | omega | (simp only [World.size_alloc, size_setRow, dw_size]; done) | (simp only [World.size_alloc, size_setRow, dw_size]; omega) | (simp only [List.length_set, Array.length_toList]; omega)) [-Option.bind_some, hp_alloc_lt, hp_alloc_eq, hp_set_ne]
  refine Ret.bind (cmp_Compare_int_c _ _ _) ?_
  rintro _ rfl
  simp (disch := first | omega | (simp only [World.size_alloc, size_setRow, dw_size]; done) | (simp only [World.size_alloc, size_setRow, dw_size]; omega) | (simp only [List.length_set, Array.length_toList]; omega)) [-Option.bind_some, hp_alloc_lt, hp_alloc_eq, hp_set_ne]
  refine Ret.bind (cmp_Or_int_c (hp_alloc_eq (by simp only [World.size_alloc, dw_size]))) ?_
  rintro _ rfl
  simp (disch := first | omega | (simp only [World.size_alloc, size_setRow, dw_size]; done) | (simp only [World.size_alloc, size_setRow, dw_size]; omega) | (simp only [List.length_set, Array.length_toList]; omega)) [-Option.bind_some, hp_alloc_lt, hp_alloc_eq, hp_set_ne]
  refine ⟨?_, by (repeat (first | exact Ext.rfl | assumption | (refine Ext.al ?_ _) | (refine Ext.dw ?_) | (refine Ext.set ?_ (by first | omega | (simp only [World.size_alloc, size_setRow, dw_size]; omega)) _) | (refine Ext.tr ?_ (by assumption))))⟩
  by_cases h1 : x.t < y.t
  · simp [h1]
  · by_cases h2 : y.t < x.t <;> simp [h1, h2]
theorem impl_TagLess_c (x y : Tag) (w : World) : Ret (EV P 114 #[x.v, y.v] w) fun r => r.1 = .bool (tagLess x y) ∧ Ext w r.2 := by
  refine Ret.enter plain mixed (impl_TagLess_fn _ _ _) (by kernel_rfl) (n := 2) (by kernel_rfl) rfl ?_
  simp (disch := first | omega | (simp only [World.size_alloc, size_setRow, dw_size]; done) | (simp only [World.size_alloc, size_setRow, dw_size]; omega) | (simp only [List.length_set, Array.length_toList]; omega)) [-Option.bind_some, hp_alloc_lt, hp_alloc_eq, hp_set_ne]
  refine Ret.bind (impl_Tag_compare_c x y _) ?_
  rintro ⟨_, w1⟩ ⟨rfl, hE⟩
  simp (disch := first | omega | (simp only [World.size_alloc, size_setRow, dw_size]; done) | (simp only [World.size_alloc, size_setRow, dw_size]; omega) | (simp only [List.length_set, Array.length_toList]; omega)) [-Option.bind_some, hp_alloc_lt, hp_alloc_eq, hp_set_ne]
  refine ⟨?_, by (repeat (first | exact Ext.rfl | assumption | (refine Ext.al ?_ _) | (refine Ext.dw ?_) | (refine Ext.set ?_ (by first | omega | (simp only [World.size_alloc, size_setRow, dw_size]; omega)) _) | (refine Ext.tr ?_ (by assumption))))⟩
  unfold tagLess
  by_cases h1 : x.t < y.t
  · simp [h1]
  · by_cases h2 : y.t < x.t
    · have : ¬ x.t = y.t := by omega
      simp [h1, h2, this]
    · have : x.t = y.t := by omega
      simp [this]
      by_cases h3 : x.p < y.p
      · simp [h3]
      · by_cases h4 : y.p < x.p <;> simp [h3, h4]
theorem impl_TagMax_c (x y : Tag) (w : World) : Ret (EV P 130 #[x.v, y.v] w) fun r => r.1 = (tagMax x y).v ∧ Ext w r.2 := by
  refine Ret.enter plain mixed (impl_TagMax_fn _ _ _) (by kernel_rfl) (n := 2) (by kernel_rfl) rfl ?_
  simp (disch := first | omega | (simp only [World.size_alloc, size_setRow, dw_size]; done) | (simp only [World.size_alloc, size_setRow, dw_size]; omega) | (simp only [List.length_set, Array.length_toList]; omega)) [-Option.bind_some, hp_alloc_lt, hp_alloc_eq, hp_set_ne]
  refine Ret.bind (impl_TagLess_c x y _) ?_
  rintro ⟨_, w1⟩ ⟨rfl, hE⟩
  have hs := hE.size
  simp only [World.size_alloc] at hs
  cases h : tagLess x y
  · simp (disch := first | omega | (simp only [World.size_alloc, size_setRow, dw_size]; done) | (simp only [World.size_alloc, size_setRow, dw_size]; omega) | (simp only [List.length_set, Array.length_toList]; omega)) [-Option.bind_some, hp_alloc_lt, hp_alloc_eq, hp_set_ne, tagMax, h, hE.blk]
    (repeat (first | exact Ext.rfl | assumption | (refine Ext.al ?_ _) | (refine Ext.dw ?_) | (refine Ext.set ?_ (by first | omega | (simp only [World.size_alloc, size_setRow, dw_size]; omega)) _) | (refine Ext.tr ?_ (by assumption))))
  · simp (disch := first | omega | (simp only [World.size_alloc, size_setRow, dw_size]; done) | (simp only [World.size_alloc, size_setRow, dw_size]; omega) | (simp only [List.length_set, Array.length_toList]; omega)) [-Option.bind_some, hp_alloc_lt, hp_alloc_eq, hp_set_ne, tagMax, h, hE.blk]
    (repeat (first | exact Ext.rfl | assumption | (refine Ext.al ?_ _) | (refine Ext.dw ?_) | (refine Ext.set ?_ (by first | omega | (simp only [World.size_alloc, size_setRow, dw_size]; omega)) _) | (refine Ext.tr ?_ (by assumption))))
theorem spec_l1Less_c (x y : Tag) (w : World) : Ret (EV P 60 #[x.v, y.v] w) fun r => r.1 = .bool (tagLess x y) ∧ Ext w r.2 := by
  refine Ret.enter plain mixed (spec_l1Less_fn _ _ _) (by kernel_rfl) (n := 2) (by kernel_rfl) rfl ?_
  cases h1 : decide (x.t < y.t)
  · cases h2 : (x.t == y.t)
    · simp (disch := first | omega | (simp only [World.size_alloc, size_setRow, dw_size]; done) | (simp only [World.size_alloc, size_setRow, dw_size]; omega) | (simp only [List.length_set, Array.length_toList]; omega)) [-Option.bind_some, hp_alloc_lt, hp_alloc_eq, hp_set_ne, h1, h2, tagLess]
      (repeat (first | exact Ext.rfl | assumption | (refine Ext.al ?_ _) | (refine Ext.dw ?_) | (refine Ext.set ?_ (by first | omega | (simp only [World.size_alloc, size_setRow, dw_size]; omega)) _) | (refine Ext.tr ?_ (by assumption))))
    · simp (disch := first | omega | (simp only [World.size_alloc, size_setRow, dw_size]; done) | (simp only [World.size_alloc, size_setRow, dw_size]; omega) | (simp only [List.length_set, Array.length_toList]; omega)) [-Option.bind_some, hp_alloc_lt, hp_alloc_eq, hp_set_ne, h1, h2, tagLess]
      (repeat (first | exact Ext.rfl | assumption | (refine Ext.al ?_ _) | (refine Ext.dw ?_) | (refine Ext.set ?_ (by first | omega | (simp only [World.size_alloc, size_setRow, dw_size]; omega)) _) | (refine Ext.tr ?_ (by assumption))))
  · simp (disch := first | omega | (simp only [World.size_alloc, size_setRow, dw_size]; done) | (simp only [World.size_alloc, size_setRow, dw_size]; omega) | (simp only [List.length_set, Array.length_toList]; omega)) [-Option.bind_some, hp_alloc_lt, hp_alloc_eq, hp_set_ne, h1, tagLess]
    (repeat (first | exact Ext.rfl | assumption | (refine Ext.al ?_ _) | (refine Ext.dw ?_) | (refine Ext.set ?_ (by first | omega | (simp only [World.size_alloc, size_setRow, dw_size]; omega)) _) | (refine Ext.tr ?_ (by assumption))))
theorem spec_l1Max_c (x y : Tag) (w : World) : Ret (EV P 109 #[x.v, y.v] w) fun r => r.1 = (tagMax x y).v ∧ Ext w r.2 := by
  refine Ret.enter plain mixed (spec_l1Max_fn _ _ _) (by kernel_rfl) (n := 2) (by kernel_rfl) rfl ?_
  simp (disch := first | omega | (simp only [World.size_alloc, size_setRow, dw_size]; done) | (simp only [World.size_alloc, size_setRow, dw_size]; omega) | (simp only [List.length_set, Array.length_toList]; omega)) [-Option.bind_some, hp_alloc_lt, hp_alloc_eq, hp_set_ne]
  refine Ret.bind (spec_l1Less_c x y _) ?_
  rintro ⟨_, w1⟩ ⟨rfl, hE⟩
  have hs := hE.size
  simp only [World.size_alloc] at hs
  cases h : tagLess x y
  · simp (disch := first | omega | (simp only [World.size_alloc, size_setRow, dw_size]; done) | (simp only [World.size_alloc, size_setRow, dw_size]; omega) | (simp only [List.length_set, Array.length_toList]; omega)) [-Option.bind_some, hp_alloc_lt, hp_alloc_eq, hp_set_ne, tagMax, h, hE.blk]
    (repeat (first | exact Ext.rfl | assumption | (refine Ext.al ?_ _) | (refine Ext.dw ?_) | (refine Ext.set ?_ (by first | omega | (simp only [World.size_alloc, size_setRow, dw_size]; omega)) _) | (refine Ext.tr ?_ (by assumption))))
  · simp (disch := first | omega | (simp only [World.size_alloc, size_setRow, dw_size]; done) | (simp only [World.size_alloc, size_setRow, dw_size]; omega) | (simp only [List.length_set, Array.length_toList]; omega)) [-Option.bind_some, hp_alloc_lt, hp_alloc_eq, hp_set_ne, tagMax, h, hE.blk]
    (repeat (first | exact Ext.rfl | assumption | (refine Ext.al ?_ _) | (refine Ext.dw ?_) | (refine Ext.set ?_ (by first | omega | (simp only [World.size_alloc, size_setRow, dw_size]; omega)) _) | (refine Ext.tr ?_ (by assumption))))
end Go.Proofs.Ytcafhepclddcaaa.X
set_option linter.unusedVariables false
set_option linter.unusedSimpArgs false
set_option maxRecDepth 100000
namespace Go.Proofs.Ytcafhepclddcaaa.X
open Go Go.Ev Go.RowKit
theorem impl_keyOk_c (n : Int) (w : World) : Ret (EV P 92 #[i64 n] w) fun r => r = (.bool (keyOk n), w) := by
  refine Ret.enter plain mixed (impl_keyOk_fn _ _) (by kernel_rfl) (n := 1) (by kernel_rfl) rfl ?_
  simp (disch := first | omega | (simp only [World.size_alloc, size_setRow, dw_size]; done) | (simp only [World.size_alloc, size_setRow, dw_size]; omega) | (simp only [List.length_set, Array.length_toList]; omega)) [-Option.bind_some, hp_alloc_lt, hp_alloc_eq, hp_set_ne]
  refine Ret.bind (impl_within_c _ _ _ _) ?_
  rintro _ rfl
  simp (disch := first | omega | (simp only [World.size_alloc, size_setRow, dw_size]; done) | (simp only [World.size_alloc, size_setRow, dw_size]; omega) | (simp only [List.length_set, Array.length_toList]; omega)) [-Option.bind_some, hp_alloc_lt, hp_alloc_eq, hp_set_ne]
  rfl
theorem impl_Past_latest_l {s : Value} {xs : List Tag} : ∀ (d k : Nat) (e : Env) (w : World) (m : Int), k + d = xs.length → e 3 = i64 m → e 7 = s → e 8 = i64 xs.length → e 9 = i64 k → rTags w s xs →
    Ret (impl_Past_latest_l1 e w) fun r => r.1 = i64 (latest m (xs.drop k)) ∧ Ext w r.2 := by
  intro d
  induction d with
  | zero =>
    intro k e w m hd h3 h7 h8 h9 ha
    rw [impl_Past_latest_l1_eq]
    simp (disch := first | omega | (simp only [World.size_alloc, size_setRow, dw_size]; done) | (simp only [World.size_alloc, size_setRow, dw_size]; omega) | (simp only [List.length_set, Array.length_toList]; omega)) [-Option.bind_some, hp_alloc_lt, hp_alloc_eq, hp_set_ne, h3, h7, h8, h9, show ¬ k < xs.length by omega, show xs.length ≤ k by omega]
    rw [List.drop_eq_nil_of_le (by omega)]
    exact ⟨rfl, by (repeat (first | exact Ext.rfl | assumption | (refine Ext.al ?_ _) | (refine Ext.dw ?_) | (refine Ext.set ?_ (by first | omega | (simp only [World.size_alloc, size_setRow, dw_size]; omega)) _) | (refine Ext.tr ?_ (by assumption))))⟩
  | succ d ih =>
    intro k e w m hd h3 h7 h8 h9 ha
    obtain ⟨aa, ca, hs, hm⟩ := ha.len
    rw [impl_Past_latest_l1_eq]
    have hlt : k < xs.length := by omega
    obtain ⟨x, hx, hdx⟩ := drop_at hlt
    obtain ⟨b1, o1, c1, hs1, hA⟩ := ha.at hx
    have p0 := hA 0 _ rfl
    have p1 := hA 1 _ rfl
    simp only [Nat.add_zero] at p0
    rw [hdx]
    subst hs1
    simp (disch := first | omega | (simp only [World.size_alloc, size_setRow, dw_size]; done) | (simp only [World.size_alloc, size_setRow, dw_size]; omega) | (simp only [List.length_set, Array.length_toList]; omega)) [-Option.bind_some, hp_alloc_lt, hp_alloc_eq, hp_set_ne, h3, h7, h8, h9, hlt, ia_30, p0, p1, max_int]
    have hE : Ext w ((w.alloc (.cells #[i64 0, i64 0] 42)).setRow w.heap.size #[i64 x.t, i64 x.p]) := by (repeat (first | exact Ext.rfl | assumption | (refine Ext.al ?_ _) | (refine Ext.dw ?_) | (refine Ext.set ?_ (by first | omega | (simp only [World.size_alloc, size_setRow, dw_size]; omega)) _) | (refine Ext.tr ?_ (by assumption))))
    refine Ret.mono (ih (k + 1) _ _ (if m < x.t then x.t else m) (by omega) rfl h7 h8 (congrArg i64 (w64 (by omega) (by omega))) (ha.mono (Ext.keep hE))) ?_
    rintro r ⟨h4, h5⟩
    exact ⟨by rw [h4]; rfl, hE.tr h5⟩
theorem impl_Past_latest_c {s : Value} {xs : List Tag} {w : World} (ha : rTags w s xs) : Ret (EV P 113 #[.agg #[s]] w) fun r => r.1 = i64 (latest 0 xs) ∧ Ext w r.2 := by
  have ha' := ha
  obtain ⟨aa, ca, hs, hm⟩ := ha.len
  subst hs
  refine Ret.enter plain mixed (impl_Past_latest_fn _ _) (by kernel_rfl) (n := 1) (by kernel_rfl) rfl ?_
  simp (disch := first | omega | (simp only [World.size_alloc, size_setRow, dw_size]; done) | (simp only [World.size_alloc, size_setRow, dw_size]; omega) | (simp only [List.length_set, Array.length_toList]; omega)) [-Option.bind_some, hp_alloc_lt, hp_alloc_eq, hp_set_ne]
  refine Ret.mono (impl_Past_latest_l xs.length 0 _ _ 0 (by omega) rfl rfl rfl rfl (ha'.mono (Ext.keep (by (repeat (first | exact Ext.rfl | assumption | (refine Ext.al ?_ _) | (refine Ext.dw ?_) | (refine Ext.set ?_ (by first | omega | (simp only [World.size_alloc, size_setRow, dw_size]; omega)) _) | (refine Ext.tr ?_ (by assumption)))))))) ?_
  rintro r ⟨h1, h2⟩
  exact ⟨h1, (Ext.al Ext.rfl _).tr h2⟩
end Go.Proofs.Ytcafhepclddcaaa.X
set_option linter.unusedVariables false
set_option linter.unusedSimpArgs false
set_option maxRecDepth 100000
namespace Go.Proofs.Ytcafhepclddcaaa.X
open Go Go.Ev Go.RowKit
theorem spec_l1Join_l {s u : Value} {xs ys : List Tag} {b1 b2 b3 b4 t1 t2 B : Nat} {w0 : World} (hx4 : xs.length = 4) (hy4 : ys.length = 4) (hb1 : b1 < B) (hb2 : b2 < B) (hb3 : b3 < B) (hb4 : b4 < B) (h03 : w0.heap.size ≤ b3) (h04 : w0.heap.size ≤ b4) (h41 : b4 ≠ b1) (h42 : b4 ≠ b2) (h43 : b4 ≠ b3) :
    ∀ (d k : Nat) (e : Env) (w : World) (sv c0 : Value), k + d = 4 → e 2 = pt b1 0 → e 3 = pt b2 0 → e 4 = pt b3 0 → e 5 = pt b4 0 → e 6 = i64 k →
    hp w b1 = some (.cells #[s] t1 (0, 0)) → hp w b2 = some (.cells #[u] t2 (0, 0)) → hp w b3 = some (.cells #[c0] 32 (0, 0)) → hp w b4 = some (.cells #[sv] 32 (0, 0)) → rTags w0 s xs → rTags w0 u ys → Ext w0 w → B ≤ w.heap.size →
    fTags 42 B w sv ((joinT xs ys).take k) →
    Ret (spec_l1Join_l1 e w) fun r => ∃ s', r.1 = .agg #[s'] ∧ fTags 42 B r.2 s' (joinT xs ys) ∧ Ext w0 r.2 := by
  have hjl : (joinT xs ys).length = 4 := by rw [joinT_length (by omega), hx4]
  intro d
  induction d with
  | zero =>
    intro k e w sv c0 hd h2 h3 h4 h5 h6 hx1 hx2 hx3 hx4 ha hb hE hBw hf
    rw [spec_l1Join_l1_eq]
    obtain rfl : k = 4 := by omega
    rw [List.take_of_length_le (by omega)] at hf
    obtain ⟨ab, cb, hsv, _⟩ := hf.r.len
    subst hsv
    simp (disch := first | omega | (simp only [World.size_alloc, size_setRow, dw_size]; done) | (simp only [World.size_alloc, size_setRow, dw_size]; omega) | (simp only [List.length_set, Array.length_toList]; omega)) [-Option.bind_some, hp_alloc_lt, hp_alloc_eq, hp_set_ne, h2, h3, h4, h5, h6, hx3, hx4]
    refine ⟨hf.keep fun b hb => hp_set_ne ?_, by (repeat (first | exact Ext.rfl | assumption | (refine Ext.al ?_ _) | (refine Ext.dw ?_) | (refine Ext.set ?_ (by first | omega | (simp only [World.size_alloc, size_setRow, dw_size]; omega)) _) | (refine Ext.tr ?_ (by assumption))))⟩
    have := (hf.lt b hb).1
    omega
  | succ d ih =>
    intro k e w sv c0 hd h2 h3 h4 h5 h6 hx1 hx2 hx3 hx4' ha hb hE hBw hf
    rw [spec_l1Join_l1_eq]
    have hlt : k < xs.length := by omega
    have hlt' : k < ys.length := by omega
    obtain ⟨x, hxk, _⟩ := drop_at hlt
    obtain ⟨y, hyk, _⟩ := drop_at hlt'
    obtain ⟨d1, o1, c1, hs1, hA⟩ := (ha.mono (Ext.keep hE)).at hxk
    obtain ⟨d2, o2, c2, hs2, hB⟩ := (hb.mono (Ext.keep hE)).at hyk
    have p0 := hA 0 _ rfl
    have p1 := hA 1 _ rfl
    have q0 := hB 0 _ rfl
    have q1 := hB 1 _ rfl
    simp only [Nat.add_zero] at p0 q0
    subst hs1
    subst hs2
    obtain ⟨ab, cb, hsv, hfl⟩ := hf.r.len
    subst hsv
    have htl : ((joinT xs ys).take k).length = k := by rw [List.length_take]; omega
    rw [htl] at hf hx4' hfl
    simp (disch := first | omega | (simp only [World.size_alloc, size_setRow, dw_size]; done) | (simp only [World.size_alloc, size_setRow, dw_size]; omega) | (simp only [List.length_set, Array.length_toList]; omega)) [-Option.bind_some, hp_alloc_lt, hp_alloc_eq, hp_set_ne, h2, h3, h4, h5, h6, hx1, hx2, hx4', hx4, hy4, show (k : Int) < 4 by omega, show k < 4 by omega, ia_30, p0, p1, q0, q1]
    refine Ret.bind (spec_l1Max_c x y _) ?_
    rintro ⟨_, w1⟩ ⟨rfl, hE1⟩
    have hE1' : Ext w w1 := (dw_ext w).tr hE1
    have z1 := hE1'.size
    have Y4 := (hE1'.blk (hp_lt hx4')).trans hx4'
    have ly4 := hp_lt Y4
    have hf1 := hf.keep (w' := w1) fun b hb => hE1'.blk (hf.lt b hb).2
    simp (disch := first | omega | (simp only [World.size_alloc, size_setRow, dw_size]; done) | (simp only [World.size_alloc, size_setRow, dw_size]; omega) | (simp only [List.length_set, Array.length_toList]; omega)) [-Option.bind_some, hp_alloc_lt, hp_alloc_eq, hp_set_ne, Y4]
    refine Ret.bind (app_tag (x := tagMax x y) el_30 (by kernel_rfl) (hf1.keep fun b hb => hp_alloc_lt (hf1.lt b hb).2) (by simp only [World.size_alloc]; omega) ?_ (by omega)) ?_
    · intro j u hj
      rw [hp_alloc_eq rfl, cellO_some, ← nth_eq, Nat.zero_add]
      exact hj
    rintro ⟨s', w2⟩ ⟨hf2, hBut⟩
    have hk2 : ∀ b, b < B → hp w2 b = hp w b := fun b hb => (hBut.blk b (by simp only [World.size_alloc]; omega) (fun e => absurd (hf.lt b (Option.mem_toList.2 e)).1 (by omega))).trans ((hp_alloc_lt (by omega)).trans (hE1'.blk (by omega)))
    have hE2 : Ext w0 w2 := Ext.but (b := w1.alloc _) ((hE.tr hE1').al _) hBut fun x hx => by have := (hf.lt x (Option.mem_toList.2 hx)).1; omega
    have hsz : w1.heap.size < w2.heap.size := by have := hBut.size; simp only [World.size_alloc] at this; omega
    obtain ⟨ac, c3, hsv, hfl1⟩ := hf2.r.len
    have e1 : ((joinT xs ys).take k ++ [tagMax x y]).length = k + 1 := by rw [List.length_append, htl]; rfl
    try dsimp only at hsv
    rw [e1] at hsv
    subst hsv
    simp (disch := first | omega | (simp only [World.size_alloc, size_setRow, dw_size]; done) | (simp only [World.size_alloc, size_setRow, dw_size]; omega) | (simp only [List.length_set, Array.length_toList]; omega)) [-Option.bind_some, hp_alloc_lt, hp_alloc_eq, hp_set_ne, hk2, hx4']
    refine Ret.mono (ih (k + 1) _ _ _ c0 (by omega) h2 h3 h4 h5 (congrArg i64 (w64 (by omega) (by omega))) ((hp_set_ne (Ne.symm h41)).trans ((hk2 _ hb1).trans hx1)) ((hp_set_ne (Ne.symm h42)).trans ((hk2 _ hb2).trans hx2)) ((hp_set_ne (Ne.symm h43)).trans ((hk2 _ hb3).trans hx3)) (by rw [hp_set_eq, hk2 _ hb4, hx4']; rfl) ha hb (by (repeat (first | exact Ext.rfl | assumption | (refine Ext.al ?_ _) | (refine Ext.dw ?_) | (refine Ext.set ?_ (by first | omega | (simp only [World.size_alloc, size_setRow, dw_size]; omega)) _) | (refine Ext.tr ?_ (by assumption))))) (by simp; omega) ?_) fun _ h => h
    rw [take_at (joinT_get hxk hyk)]
    have hf3 : ∀ cs, fTags 42 B (w2.setRow b4 cs) _ ((joinT xs ys).take k ++ [tagMax x y]) := fun cs => hf2.keep fun b hb => hp_set_ne (by have := (hf2.lt b hb).1; omega)
    exact hf3 _
theorem spec_l1Join_c {s u : Value} {xs ys : List Tag} (hx4 : xs.length = 4) (hy4 : ys.length = 4) {w : World} (ha : rTags w s xs) (hb : rTags w u ys) : Ret (EV P 89 #[.agg #[s], .agg #[u]] w) fun r => ∃ s', r.1 = .agg #[s'] ∧ fTags 42 w.heap.size r.2 s' (joinT xs ys) ∧ Ext w r.2 := by
  have ha' := ha
  have hb' := hb
  obtain ⟨aa, ca, hs, hm⟩ := ha.len
  obtain ⟨ab, cb, hu, _⟩ := hb.len
  subst hs
  subst hu
  refine Ret.enter plain mixed (spec_l1Join_fn _ _ _) (by kernel_rfl) (n := 2) (by kernel_rfl) rfl ?_
  simp (disch := first | omega | (simp only [World.size_alloc, size_setRow, dw_size]; done) | (simp only [World.size_alloc, size_setRow, dw_size]; omega) | (simp only [List.length_set, Array.length_toList]; omega)) [-Option.bind_some, hp_alloc_lt, hp_alloc_eq, hp_set_ne]
  refine Ret.mono (spec_l1Join_l (s := .slice aa xs.length ca) (u := .slice ab ys.length cb) (xs := xs) (ys := ys) (b1 := w.heap.size) (b2 := w.heap.size + 1) (b3 := w.heap.size + 2) (b4 := w.heap.size + 3) (B := w.heap.size + 4) (w0 := w) (t1 := 32) (t2 := 32) hx4 hy4 (by omega) (by omega) (by omega) (by omega) (by omega) (by omega) (by omega) (by omega) (by omega) 4 0 _ _ _ _ (by omega) rfl rfl rfl rfl rfl
    (by simp (disch := first | omega | (simp only [World.size_alloc, size_setRow, dw_size]; done) | (simp only [World.size_alloc, size_setRow, dw_size]; omega) | (simp only [List.length_set, Array.length_toList]; omega)) [-Option.bind_some, hp_alloc_lt, hp_alloc_eq, hp_set_ne]; first | done | rfl) (by simp (disch := first | omega | (simp only [World.size_alloc, size_setRow, dw_size]; done) | (simp only [World.size_alloc, size_setRow, dw_size]; omega) | (simp only [List.length_set, Array.length_toList]; omega)) [-Option.bind_some, hp_alloc_lt, hp_alloc_eq, hp_set_ne]; first | done | rfl) (by simp (disch := first | omega | (simp only [World.size_alloc, size_setRow, dw_size]; done) | (simp only [World.size_alloc, size_setRow, dw_size]; omega) | (simp only [List.length_set, Array.length_toList]; omega)) [-Option.bind_some, hp_alloc_lt, hp_alloc_eq, hp_set_ne]; first | done | rfl) (by simp (disch := first | omega | (simp only [World.size_alloc, size_setRow, dw_size]; done) | (simp only [World.size_alloc, size_setRow, dw_size]; omega) | (simp only [List.length_set, Array.length_toList]; omega)) [-Option.bind_some, hp_alloc_lt, hp_alloc_eq, hp_set_ne]; first | done | rfl) ha' hb' (by (repeat (first | exact Ext.rfl | assumption | (refine Ext.al ?_ _) | (refine Ext.dw ?_) | (refine Ext.set ?_ (by first | omega | (simp only [World.size_alloc, size_setRow, dw_size]; omega)) _) | (refine Ext.tr ?_ (by assumption))))) (by simp) ⟨Own.nil _ _ _ _, by simp⟩) ?_
  rintro ⟨_, w1⟩ ⟨s', rfl, hf, hE⟩
  exact ⟨s', rfl, hf.from (by omega), hE⟩
end Go.Proofs.Ytcafhepclddcaaa.X
set_option linter.unusedVariables false
set_option linter.unusedSimpArgs false
set_option maxRecDepth 100000
namespace Go.Proofs.Ytcafhepclddcaaa.X
open Go Go.Ev Go.RowKit
theorem slices_Clone_Tag_c {s : Value} {xs : List Tag} {w : World} (ha : rTags w s xs) : Ret (EV P 97 #[s] w) fun r => fTags 42 w.heap.size r.2 r.1 xs ∧ Ext w r.2 := by
  have ha' := ha
  obtain ⟨⟨aa, ca, hs, hn, hA⟩, hm⟩ := ha
  subst hs
  refine Ret.enter plain mixed (slices_Clone_Tag_fn _ _) (by kernel_rfl) (n := 1) (by kernel_rfl) rfl ?_
  have hnil := bo_eql_nil (P := P) el_30
  cases aa with
  | none =>
    have hx : xs = [] := by
      rcases hA with h | ⟨b, o, h, _⟩
      · have := congrArg List.length h
        rw [tagCs_length] at this
        exact List.eq_nil_of_length_eq_zero (by simp only [List.length_nil] at this; omega)
      · cases h
    subst hx
    simp (disch := first | omega | (simp only [World.size_alloc, size_setRow, dw_size]; done) | (simp only [World.size_alloc, size_setRow, dw_size]; omega) | (simp only [List.length_set, Array.length_toList]; omega)) [-Option.bind_some, hp_alloc_lt, hp_alloc_eq, hp_set_ne, hnil]
    exact ⟨⟨Own.nil _ _ _ _, by simp⟩, by (repeat (first | exact Ext.rfl | assumption | (refine Ext.al ?_ _) | (refine Ext.dw ?_) | (refine Ext.set ?_ (by first | omega | (simp only [World.size_alloc, size_setRow, dw_size]; omega)) _) | (refine Ext.tr ?_ (by assumption))))⟩
  | some a =>
    simp (disch := first | omega | (simp only [World.size_alloc, size_setRow, dw_size]; done) | (simp only [World.size_alloc, size_setRow, dw_size]; omega) | (simp only [List.length_set, Array.length_toList]; omega)) [-Option.bind_some, hp_alloc_lt, hp_alloc_eq, hp_set_ne, hnil]
    have hown : Own (w.alloc (.cells #[] 42)) w.heap.size 42 2 (.slice (some ⟨w.heap.size, 0, none⟩) 0 0) 0 [] :=
      ⟨rfl, by omega, .inr ⟨w.heap.size, 0, #[], rfl, by omega, hp_alloc_eq rfl, by omega, by omega, by simp, by simp⟩⟩
    by_cases h0 : xs.length = 0
    · have hx : xs = [] := List.eq_nil_of_length_eq_zero h0
      subst hx
      simp (disch := first | omega | (simp only [World.size_alloc, size_setRow, dw_size]; done) | (simp only [World.size_alloc, size_setRow, dw_size]; omega) | (simp only [List.length_set, Array.length_toList]; omega)) [-Option.bind_some, hp_alloc_lt, hp_alloc_eq, hp_set_ne, app_none (P := P) (ty := 30) el_30]
      exact ⟨⟨hown, by simp⟩, by (repeat (first | exact Ext.rfl | assumption | (refine Ext.al ?_ _) | (refine Ext.dw ?_) | (refine Ext.set ?_ (by first | omega | (simp only [World.size_alloc, size_setRow, dw_size]; omega)) _) | (refine Ext.tr ?_ (by assumption))))⟩
    · obtain ⟨b, o, hab, hA2⟩ : ∃ b o, some a = some ⟨b, o, none⟩ ∧ At w b o (tagCs xs) := by
        rcases hA with h | h
        · have := congrArg List.length h
          rw [tagCs_length] at this
          simp at this
          omega
        · exact h
      cases hab
      refine Ret.bind (app_own (P := P) el_30 (z := [i64 0, i64 0]) (by kernel_rfl) rfl (by omega) hown (by simp) (hA2.mono fun b hb => hp_alloc_lt hb) (tagCs_length xs) ?_ (by omega) (by omega) (by omega)) ?_
      · rw [List.all_eq_true]
        intro v hv
        simp only [tagCs, List.mem_flatten, List.mem_map] at hv
        obtain ⟨l, ⟨t, _, rfl⟩, hv⟩ := hv
        simp only [List.mem_cons, List.not_mem_nil, or_false] at hv
        rcases hv with rfl | rfl <;> rfl
      rintro ⟨s', w1⟩ ⟨h1, h2, _⟩
      try dsimp only at *
      simp only [Nat.zero_add, List.nil_append] at h1
      simp (disch := first | omega | (simp only [World.size_alloc, size_setRow, dw_size]; done) | (simp only [World.size_alloc, size_setRow, dw_size]; omega) | (simp only [List.length_set, Array.length_toList]; omega)) [-Option.bind_some, hp_alloc_lt, hp_alloc_eq, hp_set_ne]
      exact ⟨⟨h1, hm⟩, Ext.but (b := w.alloc _) (by (repeat (first | exact Ext.rfl | assumption | (refine Ext.al ?_ _) | (refine Ext.dw ?_) | (refine Ext.set ?_ (by first | omega | (simp only [World.size_alloc, size_setRow, dw_size]; omega)) _) | (refine Ext.tr ?_ (by assumption))))) h2 fun x hx => by simp only [blkOf, Option.some.injEq] at hx; omega⟩
theorem slices_Clip_Tag_c {B : Nat} {s : Value} {xs : List Tag} {w : World} (hf : fTags 42 B w s xs) : Ret (EV P 96 #[s] w) fun r => r.2 = w ∧ fTags 42 B w r.1 xs := by
  obtain ⟨⟨hl, hn, ho⟩, hm⟩ := hf
  refine Ret.enter plain mixed (slices_Clip_Tag_fn _ _) (by kernel_rfl) (n := 1) (by kernel_rfl) rfl ?_
  rcases ho with ⟨rfl, h0⟩ | ⟨g, cap, cur, rfl, hg, hh, hc, hcm, hsz, ht⟩
  · simp (disch := first | omega | (simp only [World.size_alloc, size_setRow, dw_size]; done) | (simp only [World.size_alloc, size_setRow, dw_size]; omega) | (simp only [List.length_set, Array.length_toList]; omega)) [-Option.bind_some, hp_alloc_lt, hp_alloc_eq, hp_set_ne, sl_hm (P := P) el_30]
    have hx : xs = [] := List.eq_nil_of_length_eq_zero h0
    subst hx
    exact ⟨Own.nil _ _ _ _, by simp⟩
  · simp (disch := first | omega | (simp only [World.size_alloc, size_setRow, dw_size]; done) | (simp only [World.size_alloc, size_setRow, dw_size]; omega) | (simp only [List.length_set, Array.length_toList]; omega)) [-Option.bind_some, hp_alloc_lt, hp_alloc_eq, hp_set_ne, sl_hm (P := P) el_30]
    exact ⟨⟨hl, hn, .inr ⟨g, xs.length, cur, rfl, hg, hh, by omega, by omega, by omega, ht⟩⟩, hm⟩
theorem impl_Past_copied_c {s : Value} {xs : List Tag} {w : World} (ha : rTags w s xs) : Ret (EV P 57 #[.agg #[s]] w) fun r => ∃ s', r.1 = .agg #[s'] ∧ fTags 42 w.heap.size r.2 s' xs ∧ Ext w r.2 := by
  have ha' := ha
  obtain ⟨aa, ca, hs, hm⟩ := ha.len
  subst hs
  refine Ret.enter plain mixed (impl_Past_copied_fn _ _) (by kernel_rfl) (n := 1) (by kernel_rfl) rfl ?_
  simp (disch := first | omega | (simp only [World.size_alloc, size_setRow, dw_size]; done) | (simp only [World.size_alloc, size_setRow, dw_size]; omega) | (simp only [List.length_set, Array.length_toList]; omega)) [-Option.bind_some, hp_alloc_lt, hp_alloc_eq, hp_set_ne]
  refine Ret.bind (slices_Clone_Tag_c (ha'.mono (Ext.keep (by (repeat (first | exact Ext.rfl | assumption | (refine Ext.al ?_ _) | (refine Ext.dw ?_) | (refine Ext.set ?_ (by first | omega | (simp only [World.size_alloc, size_setRow, dw_size]; omega)) _) | (refine Ext.tr ?_ (by assumption)))))))) ?_
  rintro ⟨s1, w1⟩ ⟨hf, hE⟩
  try dsimp only at *
  have z1 := hE.size
  simp only [World.size_alloc] at z1 hf
  refine Ret.bind (slices_Clip_Tag_c hf) ?_
  rintro ⟨s2, w2⟩ ⟨rfl, hf2⟩
  try dsimp only at *
  obtain ⟨a2, c2, hs2, _⟩ := hf2.r.len
  subst hs2
  have X2 := (hE.blk (b := w.heap.size + 1) (by simp)).trans (hp_alloc_eq (by simp))
  simp (disch := first | omega | (simp only [World.size_alloc, size_setRow, dw_size]; done) | (simp only [World.size_alloc, size_setRow, dw_size]; omega) | (simp only [List.length_set, Array.length_toList]; omega)) [-Option.bind_some, hp_alloc_lt, hp_alloc_eq, hp_set_ne, X2]
  refine ⟨(hf2.keep fun b hb => ?_).from (by omega), by (repeat (first | exact Ext.rfl | assumption | (refine Ext.al ?_ _) | (refine Ext.dw ?_) | (refine Ext.set ?_ (by first | omega | (simp only [World.size_alloc, size_setRow, dw_size]; omega)) _) | (refine Ext.tr ?_ (by assumption))))⟩
  have := (hf2.lt b hb).1
  exact hp_set_ne (by omega)
end Go.Proofs.Ytcafhepclddcaaa.X
set_option linter.unusedVariables false
set_option linter.unusedSimpArgs false
set_option maxRecDepth 100000
namespace Go.Proofs.Ytcafhepclddcaaa.X
open Go Go.Ev Go.RowKit
theorem impl_Past_join_l {u sv : Value} {xs ys : List Tag} {b4 b5 B : Nat} {w0 : World} (hl4 : xs.length = ys.length) (h04 : w0.heap.size ≤ b4) (h05 : w0.heap.size ≤ b5) (h0B : w0.heap.size ≤ B) (hne : ∀ b ∈ (blkOf sv).toList, b ≠ b4 ∧ b ≠ b5) (h45 : b4 ≠ b5) (hym : ys.length ≤ 8796093021952) :
    ∀ (d k : Nat) (e : Env) (w : World) (c0 : Value), k + d = ys.length → e 4 = pt b4 0 → e 5 = pt b5 0 → e 11 = u → e 12 = i64 ys.length → e 13 = i64 k →
    hp w b4 = some (.cells #[c0] 32 (0, 0)) → hp w b5 = some (.cells #[sv] 32 (0, 0)) → rTags w0 u ys → Ext w0 w → fTags 42 B w sv ((joinT xs ys).take k ++ xs.drop k) →
    Ret (impl_Past_join_l1 e w) fun r => r.1 = .agg #[sv] ∧ fTags 42 B r.2 sv (joinT xs ys) ∧ Ext w0 r.2 := by
  have hjl : (joinT xs ys).length = xs.length := joinT_length hl4
  intro d
  induction d with
  | zero =>
    intro k e w c0 hd h4 h5 h11 h12 h13 hx4 hx5 hb hE hf
    rw [impl_Past_join_l1_eq]
    rw [List.take_of_length_le (by omega), List.drop_eq_nil_of_le (by omega), List.append_nil] at hf
    obtain ⟨ab, cb, hsv, _⟩ := hf.r.len
    subst hsv
    obtain rfl : k = ys.length := by omega
    simp (disch := first | omega | (simp only [World.size_alloc, size_setRow, dw_size]; done) | (simp only [World.size_alloc, size_setRow, dw_size]; omega) | (simp only [List.length_set, Array.length_toList]; omega)) [-Option.bind_some, hp_alloc_lt, hp_alloc_eq, hp_set_ne, h4, h5, h11, h12, h13, hx4, hx5]
    exact ⟨hf.keep fun b hb => hp_set_ne (hne b hb).1, by (repeat (first | exact Ext.rfl | assumption | (refine Ext.al ?_ _) | (refine Ext.dw ?_) | (refine Ext.set ?_ (by first | omega | (simp only [World.size_alloc, size_setRow, dw_size]; omega)) _) | (refine Ext.tr ?_ (by assumption))))⟩
  | succ d ih =>
    intro k e w c0 hd h4 h5 h11 h12 h13 hx4 hx5 hb hE hf
    rw [impl_Past_join_l1_eq]
    have hlt : k < ys.length := by omega
    have hlx : k < xs.length := by omega
    obtain ⟨x, hxk, hdx⟩ := drop_at hlx
    obtain ⟨y, hyk, _⟩ := drop_at hlt
    obtain ⟨b2, o2, c2, hs2, hB⟩ := (hb.mono (Ext.keep hE)).at hyk
    have q0 := hB 0 _ rfl
    have q1 := hB 1 _ rfl
    have hL : ((joinT xs ys).take k ++ xs.drop k).length = xs.length := by simp only [List.length_append, List.length_take, List.length_drop]; omega
    have hLk : ((joinT xs ys).take k ++ xs.drop k)[k]? = some x := by
      rw [List.getElem?_append_right (by simp only [List.length_take]; omega), List.length_take, hjl, show k - min k xs.length = 0 by omega, hdx]; rfl
    obtain ⟨d1, o1, c1, hs1, hA⟩ := hf.r.at hLk
    obtain ⟨g, cap, cur, hs, hg, hgl, hh, hle, hput⟩ := hf.put (j := k) (by omega)
    rw [hL] at hs1 hs hle
    have hin := hs1.symm.trans hs
    simp only [Value.slice.injEq, Option.some.injEq, Addr.mk.injEq, true_and, and_true] at hin
    obtain ⟨⟨rfl, rfl⟩, rfl⟩ := hin
    have p0 := hA 0 _ rfl
    have p1 := hA 1 _ rfl
    simp only [Nat.add_zero, Nat.zero_add] at p0 p1 q0
    have hb2 := hB.lt
    have l5 := hp_lt hx5
    have hgn := hne d1 (by simp [hs, blkOf])
    have hg4 : b4 ≠ d1 := fun e => hgn.1 e.symm
    have hg5 : b5 ≠ d1 := fun e => hgn.2 e.symm
    subst hs2
    subst hs
    simp (disch := first | omega | (simp only [World.size_alloc, size_setRow, dw_size]; done) | (simp only [World.size_alloc, size_setRow, dw_size]; omega) | (simp only [List.length_set, Array.length_toList]; omega)) [-Option.bind_some, hp_alloc_lt, hp_alloc_eq, hp_set_ne, h4, h5, h11, h12, h13, hx5, hlt, hlx, ia_30, p0, p1, q0, q1]
    refine Ret.bind (impl_TagMax_c x y _) ?_
    rintro ⟨_, w1⟩ ⟨rfl, hE1⟩
    try dsimp only at *
    have E1 : Ext w w1 := Ext.tr (by (repeat (first | exact Ext.rfl | assumption | (refine Ext.al ?_ _) | (refine Ext.dw ?_) | (refine Ext.set ?_ (by first | omega | (simp only [World.size_alloc, size_setRow, dw_size]; omega)) _) | (refine Ext.tr ?_ (by assumption))))) hE1
    have X5 := (E1.blk l5).trans hx5
    have G1 := (E1.blk hgl).trans hh
    have X4 := (E1.blk (hp_lt hx4)).trans hx4
    simp (disch := first | omega | (simp only [World.size_alloc, size_setRow, dw_size]; done) | (simp only [World.size_alloc, size_setRow, dw_size]; omega) | (simp only [List.length_set, Array.length_toList]; omega)) [-Option.bind_some, hp_alloc_lt, hp_alloc_eq, hp_set_ne, X5, G1, hlx, ia_30, splice_two, -splice_eq, show k * 2 + 2 ≤ cur.size by omega, show k * 2 + 1 < cur.size by omega, h13]
    refine Ret.mono (ih (k + 1) _ _ c0 (by omega) h4 h5 h11 h12 (congrArg i64 (w64 (by omega) (by omega))) ((hp_set_ne hg4).trans X4) ((hp_set_ne hg5).trans X5) hb (Ext.set (hE.tr E1) (by omega) _) ?_) fun _ h => h
    rw [← joinT_put hxk hyk hl4]
    refine hput (tagMax x y) _ ?_
    rw [hp_set_eq, G1]; rfl
theorem impl_Past_join_c {s u : Value} {xs ys : List Tag} (hl4 : xs.length = ys.length) {w : World} (ha : rTags w s xs) (hb : rTags w u ys) : Ret (EV P 115 #[.agg #[s], .agg #[u]] w) fun r => ∃ s', r.1 = .agg #[s'] ∧ fTags 42 w.heap.size r.2 s' (joinT xs ys) ∧ Ext w r.2 := by
  have ha' := ha
  have hb' := hb
  obtain ⟨aa, ca, hs, hm⟩ := ha.len
  obtain ⟨ab, cb, hu, hym⟩ := hb.len
  subst hs
  subst hu
  refine Ret.enter plain mixed (impl_Past_join_fn _ _ _) (by kernel_rfl) (n := 2) (by kernel_rfl) rfl ?_
  simp (disch := first | omega | (simp only [World.size_alloc, size_setRow, dw_size]; done) | (simp only [World.size_alloc, size_setRow, dw_size]; omega) | (simp only [List.length_set, Array.length_toList]; omega)) [-Option.bind_some, hp_alloc_lt, hp_alloc_eq, hp_set_ne]
  refine Ret.bind (impl_Past_copied_c (ha'.mono (Ext.keep (by (repeat (first | exact Ext.rfl | assumption | (refine Ext.al ?_ _) | (refine Ext.dw ?_) | (refine Ext.set ?_ (by first | omega | (simp only [World.size_alloc, size_setRow, dw_size]; omega)) _) | (refine Ext.tr ?_ (by assumption)))))))) ?_
  rintro ⟨_, w1⟩ ⟨s1, rfl, hf, hE⟩
  try dsimp only at *
  have z1 := hE.size
  simp only [World.size_alloc] at z1 hf
  have Y1 := (hE.blk (b := w.heap.size + 1) (by simp only [World.size_alloc]; omega)).trans ((hp_alloc_lt (by simp)).trans (hp_alloc_eq (by simp)))
  have Z1 := (hE.blk (b := w.heap.size + 1 + 1) (by simp)).trans (hp_alloc_eq (by simp))
  obtain ⟨a1, c1, hs1, _⟩ := hf.r.len
  subst hs1
  simp (disch := first | omega | (simp only [World.size_alloc, size_setRow, dw_size]; done) | (simp only [World.size_alloc, size_setRow, dw_size]; omega) | (simp only [List.length_set, Array.length_toList]; omega)) [-Option.bind_some, hp_alloc_lt, hp_alloc_eq, hp_set_ne, Y1]
  have D1 : Ext w1 ((w1.alloc (.cells #[.slice none 0 0] 32)).setRow w1.heap.size #[.slice a1 xs.length c1]) := by (repeat (first | exact Ext.rfl | assumption | (refine Ext.al ?_ _) | (refine Ext.dw ?_) | (refine Ext.set ?_ (by first | omega | (simp only [World.size_alloc, size_setRow, dw_size]; omega)) _) | (refine Ext.tr ?_ (by assumption))))
  refine Ret.mono (impl_Past_join_l (u := .slice ab ys.length cb) (sv := .slice a1 xs.length c1) (xs := xs) (ys := ys) (b4 := w.heap.size + 1 + 1) (b5 := w1.heap.size) (B := w.heap.size + 3) (w0 := w) hl4 (by omega) (by omega) (by omega) (fun b hb => by have := hf.lt b hb; omega) (by omega) hym ys.length 0 _ _ _ (by omega) rfl rfl rfl rfl rfl
    ((hp_set_ne (by omega)).trans ((hp_alloc_lt (by omega)).trans Z1)) (by rw [hp_set_eq, hp_alloc_eq rfl]; rfl) hb' (Ext.tr (by (repeat (first | exact Ext.rfl | assumption | (refine Ext.al ?_ _) | (refine Ext.dw ?_) | (refine Ext.set ?_ (by first | omega | (simp only [World.size_alloc, size_setRow, dw_size]; omega)) _) | (refine Ext.tr ?_ (by assumption))))) D1) ?_) ?_
  · rw [List.take_zero, List.nil_append, List.drop_zero]
    exact hf.keep fun b hb => D1.blk (hf.lt b hb).2
  rintro ⟨_, w2⟩ ⟨rfl, h1, h2⟩
  try dsimp only at *
  exact ⟨_, rfl, h1.from (by omega), h2⟩
end Go.Proofs.Ytcafhepclddcaaa.X
