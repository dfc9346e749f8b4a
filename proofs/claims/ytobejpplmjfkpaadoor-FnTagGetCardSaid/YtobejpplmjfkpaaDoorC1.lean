/- A part of the proof: an evaluator of the model, its laws, and contracts of functions; no condition. -/
import Derived.Test.YtobejpplmjfkpaaDoorEvS
import Derived.Test.YtobejpplmjfkpaaDoorEvT
import Derived.Test.YtobejpplmjfkpaaDoorEvF0
import Derived.Test.YtobejpplmjfkpaaDoorEvF1
import Derived.Test.YtobejpplmjfkpaaDoorEvF2
set_option linter.unusedVariables false
set_option linter.unusedSimpArgs false
set_option maxRecDepth 100000
namespace Go.Proofs.YtobejpplmjfkpaaDoor.X
open Go Go.Ev Go.RowKit
theorem spec_l1In_c (n a b : Int) (w : World) : Ret (EV P 30 #[i64 n, i64 a, i64 b] w) fun r => r = (.bool (decide (a ≤ n) && decide (n ≤ b)), w) := by
  refine Ret.enter plain mixed (spec_l1In_fn _ _ _ _) (by kernel_rfl) (n := 3) (by kernel_rfl) rfl ?_
  cases h : decide (a ≤ n) <;> simp (disch := first | omega | (simp only [World.size_alloc, size_setRow, dw_size]; done) | (simp only [World.size_alloc, size_setRow, dw_size]; omega) | (simp only [List.length_set, Array.length_toList]; omega)) [-Option.bind_some, hp_alloc_lt, hp_alloc_eq, hp_set_ne, h]
theorem impl_within_c (n a b : Int) (w : World) : Ret (EV P 26 #[i64 n, i64 a, i64 b] w) fun r => r = (.bool (decide (a ≤ n) && decide (n ≤ b)), w) := by
  refine Ret.enter plain mixed (impl_within_fn _ _ _ _) (by kernel_rfl) (n := 3) (by kernel_rfl) rfl ?_
  cases h : decide (a ≤ n) <;> simp (disch := first | omega | (simp only [World.size_alloc, size_setRow, dw_size]; done) | (simp only [World.size_alloc, size_setRow, dw_size]; omega) | (simp only [List.length_set, Array.length_toList]; omega)) [-Option.bind_some, hp_alloc_lt, hp_alloc_eq, hp_set_ne, h]
theorem impl_placeOk_c (n : Int) (w : World) : Ret (EV P 27 #[i64 n] w) fun r => r = (.bool (decide (0 ≤ n) && decide (n ≤ 2)), w) := by
  refine Ret.enter plain mixed (impl_placeOk_fn _ _) (by kernel_rfl) (n := 1) (by kernel_rfl) rfl ?_
  simp (disch := first | omega | (simp only [World.size_alloc, size_setRow, dw_size]; done) | (simp only [World.size_alloc, size_setRow, dw_size]; omega) | (simp only [List.length_set, Array.length_toList]; omega)) [-Option.bind_some, hp_alloc_lt, hp_alloc_eq, hp_set_ne]
  refine Ret.bind (impl_within_c n 0 2 w) ?_
  rintro _ rfl
  simp (disch := first | omega | (simp only [World.size_alloc, size_setRow, dw_size]; done) | (simp only [World.size_alloc, size_setRow, dw_size]; omega) | (simp only [List.length_set, Array.length_toList]; omega)) [-Option.bind_some, hp_alloc_lt, hp_alloc_eq, hp_set_ne]
theorem spec_l1TagOk_c (x : Tag) (w : World) : Ret (EV P 17 #[x.v] w) fun r => r.1 = .bool (tagOk x) ∧ Ext w r.2 := by
  refine Ret.enter plain mixed (spec_l1TagOk_fn _ _) (by kernel_rfl) (n := 1) (by kernel_rfl) rfl ?_
  cases h : ((x.t == 0) && (x.p == 0))
  · simp (disch := first | omega | (simp only [World.size_alloc, size_setRow, dw_size]; done) | (simp only [World.size_alloc, size_setRow, dw_size]; omega) | (simp only [List.length_set, Array.length_toList]; omega)) [-Option.bind_some, hp_alloc_lt, hp_alloc_eq, hp_set_ne, h]
    refine Ret.bind (spec_l1In_c _ _ _ _) ?_
    rintro _ rfl
    cases h1 : (decide (1 ≤ x.t) && decide (x.t ≤ 999))
    · simp (disch := first | omega | (simp only [World.size_alloc, size_setRow, dw_size]; done) | (simp only [World.size_alloc, size_setRow, dw_size]; omega) | (simp only [List.length_set, Array.length_toList]; omega)) [-Option.bind_some, hp_alloc_lt, hp_alloc_eq, hp_set_ne, h1, Ext.alloc, tagOk, h]
    · simp (disch := first | omega | (simp only [World.size_alloc, size_setRow, dw_size]; done) | (simp only [World.size_alloc, size_setRow, dw_size]; omega) | (simp only [List.length_set, Array.length_toList]; omega)) [-Option.bind_some, hp_alloc_lt, hp_alloc_eq, hp_set_ne, h1]
      refine Ret.bind (spec_l1In_c _ _ _ _) ?_
      rintro _ rfl
      simp (disch := first | omega | (simp only [World.size_alloc, size_setRow, dw_size]; done) | (simp only [World.size_alloc, size_setRow, dw_size]; omega) | (simp only [List.length_set, Array.length_toList]; omega)) [-Option.bind_some, hp_alloc_lt, hp_alloc_eq, hp_set_ne, Ext.alloc, tagOk, h, h1]
  · simp (disch := first | omega | (simp only [World.size_alloc, size_setRow, dw_size]; done) | (simp only [World.size_alloc, size_setRow, dw_size]; omega) | (simp only [List.length_set, Array.length_toList]; omega)) [-Option.bind_some, hp_alloc_lt, hp_alloc_eq, hp_set_ne, h, Ext.alloc, tagOk]
theorem impl_TagOk_c (x : Tag) (w : World) : Ret (EV P 14 #[x.v] w) fun r => r.1 = .bool (tagOk x) ∧ Ext w r.2 := by
  refine Ret.enter plain mixed (impl_TagOk_fn _ _) (by kernel_rfl) (n := 1) (by kernel_rfl) rfl ?_
  cases h : ((x.t == 0) && (x.p == 0))
  · simp (disch := first | omega | (simp only [World.size_alloc, size_setRow, dw_size]; done) | (simp only [World.size_alloc, size_setRow, dw_size]; omega) | (simp only [List.length_set, Array.length_toList]; omega)) [-Option.bind_some, hp_alloc_lt, hp_alloc_eq, hp_set_ne, h]
    refine Ret.bind (impl_within_c _ _ _ _) ?_
    rintro _ rfl
    cases h1 : (decide (1 ≤ x.t) && decide (x.t ≤ 999))
    · simp (disch := first | omega | (simp only [World.size_alloc, size_setRow, dw_size]; done) | (simp only [World.size_alloc, size_setRow, dw_size]; omega) | (simp only [List.length_set, Array.length_toList]; omega)) [-Option.bind_some, hp_alloc_lt, hp_alloc_eq, hp_set_ne, h1, Ext.alloc, tagOk, h]
    · simp (disch := first | omega | (simp only [World.size_alloc, size_setRow, dw_size]; done) | (simp only [World.size_alloc, size_setRow, dw_size]; omega) | (simp only [List.length_set, Array.length_toList]; omega)) [-Option.bind_some, hp_alloc_lt, hp_alloc_eq, hp_set_ne, h1]
      refine Ret.bind (impl_placeOk_c _ _) ?_
      rintro _ rfl
      simp (disch := first | omega | (simp only [World.size_alloc, size_setRow, dw_size]; done) | (simp only [World.size_alloc, size_setRow, dw_size]; omega) | (simp only [List.length_set, Array.length_toList]; omega)) [-Option.bind_some, hp_alloc_lt, hp_alloc_eq, hp_set_ne, Ext.alloc, tagOk, h, h1]
  · simp (disch := first | omega | (simp only [World.size_alloc, size_setRow, dw_size]; done) | (simp only [World.size_alloc, size_setRow, dw_size]; omega) | (simp only [List.length_set, Array.length_toList]; omega)) [-Option.bind_some, hp_alloc_lt, hp_alloc_eq, hp_set_ne, h, Ext.alloc, tagOk]
end Go.Proofs.YtobejpplmjfkpaaDoor.X
