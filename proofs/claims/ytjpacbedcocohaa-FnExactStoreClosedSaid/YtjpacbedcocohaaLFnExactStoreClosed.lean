/- A part of the proof: an evaluator of the model, its laws, and contracts of functions; no condition. -/
import Derived.Test.YtjpacbedcocohaaC5
import Derived.Test.YtjpacbedcocohaaC6
import Derived.Test.YtjpacbedcocohaaC11
set_option linter.unusedVariables false
set_option linter.unusedSimpArgs false
set_option maxRecDepth 100000
namespace Go.Proofs.Ytjpacbedcocohaa.X
open Go Go.Ev Go.RowKit
theorem laws_FnExactStoreClosed_c {s : Value} {vs : List Ver} {w : World} (ha : rVers w s vs) : Ret (EV P 7 #[.agg #[s]] w) fun r => r.1 = .bool true ∧ Ext w r.2 := by
  have ha' := ha
  obtain ⟨aa, ca, hs, hm⟩ := ha.len
  subst hs
  refine Ret.enter plain mixed (laws_FnExactStoreClosed_fn _ _) (by kernel_rfl) (n := 1) (by kernel_rfl) rfl ?_
  simp (disch := first | omega | (simp only [World.size_alloc, size_setRow, dw_size]; done) | (simp only [World.size_alloc, size_setRow, dw_size]; omega)) [-Option.bind_some, hp_alloc_lt, hp_alloc_eq, hp_set_ne]
  refine Ret.bind (laws_szStore_c 1048576 (by omega) (by omega) (ha'.mono (Ext.keep (by (repeat (first | exact Ext.rfl | assumption | (refine Ext.al ?_ _) | (refine Ext.dw ?_) | (refine Ext.set ?_ (by first | omega | (simp only [World.size_alloc, size_setRow, dw_size]; omega)) _) | (refine Ext.tr ?_ (by assumption)))))))) ?_
  rintro ⟨_, w1⟩ ⟨m, rfl, h1, h2, hE1⟩
  have hE1' : Ext w w1 := Ext.tr (by (repeat (first | exact Ext.rfl | assumption | (refine Ext.al ?_ _) | (refine Ext.dw ?_) | (refine Ext.set ?_ (by first | omega | (simp only [World.size_alloc, size_setRow, dw_size]; omega)) _) | (refine Ext.tr ?_ (by assumption))))) hE1
  have hx1 := (hE1.blk (b := w.heap.size) (by simp)).trans (hp_alloc_eq rfl)
  by_cases hm0 : m < 0
  · simp (disch := first | omega | (simp only [World.size_alloc, size_setRow, dw_size]; done) | (simp only [World.size_alloc, size_setRow, dw_size]; omega)) [-Option.bind_some, hp_alloc_lt, hp_alloc_eq, hp_set_ne, hm0]
    exact hE1'
  simp (disch := first | omega | (simp only [World.size_alloc, size_setRow, dw_size]; done) | (simp only [World.size_alloc, size_setRow, dw_size]; omega)) [-Option.bind_some, hp_alloc_lt, hp_alloc_eq, hp_set_ne, hm0, hx1]
  refine Ret.bind (laws_toStore_c (ha'.mono (Ext.keep hE1'))) ?_
  rintro ⟨_, w2⟩ ⟨s2, rfl, hf2, hE2⟩
  have hx2 := (hE2.blk (hp_lt hx1)).trans hx1
  have hE2' := hE1'.tr hE2
  simp (disch := first | omega | (simp only [World.size_alloc, size_setRow, dw_size]; done) | (simp only [World.size_alloc, size_setRow, dw_size]; omega)) [-Option.bind_some, hp_alloc_lt, hp_alloc_eq, hp_set_ne]
  refine Ret.bind (spec_StoreClosed_c hf2.r) ?_
  rintro ⟨_, w3⟩ ⟨rfl, hE3⟩
  have hx3 := (hE3.blk (hp_lt hx2)).trans hx2
  have hE3' := hE2'.tr hE3
  simp (disch := first | omega | (simp only [World.size_alloc, size_setRow, dw_size]; done) | (simp only [World.size_alloc, size_setRow, dw_size]; omega)) [-Option.bind_some, hp_alloc_lt, hp_alloc_eq, hp_set_ne, hx3]
  refine Ret.bind (laws_toStore_c (ha'.mono (Ext.keep hE3'))) ?_
  rintro ⟨_, w4⟩ ⟨s4, rfl, hf4, hE4⟩
  have hx4 := (hE4.blk (hp_lt hx3)).trans hx3
  have hE4' := hE3'.tr hE4
  obtain ⟨a4, c4, hs4, _⟩ := hf4.r.len
  subst hs4
  have hr4 := hf4.r
  have l4 := hp_lt hx4
  simp (disch := first | omega | (simp only [World.size_alloc, size_setRow, dw_size]; done) | (simp only [World.size_alloc, size_setRow, dw_size]; omega)) [-Option.bind_some, hp_alloc_lt, hp_alloc_eq, hp_set_ne, hx4]
  have hE5 : Ext w4 ((w4.alloc (.cells #[.slice none 0 0] 49)).setRow w4.heap.size #[.slice a4 vs.length c4]) := by (repeat (first | exact Ext.rfl | assumption | (refine Ext.al ?_ _) | (refine Ext.dw ?_) | (refine Ext.set ?_ (by first | omega | (simp only [World.size_alloc, size_setRow, dw_size]; omega)) _) | (refine Ext.tr ?_ (by assumption))))
  refine Ret.bind (impl_StoreClosed_c (hr4.mono (Ext.keep hE5))) ?_
  rintro ⟨_, w6⟩ ⟨rfl, hE6⟩
  have hE6' : Ext w4 w6 := hE5.tr hE6
  have hx6 := (hE6'.blk l4).trans hx4
  have hy6 : hp w6 w4.heap.size = some (.cells #[.slice a4 vs.length c4] 49 (0, 0)) := (hE6.blk (by simp)).trans (by rw [hp_set_eq, hp_alloc_eq rfl]; rfl)
  have hE7 : Ext w (dw w6) := (hE4'.tr hE6').dw
  simp (disch := first | omega | (simp only [World.size_alloc, size_setRow, dw_size]; done) | (simp only [World.size_alloc, size_setRow, dw_size]; omega)) [-Option.bind_some, hp_alloc_lt, hp_alloc_eq, hp_set_ne, hx6, hy6]
  refine Ret.bind (laws_toStore_c (ha'.mono (Ext.keep hE7))) ?_
  rintro ⟨_, w8⟩ ⟨s8, rfl, hf8, hE8⟩
  have hy8 := (hE8.blk (hp_lt hy6)).trans ((hp_dw _ _).trans hy6)
  simp (disch := first | omega | (simp only [World.size_alloc, size_setRow, dw_size]; done) | (simp only [World.size_alloc, size_setRow, dw_size]; omega)) [-Option.bind_some, hp_alloc_lt, hp_alloc_eq, hp_set_ne, hy6, hy8]
  refine Ret.bind (laws_eqStore_c (hr4.mono (Ext.keep (hE6'.tr ((dw_ext w6).tr hE8)))) hf8.r) ?_
  rintro ⟨_, w9⟩ ⟨rfl, hE9⟩
  simp (disch := first | omega | (simp only [World.size_alloc, size_setRow, dw_size]; done) | (simp only [World.size_alloc, size_setRow, dw_size]; omega)) [-Option.bind_some, hp_alloc_lt, hp_alloc_eq, hp_set_ne]
  exact (hE7.tr hE8).tr hE9
end Go.Proofs.Ytjpacbedcocohaa.X
