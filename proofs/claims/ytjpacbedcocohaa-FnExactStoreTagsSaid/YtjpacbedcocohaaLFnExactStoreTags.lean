/- A part of the proof: an evaluator of the model, its laws, and contracts of functions; no condition. -/
import Derived.Test.YtjpacbedcocohaaC14
set_option linter.unusedVariables false
set_option linter.unusedSimpArgs false
set_option maxRecDepth 100000
namespace Go.Proofs.Ytjpacbedcocohaa.X
open Go Go.Ev Go.RowKit
theorem laws_FnExactStoreTags_c {s : Value} {vs : List Ver} {w : World} (ha : rVers w s vs) : Ret (EV P 8 #[.agg #[s]] w) fun r => r.1 = .bool true ∧ Ext w r.2 := by
  have ha' := ha
  obtain ⟨aa, ca, hs, hm⟩ := ha.len
  subst hs
  generalize hts : (if storeOk vs then tagsOf vs else []) = ts
  refine Ret.enter plain mixed (laws_FnExactStoreTags_fn _ _) (by kernel_rfl) (n := 1) (by kernel_rfl) rfl ?_
  simp (disch := first | omega | (simp only [World.size_alloc, size_setRow, dw_size]; done) | (simp only [World.size_alloc, size_setRow, dw_size]; omega) | (simp only [List.length_set, Array.length_toList]; omega)) [-Option.bind_some, hp_alloc_lt, hp_alloc_eq, hp_set_ne]
  refine Ret.bind (laws_szStore_c 1048576 (by omega) (by omega) (ha'.mono (Ext.keep (by (repeat (first | exact Ext.rfl | assumption | (refine Ext.al ?_ _) | (refine Ext.dw ?_) | (refine Ext.set ?_ (by first | omega | (simp only [World.size_alloc, size_setRow, dw_size]; omega)) _) | (refine Ext.tr ?_ (by assumption)))))))) ?_
  rintro ⟨_, w1⟩ ⟨m, rfl, h1, h2, h3, hE1⟩
  try dsimp only at *
  have E1 : Ext w w1 := Ext.tr (by (repeat (first | exact Ext.rfl | assumption | (refine Ext.al ?_ _) | (refine Ext.dw ?_) | (refine Ext.set ?_ (by first | omega | (simp only [World.size_alloc, size_setRow, dw_size]; omega)) _) | (refine Ext.tr ?_ (by assumption))))) hE1
  have X1 := (hE1.blk (b := w.heap.size) (by simp)).trans (hp_alloc_eq rfl)
  by_cases hm0 : m < 0
  · simp (disch := first | omega | (simp only [World.size_alloc, size_setRow, dw_size]; done) | (simp only [World.size_alloc, size_setRow, dw_size]; omega) | (simp only [List.length_set, Array.length_toList]; omega)) [-Option.bind_some, hp_alloc_lt, hp_alloc_eq, hp_set_ne, hm0]
    exact E1
  have hw := h3 (by omega)
  simp (disch := first | omega | (simp only [World.size_alloc, size_setRow, dw_size]; done) | (simp only [World.size_alloc, size_setRow, dw_size]; omega) | (simp only [List.length_set, Array.length_toList]; omega)) [-Option.bind_some, hp_alloc_lt, hp_alloc_eq, hp_set_ne, hm0, X1]
  refine Ret.bind (laws_toStore_c (ha'.mono (Ext.keep E1))) ?_
  rintro ⟨_, w2⟩ ⟨s2, rfl, f2, hE2⟩
  try dsimp only at *
  have X2 := (hE2.blk (hp_lt X1)).trans X1
  have E2 := E1.tr hE2
  try simp (disch := first | omega | (simp only [World.size_alloc, size_setRow, dw_size]; done) | (simp only [World.size_alloc, size_setRow, dw_size]; omega) | (simp only [List.length_set, Array.length_toList]; omega)) [-Option.bind_some, hp_alloc_lt, hp_alloc_eq, hp_set_ne]
  refine Ret.bind (spec_StoreTags_c f2.r) ?_
  rintro ⟨_, w3⟩ ⟨q1, rfl, g3, hE3⟩
  try dsimp only at *
  rw [hts] at g3
  have X3 := (hE3.blk (hp_lt X2)).trans X2
  have E3 := E2.tr hE3
  have l3 := hp_lt X3
  obtain ⟨a3, c3, hq1, htl⟩ := g3.r.len
  subst hq1
  simp (disch := first | omega | (simp only [World.size_alloc, size_setRow, dw_size]; done) | (simp only [World.size_alloc, size_setRow, dw_size]; omega) | (simp only [List.length_set, Array.length_toList]; omega)) [-Option.bind_some, hp_alloc_lt, hp_alloc_eq, hp_set_ne, X3]
  have D3 : Ext w3 ((w3.alloc (.cells #[.slice none 0 0] 25)).setRow w3.heap.size #[.slice a3 ts.length c3]) := by (repeat (first | exact Ext.rfl | assumption | (refine Ext.al ?_ _) | (refine Ext.dw ?_) | (refine Ext.set ?_ (by first | omega | (simp only [World.size_alloc, size_setRow, dw_size]; omega)) _) | (refine Ext.tr ?_ (by assumption))))
  refine Ret.bind (laws_toStore_c (ha'.mono (Ext.keep (E3.tr D3)))) ?_
  rintro ⟨_, w4⟩ ⟨s4, rfl, f4, hE4⟩
  try dsimp only at *
  simp only [World.size_alloc, size_setRow] at f4
  have z4 := hE4.size
  simp only [World.size_alloc, size_setRow] at z4
  have D4 := D3.tr hE4
  have E4 := E3.tr D4
  have X4 := (D4.blk l3).trans X3
  have Y4 : hp w4 w3.heap.size = some (.cells #[.slice a3 ts.length c3] 25 (0, 0)) := (hE4.blk (by simp)).trans (by rw [hp_set_eq, hp_alloc_eq rfl]; rfl)
  have G4 := g3.keep (w' := w4) fun b hb => D4.blk (g3.lt b hb).2
  have F4 := f4.t
  obtain ⟨a4, c4, hs4, _⟩ := f4.r.len
  subst hs4
  have l4 := hp_lt Y4
  try simp (disch := first | omega | (simp only [World.size_alloc, size_setRow, dw_size]; done) | (simp only [World.size_alloc, size_setRow, dw_size]; omega) | (simp only [List.length_set, Array.length_toList]; omega)) [-Option.bind_some, hp_alloc_lt, hp_alloc_eq, hp_set_ne]
  have D5 : Ext w4 ((w4.alloc (.cells #[.slice none 0 0] 49)).setRow w4.heap.size #[.slice a4 vs.length c4]) := by (repeat (first | exact Ext.rfl | assumption | (refine Ext.al ?_ _) | (refine Ext.dw ?_) | (refine Ext.set ?_ (by first | omega | (simp only [World.size_alloc, size_setRow, dw_size]; omega)) _) | (refine Ext.tr ?_ (by assumption))))
  refine Ret.bind (impl_StoreTags_c (f4.r.mono (Ext.keep D5))) ?_
  rintro ⟨_, w5⟩ ⟨q2, rfl, g5, hE5⟩
  try dsimp only at *
  rw [hts] at g5
  simp only [World.size_alloc, size_setRow] at g5
  have z5 := hE5.size
  simp only [World.size_alloc, size_setRow] at z5
  have D5 := D5.tr hE5
  have E5 := E4.tr D5
  have X5 := (D5.blk (hp_lt X4)).trans X4
  have Y5 := (D5.blk l4).trans Y4
  have Z5 : hp w5 w4.heap.size = some (.cells #[.slice a4 vs.length c4] 49 (0, 0)) := (hE5.blk (by simp)).trans (by rw [hp_set_eq, hp_alloc_eq rfl]; rfl)
  have G5 := G4.keep (w' := w5) fun b hb => D5.blk (G4.lt b hb).2
  have F5 := F4.ext D5
  obtain ⟨a5, c5, hq2, _⟩ := g5.r.len
  subst hq2
  have l5 := hp_lt Z5
  have lx5 := hp_lt X5
  have ly5 := hp_lt Y5
  simp (disch := first | omega | (simp only [World.size_alloc, size_setRow, dw_size]; done) | (simp only [World.size_alloc, size_setRow, dw_size]; omega) | (simp only [List.length_set, Array.length_toList]; omega)) [-Option.bind_some, hp_alloc_lt, hp_alloc_eq, hp_set_ne, Y5, Z5]
  have D6 : Ext w5 ((w5.alloc (.cells #[.slice none 0 0] 25)).setRow w5.heap.size #[.slice a5 ts.length c5]) := by (repeat (first | exact Ext.rfl | assumption | (refine Ext.al ?_ _) | (refine Ext.dw ?_) | (refine Ext.set ?_ (by first | omega | (simp only [World.size_alloc, size_setRow, dw_size]; omega)) _) | (refine Ext.tr ?_ (by assumption))))
  refine Ret.bind (laws_eqPast_c (g5.r.mono (Ext.keep D6)) (G5.r.mono (Ext.keep D6))) ?_
  rintro ⟨_, w6⟩ ⟨rfl, hE6⟩
  try dsimp only at *
  have z6 := hE6.size
  simp only [World.size_alloc, size_setRow] at z6
  have D6' := D6.tr hE6
  have E6 := E5.tr D6'
  have X6 := (D6'.blk lx5).trans X5
  have Y6 := (D6'.blk ly5).trans Y5
  have Z6 := (D6'.blk l5).trans Z5
  have V6 : hp w6 w5.heap.size = some (.cells #[.slice a5 ts.length c5] 25 (0, 0)) := (hE6.blk (by simp)).trans (by rw [hp_set_eq, hp_alloc_eq rfl]; rfl)
  simp (disch := first | omega | (simp only [World.size_alloc, size_setRow, dw_size]; done) | (simp only [World.size_alloc, size_setRow, dw_size]; omega) | (simp only [List.length_set, Array.length_toList]; omega)) [-Option.bind_some, hp_alloc_lt, hp_alloc_eq, hp_set_ne, X6, Z6]
  refine Ret.bind (laws_toStore_c (ha'.mono (Ext.keep E6.dw))) ?_
  rintro ⟨_, w7⟩ ⟨s7, rfl, f7, hE7⟩
  try dsimp only at *
  have D7 : Ext w6 w7 := (dw_ext w6).tr hE7
  have Z7 := (D7.blk (hp_lt Z6)).trans Z6
  simp (disch := first | omega | (simp only [World.size_alloc, size_setRow, dw_size]; done) | (simp only [World.size_alloc, size_setRow, dw_size]; omega) | (simp only [List.length_set, Array.length_toList]; omega)) [-Option.bind_some, hp_alloc_lt, hp_alloc_eq, hp_set_ne, Z6, Z7]
  have F7 := (F5.ext D6').ext D7
  refine Ret.bind (laws_eqStore_c F7.f.r f7.r) ?_
  rintro ⟨_, w8⟩ ⟨rfl, hE8⟩
  try dsimp only at *
  have D8 := D7.tr hE8
  have E8 := E6.tr D8
  have X8 := (D8.blk (hp_lt X6)).trans X6
  have Y8 := (D8.blk (hp_lt Y6)).trans Y6
  have Z8 := (D8.blk (hp_lt Z6)).trans Z6
  have V8 := (D8.blk (hp_lt V6)).trans V6
  have z8 := D8.size
  simp (disch := first | omega | (simp only [World.size_alloc, size_setRow, dw_size]; done) | (simp only [World.size_alloc, size_setRow, dw_size]; omega) | (simp only [List.length_set, Array.length_toList]; omega)) [-Option.bind_some, hp_alloc_lt, hp_alloc_eq, hp_set_ne, Z8]
  refine Ret.bind (laws_markStore_c (k := 1) (by omega) (by omega) (by omega) (F7.ext hE8)) ?_
  rintro ⟨_, w9⟩ ⟨rfl, F9, hZ9⟩
  try dsimp only at *
  have E9 := Zon.ext E8 hZ9 (by have := E3.size; omega)
  have X9 := (hZ9.blk _ (hp_lt X8) (.inl (by omega))).trans X8
  have Y9 := (hZ9.blk _ (hp_lt Y8) (.inl (by omega))).trans Y8
  have V9 := (hZ9.blk _ (hp_lt V8) (.inr (by omega))).trans V8
  have G9 := ((G5.keep fun b hb => D6'.blk (G5.lt b hb).2).keep fun b hb => D8.blk (by have := (G5.lt b hb).2; omega)).keep (w' := w9) fun b hb => hZ9.blk b (by have := (G4.lt b hb).2; omega) (.inl (by have := (g3.lt b hb).2; omega))
  have Q9 := ((g5.keep fun b hb => D6'.blk (g5.lt b hb).2).keep fun b hb => D8.blk (by have := (g5.lt b hb).2; omega)).keep (w' := w9) fun b hb => hZ9.blk b (by have := (g5.lt b hb).2; omega) (.inr (by have := (g5.lt b hb).1; omega))
  simp (disch := first | omega | (simp only [World.size_alloc, size_setRow, dw_size]; done) | (simp only [World.size_alloc, size_setRow, dw_size]; omega) | (simp only [List.length_set, Array.length_toList]; omega)) [-Option.bind_some, hp_alloc_lt, hp_alloc_eq, hp_set_ne, show ¬ (1 + 5 * (vs.length : Int) + 2 * (pastSum vs : Int) < 0) by omega, Y9, V9]
  refine Ret.bind (laws_eqPast_c Q9.r G9.r) ?_
  rintro ⟨_, w10⟩ ⟨rfl, hE10⟩
  try dsimp only at *
  have E10 := E9.tr hE10
  have X10 := (hE10.blk (hp_lt X9)).trans X9
  have Y10 := (hE10.blk (hp_lt Y9)).trans Y9
  have V10 := (hE10.blk (hp_lt V9)).trans V9
  have G10 := G9.keep fun b hb => hE10.blk (G9.lt b hb).2
  have Q10 := Q9.keep fun b hb => hE10.blk (Q9.lt b hb).2
  have z9 := hZ9.size
  have z10 := hE10.size
  simp (disch := first | omega | (simp only [World.size_alloc, size_setRow, dw_size]; done) | (simp only [World.size_alloc, size_setRow, dw_size]; omega) | (simp only [List.length_set, Array.length_toList]; omega)) [-Option.bind_some, hp_alloc_lt, hp_alloc_eq, hp_set_ne, V10]
  refine Ret.bind (laws_markPast_c (k := 1) (by omega) (by omega) Q10) ?_
  rintro ⟨_, w11⟩ ⟨rfl, Q11, hB11⟩
  try dsimp only at *
  have hne : ∀ b, b < w4.heap.size + 1 ∨ b = w5.heap.size → blkOf (Value.slice a5 ts.length c5) ≠ some b := fun b hb e => by have := g5.lt b (Option.mem_toList.2 e); omega
  have E11 := Ext.but E10 hB11 fun x hx => by have := (g5.lt x (Option.mem_toList.2 hx)).1; have := E4.size; omega
  have X11 := (hB11.blk _ (hp_lt X10) (hne _ (.inl (by omega)))).trans X10
  have Y11 := (hB11.blk _ (hp_lt Y10) (hne _ (.inl (by omega)))).trans Y10
  have V11 := (hB11.blk _ (hp_lt V10) (hne _ (.inr rfl))).trans V10
  have G11 := G10.keep (w' := w11) fun b hb => hB11.blk b (G10.lt b hb).2 (hne _ (.inl (by have := (g3.lt b hb).2; omega)))
  simp (disch := first | omega | (simp only [World.size_alloc, size_setRow, dw_size]; done) | (simp only [World.size_alloc, size_setRow, dw_size]; omega) | (simp only [List.length_set, Array.length_toList]; omega)) [-Option.bind_some, hp_alloc_lt, hp_alloc_eq, hp_set_ne, V11]
  refine Ret.bind (laws_heldPast_c (k := 1) (ts := ts) (by omega) (by omega) Q11.r) ?_
  rintro ⟨_, w12⟩ ⟨rfl, hE12⟩
  try dsimp only at *
  have E12 := E11.tr hE12
  have X12 := (hE12.blk (hp_lt X11)).trans X11
  have Y12 := (hE12.blk (hp_lt Y11)).trans Y11
  have V12 := (hE12.blk (hp_lt V11)).trans V11
  have G12 := G11.keep fun b hb => hE12.blk (G11.lt b hb).2
  have Q12 := Q11.keep fun b hb => hE12.blk (Q11.lt b hb).2
  simp (disch := first | omega | (simp only [World.size_alloc, size_setRow, dw_size]; done) | (simp only [World.size_alloc, size_setRow, dw_size]; omega) | (simp only [List.length_set, Array.length_toList]; omega)) [-Option.bind_some, hp_alloc_lt, hp_alloc_eq, hp_set_ne, show ¬ (1 + 2 * (ts.length : Int) < 0) by omega, X12, bne_self_eq_false]
  refine Ret.bind (laws_toStore_c (ha'.mono (Ext.keep E12))) ?_
  rintro ⟨_, w13⟩ ⟨s13, rfl, f13, hE13⟩
  try dsimp only at *
  try simp (disch := first | omega | (simp only [World.size_alloc, size_setRow, dw_size]; done) | (simp only [World.size_alloc, size_setRow, dw_size]; omega) | (simp only [List.length_set, Array.length_toList]; omega)) [-Option.bind_some, hp_alloc_lt, hp_alloc_eq, hp_set_ne]
  refine Ret.bind (impl_StoreTags_c f13.r) ?_
  rintro ⟨_, w14⟩ ⟨q4, rfl, g14, hE14⟩
  try dsimp only at *
  rw [hts] at g14
  have D14 := hE13.tr hE14
  have E14 := E12.tr D14
  have Y14 := (D14.blk (hp_lt Y12)).trans Y12
  have V14 := (D14.blk (hp_lt V12)).trans V12
  have G14 := G12.keep fun b hb => D14.blk (G12.lt b hb).2
  have Q14 := Q12.keep fun b hb => D14.blk (Q12.lt b hb).2
  obtain ⟨a14, c14, hq4, _⟩ := g14.r.len
  subst hq4
  have ly14 := hp_lt Y14
  have lv14 := hp_lt V14
  simp (disch := first | omega | (simp only [World.size_alloc, size_setRow, dw_size]; done) | (simp only [World.size_alloc, size_setRow, dw_size]; omega) | (simp only [List.length_set, Array.length_toList]; omega)) [-Option.bind_some, hp_alloc_lt, hp_alloc_eq, hp_set_ne, Y14]
  have D15 : Ext w14 ((w14.alloc (.cells #[.slice none 0 0] 25)).setRow w14.heap.size #[.slice a14 ts.length c14]) := by (repeat (first | exact Ext.rfl | assumption | (refine Ext.al ?_ _) | (refine Ext.dw ?_) | (refine Ext.set ?_ (by first | omega | (simp only [World.size_alloc, size_setRow, dw_size]; omega)) _) | (refine Ext.tr ?_ (by assumption))))
  refine Ret.bind (laws_eqPast_c (g14.r.mono (Ext.keep D15)) (G14.r.mono (Ext.keep D15))) ?_
  rintro ⟨_, w15⟩ ⟨rfl, hE15⟩
  try dsimp only at *
  have D15' := D15.tr hE15
  have V15 := (D15'.blk lv14).trans V14
  have Q15 := Q14.keep fun b hb => D15'.blk (Q14.lt b hb).2
  simp (disch := first | omega | (simp only [World.size_alloc, size_setRow, dw_size]; done) | (simp only [World.size_alloc, size_setRow, dw_size]; omega) | (simp only [List.length_set, Array.length_toList]; omega)) [-Option.bind_some, hp_alloc_lt, hp_alloc_eq, hp_set_ne, V15]
  refine Ret.bind (laws_heldPast_c (k := 1) (ts := ts) (by omega) (by omega) Q15.r) ?_
  rintro ⟨_, w16⟩ ⟨rfl, hE16⟩
  try dsimp only at *
  simp (disch := first | omega | (simp only [World.size_alloc, size_setRow, dw_size]; done) | (simp only [World.size_alloc, size_setRow, dw_size]; omega) | (simp only [List.length_set, Array.length_toList]; omega)) [-Option.bind_some, hp_alloc_lt, hp_alloc_eq, hp_set_ne, show ¬ (1 + 2 * (ts.length : Int) < 0) by omega, bne_self_eq_false]
  exact (E14.tr D15').tr hE16
end Go.Proofs.Ytjpacbedcocohaa.X
