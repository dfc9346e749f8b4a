/- A part of the proof: an evaluator of the model, its laws, and contracts of functions; no condition. -/
import Derived.Test.YtjpacbedcocohaaC14
set_option linter.unusedVariables false
set_option linter.unusedSimpArgs false
set_option maxRecDepth 100000
namespace Go.Proofs.Ytjpacbedcocohaa.X
open Go Go.Ev Go.RowKit
theorem spec_l1Join_l {s u : Value} {xs ys : List Tag} {b1 b2 b3 b4 t1 t2 B : Nat} {w0 : World} (hx4 : xs.length = 4) (hy4 : ys.length = 4) (hb1 : b1 < B) (hb2 : b2 < B) (hb3 : b3 < B) (hb4 : b4 < B) (h03 : w0.heap.size ≤ b3) (h04 : w0.heap.size ≤ b4) (h41 : b4 ≠ b1) (h42 : b4 ≠ b2) (h43 : b4 ≠ b3) :
    ∀ (d k : Nat) (e : Env) (w : World) (sv c0 : Value), k + d = 4 → e 2 = pt b1 0 → e 3 = pt b2 0 → e 4 = pt b3 0 → e 5 = pt b4 0 → e 6 = i64 k →
    hp w b1 = some (.cells #[s] t1 (0, 0)) → hp w b2 = some (.cells #[u] t2 (0, 0)) → hp w b3 = some (.cells #[c0] 25 (0, 0)) → hp w b4 = some (.cells #[sv] 25 (0, 0)) → rTags w0 s xs → rTags w0 u ys → Ext w0 w → B ≤ w.heap.size →
    fTags 32 B w sv ((joinT xs ys).take k) →
    Ret (spec_l1Join_l1 e w) fun r => ∃ s', r.1 = .agg #[s'] ∧ fTags 32 B r.2 s' (joinT xs ys) ∧ Ext w0 r.2 := by
  have hjl : (joinT xs ys).length = 4 := by rw [joinT_length (by omega), hx4]
  intro d
  induction d with
  | zero =>
    intro k e w sv c0 hd h2 h3 h4 h5 h6 hx1 hx2 hx3 hx4 ha hb hE hBw hf
    rw [spec_l1Join_l1_eq]
    obtain rfl : k = 4 := by omega
    rw [List.take_of_length_le (by omega)] at hf
    obtain ⟨ab, cb, hsv, _⟩ := hf.r.len
    subst hsv
    simp (disch := first | omega | (simp only [World.size_alloc, size_setRow, dw_size]; done) | (simp only [World.size_alloc, size_setRow, dw_size]; omega) | (simp only [List.length_set, Array.length_toList]; omega)) [-Option.bind_some, hp_alloc_lt, hp_alloc_eq, hp_set_ne, h2, h3, h4, h5, h6, hx3, hx4]
    refine ⟨hf.keep fun b hb => hp_set_ne ?_, by (repeat (first | exact Ext.rfl | assumption | (refine Ext.al ?_ _) | (refine Ext.dw ?_) | (refine Ext.set ?_ (by first | omega | (simp only [World.size_alloc, size_setRow, dw_size]; omega)) _) | (refine Ext.tr ?_ (by assumption))))⟩
    have := (hf.lt b hb).1
    omega
  | succ d ih =>
    intro k e w sv c0 hd h2 h3 h4 h5 h6 hx1 hx2 hx3 hx4' ha hb hE hBw hf
    rw [spec_l1Join_l1_eq]
    have hlt : k < xs.length := by omega
    have hlt' : k < ys.length := by omega
    obtain ⟨x, hxk, _⟩ := drop_at hlt
    obtain ⟨y, hyk, _⟩ := drop_at hlt'
    obtain ⟨d1, o1, c1, hs1, hA⟩ := (ha.mono (Ext.keep hE)).at hxk
    obtain ⟨d2, o2, c2, hs2, hB⟩ := (hb.mono (Ext.keep hE)).at hyk
    have p0 := hA 0 _ rfl
    have p1 := hA 1 _ rfl
    have q0 := hB 0 _ rfl
    have q1 := hB 1 _ rfl
    simp only [Nat.add_zero] at p0 q0
    subst hs1
    subst hs2
    obtain ⟨ab, cb, hsv, hfl⟩ := hf.r.len
    subst hsv
    have htl : ((joinT xs ys).take k).length = k := by rw [List.length_take]; omega
    rw [htl] at hf hx4' hfl
    simp (disch := first | omega | (simp only [World.size_alloc, size_setRow, dw_size]; done) | (simp only [World.size_alloc, size_setRow, dw_size]; omega) | (simp only [List.length_set, Array.length_toList]; omega)) [-Option.bind_some, hp_alloc_lt, hp_alloc_eq, hp_set_ne, h2, h3, h4, h5, h6, hx1, hx2, hx4', hx4, hy4, show (k : Int) < 4 by omega, show k < 4 by omega, ia_23, p0, p1, q0, q1]
    refine Ret.bind (spec_l1Max_c x y _) ?_
    rintro ⟨_, w1⟩ ⟨rfl, hE1⟩
    have hE1' : Ext w w1 := (dw_ext w).tr hE1
    have z1 := hE1'.size
    have Y4 := (hE1'.blk (hp_lt hx4')).trans hx4'
    have ly4 := hp_lt Y4
    have hf1 := hf.keep (w' := w1) fun b hb => hE1'.blk (hf.lt b hb).2
    simp (disch := first | omega | (simp only [World.size_alloc, size_setRow, dw_size]; done) | (simp only [World.size_alloc, size_setRow, dw_size]; omega) | (simp only [List.length_set, Array.length_toList]; omega)) [-Option.bind_some, hp_alloc_lt, hp_alloc_eq, hp_set_ne, Y4]
    refine Ret.bind (app_tag (x := tagMax x y) el_23 (by kernel_rfl) (hf1.keep fun b hb => hp_alloc_lt (hf1.lt b hb).2) (by simp only [World.size_alloc]; omega) ?_ (by omega)) ?_
    · intro j u hj
      rw [hp_alloc_eq rfl, cellO_some, ← nth_eq, Nat.zero_add]
      exact hj
    rintro ⟨s', w2⟩ ⟨hf2, hBut⟩
    have hk2 : ∀ b, b < B → hp w2 b = hp w b := fun b hb => (hBut.blk b (by simp only [World.size_alloc]; omega) (fun e => absurd (hf.lt b (Option.mem_toList.2 e)).1 (by omega))).trans ((hp_alloc_lt (by omega)).trans (hE1'.blk (by omega)))
    have hE2 : Ext w0 w2 := Ext.but (b := w1.alloc _) ((hE.tr hE1').al _) hBut fun x hx => by have := (hf.lt x (Option.mem_toList.2 hx)).1; omega
    have hsz : w1.heap.size < w2.heap.size := by have := hBut.size; simp only [World.size_alloc] at this; omega
    obtain ⟨ac, c3, hsv, hfl1⟩ := hf2.r.len
    have e1 : ((joinT xs ys).take k ++ [tagMax x y]).length = k + 1 := by rw [List.length_append, htl]; rfl
    try dsimp only at hsv
    rw [e1] at hsv
    subst hsv
    simp (disch := first | omega | (simp only [World.size_alloc, size_setRow, dw_size]; done) | (simp only [World.size_alloc, size_setRow, dw_size]; omega) | (simp only [List.length_set, Array.length_toList]; omega)) [-Option.bind_some, hp_alloc_lt, hp_alloc_eq, hp_set_ne, hk2, hx4']
    refine Ret.mono (ih (k + 1) _ _ _ c0 (by omega) h2 h3 h4 h5 (congrArg i64 (w64 (by omega) (by omega))) ((hp_set_ne (Ne.symm h41)).trans ((hk2 _ hb1).trans hx1)) ((hp_set_ne (Ne.symm h42)).trans ((hk2 _ hb2).trans hx2)) ((hp_set_ne (Ne.symm h43)).trans ((hk2 _ hb3).trans hx3)) (by rw [hp_set_eq, hk2 _ hb4, hx4']; rfl) ha hb (by (repeat (first | exact Ext.rfl | assumption | (refine Ext.al ?_ _) | (refine Ext.dw ?_) | (refine Ext.set ?_ (by first | omega | (simp only [World.size_alloc, size_setRow, dw_size]; omega)) _) | (refine Ext.tr ?_ (by assumption))))) (by simp; omega) ?_) fun _ h => h
    rw [take_at (joinT_get hxk hyk)]
    have hf3 : ∀ cs, fTags 32 B (w2.setRow b4 cs) _ ((joinT xs ys).take k ++ [tagMax x y]) := fun cs => hf2.keep fun b hb => hp_set_ne (by have := (hf2.lt b hb).1; omega)
    exact hf3 _
theorem spec_l1Join_c {s u : Value} {xs ys : List Tag} (hx4 : xs.length = 4) (hy4 : ys.length = 4) {w : World} (ha : rTags w s xs) (hb : rTags w u ys) : Ret (EV P 57 #[.agg #[s], .agg #[u]] w) fun r => ∃ s', r.1 = .agg #[s'] ∧ fTags 32 w.heap.size r.2 s' (joinT xs ys) ∧ Ext w r.2 := by
  have ha' := ha
  have hb' := hb
  obtain ⟨aa, ca, hs, hm⟩ := ha.len
  obtain ⟨ab, cb, hu, _⟩ := hb.len
  subst hs
  subst hu
  refine Ret.enter plain mixed (spec_l1Join_fn _ _ _) (by kernel_rfl) (n := 2) (by kernel_rfl) rfl ?_
  simp (disch := first | omega | (simp only [World.size_alloc, size_setRow, dw_size]; done) | (simp only [World.size_alloc, size_setRow, dw_size]; omega) | (simp only [List.length_set, Array.length_toList]; omega)) [-Option.bind_some, hp_alloc_lt, hp_alloc_eq, hp_set_ne]
  refine Ret.mono (spec_l1Join_l (s := .slice aa xs.length ca) (u := .slice ab ys.length cb) (xs := xs) (ys := ys) (b1 := w.heap.size) (b2 := w.heap.size + 1) (b3 := w.heap.size + 2) (b4 := w.heap.size + 3) (B := w.heap.size + 4) (w0 := w) (t1 := 25) (t2 := 25) hx4 hy4 (by omega) (by omega) (by omega) (by omega) (by omega) (by omega) (by omega) (by omega) (by omega) 4 0 _ _ _ _ (by omega) rfl rfl rfl rfl rfl
    (by simp (disch := first | omega | (simp only [World.size_alloc, size_setRow, dw_size]; done) | (simp only [World.size_alloc, size_setRow, dw_size]; omega) | (simp only [List.length_set, Array.length_toList]; omega)) [-Option.bind_some, hp_alloc_lt, hp_alloc_eq, hp_set_ne]; first | done | rfl) (by simp (disch := first | omega | (simp only [World.size_alloc, size_setRow, dw_size]; done) | (simp only [World.size_alloc, size_setRow, dw_size]; omega) | (simp only [List.length_set, Array.length_toList]; omega)) [-Option.bind_some, hp_alloc_lt, hp_alloc_eq, hp_set_ne]; first | done | rfl) (by simp (disch := first | omega | (simp only [World.size_alloc, size_setRow, dw_size]; done) | (simp only [World.size_alloc, size_setRow, dw_size]; omega) | (simp only [List.length_set, Array.length_toList]; omega)) [-Option.bind_some, hp_alloc_lt, hp_alloc_eq, hp_set_ne]; first | done | rfl) (by simp (disch := first | omega | (simp only [World.size_alloc, size_setRow, dw_size]; done) | (simp only [World.size_alloc, size_setRow, dw_size]; omega) | (simp only [List.length_set, Array.length_toList]; omega)) [-Option.bind_some, hp_alloc_lt, hp_alloc_eq, hp_set_ne]; first | done | rfl) ha' hb' (by (repeat (first | exact Ext.rfl | assumption | (refine Ext.al ?_ _) | (refine Ext.dw ?_) | (refine Ext.set ?_ (by first | omega | (simp only [World.size_alloc, size_setRow, dw_size]; omega)) _) | (refine Ext.tr ?_ (by assumption))))) (by simp) ⟨Own.nil _ _ _ _, by simp⟩) ?_
  rintro ⟨_, w1⟩ ⟨s', rfl, hf, hE⟩
  exact ⟨s', rfl, hf.from (by omega), hE⟩
theorem spec_PastJoin_c {s u : Value} {xs ys : List Tag} {w : World} (ha : rTags w s xs) (hb : rTags w u ys) : Ret (EV P 16 #[.agg #[s], .agg #[u]] w) fun r => ∃ s', r.1 = .agg #[s'] ∧ fTags 32 w.heap.size r.2 s' (pastJoin xs ys) ∧ Ext w r.2 := by
  have ha' := ha
  have hb' := hb
  obtain ⟨aa, ca, hs, hm⟩ := ha.len
  obtain ⟨ab, cb, hu, _⟩ := hb.len
  subst hs
  subst hu
  refine Ret.enter plain mixed (spec_PastJoin_fn _ _ _) (by kernel_rfl) (n := 2) (by kernel_rfl) rfl ?_
  simp (disch := first | omega | (simp only [World.size_alloc, size_setRow, dw_size]; done) | (simp only [World.size_alloc, size_setRow, dw_size]; omega) | (simp only [List.length_set, Array.length_toList]; omega)) [-Option.bind_some, hp_alloc_lt, hp_alloc_eq, hp_set_ne]
  refine Ret.bind (spec_l1PastOk_c (ha'.mono (Ext.keep (by (repeat (first | exact Ext.rfl | assumption | (refine Ext.al ?_ _) | (refine Ext.dw ?_) | (refine Ext.set ?_ (by first | omega | (simp only [World.size_alloc, size_setRow, dw_size]; omega)) _) | (refine Ext.tr ?_ (by assumption)))))))) ?_
  rintro ⟨_, w1⟩ ⟨rfl, hE⟩
  try dsimp only at *
  have z1 := hE.size
  simp only [World.size_alloc] at z1
  have X1 := (hE.blk (b := w.heap.size) (by simp only [World.size_alloc]; omega)).trans ((hp_alloc_lt (by simp only [World.size_alloc]; omega)).trans ((hp_alloc_lt (by simp)).trans (hp_alloc_eq rfl)))
  have Y1 := (hE.blk (b := w.heap.size + 1) (by simp only [World.size_alloc]; omega)).trans ((hp_alloc_lt (by simp)).trans (hp_alloc_eq (by simp)))
  have Z1 := (hE.blk (b := w.heap.size + 1 + 1) (by simp)).trans (hp_alloc_eq (by simp))
  have E1 : Ext w w1 := Ext.tr (by (repeat (first | exact Ext.rfl | assumption | (refine Ext.al ?_ _) | (refine Ext.dw ?_) | (refine Ext.set ?_ (by first | omega | (simp only [World.size_alloc, size_setRow, dw_size]; omega)) _) | (refine Ext.tr ?_ (by assumption))))) hE
  cases hp : pastOk xs
  · simp (disch := first | omega | (simp only [World.size_alloc, size_setRow, dw_size]; done) | (simp only [World.size_alloc, size_setRow, dw_size]; omega) | (simp only [List.length_set, Array.length_toList]; omega)) [-Option.bind_some, hp_alloc_lt, hp_alloc_eq, hp_set_ne, hp, Z1, pastJoin]
    exact ⟨⟨Own.nil _ _ _ _, by simp⟩, by (repeat (first | exact Ext.rfl | assumption | (refine Ext.al ?_ _) | (refine Ext.dw ?_) | (refine Ext.set ?_ (by first | omega | (simp only [World.size_alloc, size_setRow, dw_size]; omega)) _) | (refine Ext.tr ?_ (by assumption))))⟩
  simp (disch := first | omega | (simp only [World.size_alloc, size_setRow, dw_size]; done) | (simp only [World.size_alloc, size_setRow, dw_size]; omega) | (simp only [List.length_set, Array.length_toList]; omega)) [-Option.bind_some, hp_alloc_lt, hp_alloc_eq, hp_set_ne, hp, Y1]
  refine Ret.bind (spec_l1PastOk_c (hb'.mono (Ext.keep E1))) ?_
  rintro ⟨_, w2⟩ ⟨rfl, hE2⟩
  try dsimp only at *
  have E2 := E1.tr hE2
  have X2 := (hE2.blk (hp_lt X1)).trans X1
  have Y2 := (hE2.blk (hp_lt Y1)).trans Y1
  have Z2 := (hE2.blk (hp_lt Z1)).trans Z1
  cases hq : pastOk ys
  · simp (disch := first | omega | (simp only [World.size_alloc, size_setRow, dw_size]; done) | (simp only [World.size_alloc, size_setRow, dw_size]; omega) | (simp only [List.length_set, Array.length_toList]; omega)) [-Option.bind_some, hp_alloc_lt, hp_alloc_eq, hp_set_ne, hp, hq, Z2, pastJoin]
    exact ⟨⟨Own.nil _ _ _ _, by simp⟩, by (repeat (first | exact Ext.rfl | assumption | (refine Ext.al ?_ _) | (refine Ext.dw ?_) | (refine Ext.set ?_ (by first | omega | (simp only [World.size_alloc, size_setRow, dw_size]; omega)) _) | (refine Ext.tr ?_ (by assumption))))⟩
  simp (disch := first | omega | (simp only [World.size_alloc, size_setRow, dw_size]; done) | (simp only [World.size_alloc, size_setRow, dw_size]; omega) | (simp only [List.length_set, Array.length_toList]; omega)) [-Option.bind_some, hp_alloc_lt, hp_alloc_eq, hp_set_ne, hq, X2, Y2]
  refine Ret.bind (spec_l1Join_c (pastOk_len hp) (pastOk_len hq) (ha'.mono (Ext.keep E2)) (hb'.mono (Ext.keep E2))) ?_
  rintro ⟨_, w3⟩ ⟨s', rfl, hf, hE3⟩
  try dsimp only at *
  obtain ⟨a3, c3, hs', _⟩ := hf.r.len
  subst hs'
  have lz := hp_lt Z2
  have Z3 := (hE3.blk lz).trans Z2
  have e : pastJoin xs ys = joinT xs ys := by simp [pastJoin, hp, hq]
  have z2 := hE2.size
  have z3 := hE3.size
  simp (disch := first | omega | (simp only [World.size_alloc, size_setRow, dw_size]; done) | (simp only [World.size_alloc, size_setRow, dw_size]; omega) | (simp only [List.length_set, Array.length_toList]; omega)) [-Option.bind_some, hp_alloc_lt, hp_alloc_eq, hp_set_ne, Z3, e]
  refine ⟨(hf.keep fun b hb => ?_).from (by omega), by (repeat (first | exact Ext.rfl | assumption | (refine Ext.al ?_ _) | (refine Ext.dw ?_) | (refine Ext.set ?_ (by first | omega | (simp only [World.size_alloc, size_setRow, dw_size]; omega)) _) | (refine Ext.tr ?_ (by assumption))))⟩
  have := (hf.lt b hb).1
  exact hp_set_ne (by omega)
end Go.Proofs.Ytjpacbedcocohaa.X
