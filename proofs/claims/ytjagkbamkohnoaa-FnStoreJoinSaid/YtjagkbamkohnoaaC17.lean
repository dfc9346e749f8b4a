/- A part of the proof: an evaluator of the model, its laws, and contracts of functions; no condition. -/
import Derived.Test.YtjagkbamkohnoaaC13
set_option linter.unusedVariables false
set_option linter.unusedSimpArgs false
set_option maxRecDepth 100000
namespace Go.Proofs.Ytjagkbamkohnoaa.X
open Go Go.Ev Go.RowKit
theorem slices_Clone_Tag_c {s : Value} {xs : List Tag} {w : World} (ha : rTags w s xs) : Ret (EV P 119 #[s] w) fun r => fTags 27 w.heap.size r.2 r.1 xs ∧ Ext w r.2 := by
  have ha' := ha
  obtain ⟨⟨aa, ca, hs, hn, hA⟩, hm⟩ := ha
  subst hs
  refine Ret.enter plain mixed (slices_Clone_Tag_fn _ _) (by kernel_rfl) (n := 1) (by kernel_rfl) rfl ?_
  have hnil := bo_eql_nil (P := P) el_28
  cases aa with
  | none =>
    have hx : xs = [] := by
      rcases hA with h | ⟨b, o, h, _⟩
      · have := congrArg List.length h
        rw [tagCs_length] at this
        exact List.eq_nil_of_length_eq_zero (by simp only [List.length_nil] at this; omega)
      · cases h
    subst hx
    simp (disch := first | omega | (simp only [World.size_alloc, size_setRow, dw_size]; done) | (simp only [World.size_alloc, size_setRow, dw_size]; omega) | (simp only [List.length_set, Array.length_toList]; omega)) [-Option.bind_some, hp_alloc_lt, hp_alloc_eq, hp_set_ne, hnil]
    exact ⟨⟨Own.nil _ _ _ _, by simp⟩, by (repeat (first | exact Ext.rfl | assumption | (refine Ext.al ?_ _) | (refine Ext.dw ?_) | (refine Ext.set ?_ (by first | omega | (simp only [World.size_alloc, size_setRow, dw_size]; omega)) _) | (refine Ext.tr ?_ (by assumption))))⟩
  | some a =>
    simp (disch := first | omega | (simp only [World.size_alloc, size_setRow, dw_size]; done) | (simp only [World.size_alloc, size_setRow, dw_size]; omega) | (simp only [List.length_set, Array.length_toList]; omega)) [-Option.bind_some, hp_alloc_lt, hp_alloc_eq, hp_set_ne, hnil]
    have hown : Own (w.alloc (.cells #[] 27)) w.heap.size 27 2 (.slice (some ⟨w.heap.size, 0, none⟩) 0 0) 0 [] :=
      ⟨rfl, by omega, .inr ⟨w.heap.size, 0, #[], rfl, by omega, hp_alloc_eq rfl, by omega, by omega, by simp, by simp⟩⟩
    by_cases h0 : xs.length = 0
    · have hx : xs = [] := List.eq_nil_of_length_eq_zero h0
      subst hx
      simp (disch := first | omega | (simp only [World.size_alloc, size_setRow, dw_size]; done) | (simp only [World.size_alloc, size_setRow, dw_size]; omega) | (simp only [List.length_set, Array.length_toList]; omega)) [-Option.bind_some, hp_alloc_lt, hp_alloc_eq, hp_set_ne, app_none (P := P) (ty := 28) el_28]
      exact ⟨⟨hown, by simp⟩, by (repeat (first | exact Ext.rfl | assumption | (refine Ext.al ?_ _) | (refine Ext.dw ?_) | (refine Ext.set ?_ (by first | omega | (simp only [World.size_alloc, size_setRow, dw_size]; omega)) _) | (refine Ext.tr ?_ (by assumption))))⟩
    · obtain ⟨b, o, hab, hA2⟩ : ∃ b o, some a = some ⟨b, o, none⟩ ∧ At w b o (tagCs xs) := by
        rcases hA with h | h
        · have := congrArg List.length h
          rw [tagCs_length] at this
          simp at this
          omega
        · exact h
      cases hab
      refine Ret.bind (app_own (P := P) el_28 (z := [i64 0, i64 0]) (by kernel_rfl) rfl (by omega) hown (by simp) (hA2.mono fun b hb => hp_alloc_lt hb) (tagCs_length xs) ?_ (by omega) (by omega) (by omega)) ?_
      · rw [List.all_eq_true]
        intro v hv
        simp only [tagCs, List.mem_flatten, List.mem_map] at hv
        obtain ⟨l, ⟨t, _, rfl⟩, hv⟩ := hv
        simp only [List.mem_cons, List.not_mem_nil, or_false] at hv
        rcases hv with rfl | rfl <;> rfl
      rintro ⟨s', w1⟩ ⟨h1, h2, _⟩
      try dsimp only at *
      simp only [Nat.zero_add, List.nil_append] at h1
      simp (disch := first | omega | (simp only [World.size_alloc, size_setRow, dw_size]; done) | (simp only [World.size_alloc, size_setRow, dw_size]; omega) | (simp only [List.length_set, Array.length_toList]; omega)) [-Option.bind_some, hp_alloc_lt, hp_alloc_eq, hp_set_ne]
      exact ⟨⟨h1, hm⟩, Ext.but (b := w.alloc _) (by (repeat (first | exact Ext.rfl | assumption | (refine Ext.al ?_ _) | (refine Ext.dw ?_) | (refine Ext.set ?_ (by first | omega | (simp only [World.size_alloc, size_setRow, dw_size]; omega)) _) | (refine Ext.tr ?_ (by assumption))))) h2 fun x hx => by simp only [blkOf, Option.some.injEq] at hx; omega⟩
theorem slices_Clip_Tag_c {B : Nat} {s : Value} {xs : List Tag} {w : World} (hf : fTags 27 B w s xs) : Ret (EV P 118 #[s] w) fun r => r.2 = w ∧ fTags 27 B w r.1 xs := by
  obtain ⟨⟨hl, hn, ho⟩, hm⟩ := hf
  refine Ret.enter plain mixed (slices_Clip_Tag_fn _ _) (by kernel_rfl) (n := 1) (by kernel_rfl) rfl ?_
  rcases ho with ⟨rfl, h0⟩ | ⟨g, cap, cur, rfl, hg, hh, hc, hcm, hsz, ht⟩
  · simp (disch := first | omega | (simp only [World.size_alloc, size_setRow, dw_size]; done) | (simp only [World.size_alloc, size_setRow, dw_size]; omega) | (simp only [List.length_set, Array.length_toList]; omega)) [-Option.bind_some, hp_alloc_lt, hp_alloc_eq, hp_set_ne, sl_hm (P := P) el_28]
    have hx : xs = [] := List.eq_nil_of_length_eq_zero h0
    subst hx
    exact ⟨Own.nil _ _ _ _, by simp⟩
  · simp (disch := first | omega | (simp only [World.size_alloc, size_setRow, dw_size]; done) | (simp only [World.size_alloc, size_setRow, dw_size]; omega) | (simp only [List.length_set, Array.length_toList]; omega)) [-Option.bind_some, hp_alloc_lt, hp_alloc_eq, hp_set_ne, sl_hm (P := P) el_28]
    exact ⟨⟨hl, hn, .inr ⟨g, xs.length, cur, rfl, hg, hh, by omega, by omega, by omega, ht⟩⟩, hm⟩
theorem impl_Past_copied_c {s : Value} {xs : List Tag} {w : World} (ha : rTags w s xs) : Ret (EV P 102 #[.agg #[s]] w) fun r => ∃ s', r.1 = .agg #[s'] ∧ fTags 27 w.heap.size r.2 s' xs ∧ Ext w r.2 := by
  have ha' := ha
  obtain ⟨aa, ca, hs, hm⟩ := ha.len
  subst hs
  refine Ret.enter plain mixed (impl_Past_copied_fn _ _) (by kernel_rfl) (n := 1) (by kernel_rfl) rfl ?_
  simp (disch := first | omega | (simp only [World.size_alloc, size_setRow, dw_size]; done) | (simp only [World.size_alloc, size_setRow, dw_size]; omega) | (simp only [List.length_set, Array.length_toList]; omega)) [-Option.bind_some, hp_alloc_lt, hp_alloc_eq, hp_set_ne]
  refine Ret.bind (slices_Clone_Tag_c (ha'.mono (Ext.keep (by (repeat (first | exact Ext.rfl | assumption | (refine Ext.al ?_ _) | (refine Ext.dw ?_) | (refine Ext.set ?_ (by first | omega | (simp only [World.size_alloc, size_setRow, dw_size]; omega)) _) | (refine Ext.tr ?_ (by assumption)))))))) ?_
  rintro ⟨s1, w1⟩ ⟨hf, hE⟩
  try dsimp only at *
  have z1 := hE.size
  simp only [World.size_alloc] at z1 hf
  refine Ret.bind (slices_Clip_Tag_c hf) ?_
  rintro ⟨s2, w2⟩ ⟨rfl, hf2⟩
  try dsimp only at *
  obtain ⟨a2, c2, hs2, _⟩ := hf2.r.len
  subst hs2
  have X2 := (hE.blk (b := w.heap.size + 1) (by simp)).trans (hp_alloc_eq (by simp))
  simp (disch := first | omega | (simp only [World.size_alloc, size_setRow, dw_size]; done) | (simp only [World.size_alloc, size_setRow, dw_size]; omega) | (simp only [List.length_set, Array.length_toList]; omega)) [-Option.bind_some, hp_alloc_lt, hp_alloc_eq, hp_set_ne, X2]
  refine ⟨(hf2.keep fun b hb => ?_).from (by omega), by (repeat (first | exact Ext.rfl | assumption | (refine Ext.al ?_ _) | (refine Ext.dw ?_) | (refine Ext.set ?_ (by first | omega | (simp only [World.size_alloc, size_setRow, dw_size]; omega)) _) | (refine Ext.tr ?_ (by assumption))))⟩
  have := (hf2.lt b hb).1
  exact hp_set_ne (by omega)
theorem laws_cfPast_l {s u : Value} {xs : List Tag} {b c t t' : Nat} : ∀ (d k : Nat) (e : Env) (w : World), k + d = xs.length → e 2 = pt b 0 → e 3 = pt c 0 → e 5 = i64 k →
    hp w b = some (.cells #[s] t (0, 0)) → hp w c = some (.cells #[u] t' (0, 0)) → rTags w s xs → rTags w u xs →
    Ret (laws_cfPast_l1 e w) fun r => r.1 = .bool true ∧ Ext w r.2 := by
  intro d
  induction d with
  | zero =>
    intro k e w hd h2 h3 h5 hx hy ha hb
    rw [laws_cfPast_l1_eq]
    obtain ⟨aa, ca, hs, hm⟩ := ha.len
    subst hs
    simp (disch := first | omega | (simp only [World.size_alloc, size_setRow, dw_size]; done) | (simp only [World.size_alloc, size_setRow, dw_size]; omega) | (simp only [List.length_set, Array.length_toList]; omega)) [-Option.bind_some, hp_alloc_lt, hp_alloc_eq, hp_set_ne, h2, h3, h5, hx, show ¬ k < xs.length by omega, show xs.length ≤ k by omega]
    (repeat (first | exact Ext.rfl | assumption | (refine Ext.al ?_ _) | (refine Ext.dw ?_) | (refine Ext.set ?_ (by first | omega | (simp only [World.size_alloc, size_setRow, dw_size]; omega)) _) | (refine Ext.tr ?_ (by assumption))))
  | succ d ih =>
    intro k e w hd h2 h3 h5 hx hy ha hb
    rw [laws_cfPast_l1_eq]
    obtain ⟨_, _, _, hm⟩ := ha.len
    have hlt : k < xs.length := by omega
    obtain ⟨x, hxk, _⟩ := drop_at hlt
    obtain ⟨b1, o1, c1, hs1, hA⟩ := ha.at hxk
    obtain ⟨b2, o2, c2, hs2, hB⟩ := hb.at hxk
    have p0 := hA 0 _ rfl
    have p1 := hA 1 _ rfl
    have q0 := hB 0 _ rfl
    have q1 := hB 1 _ rfl
    simp only [Nat.add_zero] at p0 q0
    subst hs1
    subst hs2
    simp (disch := first | omega | (simp only [World.size_alloc, size_setRow, dw_size]; done) | (simp only [World.size_alloc, size_setRow, dw_size]; omega) | (simp only [List.length_set, Array.length_toList]; omega)) [-Option.bind_some, hp_alloc_lt, hp_alloc_eq, hp_set_ne, h2, h3, h5, hx, hy, hlt, ia_28, p0, p1, q0, q1]
    refine Ret.mono (ih (k + 1) _ _ (by omega) h2 h3 (congrArg i64 (w64 (by omega) (by omega))) ((hp_dw _ _).trans hx) ((hp_dw _ _).trans hy) (ha.mono (Ext.keep (dw_ext w))) (hb.mono (Ext.keep (dw_ext w)))) ?_
    rintro r ⟨h6, h7⟩
    exact ⟨h6, (dw_ext w).tr h7⟩
theorem laws_cfPast_c {s u : Value} {xs : List Tag} {w : World} (ha : rTags w s xs) (hb : rTags w u xs) : Ret (EV P 29 #[.agg #[s], .agg #[u]] w) fun r => r.1 = .bool true ∧ Ext w r.2 := by
  have ha' := ha
  have hb' := hb
  obtain ⟨aa, ca, hs, hm⟩ := ha.len
  obtain ⟨ab, cb, hu, _⟩ := hb.len
  subst hs
  subst hu
  refine Ret.enter plain mixed (laws_cfPast_fn _ _ _) (by kernel_rfl) (n := 2) (by kernel_rfl) rfl ?_
  simp (disch := first | omega | (simp only [World.size_alloc, size_setRow, dw_size]; done) | (simp only [World.size_alloc, size_setRow, dw_size]; omega) | (simp only [List.length_set, Array.length_toList]; omega)) [-Option.bind_some, hp_alloc_lt, hp_alloc_eq, hp_set_ne, bne_self_eq_false]
  refine Ret.mono (laws_cfPast_l (c := w.heap.size + 1) xs.length 0 _ _ (by omega) rfl rfl rfl ((hp_alloc_lt (by simp)).trans (hp_alloc_eq rfl)) (hp_alloc_eq (by simp)) (ha'.mono (Ext.keep (by (repeat (first | exact Ext.rfl | assumption | (refine Ext.al ?_ _) | (refine Ext.dw ?_) | (refine Ext.set ?_ (by first | omega | (simp only [World.size_alloc, size_setRow, dw_size]; omega)) _) | (refine Ext.tr ?_ (by assumption))))))) (hb'.mono (Ext.keep (by (repeat (first | exact Ext.rfl | assumption | (refine Ext.al ?_ _) | (refine Ext.dw ?_) | (refine Ext.set ?_ (by first | omega | (simp only [World.size_alloc, size_setRow, dw_size]; omega)) _) | (refine Ext.tr ?_ (by assumption)))))))) ?_
  rintro r ⟨h1, h2⟩
  exact ⟨h1, (Ext.al (Ext.al Ext.rfl _) _).tr h2⟩
end Go.Proofs.Ytjagkbamkohnoaa.X
set_option linter.unusedVariables false
set_option linter.unusedSimpArgs false
set_option maxRecDepth 100000
namespace Go.Proofs.Ytjagkbamkohnoaa.X
open Go Go.Ev Go.RowKit
theorem impl_Past_join_l {u sv : Value} {xs ys : List Tag} {b4 b5 B : Nat} {w0 : World} (hl4 : xs.length = ys.length) (h04 : w0.heap.size ≤ b4) (h05 : w0.heap.size ≤ b5) (h0B : w0.heap.size ≤ B) (hne : ∀ b ∈ (blkOf sv).toList, b ≠ b4 ∧ b ≠ b5) (h45 : b4 ≠ b5) (hym : ys.length ≤ 8796093021952) :
    ∀ (d k : Nat) (e : Env) (w : World) (c0 : Value), k + d = ys.length → e 4 = pt b4 0 → e 5 = pt b5 0 → e 11 = u → e 12 = i64 ys.length → e 13 = i64 k →
    hp w b4 = some (.cells #[c0] 30 (0, 0)) → hp w b5 = some (.cells #[sv] 30 (0, 0)) → rTags w0 u ys → Ext w0 w → fTags 27 B w sv ((joinT xs ys).take k ++ xs.drop k) →
    Ret (impl_Past_join_l1 e w) fun r => r.1 = .agg #[sv] ∧ fTags 27 B r.2 sv (joinT xs ys) ∧ Ext w0 r.2 := by
  have hjl : (joinT xs ys).length = xs.length := joinT_length hl4
  intro d
  induction d with
  | zero =>
    intro k e w c0 hd h4 h5 h11 h12 h13 hx4 hx5 hb hE hf
    rw [impl_Past_join_l1_eq]
    rw [List.take_of_length_le (by omega), List.drop_eq_nil_of_le (by omega), List.append_nil] at hf
    obtain ⟨ab, cb, hsv, _⟩ := hf.r.len
    subst hsv
    obtain rfl : k = ys.length := by omega
    simp (disch := first | omega | (simp only [World.size_alloc, size_setRow, dw_size]; done) | (simp only [World.size_alloc, size_setRow, dw_size]; omega) | (simp only [List.length_set, Array.length_toList]; omega)) [-Option.bind_some, hp_alloc_lt, hp_alloc_eq, hp_set_ne, h4, h5, h11, h12, h13, hx4, hx5]
    exact ⟨hf.keep fun b hb => hp_set_ne (hne b hb).1, by (repeat (first | exact Ext.rfl | assumption | (refine Ext.al ?_ _) | (refine Ext.dw ?_) | (refine Ext.set ?_ (by first | omega | (simp only [World.size_alloc, size_setRow, dw_size]; omega)) _) | (refine Ext.tr ?_ (by assumption))))⟩
  | succ d ih =>
    intro k e w c0 hd h4 h5 h11 h12 h13 hx4 hx5 hb hE hf
    rw [impl_Past_join_l1_eq]
    have hlt : k < ys.length := by omega
    have hlx : k < xs.length := by omega
    obtain ⟨x, hxk, hdx⟩ := drop_at hlx
    obtain ⟨y, hyk, _⟩ := drop_at hlt
    obtain ⟨b2, o2, c2, hs2, hB⟩ := (hb.mono (Ext.keep hE)).at hyk
    have q0 := hB 0 _ rfl
    have q1 := hB 1 _ rfl
    have hL : ((joinT xs ys).take k ++ xs.drop k).length = xs.length := by simp only [List.length_append, List.length_take, List.length_drop]; omega
    have hLk : ((joinT xs ys).take k ++ xs.drop k)[k]? = some x := by
      rw [List.getElem?_append_right (by simp only [List.length_take]; omega), List.length_take, hjl, show k - min k xs.length = 0 by omega, hdx]; rfl
    obtain ⟨d1, o1, c1, hs1, hA⟩ := hf.r.at hLk
    obtain ⟨g, cap, cur, hs, hg, hgl, hh, hle, hput⟩ := hf.put (j := k) (by omega)
    rw [hL] at hs1 hs hle
    have hin := hs1.symm.trans hs
    simp only [Value.slice.injEq, Option.some.injEq, Addr.mk.injEq, true_and, and_true] at hin
    obtain ⟨⟨rfl, rfl⟩, rfl⟩ := hin
    have p0 := hA 0 _ rfl
    have p1 := hA 1 _ rfl
    simp only [Nat.add_zero, Nat.zero_add] at p0 p1 q0
    have hb2 := hB.lt
    have l5 := hp_lt hx5
    have hgn := hne d1 (by simp [hs, blkOf])
    have hg4 : b4 ≠ d1 := fun e => hgn.1 e.symm
    have hg5 : b5 ≠ d1 := fun e => hgn.2 e.symm
    subst hs2
    subst hs
    simp (disch := first | omega | (simp only [World.size_alloc, size_setRow, dw_size]; done) | (simp only [World.size_alloc, size_setRow, dw_size]; omega) | (simp only [List.length_set, Array.length_toList]; omega)) [-Option.bind_some, hp_alloc_lt, hp_alloc_eq, hp_set_ne, h4, h5, h11, h12, h13, hx5, hlt, hlx, ia_28, p0, p1, q0, q1]
    refine Ret.bind (impl_TagMax_c x y _) ?_
    rintro ⟨_, w1⟩ ⟨rfl, hE1⟩
    try dsimp only at *
    have E1 : Ext w w1 := Ext.tr (by (repeat (first | exact Ext.rfl | assumption | (refine Ext.al ?_ _) | (refine Ext.dw ?_) | (refine Ext.set ?_ (by first | omega | (simp only [World.size_alloc, size_setRow, dw_size]; omega)) _) | (refine Ext.tr ?_ (by assumption))))) hE1
    have X5 := (E1.blk l5).trans hx5
    have G1 := (E1.blk hgl).trans hh
    have X4 := (E1.blk (hp_lt hx4)).trans hx4
    simp (disch := first | omega | (simp only [World.size_alloc, size_setRow, dw_size]; done) | (simp only [World.size_alloc, size_setRow, dw_size]; omega) | (simp only [List.length_set, Array.length_toList]; omega)) [-Option.bind_some, hp_alloc_lt, hp_alloc_eq, hp_set_ne, X5, G1, hlx, ia_28, splice_two, -splice_eq, show k * 2 + 2 ≤ cur.size by omega, show k * 2 + 1 < cur.size by omega, h13]
    refine Ret.mono (ih (k + 1) _ _ c0 (by omega) h4 h5 h11 h12 (congrArg i64 (w64 (by omega) (by omega))) ((hp_set_ne hg4).trans X4) ((hp_set_ne hg5).trans X5) hb (Ext.set (hE.tr E1) (by omega) _) ?_) fun _ h => h
    rw [← joinT_put hxk hyk hl4]
    refine hput (tagMax x y) _ ?_
    rw [hp_set_eq, G1]; rfl
theorem impl_Past_join_c {s u : Value} {xs ys : List Tag} (hl4 : xs.length = ys.length) {w : World} (ha : rTags w s xs) (hb : rTags w u ys) : Ret (EV P 74 #[.agg #[s], .agg #[u]] w) fun r => ∃ s', r.1 = .agg #[s'] ∧ fTags 27 w.heap.size r.2 s' (joinT xs ys) ∧ Ext w r.2 := by
  have ha' := ha
  have hb' := hb
  obtain ⟨aa, ca, hs, hm⟩ := ha.len
  obtain ⟨ab, cb, hu, hym⟩ := hb.len
  subst hs
  subst hu
  refine Ret.enter plain mixed (impl_Past_join_fn _ _ _) (by kernel_rfl) (n := 2) (by kernel_rfl) rfl ?_
  simp (disch := first | omega | (simp only [World.size_alloc, size_setRow, dw_size]; done) | (simp only [World.size_alloc, size_setRow, dw_size]; omega) | (simp only [List.length_set, Array.length_toList]; omega)) [-Option.bind_some, hp_alloc_lt, hp_alloc_eq, hp_set_ne]
  refine Ret.bind (impl_Past_copied_c (ha'.mono (Ext.keep (by (repeat (first | exact Ext.rfl | assumption | (refine Ext.al ?_ _) | (refine Ext.dw ?_) | (refine Ext.set ?_ (by first | omega | (simp only [World.size_alloc, size_setRow, dw_size]; omega)) _) | (refine Ext.tr ?_ (by assumption)))))))) ?_
  rintro ⟨_, w1⟩ ⟨s1, rfl, hf, hE⟩
  try dsimp only at *
  have z1 := hE.size
  simp only [World.size_alloc] at z1 hf
  have Y1 := (hE.blk (b := w.heap.size + 1) (by simp only [World.size_alloc]; omega)).trans ((hp_alloc_lt (by simp)).trans (hp_alloc_eq (by simp)))
  have Z1 := (hE.blk (b := w.heap.size + 1 + 1) (by simp)).trans (hp_alloc_eq (by simp))
  obtain ⟨a1, c1, hs1, _⟩ := hf.r.len
  subst hs1
  simp (disch := first | omega | (simp only [World.size_alloc, size_setRow, dw_size]; done) | (simp only [World.size_alloc, size_setRow, dw_size]; omega) | (simp only [List.length_set, Array.length_toList]; omega)) [-Option.bind_some, hp_alloc_lt, hp_alloc_eq, hp_set_ne, Y1]
  have D1 : Ext w1 ((w1.alloc (.cells #[.slice none 0 0] 30)).setRow w1.heap.size #[.slice a1 xs.length c1]) := by (repeat (first | exact Ext.rfl | assumption | (refine Ext.al ?_ _) | (refine Ext.dw ?_) | (refine Ext.set ?_ (by first | omega | (simp only [World.size_alloc, size_setRow, dw_size]; omega)) _) | (refine Ext.tr ?_ (by assumption))))
  refine Ret.mono (impl_Past_join_l (u := .slice ab ys.length cb) (sv := .slice a1 xs.length c1) (xs := xs) (ys := ys) (b4 := w.heap.size + 1 + 1) (b5 := w1.heap.size) (B := w.heap.size + 3) (w0 := w) hl4 (by omega) (by omega) (by omega) (fun b hb => by have := hf.lt b hb; omega) (by omega) hym ys.length 0 _ _ _ (by omega) rfl rfl rfl rfl rfl
    ((hp_set_ne (by omega)).trans ((hp_alloc_lt (by omega)).trans Z1)) (by rw [hp_set_eq, hp_alloc_eq rfl]; rfl) hb' (Ext.tr (by (repeat (first | exact Ext.rfl | assumption | (refine Ext.al ?_ _) | (refine Ext.dw ?_) | (refine Ext.set ?_ (by first | omega | (simp only [World.size_alloc, size_setRow, dw_size]; omega)) _) | (refine Ext.tr ?_ (by assumption))))) D1) ?_) ?_
  · rw [List.take_zero, List.nil_append, List.drop_zero]
    exact hf.keep fun b hb => D1.blk (hf.lt b hb).2
  rintro ⟨_, w2⟩ ⟨rfl, h1, h2⟩
  try dsimp only at *
  exact ⟨_, rfl, h1.from (by omega), h2⟩
theorem impl_PastJoin_c {s u : Value} {xs ys : List Tag} {w : World} (ha : rTags w s xs) (hb : rTags w u ys) : Ret (EV P 30 #[.agg #[s], .agg #[u]] w) fun r => ∃ s', r.1 = .agg #[s'] ∧ fTags 27 w.heap.size r.2 s' (pastJoin xs ys) ∧ Ext w r.2 := by
  have ha' := ha
  have hb' := hb
  obtain ⟨aa, ca, hs, hm⟩ := ha.len
  obtain ⟨ab, cb, hu, _⟩ := hb.len
  subst hs
  subst hu
  refine Ret.enter plain mixed (impl_PastJoin_fn _ _ _) (by kernel_rfl) (n := 2) (by kernel_rfl) rfl ?_
  simp (disch := first | omega | (simp only [World.size_alloc, size_setRow, dw_size]; done) | (simp only [World.size_alloc, size_setRow, dw_size]; omega) | (simp only [List.length_set, Array.length_toList]; omega)) [-Option.bind_some, hp_alloc_lt, hp_alloc_eq, hp_set_ne]
  refine Ret.bind (impl_PastOk_c (ha'.mono (Ext.keep (by (repeat (first | exact Ext.rfl | assumption | (refine Ext.al ?_ _) | (refine Ext.dw ?_) | (refine Ext.set ?_ (by first | omega | (simp only [World.size_alloc, size_setRow, dw_size]; omega)) _) | (refine Ext.tr ?_ (by assumption)))))))) ?_
  rintro ⟨_, w1⟩ ⟨rfl, hE⟩
  try dsimp only at *
  have z1 := hE.size
  simp only [World.size_alloc] at z1
  have X1 := (hE.blk (b := w.heap.size) (by simp only [World.size_alloc]; omega)).trans ((hp_alloc_lt (by simp only [World.size_alloc]; omega)).trans ((hp_alloc_lt (by simp)).trans (hp_alloc_eq rfl)))
  have Y1 := (hE.blk (b := w.heap.size + 1) (by simp only [World.size_alloc]; omega)).trans ((hp_alloc_lt (by simp)).trans (hp_alloc_eq (by simp)))
  have Z1 := (hE.blk (b := w.heap.size + 1 + 1) (by simp)).trans (hp_alloc_eq (by simp))
  have E1 : Ext w w1 := Ext.tr (by (repeat (first | exact Ext.rfl | assumption | (refine Ext.al ?_ _) | (refine Ext.dw ?_) | (refine Ext.set ?_ (by first | omega | (simp only [World.size_alloc, size_setRow, dw_size]; omega)) _) | (refine Ext.tr ?_ (by assumption))))) hE
  cases hp : pastOk xs
  · simp (disch := first | omega | (simp only [World.size_alloc, size_setRow, dw_size]; done) | (simp only [World.size_alloc, size_setRow, dw_size]; omega) | (simp only [List.length_set, Array.length_toList]; omega)) [-Option.bind_some, hp_alloc_lt, hp_alloc_eq, hp_set_ne, hp, Z1, pastJoin]
    exact ⟨⟨Own.nil _ _ _ _, by simp⟩, by (repeat (first | exact Ext.rfl | assumption | (refine Ext.al ?_ _) | (refine Ext.dw ?_) | (refine Ext.set ?_ (by first | omega | (simp only [World.size_alloc, size_setRow, dw_size]; omega)) _) | (refine Ext.tr ?_ (by assumption))))⟩
  simp (disch := first | omega | (simp only [World.size_alloc, size_setRow, dw_size]; done) | (simp only [World.size_alloc, size_setRow, dw_size]; omega) | (simp only [List.length_set, Array.length_toList]; omega)) [-Option.bind_some, hp_alloc_lt, hp_alloc_eq, hp_set_ne, hp, Y1]
  refine Ret.bind (impl_PastOk_c (hb'.mono (Ext.keep E1))) ?_
  rintro ⟨_, w2⟩ ⟨rfl, hE2⟩
  try dsimp only at *
  have E2 := E1.tr hE2
  have X2 := (hE2.blk (hp_lt X1)).trans X1
  have Y2 := (hE2.blk (hp_lt Y1)).trans Y1
  have Z2 := (hE2.blk (hp_lt Z1)).trans Z1
  cases hq : pastOk ys
  · simp (disch := first | omega | (simp only [World.size_alloc, size_setRow, dw_size]; done) | (simp only [World.size_alloc, size_setRow, dw_size]; omega) | (simp only [List.length_set, Array.length_toList]; omega)) [-Option.bind_some, hp_alloc_lt, hp_alloc_eq, hp_set_ne, hp, hq, Z2, pastJoin]
    exact ⟨⟨Own.nil _ _ _ _, by simp⟩, by (repeat (first | exact Ext.rfl | assumption | (refine Ext.al ?_ _) | (refine Ext.dw ?_) | (refine Ext.set ?_ (by first | omega | (simp only [World.size_alloc, size_setRow, dw_size]; omega)) _) | (refine Ext.tr ?_ (by assumption))))⟩
  simp (disch := first | omega | (simp only [World.size_alloc, size_setRow, dw_size]; done) | (simp only [World.size_alloc, size_setRow, dw_size]; omega) | (simp only [List.length_set, Array.length_toList]; omega)) [-Option.bind_some, hp_alloc_lt, hp_alloc_eq, hp_set_ne, hq, X2, Y2]
  refine Ret.bind (impl_Past_join_c (by rw [pastOk_len hp, pastOk_len hq]) (ha'.mono (Ext.keep E2)) (hb'.mono (Ext.keep E2))) ?_
  rintro ⟨_, w3⟩ ⟨s', rfl, hf, hE3⟩
  try dsimp only at *
  obtain ⟨a3, c3, hs', _⟩ := hf.r.len
  subst hs'
  have lz := hp_lt Z2
  have Z3 := (hE3.blk lz).trans Z2
  have e : pastJoin xs ys = joinT xs ys := by simp [pastJoin, hp, hq]
  have z2 := hE2.size
  have z3 := hE3.size
  simp (disch := first | omega | (simp only [World.size_alloc, size_setRow, dw_size]; done) | (simp only [World.size_alloc, size_setRow, dw_size]; omega) | (simp only [List.length_set, Array.length_toList]; omega)) [-Option.bind_some, hp_alloc_lt, hp_alloc_eq, hp_set_ne, Z3, e]
  refine ⟨(hf.keep fun b hb => ?_).from (by omega), by (repeat (first | exact Ext.rfl | assumption | (refine Ext.al ?_ _) | (refine Ext.dw ?_) | (refine Ext.set ?_ (by first | omega | (simp only [World.size_alloc, size_setRow, dw_size]; omega)) _) | (refine Ext.tr ?_ (by assumption))))⟩
  have := (hf.lt b hb).1
  exact hp_set_ne (by omega)
end Go.Proofs.Ytjagkbamkohnoaa.X
