/- A part of the proof: an evaluator of the model, its laws, and contracts of functions; no condition. -/
import Derived.Test.YtjagkbamkohnoaaGreatC11
set_option linter.unusedVariables false
set_option linter.unusedSimpArgs false
set_option maxRecDepth 100000
namespace Go.Proofs.YtjagkbamkohnoaaGreat.X
open Go Go.Ev Go.RowKit
theorem slices_Clone_Tag_c {s : Value} {xs : List Tag} {w : World} (ha : rTags w s xs) : Ret (EV P 90 #[s] w) fun r => fTags 40 w.heap.size r.2 r.1 xs ∧ Ext w r.2 := by
  have ha' := ha
  obtain ⟨⟨aa, ca, hs, hn, hA⟩, hm⟩ := ha
  subst hs
  refine Ret.enter plain Yo (slices_Clone_Tag_fn _ _) (by kernel_rfl) (n := 1) (by kernel_rfl) rfl ?_
  have hnil := bo_eql_nil (P := P) el_41
  cases aa with
  | none =>
    have hx : xs = [] := by
      rcases hA with h | ⟨b, o, h, _⟩
      · have := congrArg List.length h
        rw [tagCs_length] at this
        exact List.eq_nil_of_length_eq_zero (by simp only [List.length_nil] at this; omega)
      · cases h
    subst hx
    simp (disch := first | omega | (simp only [World.size_alloc, size_setRow, Za] <;> omega) | (simp only [List.length_set, Array.length_toList]; omega)) [-Option.bind_some, Zb, Zc, Zd, hnil]
    exact ⟨⟨Own.nil _ _ _ _, by simp⟩, by (repeat (first | exact Ext.rfl | assumption | (refine Ext.al ?_ _) | (refine Ext.dw ?_) | (refine Ext.set ?_ (by first | omega | (simp only [World.size_alloc, size_setRow, Za]; omega)) _) | (refine Ext.tr ?_ (by assumption))))⟩
  | some a =>
    simp (disch := first | omega | (simp only [World.size_alloc, size_setRow, Za] <;> omega) | (simp only [List.length_set, Array.length_toList]; omega)) [-Option.bind_some, Zb, Zc, Zd, hnil]
    have hown : Own (w.alloc (.cells #[] 40)) w.heap.size 40 2 (.slice (some ⟨w.heap.size, 0, none⟩) 0 0) 0 [] :=
      ⟨rfl, by omega, .inr ⟨w.heap.size, 0, #[], rfl, by omega, Zc rfl, by omega, by omega, by simp, by simp⟩⟩
    by_cases h0 : xs.length = 0
    · have hx : xs = [] := List.eq_nil_of_length_eq_zero h0
      subst hx
      simp (disch := first | omega | (simp only [World.size_alloc, size_setRow, Za] <;> omega) | (simp only [List.length_set, Array.length_toList]; omega)) [-Option.bind_some, Zb, Zc, Zd, app_none (P := P) (ty := 41) el_41]
      exact ⟨⟨hown, by simp⟩, by (repeat (first | exact Ext.rfl | assumption | (refine Ext.al ?_ _) | (refine Ext.dw ?_) | (refine Ext.set ?_ (by first | omega | (simp only [World.size_alloc, size_setRow, Za]; omega)) _) | (refine Ext.tr ?_ (by assumption))))⟩
    · obtain ⟨b, o, hab, hA2⟩ : ∃ b o, some a = some ⟨b, o, none⟩ ∧ At w b o (tagCs xs) := by
        rcases hA with h | h
        · have := congrArg List.length h
          rw [tagCs_length] at this
          simp at this
          omega
        · exact h
      cases hab
      refine Ret.bind (app_own (P := P) el_41 (z := [i64 0, i64 0]) (by kernel_rfl) rfl (by omega) hown (by simp) (hA2.mono fun b hb => Zb hb) (tagCs_length xs) ?_ (by omega) (by omega) (by omega)) ?_
      · rw [List.all_eq_true]
        intro v hv
        simp only [tagCs, List.mem_flatten, List.mem_map] at hv
        obtain ⟨l, ⟨t, _, rfl⟩, hv⟩ := hv
        simp only [List.mem_cons, List.not_mem_nil, or_false] at hv
        rcases hv with rfl | rfl <;> rfl
      rintro ⟨s', w1⟩ ⟨h1, h2, _⟩
      try dsimp only at *
      simp only [Nat.zero_add, List.nil_append] at h1
      simp (disch := first | omega | (simp only [World.size_alloc, size_setRow, Za] <;> omega) | (simp only [List.length_set, Array.length_toList]; omega)) [-Option.bind_some, Zb, Zc, Zd]
      exact ⟨⟨h1, hm⟩, Ext.but (b := w.alloc _) (by (repeat (first | exact Ext.rfl | assumption | (refine Ext.al ?_ _) | (refine Ext.dw ?_) | (refine Ext.set ?_ (by first | omega | (simp only [World.size_alloc, size_setRow, Za]; omega)) _) | (refine Ext.tr ?_ (by assumption))))) h2 fun x hx => by simp only [blkOf, Option.some.injEq] at hx; omega⟩
theorem slices_Clip_Tag_c {B : Nat} {s : Value} {xs : List Tag} {w : World} (hf : fTags 40 B w s xs) : Ret (EV P 89 #[s] w) fun r => r.2 = w ∧ fTags 40 B w r.1 xs := by
  obtain ⟨⟨hl, hn, ho⟩, hm⟩ := hf
  refine Ret.enter plain Yo (slices_Clip_Tag_fn _ _) (by kernel_rfl) (n := 1) (by kernel_rfl) rfl ?_
  rcases ho with ⟨rfl, h0⟩ | ⟨g, cap, cur, rfl, hg, hh, hc, hcm, hsz, ht⟩
  · simp (disch := first | omega | (simp only [World.size_alloc, size_setRow, Za] <;> omega) | (simp only [List.length_set, Array.length_toList]; omega)) [-Option.bind_some, Zb, Zc, Zd, sl_hm (P := P) el_41]
    have hx : xs = [] := List.eq_nil_of_length_eq_zero h0
    subst hx
    exact ⟨Own.nil _ _ _ _, by simp⟩
  · simp (disch := first | omega | (simp only [World.size_alloc, size_setRow, Za] <;> omega) | (simp only [List.length_set, Array.length_toList]; omega)) [-Option.bind_some, Zb, Zc, Zd, sl_hm (P := P) el_41]
    exact ⟨⟨hl, hn, .inr ⟨g, xs.length, cur, rfl, hg, hh, by omega, by omega, by omega, ht⟩⟩, hm⟩
theorem impl_Past_copied_c {s : Value} {xs : List Tag} {w : World} (ha : rTags w s xs) : Ret (EV P 65 #[.agg #[s]] w) fun r => ∃ s', r.1 = .agg #[s'] ∧ fTags 40 w.heap.size r.2 s' xs ∧ Ext w r.2 := by
  have ha' := ha
  obtain ⟨aa, ca, hs, hm⟩ := ha.len
  subst hs
  refine Ret.enter plain Yo (impl_Past_copied_fn _ _) (by kernel_rfl) (n := 1) (by kernel_rfl) rfl ?_
  simp (disch := first | omega | (simp only [World.size_alloc, size_setRow, Za] <;> omega) | (simp only [List.length_set, Array.length_toList]; omega)) [-Option.bind_some, Zb, Zc, Zd]
  refine Ret.bind (slices_Clone_Tag_c (ha'.mono (Ext.keep (by (repeat (first | exact Ext.rfl | assumption | (refine Ext.al ?_ _) | (refine Ext.dw ?_) | (refine Ext.set ?_ (by first | omega | (simp only [World.size_alloc, size_setRow, Za]; omega)) _) | (refine Ext.tr ?_ (by assumption)))))))) ?_
  rintro ⟨s1, w1⟩ ⟨hf, hE⟩
  try dsimp only at *
  have z1 := hE.size
  simp only [World.size_alloc] at z1 hf
  refine Ret.bind (slices_Clip_Tag_c hf) ?_
  rintro ⟨s2, w2⟩ ⟨rfl, hf2⟩
  try dsimp only at *
  obtain ⟨a2, c2, hs2, _⟩ := hf2.r.len
  subst hs2
  have X2 := (hE.blk (b := w.heap.size + 1) (by simp)).trans (Zc (by simp))
  simp (disch := first | omega | (simp only [World.size_alloc, size_setRow, Za] <;> omega) | (simp only [List.length_set, Array.length_toList]; omega)) [-Option.bind_some, Zb, Zc, Zd, X2]
  refine ⟨(hf2.keep fun b hb => ?_).from (by omega), by (repeat (first | exact Ext.rfl | assumption | (refine Ext.al ?_ _) | (refine Ext.dw ?_) | (refine Ext.set ?_ (by first | omega | (simp only [World.size_alloc, size_setRow, Za]; omega)) _) | (refine Ext.tr ?_ (by assumption))))⟩
  have := (hf2.lt b hb).1
  exact Zd (by omega)
theorem impl_PastWithin_c {s u : Value} {xs ys : List Tag} {w : World} (ha : rTags w s xs) (hb : rTags w u ys) : Ret (EV P 11 #[.agg #[s], .agg #[u]] w) fun r => r.1 = .bool (pastOk xs && pastOk ys && under xs ys) ∧ Ext w r.2 := by
  have ha' := ha
  have hb' := hb
  obtain ⟨aa, ca, hs, hm⟩ := ha.len
  obtain ⟨ab, cb, hu, _⟩ := hb.len
  subst hs
  subst hu
  refine Ret.enter plain Yo (impl_PastWithin_fn _ _ _) (by kernel_rfl) (n := 2) (by kernel_rfl) rfl ?_
  simp (disch := first | omega | (simp only [World.size_alloc, size_setRow, Za] <;> omega) | (simp only [List.length_set, Array.length_toList]; omega)) [-Option.bind_some, Zb, Zc, Zd]
  refine Ret.bind (impl_PastOk_c (ha'.mono (Ext.keep (by (repeat (first | exact Ext.rfl | assumption | (refine Ext.al ?_ _) | (refine Ext.dw ?_) | (refine Ext.set ?_ (by first | omega | (simp only [World.size_alloc, size_setRow, Za]; omega)) _) | (refine Ext.tr ?_ (by assumption)))))))) ?_
  rintro ⟨_, w1⟩ ⟨rfl, hE⟩
  try dsimp only at *
  have E1 : Ext w w1 := Ext.tr (by (repeat (first | exact Ext.rfl | assumption | (refine Ext.al ?_ _) | (refine Ext.dw ?_) | (refine Ext.set ?_ (by first | omega | (simp only [World.size_alloc, size_setRow, Za]; omega)) _) | (refine Ext.tr ?_ (by assumption))))) hE
  have X1 := (hE.blk (b := w.heap.size) (by simp only [World.size_alloc]; omega)).trans ((Zb (by simp)).trans (Zc rfl))
  have Y1 := (hE.blk (b := w.heap.size + 1) (by simp)).trans (Zc (by simp))
  cases hp : pastOk xs
  · simp (disch := first | omega | (simp only [World.size_alloc, size_setRow, Za] <;> omega) | (simp only [List.length_set, Array.length_toList]; omega)) [-Option.bind_some, Zb, Zc, Zd, hp]
    exact E1
  simp (disch := first | omega | (simp only [World.size_alloc, size_setRow, Za] <;> omega) | (simp only [List.length_set, Array.length_toList]; omega)) [-Option.bind_some, Zb, Zc, Zd, hp, Y1]
  refine Ret.bind (impl_PastOk_c (hb'.mono (Ext.keep E1))) ?_
  rintro ⟨_, w2⟩ ⟨rfl, hE2⟩
  try dsimp only at *
  have X2 := (hE2.blk (Yq X1)).trans X1
  have Y2 := (hE2.blk (Yq Y1)).trans Y1
  cases hq : pastOk ys
  · simp (disch := first | omega | (simp only [World.size_alloc, size_setRow, Za] <;> omega) | (simp only [List.length_set, Array.length_toList]; omega)) [-Option.bind_some, Zb, Zc, Zd, hq]
    exact E1.tr hE2
  simp (disch := first | omega | (simp only [World.size_alloc, size_setRow, Za] <;> omega) | (simp only [List.length_set, Array.length_toList]; omega)) [-Option.bind_some, Zb, Zc, Zd, hq, X2, Y2]
  refine Ret.bind (impl_Past_under_c (by rw [pastOk_len hp, pastOk_len hq]) (ha'.mono (Ext.keep (E1.tr hE2))) (hb'.mono (Ext.keep (E1.tr hE2)))) ?_
  rintro ⟨_, w3⟩ ⟨rfl, hE3⟩
  try dsimp only at *
  simp (disch := first | omega | (simp only [World.size_alloc, size_setRow, Za] <;> omega) | (simp only [List.length_set, Array.length_toList]; omega)) [-Option.bind_some, Zb, Zc, Zd]
  exact (E1.tr hE2).tr hE3
theorem laws_cfPast_l {s u : Value} {xs : List Tag} {b c t t' : Nat} : ∀ (d k : Nat) (e : Env) (w : World), k + d = xs.length → e 2 = pt b 0 → e 3 = pt c 0 → e 5 = i64 k →
    hp w b = some (.cells #[s] t (0, 0)) → hp w c = some (.cells #[u] t' (0, 0)) → rTags w s xs → rTags w u xs →
    Ret (laws_cfPast_l1 e w) fun r => r.1 = .bool true ∧ Ext w r.2 := by
  intro d
  induction d with
  | zero =>
    intro k e w hd h2 h3 h5 hx hy ha hb
    rw [laws_cfPast_l1_eq]
    obtain ⟨aa, ca, hs, hm⟩ := ha.len
    subst hs
    simp (disch := first | omega | (simp only [World.size_alloc, size_setRow, Za] <;> omega) | (simp only [List.length_set, Array.length_toList]; omega)) [-Option.bind_some, Zb, Zc, Zd, h2, h3, h5, hx, show ¬ k < xs.length by omega, show xs.length ≤ k by omega]
    (repeat (first | exact Ext.rfl | assumption | (refine Ext.al ?_ _) | (refine Ext.dw ?_) | (refine Ext.set ?_ (by first | omega | (simp only [World.size_alloc, size_setRow, Za]; omega)) _) | (refine Ext.tr ?_ (by assumption))))
  | succ d ih =>
    intro k e w hd h2 h3 h5 hx hy ha hb
    rw [laws_cfPast_l1_eq]
    obtain ⟨_, _, _, hm⟩ := ha.len
    have hlt : k < xs.length := by omega
    obtain ⟨x, hxk, _⟩ := Yk hlt
    obtain ⟨b1, o1, c1, hs1, hA⟩ := ha.at hxk
    obtain ⟨b2, o2, c2, hs2, hB⟩ := hb.at hxk
    have p0 := hA 0 _ rfl
    have p1 := hA 1 _ rfl
    have q0 := hB 0 _ rfl
    have q1 := hB 1 _ rfl
    simp only [Nat.add_zero] at p0 q0
    subst hs1
    subst hs2
    simp (disch := first | omega | (simp only [World.size_alloc, size_setRow, Za] <;> omega) | (simp only [List.length_set, Array.length_toList]; omega)) [-Option.bind_some, Zb, Zc, Zd, h2, h3, h5, hx, hy, hlt, ia_41, p0, p1, q0, q1]
    refine Ret.mono (ih (k + 1) _ _ (by omega) h2 h3 (congrArg i64 (w64 (by omega) (by omega))) ((Ym _ _).trans hx) ((Ym _ _).trans hy) (ha.mono (Ext.keep (dw_ext w))) (hb.mono (Ext.keep (dw_ext w)))) ?_
    rintro r ⟨h6, h7⟩
    exact ⟨h6, (dw_ext w).tr h7⟩
theorem laws_cfPast_c {s u : Value} {xs : List Tag} {w : World} (ha : rTags w s xs) (hb : rTags w u xs) : Ret (EV P 62 #[.agg #[s], .agg #[u]] w) fun r => r.1 = .bool true ∧ Ext w r.2 := by
  have ha' := ha
  have hb' := hb
  obtain ⟨aa, ca, hs, hm⟩ := ha.len
  obtain ⟨ab, cb, hu, _⟩ := hb.len
  subst hs
  subst hu
  refine Ret.enter plain Yo (laws_cfPast_fn _ _ _) (by kernel_rfl) (n := 2) (by kernel_rfl) rfl ?_
  simp (disch := first | omega | (simp only [World.size_alloc, size_setRow, Za] <;> omega) | (simp only [List.length_set, Array.length_toList]; omega)) [-Option.bind_some, Zb, Zc, Zd, bne_self_eq_false]
  refine Ret.mono (laws_cfPast_l (c := w.heap.size + 1) xs.length 0 _ _ (by omega) rfl rfl rfl ((Zb (by simp)).trans (Zc rfl)) (Zc (by simp)) (ha'.mono (Ext.keep (by (repeat (first | exact Ext.rfl | assumption | (refine Ext.al ?_ _) | (refine Ext.dw ?_) | (refine Ext.set ?_ (by first | omega | (simp only [World.size_alloc, size_setRow, Za]; omega)) _) | (refine Ext.tr ?_ (by assumption))))))) (hb'.mono (Ext.keep (by (repeat (first | exact Ext.rfl | assumption | (refine Ext.al ?_ _) | (refine Ext.dw ?_) | (refine Ext.set ?_ (by first | omega | (simp only [World.size_alloc, size_setRow, Za]; omega)) _) | (refine Ext.tr ?_ (by assumption)))))))) ?_
  rintro r ⟨h1, h2⟩
  exact ⟨h1, (Ext.al (Ext.al Ext.rfl _) _).tr h2⟩
end Go.Proofs.YtjagkbamkohnoaaGreat.X
