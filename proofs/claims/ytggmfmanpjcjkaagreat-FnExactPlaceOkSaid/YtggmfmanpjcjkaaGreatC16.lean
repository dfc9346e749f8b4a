/- A part of the proof: an evaluator of the model, its laws, and contracts of functions; no condition. -/
import Derived.Test.YtggmfmanpjcjkaaGreatC8
import Derived.Test.YtggmfmanpjcjkaaGreatC11
set_option linter.unusedVariables false
set_option linter.unusedSimpArgs false
set_option maxRecDepth 100000
namespace Go.Proofs.YtggmfmanpjcjkaaGreat.X
open Go Go.Ev Go.RowKit
theorem slices_Clone_Tag_c {s : Value} {xs : List Tag} {w : World} (ha : rTags w s xs) : Ret (EV P 132 #[s] w) fun r => fTags 64 w.heap.size r.2 r.1 xs ∧ Ext w r.2 := by
  have ha' := ha
  obtain ⟨⟨aa, ca, hs, hn, hA⟩, hm⟩ := ha
  subst hs
  refine Ret.enter plain mixed (slices_Clone_Tag_fn _ _) (by kernel_rfl) (n := 1) (by kernel_rfl) rfl ?_
  have hnil := bo_eql_nil (P := P) el_60
  cases aa with
  | none =>
    have hx : xs = [] := by
      rcases hA with h | ⟨b, o, h, _⟩
      · have := congrArg List.length h
        rw [tagCs_length] at this
        exact List.eq_nil_of_length_eq_zero (by simp only [List.length_nil] at this; omega)
      · cases h
    subst hx
    simp (disch := first | omega | (simp only [World.size_alloc, size_setRow, dw_size]; done) | (simp only [World.size_alloc, size_setRow, dw_size]; omega) | (simp only [List.length_set, Array.length_toList]; omega)) [-Option.bind_some, hp_alloc_lt, hp_alloc_eq, hp_set_ne, hnil]
    exact ⟨⟨Own.nil _ _ _ _, by simp⟩, by (repeat (first | exact Ext.rfl | assumption | (refine Ext.al ?_ _) | (refine Ext.dw ?_) | (refine Ext.set ?_ (by first | omega | (simp only [World.size_alloc, size_setRow, dw_size]; omega)) _) | (refine Ext.tr ?_ (by assumption))))⟩
  | some a =>
    simp (disch := first | omega | (simp only [World.size_alloc, size_setRow, dw_size]; done) | (simp only [World.size_alloc, size_setRow, dw_size]; omega) | (simp only [List.length_set, Array.length_toList]; omega)) [-Option.bind_some, hp_alloc_lt, hp_alloc_eq, hp_set_ne, hnil]
    have hown : Own (w.alloc (.cells #[] 64)) w.heap.size 64 2 (.slice (some ⟨w.heap.size, 0, none⟩) 0 0) 0 [] :=
      ⟨rfl, by omega, .inr ⟨w.heap.size, 0, #[], rfl, by omega, hp_alloc_eq rfl, by omega, by omega, by simp, by simp⟩⟩
    by_cases h0 : xs.length = 0
    · have hx : xs = [] := List.eq_nil_of_length_eq_zero h0
      subst hx
      simp (disch := first | omega | (simp only [World.size_alloc, size_setRow, dw_size]; done) | (simp only [World.size_alloc, size_setRow, dw_size]; omega) | (simp only [List.length_set, Array.length_toList]; omega)) [-Option.bind_some, hp_alloc_lt, hp_alloc_eq, hp_set_ne, app_none (P := P) (ty := 60) el_60]
      exact ⟨⟨hown, by simp⟩, by (repeat (first | exact Ext.rfl | assumption | (refine Ext.al ?_ _) | (refine Ext.dw ?_) | (refine Ext.set ?_ (by first | omega | (simp only [World.size_alloc, size_setRow, dw_size]; omega)) _) | (refine Ext.tr ?_ (by assumption))))⟩
    · obtain ⟨b, o, hab, hA2⟩ : ∃ b o, some a = some ⟨b, o, none⟩ ∧ At w b o (tagCs xs) := by
        rcases hA with h | h
        · have := congrArg List.length h
          rw [tagCs_length] at this
          simp at this
          omega
        · exact h
      cases hab
      refine Ret.bind (app_own (P := P) el_60 (z := [i64 0, i64 0]) (by kernel_rfl) rfl (by omega) hown (by simp) (hA2.mono fun b hb => hp_alloc_lt hb) (tagCs_length xs) ?_ (by omega) (by omega) (by omega)) ?_
      · rw [List.all_eq_true]
        intro v hv
        simp only [tagCs, List.mem_flatten, List.mem_map] at hv
        obtain ⟨l, ⟨t, _, rfl⟩, hv⟩ := hv
        simp only [List.mem_cons, List.not_mem_nil, or_false] at hv
        rcases hv with rfl | rfl <;> rfl
      rintro ⟨s', w1⟩ ⟨h1, h2, _⟩
      try dsimp only at *
      simp only [Nat.zero_add, List.nil_append] at h1
      simp (disch := first | omega | (simp only [World.size_alloc, size_setRow, dw_size]; done) | (simp only [World.size_alloc, size_setRow, dw_size]; omega) | (simp only [List.length_set, Array.length_toList]; omega)) [-Option.bind_some, hp_alloc_lt, hp_alloc_eq, hp_set_ne]
      exact ⟨⟨h1, hm⟩, Ext.but (b := w.alloc _) (by (repeat (first | exact Ext.rfl | assumption | (refine Ext.al ?_ _) | (refine Ext.dw ?_) | (refine Ext.set ?_ (by first | omega | (simp only [World.size_alloc, size_setRow, dw_size]; omega)) _) | (refine Ext.tr ?_ (by assumption))))) h2 fun x hx => by simp only [blkOf, Option.some.injEq] at hx; omega⟩
theorem slices_Clip_Tag_c {B : Nat} {s : Value} {xs : List Tag} {w : World} (hf : fTags 64 B w s xs) : Ret (EV P 131 #[s] w) fun r => r.2 = w ∧ fTags 64 B w r.1 xs := by
  obtain ⟨⟨hl, hn, ho⟩, hm⟩ := hf
  refine Ret.enter plain mixed (slices_Clip_Tag_fn _ _) (by kernel_rfl) (n := 1) (by kernel_rfl) rfl ?_
  rcases ho with ⟨rfl, h0⟩ | ⟨g, cap, cur, rfl, hg, hh, hc, hcm, hsz, ht⟩
  · simp (disch := first | omega | (simp only [World.size_alloc, size_setRow, dw_size]; done) | (simp only [World.size_alloc, size_setRow, dw_size]; omega) | (simp only [List.length_set, Array.length_toList]; omega)) [-Option.bind_some, hp_alloc_lt, hp_alloc_eq, hp_set_ne, sl_hm (P := P) el_60]
    have hx : xs = [] := List.eq_nil_of_length_eq_zero h0
    subst hx
    exact ⟨Own.nil _ _ _ _, by simp⟩
  · simp (disch := first | omega | (simp only [World.size_alloc, size_setRow, dw_size]; done) | (simp only [World.size_alloc, size_setRow, dw_size]; omega) | (simp only [List.length_set, Array.length_toList]; omega)) [-Option.bind_some, hp_alloc_lt, hp_alloc_eq, hp_set_ne, sl_hm (P := P) el_60]
    exact ⟨⟨hl, hn, .inr ⟨g, xs.length, cur, rfl, hg, hh, by omega, by omega, by omega, ht⟩⟩, hm⟩
theorem impl_Past_copied_c {s : Value} {xs : List Tag} {w : World} (ha : rTags w s xs) : Ret (EV P 104 #[.agg #[s]] w) fun r => ∃ s', r.1 = .agg #[s'] ∧ fTags 64 w.heap.size r.2 s' xs ∧ Ext w r.2 := by
  have ha' := ha
  obtain ⟨aa, ca, hs, hm⟩ := ha.len
  subst hs
  refine Ret.enter plain mixed (impl_Past_copied_fn _ _) (by kernel_rfl) (n := 1) (by kernel_rfl) rfl ?_
  simp (disch := first | omega | (simp only [World.size_alloc, size_setRow, dw_size]; done) | (simp only [World.size_alloc, size_setRow, dw_size]; omega) | (simp only [List.length_set, Array.length_toList]; omega)) [-Option.bind_some, hp_alloc_lt, hp_alloc_eq, hp_set_ne]
  refine Ret.bind (slices_Clone_Tag_c (ha'.mono (Ext.keep (by (repeat (first | exact Ext.rfl | assumption | (refine Ext.al ?_ _) | (refine Ext.dw ?_) | (refine Ext.set ?_ (by first | omega | (simp only [World.size_alloc, size_setRow, dw_size]; omega)) _) | (refine Ext.tr ?_ (by assumption)))))))) ?_
  rintro ⟨s1, w1⟩ ⟨hf, hE⟩
  try dsimp only at *
  have z1 := hE.size
  simp only [World.size_alloc] at z1 hf
  refine Ret.bind (slices_Clip_Tag_c hf) ?_
  rintro ⟨s2, w2⟩ ⟨rfl, hf2⟩
  try dsimp only at *
  obtain ⟨a2, c2, hs2, _⟩ := hf2.r.len
  subst hs2
  have X2 := (hE.blk (b := w.heap.size + 1) (by simp)).trans (hp_alloc_eq (by simp))
  simp (disch := first | omega | (simp only [World.size_alloc, size_setRow, dw_size]; done) | (simp only [World.size_alloc, size_setRow, dw_size]; omega) | (simp only [List.length_set, Array.length_toList]; omega)) [-Option.bind_some, hp_alloc_lt, hp_alloc_eq, hp_set_ne, X2]
  refine ⟨(hf2.keep fun b hb => ?_).from (by omega), by (repeat (first | exact Ext.rfl | assumption | (refine Ext.al ?_ _) | (refine Ext.dw ?_) | (refine Ext.set ?_ (by first | omega | (simp only [World.size_alloc, size_setRow, dw_size]; omega)) _) | (refine Ext.tr ?_ (by assumption))))⟩
  have := (hf2.lt b hb).1
  exact hp_set_ne (by omega)
end Go.Proofs.YtggmfmanpjcjkaaGreat.X
