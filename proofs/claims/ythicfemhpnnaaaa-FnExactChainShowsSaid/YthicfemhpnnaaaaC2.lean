/- A part of the proof: an evaluator of the model, its laws, and contracts of functions; no condition. -/
import Derived.Test.YthicfemhpnnaaaaC1
set_option linter.unusedVariables false
set_option linter.unusedSimpArgs false
set_option maxRecDepth 100000
namespace Go.Proofs.Ythicfemhpnnaaaa.X
open Go Go.Ev Go.RowKit
theorem laws_eqTag_c (x y : Tag) (w : World) : Ret (EV P 91 #[x.v, y.v] w) fun r => r.1 = .bool (decide (x = y)) ∧ Ext w r.2 := by
  refine Ret.enter plain mixed (laws_eqTag_fn _ _ _) (by kernel_rfl) (n := 2) (by kernel_rfl) rfl ?_
  obtain ⟨a, b⟩ := x
  obtain ⟨c, d⟩ := y
  cases h : (a != c)
  · cases h1 : (b != d)
    · simp (disch := first | omega | (simp only [World.size_alloc, size_setRow, dw_size]; done) | (simp only [World.size_alloc, size_setRow, dw_size]; omega) | (simp only [List.length_set, Array.length_toList]; omega)) [-Option.bind_some, hp_alloc_lt, hp_alloc_eq, hp_set_ne, h, h1]
      simp only [bne_eq_false_iff_eq] at h h1
      exact ⟨⟨h, h1⟩, by (repeat (first | exact Ext.rfl | assumption | (refine Ext.al ?_ _) | (refine Ext.dw ?_) | (refine Ext.set ?_ (by first | omega | (simp only [World.size_alloc, size_setRow, dw_size]; omega)) _) | (refine Ext.tr ?_ (by assumption))))⟩
    · simp (disch := first | omega | (simp only [World.size_alloc, size_setRow, dw_size]; done) | (simp only [World.size_alloc, size_setRow, dw_size]; omega) | (simp only [List.length_set, Array.length_toList]; omega)) [-Option.bind_some, hp_alloc_lt, hp_alloc_eq, hp_set_ne, h, h1]
      simp only [bne_iff_ne, ne_eq] at h1
      exact ⟨fun _ => h1, by (repeat (first | exact Ext.rfl | assumption | (refine Ext.al ?_ _) | (refine Ext.dw ?_) | (refine Ext.set ?_ (by first | omega | (simp only [World.size_alloc, size_setRow, dw_size]; omega)) _) | (refine Ext.tr ?_ (by assumption))))⟩
  · simp (disch := first | omega | (simp only [World.size_alloc, size_setRow, dw_size]; done) | (simp only [World.size_alloc, size_setRow, dw_size]; omega) | (simp only [List.length_set, Array.length_toList]; omega)) [-Option.bind_some, hp_alloc_lt, hp_alloc_eq, hp_set_ne, h]
    simp only [bne_iff_ne, ne_eq] at h
    exact ⟨fun h' => (h h').elim, by (repeat (first | exact Ext.rfl | assumption | (refine Ext.al ?_ _) | (refine Ext.dw ?_) | (refine Ext.set ?_ (by first | omega | (simp only [World.size_alloc, size_setRow, dw_size]; omega)) _) | (refine Ext.tr ?_ (by assumption))))⟩
theorem laws_eqTagS_l {s u : Value} {xs ys : List Tag} (hl : xs.length = ys.length) : ∀ (d k : Nat) (e : Env) (w : World), k + d = xs.length → e 0 = s → e 1 = u → e 5 = i64 k →
    rTags w s xs → rTags w u ys → Ret (laws_eqTagS_l1 e w) fun r => r.1 = .bool (decide (xs.drop k = ys.drop k)) ∧ Ext w r.2 := by
  intro d
  induction d with
  | zero =>
    intro k e w hd h0 h1 h5 ha hb
    obtain ⟨aa, ca, hs, hm⟩ := ha.len
    rw [laws_eqTagS_l1_eq]
    subst hs
    simp (disch := first | omega | (simp only [World.size_alloc, size_setRow, dw_size]; done) | (simp only [World.size_alloc, size_setRow, dw_size]; omega) | (simp only [List.length_set, Array.length_toList]; omega)) [-Option.bind_some, hp_alloc_lt, hp_alloc_eq, hp_set_ne, h0, h1, h5, show ¬ k < xs.length by omega, show xs.length ≤ k by omega, show ys.length ≤ k by omega]
    exact ⟨by rw [List.drop_eq_nil_of_le (by omega), List.drop_eq_nil_of_le (by omega)], by (repeat (first | exact Ext.rfl | assumption | (refine Ext.al ?_ _) | (refine Ext.dw ?_) | (refine Ext.set ?_ (by first | omega | (simp only [World.size_alloc, size_setRow, dw_size]; omega)) _) | (refine Ext.tr ?_ (by assumption))))⟩
  | succ d ih =>
    intro k e w hd h0 h1 h5 ha hb
    obtain ⟨aa, ca, hs, hm⟩ := ha.len
    rw [laws_eqTagS_l1_eq]
    have hlt : k < xs.length := by omega
    obtain ⟨x, hx, hdx⟩ := drop_at hlt
    obtain ⟨y, hy, hdy⟩ := drop_at (hl ▸ hlt)
    obtain ⟨b1, o1, c1, hs1, hA⟩ := ha.at hx
    obtain ⟨b2, o2, c2, hs2, hB⟩ := hb.at hy
    have hb1 := hA.lt
    have hb2 := hB.lt
    have p0 := hA 0 _ rfl
    have p1 := hA 1 _ rfl
    have q0 := hB 0 _ rfl
    have q1 := hB 1 _ rfl
    simp only [Nat.add_zero] at p0 q0
    subst hs1
    subst hs2
    simp (disch := first | omega | (simp only [World.size_alloc, size_setRow, dw_size]; done) | (simp only [World.size_alloc, size_setRow, dw_size]; omega) | (simp only [List.length_set, Array.length_toList]; omega)) [-Option.bind_some, hp_alloc_lt, hp_alloc_eq, hp_set_ne, h0, h1, h5, hlt, ia_33, p0, p1, q0, q1]
    refine Ret.bind (laws_eqTag_c x y _) ?_
    rintro ⟨_, w1⟩ ⟨rfl, hE⟩
    by_cases hxy : x = y
    · simp (disch := first | omega | (simp only [World.size_alloc, size_setRow, dw_size]; done) | (simp only [World.size_alloc, size_setRow, dw_size]; omega) | (simp only [List.length_set, Array.length_toList]; omega)) [-Option.bind_some, hp_alloc_lt, hp_alloc_eq, hp_set_ne, hxy]
      refine Ret.mono (ih (k + 1) _ w1 (by omega) h0 h1 (congrArg i64 (w64 (by omega) (by omega))) (ha.mono (Ext.keep (by (repeat (first | exact Ext.rfl | assumption | (refine Ext.al ?_ _) | (refine Ext.dw ?_) | (refine Ext.set ?_ (by first | omega | (simp only [World.size_alloc, size_setRow, dw_size]; omega)) _) | (refine Ext.tr ?_ (by assumption))))))) (hb.mono (Ext.keep (by (repeat (first | exact Ext.rfl | assumption | (refine Ext.al ?_ _) | (refine Ext.dw ?_) | (refine Ext.set ?_ (by first | omega | (simp only [World.size_alloc, size_setRow, dw_size]; omega)) _) | (refine Ext.tr ?_ (by assumption)))))))) ?_
      rintro r ⟨h3, h4⟩
      rw [hdx, hdy, hxy]
      exact ⟨by simp [h3], by (repeat (first | exact Ext.rfl | assumption | (refine Ext.al ?_ _) | (refine Ext.dw ?_) | (refine Ext.set ?_ (by first | omega | (simp only [World.size_alloc, size_setRow, dw_size]; omega)) _) | (refine Ext.tr ?_ (by assumption))))⟩
    · simp (disch := first | omega | (simp only [World.size_alloc, size_setRow, dw_size]; done) | (simp only [World.size_alloc, size_setRow, dw_size]; omega) | (simp only [List.length_set, Array.length_toList]; omega)) [-Option.bind_some, hp_alloc_lt, hp_alloc_eq, hp_set_ne, hxy, hdx, hdy]
      (repeat (first | exact Ext.rfl | assumption | (refine Ext.al ?_ _) | (refine Ext.dw ?_) | (refine Ext.set ?_ (by first | omega | (simp only [World.size_alloc, size_setRow, dw_size]; omega)) _) | (refine Ext.tr ?_ (by assumption))))
end Go.Proofs.Ythicfemhpnnaaaa.X
