/- A part of the proof, without conditions. -/
import Derived.Test.YtligcpabhddggaaGreatEvI
import Derived.Test.YtligcpabhddggaaGreatEvT
import Derived.Test.YtligcpabhddggaaGreatEvF2
import Derived.Test.YtligcpabhddggaaGreatEvX
import Derived.Test.YtligcpabhddggaaGreatEvHj
set_option linter.unusedVariables false
set_option linter.unusedSimpArgs false
set_option maxRecDepth 100000
namespace Go.Proofs.YtligcpabhddggaaGreat.X
open Go Go.Ev Go.RowKit
theorem spec_l1In_c (n a b : Int) (w : World) : Ret (EV P 19 #[i64 n, i64 a, i64 b] w) fun r => r = (.bool (decide (a ≤ n) && decide (n ≤ b)), w) := by
  refine Ret.enter plain mixed (spec_l1In_fn _ _ _ _) (by kernel_rfl) (n := 3) (by kernel_rfl) rfl ?_
  cases h : decide (a ≤ n) <;> simp (disch := first | omega | (simp only [World.size_alloc, size_setRow, dw_size]; done) | (simp only [World.size_alloc, size_setRow, dw_size]; omega) | (simp only [List.length_set, Array.length_toList]; omega)) [-Option.bind_some, hp_alloc_lt, hp_alloc_eq, hp_set_ne, h]
theorem impl_within_c (n a b : Int) (w : World) : Ret (EV P 34 #[i64 n, i64 a, i64 b] w) fun r => r = (.bool (decide (a ≤ n) && decide (n ≤ b)), w) := by
  refine Ret.enter plain mixed (impl_within_fn _ _ _ _) (by kernel_rfl) (n := 3) (by kernel_rfl) rfl ?_
  cases h : decide (a ≤ n) <;> simp (disch := first | omega | (simp only [World.size_alloc, size_setRow, dw_size]; done) | (simp only [World.size_alloc, size_setRow, dw_size]; omega) | (simp only [List.length_set, Array.length_toList]; omega)) [-Option.bind_some, hp_alloc_lt, hp_alloc_eq, hp_set_ne, h]
theorem impl_placeOk_c (n : Int) (w : World) : Ret (EV P 45 #[i64 n] w) fun r => r = (.bool (decide (0 ≤ n) && decide (n ≤ 2)), w) := by
  refine Ret.enter plain mixed (impl_placeOk_fn _ _) (by kernel_rfl) (n := 1) (by kernel_rfl) rfl ?_
  simp (disch := first | omega | (simp only [World.size_alloc, size_setRow, dw_size]; done) | (simp only [World.size_alloc, size_setRow, dw_size]; omega) | (simp only [List.length_set, Array.length_toList]; omega)) [-Option.bind_some, hp_alloc_lt, hp_alloc_eq, hp_set_ne]
  refine Ret.bind (impl_within_c n 0 2 w) ?_
  rintro _ rfl
  simp (disch := first | omega | (simp only [World.size_alloc, size_setRow, dw_size]; done) | (simp only [World.size_alloc, size_setRow, dw_size]; omega) | (simp only [List.length_set, Array.length_toList]; omega)) [-Option.bind_some, hp_alloc_lt, hp_alloc_eq, hp_set_ne]
theorem impl_TagOk_c (x : Tag) (w : World) : Ret (EV P 44 #[x.v] w) fun r => r.1 = .bool (tagOk x) ∧ Ext w r.2 := by
  refine Ret.enter plain mixed (impl_TagOk_fn _ _) (by kernel_rfl) (n := 1) (by kernel_rfl) rfl ?_
  cases h : ((x.t == 0) && (x.p == 0))
  · simp (disch := first | omega | (simp only [World.size_alloc, size_setRow, dw_size]; done) | (simp only [World.size_alloc, size_setRow, dw_size]; omega) | (simp only [List.length_set, Array.length_toList]; omega)) [-Option.bind_some, hp_alloc_lt, hp_alloc_eq, hp_set_ne, h]
    refine Ret.bind (impl_within_c _ _ _ _) ?_
    rintro _ rfl
    cases h1 : (decide (1 ≤ x.t) && decide (x.t ≤ 999))
    · simp (disch := first | omega | (simp only [World.size_alloc, size_setRow, dw_size]; done) | (simp only [World.size_alloc, size_setRow, dw_size]; omega) | (simp only [List.length_set, Array.length_toList]; omega)) [-Option.bind_some, hp_alloc_lt, hp_alloc_eq, hp_set_ne, h1, Ext.alloc, tagOk, h]
    · simp (disch := first | omega | (simp only [World.size_alloc, size_setRow, dw_size]; done) | (simp only [World.size_alloc, size_setRow, dw_size]; omega) | (simp only [List.length_set, Array.length_toList]; omega)) [-Option.bind_some, hp_alloc_lt, hp_alloc_eq, hp_set_ne, h1]
      refine Ret.bind (impl_placeOk_c _ _) ?_
      rintro _ rfl
      simp (disch := first | omega | (simp only [World.size_alloc, size_setRow, dw_size]; done) | (simp only [World.size_alloc, size_setRow, dw_size]; omega) | (simp only [List.length_set, Array.length_toList]; omega)) [-Option.bind_some, hp_alloc_lt, hp_alloc_eq, hp_set_ne, Ext.alloc, tagOk, h, h1]
  · simp (disch := first | omega | (simp only [World.size_alloc, size_setRow, dw_size]; done) | (simp only [World.size_alloc, size_setRow, dw_size]; omega) | (simp only [List.length_set, Array.length_toList]; omega)) [-Option.bind_some, hp_alloc_lt, hp_alloc_eq, hp_set_ne, h, Ext.alloc, tagOk]
theorem cmp_isNaN_int_c (a : Int) (w : World) : Ret (EV P 104 #[i64 a] w) fun r => r = (.bool false, w) := by
  refine Ret.enter plain mixed (cmp_isNaN_int_fn _ _) (by kernel_rfl) (n := 1) (by kernel_rfl) rfl ?_
  simp (disch := first | omega | (simp only [World.size_alloc, size_setRow, dw_size]; done) | (simp only [World.size_alloc, size_setRow, dw_size]; omega) | (simp only [List.length_set, Array.length_toList]; omega)) [-Option.bind_some, hp_alloc_lt, hp_alloc_eq, hp_set_ne]
theorem cmp_Compare_int_c (a b : Int) (w : World) : Ret (EV P 100 #[i64 a, i64 b] w) fun r => r = (i64 (if a < b then -1 else if b < a then 1 else 0), w) := by
  refine Ret.enter plain mixed (cmp_Compare_int_fn _ _ _) (by kernel_rfl) (n := 2) (by kernel_rfl) rfl ?_
  simp (disch := first | omega | (simp only [World.size_alloc, size_setRow, dw_size]; done) | (simp only [World.size_alloc, size_setRow, dw_size]; omega) | (simp only [List.length_set, Array.length_toList]; omega)) [-Option.bind_some, hp_alloc_lt, hp_alloc_eq, hp_set_ne]
  refine Ret.bind (cmp_isNaN_int_c _ _) ?_
  rintro _ rfl
  simp (disch := first | omega | (simp only [World.size_alloc, size_setRow, dw_size]; done) | (simp only [World.size_alloc, size_setRow, dw_size]; omega) | (simp only [List.length_set, Array.length_toList]; omega)) [-Option.bind_some, hp_alloc_lt, hp_alloc_eq, hp_set_ne]
  refine Ret.bind (cmp_isNaN_int_c _ _) ?_
  rintro _ rfl
  simp (disch := first | omega | (simp only [World.size_alloc, size_setRow, dw_size]; done) | (simp only [World.size_alloc, size_setRow, dw_size]; omega) | (simp only [List.length_set, Array.length_toList]; omega)) [-Option.bind_some, hp_alloc_lt, hp_alloc_eq, hp_set_ne]
  by_cases h : a < b
  · simp (disch := first | omega | (simp only [World.size_alloc, size_setRow, dw_size]; done) | (simp only [World.size_alloc, size_setRow, dw_size]; omega) | (simp only [List.length_set, Array.length_toList]; omega)) [-Option.bind_some, hp_alloc_lt, hp_alloc_eq, hp_set_ne, h]
  · by_cases h2 : b < a <;> simp (disch := first | omega | (simp only [World.size_alloc, size_setRow, dw_size]; done) | (simp only [World.size_alloc, size_setRow, dw_size]; omega) | (simp only [List.length_set, Array.length_toList]; omega)) [-Option.bind_some, hp_alloc_lt, hp_alloc_eq, hp_set_ne, h, h2]
theorem cmp_Or_int_c {b : Nat} {x y : Int} {w : World} {e z} (h : hp w b = some (.cells #[i64 x, i64 y] e z)) : Ret (EV P 99 #[.slice (some ⟨b, 0, none⟩) 2 2] w) fun r => r = (i64 (if x = 0 then y else x), w) := by
  have i0 := ia_38 (b := b) (o := 0) (n := 2) (c := 2) (i := 0) (by omega) (by omega)
  have i1 := ia_38 (b := b) (o := 0) (n := 2) (c := 2) (i := 1) (by omega) (by omega)
  have l2 : ∀ e : Env, e 3 = i64 0 → e 7 = i64 2 → e 8 = i64 2 → Ret (cmp_Or_int_l1 e w) fun r => r = (i64 0, w) := by
    intro e h3 h7 h8
    rw [cmp_Or_int_l1_eq]
    simp (disch := first | omega | (simp only [World.size_alloc, size_setRow, dw_size]; done) | (simp only [World.size_alloc, size_setRow, dw_size]; omega) | (simp only [List.length_set, Array.length_toList]; omega)) [-Option.bind_some, hp_alloc_lt, hp_alloc_eq, hp_set_ne, h3, h7, h8]
  have l1 : ∀ e : Env, e 3 = i64 0 → e 6 = .slice (some ⟨b, 0, none⟩) 2 2 → e 7 = i64 2 → e 8 = i64 1 → Ret (cmp_Or_int_l1 e w) fun r => r = (i64 y, w) := by
    intro e h3 h6 h7 h8
    rw [cmp_Or_int_l1_eq]
    cases hy : (y != 0)
    · simp (disch := first | omega | (simp only [World.size_alloc, size_setRow, dw_size]; done) | (simp only [World.size_alloc, size_setRow, dw_size]; omega) | (simp only [List.length_set, Array.length_toList]; omega)) [-Option.bind_some, hp_alloc_lt, hp_alloc_eq, hp_set_ne, h3, h6, h7, h8, h, i1, hy]
      simp only [bne_eq_false_iff_eq] at hy
      subst hy
      exact l2 _ h3 h7 (congrArg i64 (w64 (by omega) (by omega)))
    · simp (disch := first | omega | (simp only [World.size_alloc, size_setRow, dw_size]; done) | (simp only [World.size_alloc, size_setRow, dw_size]; omega) | (simp only [List.length_set, Array.length_toList]; omega)) [-Option.bind_some, hp_alloc_lt, hp_alloc_eq, hp_set_ne, h3, h6, h7, h8, h, i1, hy]
  refine Ret.enter plain mixed (cmp_Or_int_fn _ _) (by kernel_rfl) (n := 1) (by kernel_rfl) rfl ?_
  simp (disch := first | omega | (simp only [World.size_alloc, size_setRow, dw_size]; done) | (simp only [World.size_alloc, size_setRow, dw_size]; omega) | (simp only [List.length_set, Array.length_toList]; omega)) [-Option.bind_some, hp_alloc_lt, hp_alloc_eq, hp_set_ne]
  rw [cmp_Or_int_l1_eq]
  have e3 : (ups (env0 #[Value.slice (some ⟨b, 0, none⟩) 2 2]) [(2, i64 0), (3, i64 0), (6, Value.slice (some ⟨b, 0, none⟩) 2 2), (7, i64 2), (8, i64 0)]) 3 = i64 0 := rfl
  have e6 : (ups (env0 #[Value.slice (some ⟨b, 0, none⟩) 2 2]) [(2, i64 0), (3, i64 0), (6, Value.slice (some ⟨b, 0, none⟩) 2 2), (7, i64 2), (8, i64 0)]) 6 = Value.slice (some ⟨b, 0, none⟩) 2 2 := rfl
  have e7 : (ups (env0 #[Value.slice (some ⟨b, 0, none⟩) 2 2]) [(2, i64 0), (3, i64 0), (6, Value.slice (some ⟨b, 0, none⟩) 2 2), (7, i64 2), (8, i64 0)]) 7 = i64 2 := rfl
  have e8 : (ups (env0 #[Value.slice (some ⟨b, 0, none⟩) 2 2]) [(2, i64 0), (3, i64 0), (6, Value.slice (some ⟨b, 0, none⟩) 2 2), (7, i64 2), (8, i64 0)]) 8 = i64 0 := rfl
  show Ret (_ : Option (Value × World)) _
  simp only [show ((2 : Nat) : Int) = 2 from rfl, e3, e6, e7, e8]
  generalize (ups (env0 #[Value.slice (some ⟨b, 0, none⟩) 2 2]) [(2, i64 0), (3, i64 0), (6, Value.slice (some ⟨b, 0, none⟩) 2 2), (7, i64 2), (8, i64 0)]) = e at *
  cases hx : (x != 0)
  · simp (disch := first | omega | (simp only [World.size_alloc, size_setRow, dw_size]; done) | (simp only [World.size_alloc, size_setRow, dw_size]; omega) | (simp only [List.length_set, Array.length_toList]; omega)) [-Option.bind_some, hp_alloc_lt, hp_alloc_eq, hp_set_ne, h, i0, hx]
    refine Ret.mono (l1 _ e3 e6 e7 (congrArg i64 (w64 (by omega) (by omega)))) ?_
    rintro _ rfl
    simp only [bne_eq_false_iff_eq] at hx
    simp [hx]
  · simp (disch := first | omega | (simp only [World.size_alloc, size_setRow, dw_size]; done) | (simp only [World.size_alloc, size_setRow, dw_size]; omega) | (simp only [List.length_set, Array.length_toList]; omega)) [-Option.bind_some, hp_alloc_lt, hp_alloc_eq, hp_set_ne, h, i0, hx]
    simp only [bne_iff_ne, ne_eq] at hx
    simp [hx]
theorem impl_Tag_compare_c (x y : Tag) (w : World) : Ret (EV P 92 #[x.v, y.v] w) fun r => r.1 = i64 (if x.t < y.t then -1 else if y.t < x.t then 1 else if x.p < y.p then -1 else if y.p < x.p then 1 else 0) ∧ Ext w r.2 := by
  refine Ret.enter plain mixed (impl_Tag_compare_fn _ _ _) (by kernel_rfl) (n := 2) (by kernel_rfl) rfl ?_
  simp (disch := first | omega | (simp only [World.size_alloc, size_setRow, dw_size]; done) | (simp only [World.size_alloc, size_setRow, dw_size]; omega) | (simp only [List.length_set, Array.length_toList]; omega)) [-Option.bind_some, hp_alloc_lt, hp_alloc_eq, hp_set_ne]
  refine Ret.bind (cmp_Compare_int_c _ _ _) ?_
  rintro _ rfl
  simp (disch := first | omega | (simp only [World.size_alloc, size_setRow, dw_size]; done) | (simp only [World.size_alloc, size_setRow, dw_size]; omega) | (simp only [List.length_set, Array.length_toList]; omega)) [-Option.bind_some, hp_alloc_lt, hp_alloc_eq, hp_set_ne]
  refine Ret.bind (cmp_Compare_int_c _ _ _) ?_
  rintro _ rfl
  simp (disch := first | omega | (simp only [World.size_alloc, size_setRow, dw_size]; done) | (simp only [World.size_alloc, size_setRow, dw_size]; omega) | (simp only [List.length_set, Array.length_toList]; omega)) [-Option.bind_some, hp_alloc_lt, hp_alloc_eq, hp_set_ne]
  refine Ret.bind (cmp_Or_int_c (hp_alloc_eq (by simp only [World.size_alloc, dw_size]))) ?_
  rintro _ rfl
  simp (disch := first | omega | (simp only [World.size_alloc, size_setRow, dw_size]; done) | (simp only [World.size_alloc, size_setRow, dw_size]; omega) | (simp only [List.length_set, Array.length_toList]; omega)) [-Option.bind_some, hp_alloc_lt, hp_alloc_eq, hp_set_ne]
  refine ⟨?_, by (repeat (first | exact Ext.rfl | assumption | (refine Ext.al ?_ _) | (refine Ext.dw ?_) | (refine Ext.set ?_ (by first | omega | (simp only [World.size_alloc, size_setRow, dw_size]; omega)) _) | (refine Ext.tr ?_ (by assumption))))⟩
  by_cases h1 : x.t < y.t
  · simp [h1]
  · by_cases h2 : y.t < x.t <;> simp [h1, h2]
theorem impl_TagLess_c (x y : Tag) (w : World) : Ret (EV P 76 #[x.v, y.v] w) fun r => r.1 = .bool (tagLess x y) ∧ Ext w r.2 := by
  refine Ret.enter plain mixed (impl_TagLess_fn _ _ _) (by kernel_rfl) (n := 2) (by kernel_rfl) rfl ?_
  simp (disch := first | omega | (simp only [World.size_alloc, size_setRow, dw_size]; done) | (simp only [World.size_alloc, size_setRow, dw_size]; omega) | (simp only [List.length_set, Array.length_toList]; omega)) [-Option.bind_some, hp_alloc_lt, hp_alloc_eq, hp_set_ne]
  refine Ret.bind (impl_Tag_compare_c x y _) ?_
  rintro ⟨_, w1⟩ ⟨rfl, hE⟩
  simp (disch := first | omega | (simp only [World.size_alloc, size_setRow, dw_size]; done) | (simp only [World.size_alloc, size_setRow, dw_size]; omega) | (simp only [List.length_set, Array.length_toList]; omega)) [-Option.bind_some, hp_alloc_lt, hp_alloc_eq, hp_set_ne]
  refine ⟨?_, by (repeat (first | exact Ext.rfl | assumption | (refine Ext.al ?_ _) | (refine Ext.dw ?_) | (refine Ext.set ?_ (by first | omega | (simp only [World.size_alloc, size_setRow, dw_size]; omega)) _) | (refine Ext.tr ?_ (by assumption))))⟩
  unfold tagLess
  by_cases h1 : x.t < y.t
  · simp [h1]
  · by_cases h2 : y.t < x.t
    · have : ¬ x.t = y.t := by omega
      simp [h1, h2, this]
    · have : x.t = y.t := by omega
      simp [this]
      by_cases h3 : x.p < y.p
      · simp [h3]
      · by_cases h4 : y.p < x.p <;> simp [h3, h4]
theorem impl_TagMax_c (x y : Tag) (w : World) : Ret (EV P 81 #[x.v, y.v] w) fun r => r.1 = (tagMax x y).v ∧ Ext w r.2 := by
  refine Ret.enter plain mixed (impl_TagMax_fn _ _ _) (by kernel_rfl) (n := 2) (by kernel_rfl) rfl ?_
  simp (disch := first | omega | (simp only [World.size_alloc, size_setRow, dw_size]; done) | (simp only [World.size_alloc, size_setRow, dw_size]; omega) | (simp only [List.length_set, Array.length_toList]; omega)) [-Option.bind_some, hp_alloc_lt, hp_alloc_eq, hp_set_ne]
  refine Ret.bind (impl_TagLess_c x y _) ?_
  rintro ⟨_, w1⟩ ⟨rfl, hE⟩
  have hs := hE.size
  simp only [World.size_alloc] at hs
  cases h : tagLess x y
  · simp (disch := first | omega | (simp only [World.size_alloc, size_setRow, dw_size]; done) | (simp only [World.size_alloc, size_setRow, dw_size]; omega) | (simp only [List.length_set, Array.length_toList]; omega)) [-Option.bind_some, hp_alloc_lt, hp_alloc_eq, hp_set_ne, tagMax, h, hE.blk]
    (repeat (first | exact Ext.rfl | assumption | (refine Ext.al ?_ _) | (refine Ext.dw ?_) | (refine Ext.set ?_ (by first | omega | (simp only [World.size_alloc, size_setRow, dw_size]; omega)) _) | (refine Ext.tr ?_ (by assumption))))
  · simp (disch := first | omega | (simp only [World.size_alloc, size_setRow, dw_size]; done) | (simp only [World.size_alloc, size_setRow, dw_size]; omega) | (simp only [List.length_set, Array.length_toList]; omega)) [-Option.bind_some, hp_alloc_lt, hp_alloc_eq, hp_set_ne, tagMax, h, hE.blk]
    (repeat (first | exact Ext.rfl | assumption | (refine Ext.al ?_ _) | (refine Ext.dw ?_) | (refine Ext.set ?_ (by first | omega | (simp only [World.size_alloc, size_setRow, dw_size]; omega)) _) | (refine Ext.tr ?_ (by assumption))))
theorem storeOk_len {vs : List Ver} (h : storeOk vs = true) : vs.length = 4 := by
  simp only [storeOk, Bool.and_eq_true, beq_iff_eq] at h
  exact h.2
theorem slots_get : ∀ (vs : List Ver) (i k : Nat) (v : Ver), slots i vs = true → vs[k]? = some v → slotOk (i + k) v = true
  | v :: vs, i, 0, u, h, hu => by
    simp only [List.getElem?_cons_zero, Option.some.injEq] at hu
    subst hu
    simp only [slots, Bool.and_eq_true] at h
    exact h.1
  | v :: vs, i, k + 1, u, h, hu => by
    simp only [slots, Bool.and_eq_true] at h
    have := slots_get vs (i + 1) k u h.2 (by simpa using hu)
    rwa [show i + (k + 1) = i + 1 + k by omega]
  | [], i, k, u, h, hu => by simp at hu
theorem impl_keyOk_c (n : Int) (w : World) : Ret (EV P 43 #[i64 n] w) fun r => r = (.bool (keyOk n), w) := by
  refine Ret.enter plain mixed (impl_keyOk_fn _ _) (by kernel_rfl) (n := 1) (by kernel_rfl) rfl ?_
  simp (disch := first | omega | (simp only [World.size_alloc, size_setRow, dw_size]; done) | (simp only [World.size_alloc, size_setRow, dw_size]; omega) | (simp only [List.length_set, Array.length_toList]; omega)) [-Option.bind_some, hp_alloc_lt, hp_alloc_eq, hp_set_ne]
  refine Ret.bind (impl_within_c _ _ _ _) ?_
  rintro _ rfl
  simp (disch := first | omega | (simp only [World.size_alloc, size_setRow, dw_size]; done) | (simp only [World.size_alloc, size_setRow, dw_size]; omega) | (simp only [List.length_set, Array.length_toList]; omega)) [-Option.bind_some, hp_alloc_lt, hp_alloc_eq, hp_set_ne]
  rfl
theorem impl_textOk_l {s : ByteArray} (hs : s.size ≤ 140737488351232) : ∀ (d k : Nat) (e : Env) (w : World), k + d = s.size → e 0 = .string s → e 5 = i64 s.size → e 6 = i64 k →
    Ret (impl_textOk_l1 e w) fun r => r = (.bool ((s.toList.drop k).all byteOk && decide ((s.size : Int) ≤ 8)), w) := by
  intro d
  induction d with
  | zero =>
    intro k e w hd h0 h5 h6
    rw [impl_textOk_l1_eq]
    simp (disch := first | omega | (simp only [World.size_alloc, size_setRow, dw_size]; done) | (simp only [World.size_alloc, size_setRow, dw_size]; omega) | (simp only [List.length_set, Array.length_toList]; omega)) [-Option.bind_some, hp_alloc_lt, hp_alloc_eq, hp_set_ne, h0, h5, h6, show ¬ k < s.size by omega, show s.size ≤ k by omega]
    rw [List.drop_eq_nil_of_le (by rw [byte_list]; omega)]
    simp
  | succ d ih =>
    intro k e w hd h0 h5 h6
    rw [impl_textOk_l1_eq]
    have hlt : k < s.size := by omega
    obtain ⟨b, hb, hdx⟩ := drop_at (l := s.toList) (k := k) (by rw [byte_list]; omega)
    have hix := fun w => ix_str (P := P) (t := 9) (by kernel_rfl) s (i := k) (by omega) (b := b) (by simpa using hb) w
    have hby : b.toNat < 256 := UInt8.toNat_lt b
    rw [hdx]
    simp (disch := first | omega | (simp only [World.size_alloc, size_setRow, dw_size]; done) | (simp only [World.size_alloc, size_setRow, dw_size]; omega) | (simp only [List.length_set, Array.length_toList]; omega)) [-Option.bind_some, hp_alloc_lt, hp_alloc_eq, hp_set_ne, h0, h5, h6, hlt, hix]
    rw [w64 (by omega) (by omega)]
    refine Ret.bind (impl_within_c _ _ _ _) ?_
    rintro _ rfl
    cases hk : byteOk b
    · have hk' : (decide (33 ≤ (b.toNat : Int)) && decide ((b.toNat : Int) ≤ 126)) = false := hk
      simp (disch := first | omega | (simp only [World.size_alloc, size_setRow, dw_size]; done) | (simp only [World.size_alloc, size_setRow, dw_size]; omega) | (simp only [List.length_set, Array.length_toList]; omega)) [-Option.bind_some, hp_alloc_lt, hp_alloc_eq, hp_set_ne, hk', hk]
    · have hk' : (decide (33 ≤ (b.toNat : Int)) && decide ((b.toNat : Int) ≤ 126)) = true := hk
      simp (disch := first | omega | (simp only [World.size_alloc, size_setRow, dw_size]; done) | (simp only [World.size_alloc, size_setRow, dw_size]; omega) | (simp only [List.length_set, Array.length_toList]; omega)) [-Option.bind_some, hp_alloc_lt, hp_alloc_eq, hp_set_ne, hk', h6]
      refine Ret.mono (ih (k + 1) _ w (by omega) h0 h5 (congrArg i64 (w64 (by omega) (by omega)))) ?_
      rintro _ rfl
      simp [hk]
theorem impl_textOk_c {s : ByteArray} (hs : s.size ≤ 140737488351232) (w : World) : Ret (EV P 97 #[.string s] w) fun r => r = (.bool (textOk s), w) := by
  refine Ret.enter plain mixed (impl_textOk_fn _ _) (by kernel_rfl) (n := 1) (by kernel_rfl) rfl ?_
  simp (disch := first | omega | (simp only [World.size_alloc, size_setRow, dw_size]; done) | (simp only [World.size_alloc, size_setRow, dw_size]; omega) | (simp only [List.length_set, Array.length_toList]; omega)) [-Option.bind_some, hp_alloc_lt, hp_alloc_eq, hp_set_ne]
  exact impl_textOk_l hs s.size 0 _ w (by omega) rfl rfl rfl
theorem slices_IndexFunc_Tag_l {s f : Value} {xs : List Tag} {p : Tag → Bool} {w0 : World} (hf : ∀ x ∈ xs, ∀ w, Ext w0 w → Ret (clo P f #[x.v] w) fun r => r.1 = .bool (p x) ∧ Ext w r.2) :
    ∀ (d k : Nat) (e : Env) (w : World), k + d = xs.length → e 0 = s → e 1 = f → e 7 = i64 xs.length → e 8 = i64 k → rTags w0 s xs → Ext w0 w →
    Ret (slices_IndexFunc_Tag_l1 e w) fun r => ∃ i : Int, r.1 = i64 i ∧ decide (0 ≤ i) = (xs.drop k).any p ∧ Ext w0 r.2 := by
  intro d
  induction d with
  | zero =>
    intro k e w hd h0 h1 h7 h8 ha hE
    rw [slices_IndexFunc_Tag_l1_eq]
    simp (disch := first | omega | (simp only [World.size_alloc, size_setRow, dw_size]; done) | (simp only [World.size_alloc, size_setRow, dw_size]; omega) | (simp only [List.length_set, Array.length_toList]; omega)) [-Option.bind_some, hp_alloc_lt, hp_alloc_eq, hp_set_ne, h0, h1, h7, h8, show ¬ k < xs.length by omega, show xs.length ≤ k by omega]
    rw [List.drop_eq_nil_of_le (by omega)]
    exact ⟨by simp, hE⟩
  | succ d ih =>
    intro k e w hd h0 h1 h7 h8 ha hE
    obtain ⟨aa, ca, hs, hm⟩ := ha.len
    rw [slices_IndexFunc_Tag_l1_eq]
    have hlt : k < xs.length := by omega
    obtain ⟨x, hx, hdx⟩ := drop_at hlt
    obtain ⟨b1, o1, c1, hs1, hA0⟩ := ha.at hx
    have hA := hA0.mono (Ext.keep hE)
    have p0 := hA 0 _ rfl
    have p1 := hA 1 _ rfl
    simp only [Nat.add_zero] at p0
    rw [hdx]
    subst hs1
    simp (disch := first | omega | (simp only [World.size_alloc, size_setRow, dw_size]; done) | (simp only [World.size_alloc, size_setRow, dw_size]; omega) | (simp only [List.length_set, Array.length_toList]; omega)) [-Option.bind_some, hp_alloc_lt, hp_alloc_eq, hp_set_ne, h0, h1, h7, h8, hlt, ia_49, p0, p1]
    refine Ret.bind (hf x (List.mem_of_getElem? hx) _ hE) ?_
    rintro ⟨_, w1⟩ ⟨rfl, hE1⟩
    cases hp : p x
    · simp (disch := first | omega | (simp only [World.size_alloc, size_setRow, dw_size]; done) | (simp only [World.size_alloc, size_setRow, dw_size]; omega) | (simp only [List.length_set, Array.length_toList]; omega)) [-Option.bind_some, hp_alloc_lt, hp_alloc_eq, hp_set_ne, hp, h8]
      refine Ret.mono (ih (k + 1) _ w1 (by omega) h0 h1 h7 (congrArg i64 (w64 (by omega) (by omega))) ha (hE.tr hE1)) ?_
      rintro r ⟨i, h2, h3, h4⟩
      exact ⟨i, h2, by simpa [hp] using h3, h4⟩
    · simp (disch := first | omega | (simp only [World.size_alloc, size_setRow, dw_size]; done) | (simp only [World.size_alloc, size_setRow, dw_size]; omega) | (simp only [List.length_set, Array.length_toList]; omega)) [-Option.bind_some, hp_alloc_lt, hp_alloc_eq, hp_set_ne, hp]
      exact hE.tr hE1
theorem slices_ContainsFunc_Tag_c {s f : Value} {xs : List Tag} {p : Tag → Bool} {w : World} (ha : rTags w s xs) (hf : ∀ x ∈ xs, ∀ w', Ext w w' → Ret (clo P f #[x.v] w') fun r => r.1 = .bool (p x) ∧ Ext w' r.2) :
    Ret (EV P 78 #[s, f] w) fun r => r.1 = .bool (xs.any p) ∧ Ext w r.2 := by
  have ha' := ha
  obtain ⟨aa, ca, hs, hm⟩ := ha.len
  subst hs
  have hi : Ret (EV P 93 #[.slice aa xs.length ca, f] w) fun r => ∃ i : Int, r.1 = i64 i ∧ decide (0 ≤ i) = xs.any p ∧ Ext w r.2 := by
    refine Ret.enter plain mixed (slices_IndexFunc_Tag_fn _ _ _) (by kernel_rfl) (n := 2) (by kernel_rfl) rfl ?_
    simp (disch := first | omega | (simp only [World.size_alloc, size_setRow, dw_size]; done) | (simp only [World.size_alloc, size_setRow, dw_size]; omega) | (simp only [List.length_set, Array.length_toList]; omega)) [-Option.bind_some, hp_alloc_lt, hp_alloc_eq, hp_set_ne]
    exact slices_IndexFunc_Tag_l hf xs.length 0 _ w (by omega) rfl rfl rfl rfl ha' Ext.rfl
  refine Ret.enter plain mixed (slices_ContainsFunc_Tag_fn _ _ _) (by kernel_rfl) (n := 2) (by kernel_rfl) rfl ?_
  simp (disch := first | omega | (simp only [World.size_alloc, size_setRow, dw_size]; done) | (simp only [World.size_alloc, size_setRow, dw_size]; omega) | (simp only [List.length_set, Array.length_toList]; omega)) [-Option.bind_some, hp_alloc_lt, hp_alloc_eq, hp_set_ne]
  refine Ret.bind hi ?_
  rintro ⟨_, w1⟩ ⟨i, rfl, h2, hE⟩
  simp (disch := first | omega | (simp only [World.size_alloc, size_setRow, dw_size]; done) | (simp only [World.size_alloc, size_setRow, dw_size]; omega) | (simp only [List.length_set, Array.length_toList]; omega)) [-Option.bind_some, hp_alloc_lt, hp_alloc_eq, hp_set_ne, h2]
  exact hE
theorem impl_PastOk_1_c (x : Tag) (w : World) : Ret (EV P 79 #[x.v] w) fun r => r.1 = .bool (!tagOk x) ∧ Ext w r.2 := by
  refine Ret.enter plain mixed (impl_PastOk_1_fn _ _) (by kernel_rfl) (n := 1) (by kernel_rfl) rfl ?_
  simp (disch := first | omega | (simp only [World.size_alloc, size_setRow, dw_size]; done) | (simp only [World.size_alloc, size_setRow, dw_size]; omega) | (simp only [List.length_set, Array.length_toList]; omega)) [-Option.bind_some, hp_alloc_lt, hp_alloc_eq, hp_set_ne]
  refine Ret.bind (impl_TagOk_c x _) ?_
  rintro ⟨_, w1⟩ ⟨rfl, hE⟩
  simp (disch := first | omega | (simp only [World.size_alloc, size_setRow, dw_size]; done) | (simp only [World.size_alloc, size_setRow, dw_size]; omega) | (simp only [List.length_set, Array.length_toList]; omega)) [-Option.bind_some, hp_alloc_lt, hp_alloc_eq, hp_set_ne]
  (repeat (first | exact Ext.rfl | assumption | (refine Ext.al ?_ _) | (refine Ext.dw ?_) | (refine Ext.set ?_ (by first | omega | (simp only [World.size_alloc, size_setRow, dw_size]; omega)) _) | (refine Ext.tr ?_ (by assumption))))
theorem impl_PastOk_c {s : Value} {xs : List Tag} {w : World} (ha : rTags w s xs) : Ret (EV P 55 #[.agg #[s]] w) fun r => r.1 = .bool (pastOk xs) ∧ Ext w r.2 := by
  have ha' := ha
  obtain ⟨aa, ca, hs, hm⟩ := ha.len
  subst hs
  refine Ret.enter plain mixed (impl_PastOk_fn _ _) (by kernel_rfl) (n := 1) (by kernel_rfl) rfl ?_
  have hq : ((xs.length : Int) == 4) = (xs.length == 4) := by rw [Bool.eq_iff_iff]; simp only [beq_iff_eq]; omega
  cases h4 : (xs.length == 4)
  · simp (disch := first | omega | (simp only [World.size_alloc, size_setRow, dw_size]; done) | (simp only [World.size_alloc, size_setRow, dw_size]; omega) | (simp only [List.length_set, Array.length_toList]; omega)) [-Option.bind_some, hp_alloc_lt, hp_alloc_eq, hp_set_ne, hq, h4, pastOk]
    (repeat (first | exact Ext.rfl | assumption | (refine Ext.al ?_ _) | (refine Ext.dw ?_) | (refine Ext.set ?_ (by first | omega | (simp only [World.size_alloc, size_setRow, dw_size]; omega)) _) | (refine Ext.tr ?_ (by assumption))))
  · simp (disch := first | omega | (simp only [World.size_alloc, size_setRow, dw_size]; done) | (simp only [World.size_alloc, size_setRow, dw_size]; omega) | (simp only [List.length_set, Array.length_toList]; omega)) [-Option.bind_some, hp_alloc_lt, hp_alloc_eq, hp_set_ne, hq, h4]
    refine Ret.bind (slices_ContainsFunc_Tag_c (p := fun x => !tagOk x) (ha'.mono (Ext.keep (by (repeat (first | exact Ext.rfl | assumption | (refine Ext.al ?_ _) | (refine Ext.dw ?_) | (refine Ext.set ?_ (by first | omega | (simp only [World.size_alloc, size_setRow, dw_size]; omega)) _) | (refine Ext.tr ?_ (by assumption))))))) ?_) ?_
    · intro x _ w' _
      rw [clo_eq (P := P) (g := 79) (by kernel_rfl) [] [] [x.v] w']
      exact impl_PastOk_1_c x w'
    rintro ⟨_, w1⟩ ⟨rfl, hE⟩
    simp (disch := first | omega | (simp only [World.size_alloc, size_setRow, dw_size]; done) | (simp only [World.size_alloc, size_setRow, dw_size]; omega) | (simp only [List.length_set, Array.length_toList]; omega)) [-Option.bind_some, hp_alloc_lt, hp_alloc_eq, hp_set_ne]
    refine ⟨?_, by (repeat (first | exact Ext.rfl | assumption | (refine Ext.al ?_ _) | (refine Ext.dw ?_) | (refine Ext.set ?_ (by first | omega | (simp only [World.size_alloc, size_setRow, dw_size]; omega)) _) | (refine Ext.tr ?_ (by assumption))))⟩
    simp only [pastOk, h4, Bool.and_true]
    rw [Bool.eq_iff_iff]
    simp
theorem impl_Past_latest_l {s : Value} {xs : List Tag} : ∀ (d k : Nat) (e : Env) (w : World) (m : Int), k + d = xs.length → e 3 = i64 m → e 7 = s → e 8 = i64 xs.length → e 9 = i64 k → rTags w s xs →
    Ret (impl_Past_latest_l1 e w) fun r => r.1 = i64 (latest m (xs.drop k)) ∧ Ext w r.2 := by
  intro d
  induction d with
  | zero =>
    intro k e w m hd h3 h7 h8 h9 ha
    rw [impl_Past_latest_l1_eq]
    simp (disch := first | omega | (simp only [World.size_alloc, size_setRow, dw_size]; done) | (simp only [World.size_alloc, size_setRow, dw_size]; omega) | (simp only [List.length_set, Array.length_toList]; omega)) [-Option.bind_some, hp_alloc_lt, hp_alloc_eq, hp_set_ne, h3, h7, h8, h9, show ¬ k < xs.length by omega, show xs.length ≤ k by omega]
    rw [List.drop_eq_nil_of_le (by omega)]
    exact ⟨rfl, by (repeat (first | exact Ext.rfl | assumption | (refine Ext.al ?_ _) | (refine Ext.dw ?_) | (refine Ext.set ?_ (by first | omega | (simp only [World.size_alloc, size_setRow, dw_size]; omega)) _) | (refine Ext.tr ?_ (by assumption))))⟩
  | succ d ih =>
    intro k e w m hd h3 h7 h8 h9 ha
    obtain ⟨aa, ca, hs, hm⟩ := ha.len
    rw [impl_Past_latest_l1_eq]
    have hlt : k < xs.length := by omega
    obtain ⟨x, hx, hdx⟩ := drop_at hlt
    obtain ⟨b1, o1, c1, hs1, hA⟩ := ha.at hx
    have p0 := hA 0 _ rfl
    have p1 := hA 1 _ rfl
    simp only [Nat.add_zero] at p0
    rw [hdx]
    subst hs1
    simp (disch := first | omega | (simp only [World.size_alloc, size_setRow, dw_size]; done) | (simp only [World.size_alloc, size_setRow, dw_size]; omega) | (simp only [List.length_set, Array.length_toList]; omega)) [-Option.bind_some, hp_alloc_lt, hp_alloc_eq, hp_set_ne, h3, h7, h8, h9, hlt, ia_49, p0, p1, max_int]
    have hE : Ext w ((w.alloc (.cells #[i64 0, i64 0] 53)).setRow w.heap.size #[i64 x.t, i64 x.p]) := by (repeat (first | exact Ext.rfl | assumption | (refine Ext.al ?_ _) | (refine Ext.dw ?_) | (refine Ext.set ?_ (by first | omega | (simp only [World.size_alloc, size_setRow, dw_size]; omega)) _) | (refine Ext.tr ?_ (by assumption))))
    refine Ret.mono (ih (k + 1) _ _ (if m < x.t then x.t else m) (by omega) rfl h7 h8 (congrArg i64 (w64 (by omega) (by omega))) (ha.mono (Ext.keep hE))) ?_
    rintro r ⟨h4, h5⟩
    exact ⟨by rw [h4]; rfl, hE.tr h5⟩
theorem impl_Past_latest_c {s : Value} {xs : List Tag} {w : World} (ha : rTags w s xs) : Ret (EV P 88 #[.agg #[s]] w) fun r => r.1 = i64 (latest 0 xs) ∧ Ext w r.2 := by
  have ha' := ha
  obtain ⟨aa, ca, hs, hm⟩ := ha.len
  subst hs
  refine Ret.enter plain mixed (impl_Past_latest_fn _ _) (by kernel_rfl) (n := 1) (by kernel_rfl) rfl ?_
  simp (disch := first | omega | (simp only [World.size_alloc, size_setRow, dw_size]; done) | (simp only [World.size_alloc, size_setRow, dw_size]; omega) | (simp only [List.length_set, Array.length_toList]; omega)) [-Option.bind_some, hp_alloc_lt, hp_alloc_eq, hp_set_ne]
  refine Ret.mono (impl_Past_latest_l xs.length 0 _ _ 0 (by omega) rfl rfl rfl rfl (ha'.mono (Ext.keep (by (repeat (first | exact Ext.rfl | assumption | (refine Ext.al ?_ _) | (refine Ext.dw ?_) | (refine Ext.set ?_ (by first | omega | (simp only [World.size_alloc, size_setRow, dw_size]; omega)) _) | (refine Ext.tr ?_ (by assumption)))))))) ?_
  rintro r ⟨h1, h2⟩
  exact ⟨h1, (Ext.al Ext.rfl _).tr h2⟩
theorem impl_Past_under_l {s u : Value} {xs ys : List Tag} {c t' : Nat} (hy4 : ys.length = xs.length) : ∀ (d k : Nat) (e : Env) (w : World), k + d = xs.length → e 3 = pt c 0 → e 8 = s → e 9 = i64 xs.length → e 10 = i64 k →
    hp w c = some (.cells #[u] t' (0, 0)) → rTags w s xs → rTags w u ys →
    Ret (impl_Past_under_l1 e w) fun r => r.1 = .bool (under (xs.drop k) (ys.drop k)) ∧ Ext w r.2 := by
  intro d
  induction d with
  | zero =>
    intro k e w hd h3 h8 h9 h10 hy ha hb
    rw [impl_Past_under_l1_eq]
    simp (disch := first | omega | (simp only [World.size_alloc, size_setRow, dw_size]; done) | (simp only [World.size_alloc, size_setRow, dw_size]; omega) | (simp only [List.length_set, Array.length_toList]; omega)) [-Option.bind_some, hp_alloc_lt, hp_alloc_eq, hp_set_ne, h3, h8, h9, h10, show ¬ k < xs.length by omega, show xs.length ≤ k by omega]
    rw [List.drop_eq_nil_of_le (by omega)]
    exact ⟨rfl, by (repeat (first | exact Ext.rfl | assumption | (refine Ext.al ?_ _) | (refine Ext.dw ?_) | (refine Ext.set ?_ (by first | omega | (simp only [World.size_alloc, size_setRow, dw_size]; omega)) _) | (refine Ext.tr ?_ (by assumption))))⟩
  | succ d ih =>
    intro k e w hd h3 h8 h9 h10 hy ha hb
    rw [impl_Past_under_l1_eq]
    obtain ⟨_, _, _, hm⟩ := ha.len
    have hlt : k < xs.length := by omega
    have hlt' : k < ys.length := by omega
    obtain ⟨x, hxk, hdx⟩ := drop_at hlt
    obtain ⟨y, hyk, hdy⟩ := drop_at hlt'
    obtain ⟨b1, o1, c1, hs1, hA⟩ := ha.at hxk
    obtain ⟨b2, o2, c2, hs2, hB⟩ := hb.at hyk
    have p0 := hA 0 _ rfl
    have p1 := hA 1 _ rfl
    have q0 := hB 0 _ rfl
    have q1 := hB 1 _ rfl
    have hb2 := hB.lt
    have hcl := hp_lt hy
    simp only [Nat.add_zero] at p0 q0
    subst hs1
    subst hs2
    simp (disch := first | omega | (simp only [World.size_alloc, size_setRow, dw_size]; done) | (simp only [World.size_alloc, size_setRow, dw_size]; omega) | (simp only [List.length_set, Array.length_toList]; omega)) [-Option.bind_some, hp_alloc_lt, hp_alloc_eq, hp_set_ne, h3, h8, h9, h10, hy, hlt, hlt', ia_49, p0, p1, q0, q1]
    refine Ret.bind (impl_TagLess_c y x _) ?_
    rintro ⟨_, w1⟩ ⟨rfl, hE⟩
    have hE' : Ext w w1 := Ext.tr (by (repeat (first | exact Ext.rfl | assumption | (refine Ext.al ?_ _) | (refine Ext.dw ?_) | (refine Ext.set ?_ (by first | omega | (simp only [World.size_alloc, size_setRow, dw_size]; omega)) _) | (refine Ext.tr ?_ (by assumption))))) hE
    cases hl : tagLess y x
    · simp (disch := first | omega | (simp only [World.size_alloc, size_setRow, dw_size]; done) | (simp only [World.size_alloc, size_setRow, dw_size]; omega) | (simp only [List.length_set, Array.length_toList]; omega)) [-Option.bind_some, hp_alloc_lt, hp_alloc_eq, hp_set_ne, hl, h10]
      refine Ret.mono (ih (k + 1) _ w1 (by omega) h3 h8 h9 (congrArg i64 (w64 (by omega) (by omega))) ((hE'.blk hcl).trans hy) (ha.mono (Ext.keep hE')) (hb.mono (Ext.keep hE'))) ?_
      rintro r ⟨h6, h7⟩
      exact ⟨by rw [h6, hdx, hdy]; simp [under, hl], hE'.tr h7⟩
    · simp (disch := first | omega | (simp only [World.size_alloc, size_setRow, dw_size]; done) | (simp only [World.size_alloc, size_setRow, dw_size]; omega) | (simp only [List.length_set, Array.length_toList]; omega)) [-Option.bind_some, hp_alloc_lt, hp_alloc_eq, hp_set_ne, hl]
      exact ⟨by rw [hdx, hdy]; simp [under, hl], hE'⟩
theorem impl_Past_under_c {s u : Value} {xs ys : List Tag} (hy4 : ys.length = xs.length) {w : World} (ha : rTags w s xs) (hb : rTags w u ys) : Ret (EV P 51 #[.agg #[s], .agg #[u]] w) fun r => r.1 = .bool (under xs ys) ∧ Ext w r.2 := by
  have ha' := ha
  have hb' := hb
  obtain ⟨aa, ca, hs, hm⟩ := ha.len
  obtain ⟨ab, cb, hu, _⟩ := hb.len
  subst hs
  subst hu
  refine Ret.enter plain mixed (impl_Past_under_fn _ _ _) (by kernel_rfl) (n := 2) (by kernel_rfl) rfl ?_
  simp (disch := first | omega | (simp only [World.size_alloc, size_setRow, dw_size]; done) | (simp only [World.size_alloc, size_setRow, dw_size]; omega) | (simp only [List.length_set, Array.length_toList]; omega)) [-Option.bind_some, hp_alloc_lt, hp_alloc_eq, hp_set_ne]
  refine Ret.mono (impl_Past_under_l (c := w.heap.size + 1) hy4 xs.length 0 _ _ (by omega) rfl rfl rfl rfl (hp_alloc_eq (by simp)) (ha'.mono (Ext.keep (by (repeat (first | exact Ext.rfl | assumption | (refine Ext.al ?_ _) | (refine Ext.dw ?_) | (refine Ext.set ?_ (by first | omega | (simp only [World.size_alloc, size_setRow, dw_size]; omega)) _) | (refine Ext.tr ?_ (by assumption))))))) (hb'.mono (Ext.keep (by (repeat (first | exact Ext.rfl | assumption | (refine Ext.al ?_ _) | (refine Ext.dw ?_) | (refine Ext.set ?_ (by first | omega | (simp only [World.size_alloc, size_setRow, dw_size]; omega)) _) | (refine Ext.tr ?_ (by assumption)))))))) ?_
  rintro r ⟨h1, h2⟩
  exact ⟨h1, (Ext.al (Ext.al Ext.rfl _) _).tr h2⟩
theorem slices_Equal_Tag_end (e : Env) (w : World) (h12 : e 12 = i64 0) (h13 : e 13 = i64 0) : Ret (slices_Equal_Tag_l1 e w) fun r => r = (.bool true, w) := by
  rw [slices_Equal_Tag_l1_eq]
  simp (disch := first | omega | (simp only [World.size_alloc, size_setRow, dw_size]; done) | (simp only [World.size_alloc, size_setRow, dw_size]; omega) | (simp only [List.length_set, Array.length_toList]; omega)) [-Option.bind_some, hp_alloc_lt, hp_alloc_eq, hp_set_ne, h12, h13]
theorem slices_Equal_Tag_nil {s : Value} {xs : List Tag} {w : World} (ha : rTags w s xs) : Ret (EV P 77 #[s, .slice none 0 0] w) fun r => r = (.bool (xs.length == 0), w) := by
  obtain ⟨aa, ca, hs, hm⟩ := ha.len
  subst hs
  refine Ret.enter plain mixed (slices_Equal_Tag_fn _ _ _) (by kernel_rfl) (n := 2) (by kernel_rfl) rfl ?_
  by_cases h : xs.length = 0
  · simp (disch := first | omega | (simp only [World.size_alloc, size_setRow, dw_size]; done) | (simp only [World.size_alloc, size_setRow, dw_size]; omega) | (simp only [List.length_set, Array.length_toList]; omega)) [-Option.bind_some, hp_alloc_lt, hp_alloc_eq, hp_set_ne, h]
    refine Ret.mono (slices_Equal_Tag_end _ w rfl rfl) ?_
    rintro _ rfl
    rfl
  · have hne : ((xs.length : Int) != 0) = true := by simp only [bne_iff_ne, ne_eq]; omega
    simp (disch := first | omega | (simp only [World.size_alloc, size_setRow, dw_size]; done) | (simp only [World.size_alloc, size_setRow, dw_size]; omega) | (simp only [List.length_set, Array.length_toList]; omega)) [-Option.bind_some, hp_alloc_lt, hp_alloc_eq, hp_set_ne, h, hne]
theorem impl_Ver_same_c {cs : List Value} {v : Ver} {w : World} (ha : rVer w cs v) : Ret (EV P 53 #[.agg cs.toArray, .agg #[i64 0, i64 0, i64 0, .slice none 0 0, .string ⟨#[]⟩, .bool false]] w) fun r => r.1 = .bool (verNone v) ∧ Ext w r.2 := by
  obtain ⟨s, rfl, ha, ht⟩ := ha
  have ha' := ha
  obtain ⟨aa, ca, hs, hm⟩ := ha.len
  subst hs
  refine Ret.enter plain mixed (impl_Ver_same_fn _ _ _) (by kernel_rfl) (n := 2) (by kernel_rfl) rfl ?_
  cases hk : (v.key == 0)
  · have : verNone v = false := by simp [verNone, hk]
    simp (disch := first | omega | (simp only [World.size_alloc, size_setRow, dw_size]; done) | (simp only [World.size_alloc, size_setRow, dw_size]; omega) | (simp only [List.length_set, Array.length_toList]; omega)) [-Option.bind_some, hp_alloc_lt, hp_alloc_eq, hp_set_ne, hk, this]
    (repeat (first | exact Ext.rfl | assumption | (refine Ext.al ?_ _) | (refine Ext.dw ?_) | (refine Ext.set ?_ (by first | omega | (simp only [World.size_alloc, size_setRow, dw_size]; omega)) _) | (refine Ext.tr ?_ (by assumption))))
  cases hz : ((v.tag.t == 0) && (v.tag.p == 0))
  · have : verNone v = false := by simp [verNone, tag_n hz]
    simp (disch := first | omega | (simp only [World.size_alloc, size_setRow, dw_size]; done) | (simp only [World.size_alloc, size_setRow, dw_size]; omega) | (simp only [List.length_set, Array.length_toList]; omega)) [-Option.bind_some, hp_alloc_lt, hp_alloc_eq, hp_set_ne, hk, hz, this]
    (repeat (first | exact Ext.rfl | assumption | (refine Ext.al ?_ _) | (refine Ext.dw ?_) | (refine Ext.set ?_ (by first | omega | (simp only [World.size_alloc, size_setRow, dw_size]; omega)) _) | (refine Ext.tr ?_ (by assumption))))
  simp (disch := first | omega | (simp only [World.size_alloc, size_setRow, dw_size]; done) | (simp only [World.size_alloc, size_setRow, dw_size]; omega) | (simp only [List.length_set, Array.length_toList]; omega)) [-Option.bind_some, hp_alloc_lt, hp_alloc_eq, hp_set_ne, hk, hz]
  refine Ret.bind (slices_Equal_Tag_nil (ha'.mono (Ext.keep (by (repeat (first | exact Ext.rfl | assumption | (refine Ext.al ?_ _) | (refine Ext.dw ?_) | (refine Ext.set ?_ (by first | omega | (simp only [World.size_alloc, size_setRow, dw_size]; omega)) _) | (refine Ext.tr ?_ (by assumption)))))))) ?_
  rintro _ rfl
  cases h0 : (v.past.length == 0)
  · have : verNone v = false := by simp [verNone, h0]
    simp (disch := first | omega | (simp only [World.size_alloc, size_setRow, dw_size]; done) | (simp only [World.size_alloc, size_setRow, dw_size]; omega) | (simp only [List.length_set, Array.length_toList]; omega)) [-Option.bind_some, hp_alloc_lt, hp_alloc_eq, hp_set_ne, h0, this]
    (repeat (first | exact Ext.rfl | assumption | (refine Ext.al ?_ _) | (refine Ext.dw ?_) | (refine Ext.set ?_ (by first | omega | (simp only [World.size_alloc, size_setRow, dw_size]; omega)) _) | (refine Ext.tr ?_ (by assumption))))
  cases hx : v.text.toList.isEmpty
  · have : verNone v = false := by simp [verNone, noText, hx]
    simp (disch := first | omega | (simp only [World.size_alloc, size_setRow, dw_size]; done) | (simp only [World.size_alloc, size_setRow, dw_size]; omega) | (simp only [List.length_set, Array.length_toList]; omega)) [-Option.bind_some, hp_alloc_lt, hp_alloc_eq, hp_set_ne, h0, hx, this]
    (repeat (first | exact Ext.rfl | assumption | (refine Ext.al ?_ _) | (refine Ext.dw ?_) | (refine Ext.set ?_ (by first | omega | (simp only [World.size_alloc, size_setRow, dw_size]; omega)) _) | (refine Ext.tr ?_ (by assumption))))
  cases hg : v.gone
  · have : verNone v = true := by simp only [beq_iff_eq] at hk h0; simp [verNone, noText, hk, hx, hg, tag_z hz, List.eq_nil_of_length_eq_zero h0]
    simp (disch := first | omega | (simp only [World.size_alloc, size_setRow, dw_size]; done) | (simp only [World.size_alloc, size_setRow, dw_size]; omega) | (simp only [List.length_set, Array.length_toList]; omega)) [-Option.bind_some, hp_alloc_lt, hp_alloc_eq, hp_set_ne, h0, hx, hg, this]
    (repeat (first | exact Ext.rfl | assumption | (refine Ext.al ?_ _) | (refine Ext.dw ?_) | (refine Ext.set ?_ (by first | omega | (simp only [World.size_alloc, size_setRow, dw_size]; omega)) _) | (refine Ext.tr ?_ (by assumption))))
  · have : verNone v = false := by simp [verNone, hg]
    simp (disch := first | omega | (simp only [World.size_alloc, size_setRow, dw_size]; done) | (simp only [World.size_alloc, size_setRow, dw_size]; omega) | (simp only [List.length_set, Array.length_toList]; omega)) [-Option.bind_some, hp_alloc_lt, hp_alloc_eq, hp_set_ne, h0, hx, hg, this]
    (repeat (first | exact Ext.rfl | assumption | (refine Ext.al ?_ _) | (refine Ext.dw ?_) | (refine Ext.set ?_ (by first | omega | (simp only [World.size_alloc, size_setRow, dw_size]; omega)) _) | (refine Ext.tr ?_ (by assumption))))
theorem impl_Ver_written_c {cs : List Value} {v : Ver} {w : World} (ha : rVer w cs v) : Ret (EV P 87 #[.agg cs.toArray] w) fun r => r.1 = .bool (verWr v) ∧ Ext w r.2 := by
  obtain ⟨s, rfl, ha, ht⟩ := ha
  have ha' := ha
  obtain ⟨aa, ca, hs, hm⟩ := ha.len
  subst hs
  refine Ret.enter plain mixed (impl_Ver_written_fn _ _) (by kernel_rfl) (n := 1) (by kernel_rfl) rfl ?_
  simp (disch := first | omega | (simp only [World.size_alloc, size_setRow, dw_size]; done) | (simp only [World.size_alloc, size_setRow, dw_size]; omega) | (simp only [List.length_set, Array.length_toList]; omega)) [-Option.bind_some, hp_alloc_lt, hp_alloc_eq, hp_set_ne]
  refine Ret.bind (impl_keyOk_c _ _) ?_
  rintro _ rfl
  cases hk : keyOk v.key
  · simp (disch := first | omega | (simp only [World.size_alloc, size_setRow, dw_size]; done) | (simp only [World.size_alloc, size_setRow, dw_size]; omega) | (simp only [List.length_set, Array.length_toList]; omega)) [-Option.bind_some, hp_alloc_lt, hp_alloc_eq, hp_set_ne, hk, verWr]
    (repeat (first | exact Ext.rfl | assumption | (refine Ext.al ?_ _) | (refine Ext.dw ?_) | (refine Ext.set ?_ (by first | omega | (simp only [World.size_alloc, size_setRow, dw_size]; omega)) _) | (refine Ext.tr ?_ (by assumption))))
  simp (disch := first | omega | (simp only [World.size_alloc, size_setRow, dw_size]; done) | (simp only [World.size_alloc, size_setRow, dw_size]; omega) | (simp only [List.length_set, Array.length_toList]; omega)) [-Option.bind_some, hp_alloc_lt, hp_alloc_eq, hp_set_ne, hk]
  refine Ret.bind (impl_textOk_c ht _) ?_
  rintro _ rfl
  cases hx : textOk v.text
  · simp (disch := first | omega | (simp only [World.size_alloc, size_setRow, dw_size]; done) | (simp only [World.size_alloc, size_setRow, dw_size]; omega) | (simp only [List.length_set, Array.length_toList]; omega)) [-Option.bind_some, hp_alloc_lt, hp_alloc_eq, hp_set_ne, hx, verWr]
    (repeat (first | exact Ext.rfl | assumption | (refine Ext.al ?_ _) | (refine Ext.dw ?_) | (refine Ext.set ?_ (by first | omega | (simp only [World.size_alloc, size_setRow, dw_size]; omega)) _) | (refine Ext.tr ?_ (by assumption))))
  have fin : ∀ w1, Ext w w1 → (v.gone = false ∨ v.text.toList.isEmpty = true) → Ret (EV P 55 #[.agg #[.slice aa v.past.length ca]] w1) fun r => r.1 = .bool (verWr v) ∧ Ext w r.2 := by
    intro w1 hE hg
    refine Ret.mono (impl_PastOk_c (ha'.mono (Ext.keep hE))) ?_
    rintro r ⟨h1, h2⟩
    have : (!v.gone || noText v.text) = true := by rcases hg with h | h <;> simp [h, noText]
    exact ⟨by rw [h1]; simp [verWr, hk, hx, this], hE.tr h2⟩
  cases hg : v.gone
  · simp (disch := first | omega | (simp only [World.size_alloc, size_setRow, dw_size]; done) | (simp only [World.size_alloc, size_setRow, dw_size]; omega) | (simp only [List.length_set, Array.length_toList]; omega)) [-Option.bind_some, hp_alloc_lt, hp_alloc_eq, hp_set_ne, hx, hg]
    refine Ret.bind (fin _ (by (repeat (first | exact Ext.rfl | assumption | (refine Ext.al ?_ _) | (refine Ext.dw ?_) | (refine Ext.set ?_ (by first | omega | (simp only [World.size_alloc, size_setRow, dw_size]; omega)) _) | (refine Ext.tr ?_ (by assumption))))) (.inl hg)) ?_
    rintro ⟨_, w1⟩ ⟨rfl, hE⟩
    simp (disch := first | omega | (simp only [World.size_alloc, size_setRow, dw_size]; done) | (simp only [World.size_alloc, size_setRow, dw_size]; omega) | (simp only [List.length_set, Array.length_toList]; omega)) [-Option.bind_some, hp_alloc_lt, hp_alloc_eq, hp_set_ne]
    exact hE
  · cases he : v.text.toList.isEmpty
    · have : verWr v = false := by simp [verWr, hg, noText, he]
      simp (disch := first | omega | (simp only [World.size_alloc, size_setRow, dw_size]; done) | (simp only [World.size_alloc, size_setRow, dw_size]; omega) | (simp only [List.length_set, Array.length_toList]; omega)) [-Option.bind_some, hp_alloc_lt, hp_alloc_eq, hp_set_ne, hx, hg, he, this]
      (repeat (first | exact Ext.rfl | assumption | (refine Ext.al ?_ _) | (refine Ext.dw ?_) | (refine Ext.set ?_ (by first | omega | (simp only [World.size_alloc, size_setRow, dw_size]; omega)) _) | (refine Ext.tr ?_ (by assumption))))
    · simp (disch := first | omega | (simp only [World.size_alloc, size_setRow, dw_size]; done) | (simp only [World.size_alloc, size_setRow, dw_size]; omega) | (simp only [List.length_set, Array.length_toList]; omega)) [-Option.bind_some, hp_alloc_lt, hp_alloc_eq, hp_set_ne, hx, hg, he]
      refine Ret.bind (fin _ (by (repeat (first | exact Ext.rfl | assumption | (refine Ext.al ?_ _) | (refine Ext.dw ?_) | (refine Ext.set ?_ (by first | omega | (simp only [World.size_alloc, size_setRow, dw_size]; omega)) _) | (refine Ext.tr ?_ (by assumption))))) (.inr he)) ?_
      rintro ⟨_, w1⟩ ⟨rfl, hE⟩
      simp (disch := first | omega | (simp only [World.size_alloc, size_setRow, dw_size]; done) | (simp only [World.size_alloc, size_setRow, dw_size]; omega) | (simp only [List.length_set, Array.length_toList]; omega)) [-Option.bind_some, hp_alloc_lt, hp_alloc_eq, hp_set_ne]
      exact hE
theorem impl_VerOk_c {cs : List Value} {v : Ver} {w : World} (ha : rVer w cs v) : Ret (EV P 71 #[.agg cs.toArray] w) fun r => r.1 = .bool (verOk v) ∧ Ext w r.2 := by
  have hav := ha
  obtain ⟨s, rfl, ha, ht⟩ := ha
  have ha' := ha
  obtain ⟨aa, ca, hs, hm⟩ := ha.len
  subst hs
  refine Ret.enter plain mixed (impl_VerOk_fn _ _) (by kernel_rfl) (n := 1) (by kernel_rfl) rfl ?_
  simp (disch := first | omega | (simp only [World.size_alloc, size_setRow, dw_size]; done) | (simp only [World.size_alloc, size_setRow, dw_size]; omega) | (simp only [List.length_set, Array.length_toList]; omega)) [-Option.bind_some, hp_alloc_lt, hp_alloc_eq, hp_set_ne]
  refine Ret.bind (impl_Ver_written_c (hav.mono (Ext.keep (by (repeat (first | exact Ext.rfl | assumption | (refine Ext.al ?_ _) | (refine Ext.dw ?_) | (refine Ext.set ?_ (by first | omega | (simp only [World.size_alloc, size_setRow, dw_size]; omega)) _) | (refine Ext.tr ?_ (by assumption)))))))) ?_
  rintro ⟨_, w1⟩ ⟨rfl, hE⟩
  have hE' : Ext w w1 := Ext.tr (by (repeat (first | exact Ext.rfl | assumption | (refine Ext.al ?_ _) | (refine Ext.dw ?_) | (refine Ext.set ?_ (by first | omega | (simp only [World.size_alloc, size_setRow, dw_size]; omega)) _) | (refine Ext.tr ?_ (by assumption))))) hE
  have hx1 : hp w1 w.heap.size = some (.cells #[i64 v.key, i64 v.tag.t, i64 v.tag.p, Value.slice aa v.past.length ca, .string v.text, .bool v.gone] 58 (0, 0)) := (hE.blk (by simp)).trans ((hp_dw _ _).trans (hp_alloc_eq rfl))
  cases hw : verWr v
  · simp (disch := first | omega | (simp only [World.size_alloc, size_setRow, dw_size]; done) | (simp only [World.size_alloc, size_setRow, dw_size]; omega) | (simp only [List.length_set, Array.length_toList]; omega)) [-Option.bind_some, hp_alloc_lt, hp_alloc_eq, hp_set_ne, hw, verOk]
    exact hE'
  simp (disch := first | omega | (simp only [World.size_alloc, size_setRow, dw_size]; done) | (simp only [World.size_alloc, size_setRow, dw_size]; omega) | (simp only [List.length_set, Array.length_toList]; omega)) [-Option.bind_some, hp_alloc_lt, hp_alloc_eq, hp_set_ne, hw, hx1]
  refine Ret.bind (impl_TagOk_c v.tag _) ?_
  rintro ⟨_, w2⟩ ⟨rfl, hE2⟩
  have hx2 := (hE2.blk (hp_lt hx1)).trans hx1
  cases hg : tagOk v.tag
  · simp (disch := first | omega | (simp only [World.size_alloc, size_setRow, dw_size]; done) | (simp only [World.size_alloc, size_setRow, dw_size]; omega) | (simp only [List.length_set, Array.length_toList]; omega)) [-Option.bind_some, hp_alloc_lt, hp_alloc_eq, hp_set_ne, hg, hx2, hx1, verOk]
    exact hE'.tr hE2
  simp (disch := first | omega | (simp only [World.size_alloc, size_setRow, dw_size]; done) | (simp only [World.size_alloc, size_setRow, dw_size]; omega) | (simp only [List.length_set, Array.length_toList]; omega)) [-Option.bind_some, hp_alloc_lt, hp_alloc_eq, hp_set_ne, hg, hx1, hx2]
  refine Ret.bind (impl_Past_latest_c (ha'.mono (Ext.keep (hE'.tr hE2)))) ?_
  rintro ⟨_, w3⟩ ⟨rfl, hE3⟩
  have hx3 := (hE3.blk (hp_lt hx2)).trans hx2
  simp (disch := first | omega | (simp only [World.size_alloc, size_setRow, dw_size]; done) | (simp only [World.size_alloc, size_setRow, dw_size]; omega) | (simp only [List.length_set, Array.length_toList]; omega)) [-Option.bind_some, hp_alloc_lt, hp_alloc_eq, hp_set_ne, hx3, hx2, hx1, verOk, hw, hg]
  exact (hE'.tr hE2).tr hE3
theorem impl_PastNone_c (w : World) : Ret (EV P 36 #[] w) fun r => ∃ g, r.1 = .agg #[.slice (some ⟨g, 0, none⟩) 4 4] ∧ w.heap.size ≤ g ∧ hp r.2 g = some (.cells #[i64 0, i64 0, i64 0, i64 0, i64 0, i64 0, i64 0, i64 0] 53 (0, 0)) ∧ Ext w r.2 := by
  refine Ret.enter plain mixed (impl_PastNone_fn _) (by kernel_rfl) (n := 0) (by kernel_rfl) rfl ?_
  have hmk := fun w => ms_eq (P := P) el_49 (z := [i64 0, i64 0]) (by kernel_rfl) rfl (by omega) (l := 4) (c := 4) (by omega) (by omega) (by omega) (by omega) w
  simp only [show (4 : Int).toNat = 4 from rfl, zrep, List.append_nil, List.cons_append, List.nil_append] at hmk
  simp (disch := first | omega | (simp only [World.size_alloc, size_setRow, dw_size]; done) | (simp only [World.size_alloc, size_setRow, dw_size]; omega) | (simp only [List.length_set, Array.length_toList]; omega)) [-Option.bind_some, hp_alloc_lt, hp_alloc_eq, hp_set_ne, hmk]
  (repeat (first | exact Ext.rfl | assumption | (refine Ext.al ?_ _) | (refine Ext.dw ?_) | (refine Ext.set ?_ (by first | omega | (simp only [World.size_alloc, size_setRow, dw_size]; omega)) _) | (refine Ext.tr ?_ (by assumption))))
theorem impl_StoreOk_l {s : Value} {vs : List Ver} {b t : Nat} : ∀ (d k : Nat) (e : Env) (w : World), k + d = vs.length → e 1 = pt b 0 → e 6 = s → e 7 = i64 vs.length → e 8 = i64 k → hp w b = some (.cells #[s] t (0, 0)) → rVers w s vs →
    Ret (impl_StoreOk_l1 e w) fun r => r.1 = .bool (slots k (vs.drop k) && (vs.length == 4)) ∧ Ext w r.2 := by
  intro d
  induction d with
  | zero =>
    intro k e w hd h1 h6 h7 h8 hx ha
    obtain ⟨aa, ca, hs, hm⟩ := ha.len
    rw [impl_StoreOk_l1_eq]
    subst hs
    have hq : ((vs.length : Int) == 4) = (vs.length == 4) := by rw [Bool.eq_iff_iff]; simp only [beq_iff_eq]; omega
    simp (disch := first | omega | (simp only [World.size_alloc, size_setRow, dw_size]; done) | (simp only [World.size_alloc, size_setRow, dw_size]; omega) | (simp only [List.length_set, Array.length_toList]; omega)) [-Option.bind_some, hp_alloc_lt, hp_alloc_eq, hp_set_ne, h1, h6, h7, h8, hx, show ¬ k < vs.length by omega, show vs.length ≤ k by omega, hq]
    rw [List.drop_eq_nil_of_le (by omega)]
    exact ⟨by simp [slots], by (repeat (first | exact Ext.rfl | assumption | (refine Ext.al ?_ _) | (refine Ext.dw ?_) | (refine Ext.set ?_ (by first | omega | (simp only [World.size_alloc, size_setRow, dw_size]; omega)) _) | (refine Ext.tr ?_ (by assumption))))⟩
  | succ d ih =>
    intro k e w hd h1 h6 h7 h8 hx ha
    obtain ⟨aa, ca, hs, hm⟩ := ha.len
    rw [impl_StoreOk_l1_eq]
    have hlt : k < vs.length := by omega
    obtain ⟨v, hv, hdx⟩ := drop_at hlt
    obtain ⟨b1, o1, c1, cs, hs1, hA, hcs⟩ := ha.at hv
    have hcs' := hcs
    obtain ⟨sp, rfl, hsp, hts⟩ := hcs'
    obtain ⟨ap, cp, hsp', hpl⟩ := hsp.len
    subst hsp'
    have p0 := hA 0 _ rfl
    have p1 := hA 1 _ rfl
    have p2 := hA 2 _ rfl
    have p3 := hA 3 _ rfl
    have p4 := hA 4 _ rfl
    have p5 := hA 5 _ rfl
    simp only [Nat.add_zero] at p0
    have hsl : slots k (vs.drop k) = (slotOk k v && slots (k + 1) (vs.drop (k + 1))) := by rw [hdx]; rfl
    have next : ∀ w1, Ext w w1 → slotOk k v = true → ∀ e : Env, e 1 = pt b 0 → e 6 = s → e 7 = i64 vs.length → e 8 = i64 (k + 1 : Nat) → Ret (impl_StoreOk_l1 e w1) fun r => r.1 = .bool (slots k (vs.drop k) && (vs.length == 4)) ∧ Ext w r.2 := by
      intro w1 hE ho e h1 h6 h7 h8
      refine Ret.mono (ih (k + 1) e w1 (by omega) h1 h6 h7 h8 ((hE.blk (hp_lt hx)).trans hx) (ha.mono (Ext.keep hE))) ?_
      rintro r ⟨h4, h5⟩
      exact ⟨by rw [h4, hsl, ho, Bool.true_and], hE.tr h5⟩
    have cnt : i64 (IntKind.i64.wrap ((k : Int) + 1)) = i64 (k + 1 : Nat) := congrArg i64 (w64 (by omega) (by omega))
    subst hs1
    simp (disch := first | omega | (simp only [World.size_alloc, size_setRow, dw_size]; done) | (simp only [World.size_alloc, size_setRow, dw_size]; omega) | (simp only [List.length_set, Array.length_toList]; omega)) [-Option.bind_some, hp_alloc_lt, hp_alloc_eq, hp_set_ne, h1, h6, h7, h8, hlt, ia_45, p0, p1, p2, p3, p4, p5]
    refine Ret.bind (impl_Ver_same_c (cs := [i64 v.key, i64 v.tag.t, i64 v.tag.p, .slice ap v.past.length cp, .string v.text, .bool v.gone]) (hcs.mono (Ext.keep (by (repeat (first | exact Ext.rfl | assumption | (refine Ext.al ?_ _) | (refine Ext.dw ?_) | (refine Ext.set ?_ (by first | omega | (simp only [World.size_alloc, size_setRow, dw_size]; omega)) _) | (refine Ext.tr ?_ (by assumption)))))))) ?_
    rintro ⟨_, w1⟩ ⟨rfl, hE⟩
    have hE' : Ext w w1 := Ext.tr (by (repeat (first | exact Ext.rfl | assumption | (refine Ext.al ?_ _) | (refine Ext.dw ?_) | (refine Ext.set ?_ (by first | omega | (simp only [World.size_alloc, size_setRow, dw_size]; omega)) _) | (refine Ext.tr ?_ (by assumption))))) hE
    have hx1 : hp w1 w.heap.size = some (.cells #[i64 v.key, i64 v.tag.t, i64 v.tag.p, .slice ap v.past.length cp, .string v.text, .bool v.gone] 58 (0, 0)) := (hE.blk (by simp)).trans (by simp (disch := first | omega | (simp only [World.size_alloc, size_setRow, dw_size]; done) | (simp only [World.size_alloc, size_setRow, dw_size]; omega) | (simp only [List.length_set, Array.length_toList]; omega)) [-Option.bind_some, hp_alloc_lt, hp_alloc_eq, hp_set_ne])
    cases hn : verNone v
    case true =>
      simp (disch := first | omega | (simp only [World.size_alloc, size_setRow, dw_size]; done) | (simp only [World.size_alloc, size_setRow, dw_size]; omega) | (simp only [List.length_set, Array.length_toList]; omega)) [-Option.bind_some, hp_alloc_lt, hp_alloc_eq, hp_set_ne, hn, h8]
      exact next w1 hE' (by simp [slotOk, hn]) _ h1 h6 h7 cnt
    simp (disch := first | omega | (simp only [World.size_alloc, size_setRow, dw_size]; done) | (simp only [World.size_alloc, size_setRow, dw_size]; omega) | (simp only [List.length_set, Array.length_toList]; omega)) [-Option.bind_some, hp_alloc_lt, hp_alloc_eq, hp_set_ne, hn, hx1]
    refine Ret.bind (impl_VerOk_c (cs := [i64 v.key, i64 v.tag.t, i64 v.tag.p, .slice ap v.past.length cp, .string v.text, .bool v.gone]) (hcs.mono (Ext.keep hE'))) ?_
    rintro ⟨_, w2⟩ ⟨rfl, hE2⟩
    have hx2 := (hE2.blk (hp_lt hx1)).trans hx1
    have hE3 := hE'.tr hE2
    cases hvo : verOk v
    · simp (disch := first | omega | (simp only [World.size_alloc, size_setRow, dw_size]; done) | (simp only [World.size_alloc, size_setRow, dw_size]; omega) | (simp only [List.length_set, Array.length_toList]; omega)) [-Option.bind_some, hp_alloc_lt, hp_alloc_eq, hp_set_ne, hvo, hsl, slotOk, hn]
      exact hE3
    cases hk : (v.key != (k : Int))
    case true =>
      simp (disch := first | omega | (simp only [World.size_alloc, size_setRow, dw_size]; done) | (simp only [World.size_alloc, size_setRow, dw_size]; omega) | (simp only [List.length_set, Array.length_toList]; omega)) [-Option.bind_some, hp_alloc_lt, hp_alloc_eq, hp_set_ne, hvo, hx2, hk, hsl, slotOk, hn]
      simp only [bne_iff_ne, ne_eq] at hk
      exact ⟨fun h => (hk h).elim, hE3⟩
    simp (disch := first | omega | (simp only [World.size_alloc, size_setRow, dw_size]; done) | (simp only [World.size_alloc, size_setRow, dw_size]; omega) | (simp only [List.length_set, Array.length_toList]; omega)) [-Option.bind_some, hp_alloc_lt, hp_alloc_eq, hp_set_ne, hvo, hx2, hk, h8]
    simp only [bne_eq_false_iff_eq] at hk
    exact next w2 hE3 (by simp [slotOk, hvo, hk]) _ h1 h6 h7 cnt
theorem impl_StoreOk_c {s : Value} {vs : List Ver} {w : World} (ha : rVers w s vs) : Ret (EV P 68 #[.agg #[s]] w) fun r => r.1 = .bool (storeOk vs) ∧ Ext w r.2 := by
  have ha' := ha
  obtain ⟨aa, ca, hs, hm⟩ := ha.len
  subst hs
  refine Ret.enter plain mixed (impl_StoreOk_fn _ _) (by kernel_rfl) (n := 1) (by kernel_rfl) rfl ?_
  simp (disch := first | omega | (simp only [World.size_alloc, size_setRow, dw_size]; done) | (simp only [World.size_alloc, size_setRow, dw_size]; omega) | (simp only [List.length_set, Array.length_toList]; omega)) [-Option.bind_some, hp_alloc_lt, hp_alloc_eq, hp_set_ne]
  refine Ret.mono (impl_StoreOk_l vs.length 0 _ _ (by omega) rfl rfl rfl rfl (hp_alloc_eq rfl) (ha'.mono (Ext.keep (by (repeat (first | exact Ext.rfl | assumption | (refine Ext.al ?_ _) | (refine Ext.dw ?_) | (refine Ext.set ?_ (by first | omega | (simp only [World.size_alloc, size_setRow, dw_size]; omega)) _) | (refine Ext.tr ?_ (by assumption)))))))) ?_
  rintro r ⟨h1, h2⟩
  exact ⟨h1, (Ext.al Ext.rfl _).tr h2⟩
theorem impl_Store_tags_l {s : Value} {vs : List Ver} {b2 b3 g : Nat} {w0 : World} (h4 : vs.length = 4) (h02 : w0.heap.size ≤ b2) (h03 : w0.heap.size ≤ b3) (h0g : w0.heap.size ≤ g) (h23 : b2 ≠ b3) (hg2 : g ≠ b2) (hg3 : g ≠ b3) :
    ∀ (d k : Nat) (e : Env) (w : World) (cur : Array Value) (c0 : Value), k + d = vs.length → e 2 = pt b2 0 → e 3 = pt b3 0 → e 8 = s → e 9 = i64 4 → e 10 = i64 k →
    hp w b2 = some (.cells #[c0] 51 (0, 0)) → hp w b3 = some (.cells #[.slice (some ⟨g, 0, none⟩) 4 4] 51 (0, 0)) → hp w g = some (.cells cur 53 (0, 0)) → cur.size = 8 → cur.toList.take (k * 2) = tagCs (tagsOf (vs.take k)) →
    rVers w0 s vs → Ext w0 w →
    Ret (impl_Store_tags_l1 e w) fun r => r.1 = .agg #[.slice (some ⟨g, 0, none⟩) 4 4] ∧ (∃ c : Array Value, hp r.2 g = some (.cells c 53 (0, 0)) ∧ c.toList = tagCs (tagsOf vs)) ∧ Ext w0 r.2 := by
  intro d
  induction d with
  | zero =>
    intro k e w cur c0 hd h2 h3 h8 h9 h10 hx2 hx3 hg hc ht ha hE
    obtain rfl : k = 4 := by omega
    rw [impl_Store_tags_l1_eq]
    simp (disch := first | omega | (simp only [World.size_alloc, size_setRow, dw_size]; done) | (simp only [World.size_alloc, size_setRow, dw_size]; omega) | (simp only [List.length_set, Array.length_toList]; omega)) [-Option.bind_some, hp_alloc_lt, hp_alloc_eq, hp_set_ne, h2, h3, h8, h9, h10, hx2, hx3]
    rw [List.take_of_length_le (by simp; omega), List.take_of_length_le (by omega)] at ht
    exact ⟨⟨cur, hg, ht⟩, by (repeat (first | exact Ext.rfl | assumption | (refine Ext.al ?_ _) | (refine Ext.dw ?_) | (refine Ext.set ?_ (by first | omega | (simp only [World.size_alloc, size_setRow, dw_size]; omega)) _) | (refine Ext.tr ?_ (by assumption))))⟩
  | succ d ih =>
    intro k e w cur c0 hd h2 h3 h8 h9 h10 hx2 hx3 hg hc ht ha hE
    rw [impl_Store_tags_l1_eq]
    have hlt : k < vs.length := by omega
    have hlt4 : k < 4 := by omega
    obtain ⟨v, hv, hdx⟩ := drop_at hlt
    obtain ⟨b1, o1, c1, cs, hs1, hA0, hcs⟩ := ha.at hv
    have hA := hA0.mono (Ext.keep hE)
    obtain ⟨sp, rfl, hsp, hts⟩ := hcs
    obtain ⟨ap, cp, hsp', hpl⟩ := hsp.len
    subst hsp'
    have p0 := hA 0 _ rfl
    have p1 := hA 1 _ rfl
    have p2 := hA 2 _ rfl
    have p3 := hA 3 _ rfl
    have p4 := hA 4 _ rfl
    have p5 := hA 5 _ rfl
    simp only [Nat.add_zero] at p0
    have l2 := hp_lt hx2
    have l3 := hp_lt hx3
    have lg := hp_lt hg
    have hkk : k * 2 + 2 ≤ cur.size := by omega
    have hpt := row_put (cur := cur) (vs := tagC v.tag) (n := 4) (m := 2) hc hlt4 rfl
    subst hs1
    simp (disch := first | omega | (simp only [World.size_alloc, size_setRow, dw_size]; done) | (simp only [World.size_alloc, size_setRow, dw_size]; omega) | (simp only [List.length_set, Array.length_toList]; omega)) [-Option.bind_some, hp_alloc_lt, hp_alloc_eq, hp_set_ne, h2, h3, h8, h9, h10, hlt, hlt4, show (k : Int) < 4 by omega, ia_45, ia_49, p0, p1, p2, p3, p4, p5, hx3, hg, hkk]
    refine Ret.mono (ih (k + 1) _ _ _ c0 (by omega) h2 h3 h8 h9 (congrArg i64 (w64 (by omega) (by omega))) (by simp (disch := first | omega | (simp only [World.size_alloc, size_setRow, dw_size]; done) | (simp only [World.size_alloc, size_setRow, dw_size]; omega) | (simp only [List.length_set, Array.length_toList]; omega)) [-Option.bind_some, hp_alloc_lt, hp_alloc_eq, hp_set_ne, hx2]) (by simp (disch := first | omega | (simp only [World.size_alloc, size_setRow, dw_size]; done) | (simp only [World.size_alloc, size_setRow, dw_size]; omega) | (simp only [List.length_set, Array.length_toList]; omega)) [-Option.bind_some, hp_alloc_lt, hp_alloc_eq, hp_set_ne, hx3]) (by rw [hp_set_eq, hp_set_ne (by omega), hp_alloc_lt lg, hg]; rfl) (by simpa using hpt.1)
      ?_ ha (by (repeat (first | exact Ext.rfl | assumption | (refine Ext.al ?_ _) | (refine Ext.dw ?_) | (refine Ext.set ?_ (by first | omega | (simp only [World.size_alloc, size_setRow, dw_size]; omega)) _) | (refine Ext.tr ?_ (by assumption)))))) fun _ h => h
    rw [take_at hv]
    have : tagsOf (vs.take k ++ [v]) = tagsOf (vs.take k) ++ [v.tag] := by simp [tagsOf]
    rw [this, tagCs_app, ← ht]
    simpa [tagCs] using hpt.2
theorem impl_Store_tags_c {s : Value} {vs : List Ver} (h4 : vs.length = 4) {w : World} (ha : rVers w s vs) : Ret (EV P 49 #[.agg #[s]] w) fun r => ∃ s', r.1 = .agg #[s'] ∧ fTags 53 w.heap.size r.2 s' (tagsOf vs) ∧ Ext w r.2 := by
  have ha' := ha
  obtain ⟨aa, ca, hs, hm⟩ := ha.len
  subst hs
  refine Ret.enter plain mixed (impl_Store_tags_fn _ _) (by kernel_rfl) (n := 1) (by kernel_rfl) rfl ?_
  simp (disch := first | omega | (simp only [World.size_alloc, size_setRow, dw_size]; done) | (simp only [World.size_alloc, size_setRow, dw_size]; omega) | (simp only [List.length_set, Array.length_toList]; omega)) [-Option.bind_some, hp_alloc_lt, hp_alloc_eq, hp_set_ne]
  refine Ret.bind (impl_PastNone_c _) ?_
  rintro ⟨_, w1⟩ ⟨g, rfl, hg0, hg, hE⟩
  have hsz := hE.size
  have hgl := hp_lt hg
  simp only [World.size_alloc] at hsz hg0 hgl
  have hx1 := (hE.blk (b := w.heap.size) (by simp only [World.size_alloc]; omega)).trans ((hp_alloc_lt (by simp)).trans (hp_alloc_eq rfl))
  have hx2 := (hE.blk (b := w.heap.size + 1) (by simp)).trans (hp_alloc_eq (by simp))
  simp (disch := first | omega | (simp only [World.size_alloc, size_setRow, dw_size]; done) | (simp only [World.size_alloc, size_setRow, dw_size]; omega) | (simp only [List.length_set, Array.length_toList]; omega)) [-Option.bind_some, hp_alloc_lt, hp_alloc_eq, hp_set_ne, hx1, hE.blk]
  refine Ret.mono (impl_Store_tags_l (s := .slice aa vs.length ca) (vs := vs) (b2 := w.heap.size + 1) (b3 := w1.heap.size) (g := g) (w0 := w) h4 (by omega) (by omega) (by omega) (by omega) (by omega) (by omega) vs.length 0 _ _ _ _ (by omega) rfl rfl rfl (congrArg i64 (show (vs.length : Int) = 4 by omega)) rfl
    ((hp_set_ne (by omega)).trans ((hp_alloc_lt (by omega)).trans hx2)) (by rw [hp_set_eq, hp_alloc_eq rfl]; rfl) ((hp_set_ne (by omega)).trans ((hp_alloc_lt (by omega)).trans hg)) rfl rfl ha' (by (repeat (first | exact Ext.rfl | assumption | (refine Ext.al ?_ _) | (refine Ext.dw ?_) | (refine Ext.set ?_ (by first | omega | (simp only [World.size_alloc, size_setRow, dw_size]; omega)) _) | (refine Ext.tr ?_ (by assumption)))))) ?_
  rintro ⟨_, w2⟩ ⟨rfl, ⟨c, hc, hl⟩, hE2⟩
  have hsz : c.size = (tagsOf vs).length * 2 := by rw [← tagCs_length, ← hl]; simp
  have htl : (tagsOf vs).length = 4 := by simp [tagsOf, h4]
  refine ⟨_, rfl, ⟨⟨by rw [tagCs_length], by omega, .inr ⟨g, 4, c, by rw [htl], by omega, hc, by omega, by omega, by omega, ?_⟩⟩, by omega⟩, hE2⟩
  rw [hl, ← tagCs_length, List.take_length]
theorem slices_IndexFunc_Ver_l {s f : Value} {xs : List Ver} {p : Ver → Bool} {w0 : World} (hf : ∀ x ∈ xs, ∀ cs w, Ext w0 w → rVer w cs x → Ret (clo P f #[.agg cs.toArray] w) fun r => r.1 = .bool (p x) ∧ Ext w r.2) :
    ∀ (d k : Nat) (e : Env) (w : World), k + d = xs.length → e 0 = s → e 1 = f → e 7 = i64 xs.length → e 8 = i64 k → rVers w0 s xs → Ext w0 w →
    Ret (slices_IndexFunc_Ver_l1 e w) fun r => ∃ i : Int, r.1 = i64 i ∧ decide (0 ≤ i) = (xs.drop k).any p ∧ Ext w0 r.2 := by
  intro d
  induction d with
  | zero =>
    intro k e w hd h0 h1 h7 h8 ha hE
    rw [slices_IndexFunc_Ver_l1_eq]
    simp (disch := first | omega | (simp only [World.size_alloc, size_setRow, dw_size]; done) | (simp only [World.size_alloc, size_setRow, dw_size]; omega) | (simp only [List.length_set, Array.length_toList]; omega)) [-Option.bind_some, hp_alloc_lt, hp_alloc_eq, hp_set_ne, h0, h1, h7, h8, show ¬ k < xs.length by omega, show xs.length ≤ k by omega]
    rw [List.drop_eq_nil_of_le (by omega)]
    exact ⟨by simp, hE⟩
  | succ d ih =>
    intro k e w hd h0 h1 h7 h8 ha hE
    obtain ⟨aa, ca, hs, hm⟩ := ha.len
    rw [slices_IndexFunc_Ver_l1_eq]
    have hlt : k < xs.length := by omega
    obtain ⟨x, hx, hdx⟩ := drop_at hlt
    obtain ⟨b1, o1, c1, cs, hs1, hA0, hcs0⟩ := ha.at hx
    have hcs := hcs0.mono (Ext.keep hE)
    have hla := At.ld (P := P) (t := 58) (by kernel_rfl) (by rw [hcs.length]; kernel_rfl) (hA0.mono (Ext.keep hE))
    rw [hdx]
    subst hs1
    simp (disch := first | omega | (simp only [World.size_alloc, size_setRow, dw_size]; done) | (simp only [World.size_alloc, size_setRow, dw_size]; omega) | (simp only [List.length_set, Array.length_toList]; omega)) [-Option.bind_some, hp_alloc_lt, hp_alloc_eq, hp_set_ne, h0, h1, h7, h8, hlt, ia_45, hla, -ld_58]
    refine Ret.bind (hf x (List.mem_of_getElem? hx) cs _ hE hcs) ?_
    rintro ⟨_, w1⟩ ⟨rfl, hE1⟩
    cases hp : p x
    · simp (disch := first | omega | (simp only [World.size_alloc, size_setRow, dw_size]; done) | (simp only [World.size_alloc, size_setRow, dw_size]; omega) | (simp only [List.length_set, Array.length_toList]; omega)) [-Option.bind_some, hp_alloc_lt, hp_alloc_eq, hp_set_ne, hp, h8]
      refine Ret.mono (ih (k + 1) _ w1 (by omega) h0 h1 h7 (congrArg i64 (w64 (by omega) (by omega))) ha (hE.tr hE1)) ?_
      rintro r ⟨i, h2, h3, h4⟩
      exact ⟨i, h2, by simpa [hp] using h3, h4⟩
    · simp (disch := first | omega | (simp only [World.size_alloc, size_setRow, dw_size]; done) | (simp only [World.size_alloc, size_setRow, dw_size]; omega) | (simp only [List.length_set, Array.length_toList]; omega)) [-Option.bind_some, hp_alloc_lt, hp_alloc_eq, hp_set_ne, hp]
      exact hE.tr hE1
theorem slices_ContainsFunc_Ver_c {s f : Value} {xs : List Ver} {p : Ver → Bool} {w : World} (ha : rVers w s xs) (hf : ∀ x ∈ xs, ∀ cs w', Ext w w' → rVer w' cs x → Ret (clo P f #[.agg cs.toArray] w') fun r => r.1 = .bool (p x) ∧ Ext w' r.2) :
    Ret (EV P 69 #[s, f] w) fun r => r.1 = .bool (xs.any p) ∧ Ext w r.2 := by
  have ha' := ha
  obtain ⟨aa, ca, hs, hm⟩ := ha.len
  subst hs
  have hi : Ret (EV P 86 #[.slice aa xs.length ca, f] w) fun r => ∃ i : Int, r.1 = i64 i ∧ decide (0 ≤ i) = xs.any p ∧ Ext w r.2 := by
    refine Ret.enter plain mixed (slices_IndexFunc_Ver_fn _ _ _) (by kernel_rfl) (n := 2) (by kernel_rfl) rfl ?_
    simp (disch := first | omega | (simp only [World.size_alloc, size_setRow, dw_size]; done) | (simp only [World.size_alloc, size_setRow, dw_size]; omega) | (simp only [List.length_set, Array.length_toList]; omega)) [-Option.bind_some, hp_alloc_lt, hp_alloc_eq, hp_set_ne]
    exact slices_IndexFunc_Ver_l hf xs.length 0 _ w (by omega) rfl rfl rfl rfl ha' Ext.rfl
  refine Ret.enter plain mixed (slices_ContainsFunc_Ver_fn _ _ _) (by kernel_rfl) (n := 2) (by kernel_rfl) rfl ?_
  simp (disch := first | omega | (simp only [World.size_alloc, size_setRow, dw_size]; done) | (simp only [World.size_alloc, size_setRow, dw_size]; omega) | (simp only [List.length_set, Array.length_toList]; omega)) [-Option.bind_some, hp_alloc_lt, hp_alloc_eq, hp_set_ne]
  refine Ret.bind hi ?_
  rintro ⟨_, w1⟩ ⟨i, rfl, h2, hE⟩
  simp (disch := first | omega | (simp only [World.size_alloc, size_setRow, dw_size]; done) | (simp only [World.size_alloc, size_setRow, dw_size]; omega) | (simp only [List.length_set, Array.length_toList]; omega)) [-Option.bind_some, hp_alloc_lt, hp_alloc_eq, hp_set_ne, h2]
  exact hE
theorem slices_Clone_Tag_c {s : Value} {xs : List Tag} {w : World} (ha : rTags w s xs) : Ret (EV P 95 #[s] w) fun r => fTags 53 w.heap.size r.2 r.1 xs ∧ Ext w r.2 := by
  have ha' := ha
  obtain ⟨⟨aa, ca, hs, hn, hA⟩, hm⟩ := ha
  subst hs
  refine Ret.enter plain mixed (slices_Clone_Tag_fn _ _) (by kernel_rfl) (n := 1) (by kernel_rfl) rfl ?_
  have hnil := bo_eql_nil (P := P) el_49
  cases aa with
  | none =>
    have hx : xs = [] := by
      rcases hA with h | ⟨b, o, h, _⟩
      · have := congrArg List.length h
        rw [tagCs_length] at this
        exact List.eq_nil_of_length_eq_zero (by simp only [List.length_nil] at this; omega)
      · cases h
    subst hx
    simp (disch := first | omega | (simp only [World.size_alloc, size_setRow, dw_size]; done) | (simp only [World.size_alloc, size_setRow, dw_size]; omega) | (simp only [List.length_set, Array.length_toList]; omega)) [-Option.bind_some, hp_alloc_lt, hp_alloc_eq, hp_set_ne, hnil]
    exact ⟨⟨Own.nil _ _ _ _, by simp⟩, by (repeat (first | exact Ext.rfl | assumption | (refine Ext.al ?_ _) | (refine Ext.dw ?_) | (refine Ext.set ?_ (by first | omega | (simp only [World.size_alloc, size_setRow, dw_size]; omega)) _) | (refine Ext.tr ?_ (by assumption))))⟩
  | some a =>
    simp (disch := first | omega | (simp only [World.size_alloc, size_setRow, dw_size]; done) | (simp only [World.size_alloc, size_setRow, dw_size]; omega) | (simp only [List.length_set, Array.length_toList]; omega)) [-Option.bind_some, hp_alloc_lt, hp_alloc_eq, hp_set_ne, hnil]
    have hown : Own (w.alloc (.cells #[] 53)) w.heap.size 53 2 (.slice (some ⟨w.heap.size, 0, none⟩) 0 0) 0 [] :=
      ⟨rfl, by omega, .inr ⟨w.heap.size, 0, #[], rfl, by omega, hp_alloc_eq rfl, by omega, by omega, by simp, by simp⟩⟩
    by_cases h0 : xs.length = 0
    · have hx : xs = [] := List.eq_nil_of_length_eq_zero h0
      subst hx
      simp (disch := first | omega | (simp only [World.size_alloc, size_setRow, dw_size]; done) | (simp only [World.size_alloc, size_setRow, dw_size]; omega) | (simp only [List.length_set, Array.length_toList]; omega)) [-Option.bind_some, hp_alloc_lt, hp_alloc_eq, hp_set_ne, app_none (P := P) (ty := 49) el_49]
      exact ⟨⟨hown, by simp⟩, by (repeat (first | exact Ext.rfl | assumption | (refine Ext.al ?_ _) | (refine Ext.dw ?_) | (refine Ext.set ?_ (by first | omega | (simp only [World.size_alloc, size_setRow, dw_size]; omega)) _) | (refine Ext.tr ?_ (by assumption))))⟩
    · obtain ⟨b, o, hab, hA2⟩ : ∃ b o, some a = some ⟨b, o, none⟩ ∧ At w b o (tagCs xs) := by
        rcases hA with h | h
        · have := congrArg List.length h
          rw [tagCs_length] at this
          simp at this
          omega
        · exact h
      cases hab
      refine Ret.bind (app_own (P := P) el_49 (z := [i64 0, i64 0]) (by kernel_rfl) rfl (by omega) hown (by simp) (hA2.mono fun b hb => hp_alloc_lt hb) (tagCs_length xs) ?_ (by omega) (by omega) (by omega)) ?_
      · rw [List.all_eq_true]
        intro v hv
        simp only [tagCs, List.mem_flatten, List.mem_map] at hv
        obtain ⟨l, ⟨t, _, rfl⟩, hv⟩ := hv
        simp only [List.mem_cons, List.not_mem_nil, or_false] at hv
        rcases hv with rfl | rfl <;> rfl
      rintro ⟨s', w1⟩ ⟨h1, h2, _⟩
      try dsimp only at *
      simp only [Nat.zero_add, List.nil_append] at h1
      simp (disch := first | omega | (simp only [World.size_alloc, size_setRow, dw_size]; done) | (simp only [World.size_alloc, size_setRow, dw_size]; omega) | (simp only [List.length_set, Array.length_toList]; omega)) [-Option.bind_some, hp_alloc_lt, hp_alloc_eq, hp_set_ne]
      exact ⟨⟨h1, hm⟩, Ext.but (b := w.alloc _) (by (repeat (first | exact Ext.rfl | assumption | (refine Ext.al ?_ _) | (refine Ext.dw ?_) | (refine Ext.set ?_ (by first | omega | (simp only [World.size_alloc, size_setRow, dw_size]; omega)) _) | (refine Ext.tr ?_ (by assumption))))) h2 fun x hx => by simp only [blkOf, Option.some.injEq] at hx; omega⟩
theorem slices_Clip_Tag_c {B : Nat} {s : Value} {xs : List Tag} {w : World} (hf : fTags 53 B w s xs) : Ret (EV P 94 #[s] w) fun r => r.2 = w ∧ fTags 53 B w r.1 xs := by
  obtain ⟨⟨hl, hn, ho⟩, hm⟩ := hf
  refine Ret.enter plain mixed (slices_Clip_Tag_fn _ _) (by kernel_rfl) (n := 1) (by kernel_rfl) rfl ?_
  rcases ho with ⟨rfl, h0⟩ | ⟨g, cap, cur, rfl, hg, hh, hc, hcm, hsz, ht⟩
  · simp (disch := first | omega | (simp only [World.size_alloc, size_setRow, dw_size]; done) | (simp only [World.size_alloc, size_setRow, dw_size]; omega) | (simp only [List.length_set, Array.length_toList]; omega)) [-Option.bind_some, hp_alloc_lt, hp_alloc_eq, hp_set_ne, sl_hm (P := P) el_49]
    have hx : xs = [] := List.eq_nil_of_length_eq_zero h0
    subst hx
    exact ⟨Own.nil _ _ _ _, by simp⟩
  · simp (disch := first | omega | (simp only [World.size_alloc, size_setRow, dw_size]; done) | (simp only [World.size_alloc, size_setRow, dw_size]; omega) | (simp only [List.length_set, Array.length_toList]; omega)) [-Option.bind_some, hp_alloc_lt, hp_alloc_eq, hp_set_ne, sl_hm (P := P) el_49]
    exact ⟨⟨hl, hn, .inr ⟨g, xs.length, cur, rfl, hg, hh, by omega, by omega, by omega, ht⟩⟩, hm⟩
theorem impl_Past_copied_c {s : Value} {xs : List Tag} {w : World} (ha : rTags w s xs) : Ret (EV P 80 #[.agg #[s]] w) fun r => ∃ s', r.1 = .agg #[s'] ∧ fTags 53 w.heap.size r.2 s' xs ∧ Ext w r.2 := by
  have ha' := ha
  obtain ⟨aa, ca, hs, hm⟩ := ha.len
  subst hs
  refine Ret.enter plain mixed (impl_Past_copied_fn _ _) (by kernel_rfl) (n := 1) (by kernel_rfl) rfl ?_
  simp (disch := first | omega | (simp only [World.size_alloc, size_setRow, dw_size]; done) | (simp only [World.size_alloc, size_setRow, dw_size]; omega) | (simp only [List.length_set, Array.length_toList]; omega)) [-Option.bind_some, hp_alloc_lt, hp_alloc_eq, hp_set_ne]
  refine Ret.bind (slices_Clone_Tag_c (ha'.mono (Ext.keep (by (repeat (first | exact Ext.rfl | assumption | (refine Ext.al ?_ _) | (refine Ext.dw ?_) | (refine Ext.set ?_ (by first | omega | (simp only [World.size_alloc, size_setRow, dw_size]; omega)) _) | (refine Ext.tr ?_ (by assumption)))))))) ?_
  rintro ⟨s1, w1⟩ ⟨hf, hE⟩
  try dsimp only at *
  have z1 := hE.size
  simp only [World.size_alloc] at z1 hf
  refine Ret.bind (slices_Clip_Tag_c hf) ?_
  rintro ⟨s2, w2⟩ ⟨rfl, hf2⟩
  try dsimp only at *
  obtain ⟨a2, c2, hs2, _⟩ := hf2.r.len
  subst hs2
  have X2 := (hE.blk (b := w.heap.size + 1) (by simp)).trans (hp_alloc_eq (by simp))
  simp (disch := first | omega | (simp only [World.size_alloc, size_setRow, dw_size]; done) | (simp only [World.size_alloc, size_setRow, dw_size]; omega) | (simp only [List.length_set, Array.length_toList]; omega)) [-Option.bind_some, hp_alloc_lt, hp_alloc_eq, hp_set_ne, X2]
  refine ⟨(hf2.keep fun b hb => ?_).from (by omega), by (repeat (first | exact Ext.rfl | assumption | (refine Ext.al ?_ _) | (refine Ext.dw ?_) | (refine Ext.set ?_ (by first | omega | (simp only [World.size_alloc, size_setRow, dw_size]; omega)) _) | (refine Ext.tr ?_ (by assumption))))⟩
  have := (hf2.lt b hb).1
  exact hp_set_ne (by omega)
theorem laws_cfPast_l {s u : Value} {xs : List Tag} {b c t t' : Nat} : ∀ (d k : Nat) (e : Env) (w : World), k + d = xs.length → e 2 = pt b 0 → e 3 = pt c 0 → e 5 = i64 k →
    hp w b = some (.cells #[s] t (0, 0)) → hp w c = some (.cells #[u] t' (0, 0)) → rTags w s xs → rTags w u xs →
    Ret (laws_cfPast_l1 e w) fun r => r.1 = .bool true ∧ Ext w r.2 := by
  intro d
  induction d with
  | zero =>
    intro k e w hd h2 h3 h5 hx hy ha hb
    rw [laws_cfPast_l1_eq]
    obtain ⟨aa, ca, hs, hm⟩ := ha.len
    subst hs
    simp (disch := first | omega | (simp only [World.size_alloc, size_setRow, dw_size]; done) | (simp only [World.size_alloc, size_setRow, dw_size]; omega) | (simp only [List.length_set, Array.length_toList]; omega)) [-Option.bind_some, hp_alloc_lt, hp_alloc_eq, hp_set_ne, h2, h3, h5, hx, show ¬ k < xs.length by omega, show xs.length ≤ k by omega]
    (repeat (first | exact Ext.rfl | assumption | (refine Ext.al ?_ _) | (refine Ext.dw ?_) | (refine Ext.set ?_ (by first | omega | (simp only [World.size_alloc, size_setRow, dw_size]; omega)) _) | (refine Ext.tr ?_ (by assumption))))
  | succ d ih =>
    intro k e w hd h2 h3 h5 hx hy ha hb
    rw [laws_cfPast_l1_eq]
    obtain ⟨_, _, _, hm⟩ := ha.len
    have hlt : k < xs.length := by omega
    obtain ⟨x, hxk, _⟩ := drop_at hlt
    obtain ⟨b1, o1, c1, hs1, hA⟩ := ha.at hxk
    obtain ⟨b2, o2, c2, hs2, hB⟩ := hb.at hxk
    have p0 := hA 0 _ rfl
    have p1 := hA 1 _ rfl
    have q0 := hB 0 _ rfl
    have q1 := hB 1 _ rfl
    simp only [Nat.add_zero] at p0 q0
    subst hs1
    subst hs2
    simp (disch := first | omega | (simp only [World.size_alloc, size_setRow, dw_size]; done) | (simp only [World.size_alloc, size_setRow, dw_size]; omega) | (simp only [List.length_set, Array.length_toList]; omega)) [-Option.bind_some, hp_alloc_lt, hp_alloc_eq, hp_set_ne, h2, h3, h5, hx, hy, hlt, ia_49, p0, p1, q0, q1]
    refine Ret.mono (ih (k + 1) _ _ (by omega) h2 h3 (congrArg i64 (w64 (by omega) (by omega))) ((hp_dw _ _).trans hx) ((hp_dw _ _).trans hy) (ha.mono (Ext.keep (dw_ext w))) (hb.mono (Ext.keep (dw_ext w)))) ?_
    rintro r ⟨h6, h7⟩
    exact ⟨h6, (dw_ext w).tr h7⟩
theorem laws_cfPast_c {s u : Value} {xs : List Tag} {w : World} (ha : rTags w s xs) (hb : rTags w u xs) : Ret (EV P 17 #[.agg #[s], .agg #[u]] w) fun r => r.1 = .bool true ∧ Ext w r.2 := by
  have ha' := ha
  have hb' := hb
  obtain ⟨aa, ca, hs, hm⟩ := ha.len
  obtain ⟨ab, cb, hu, _⟩ := hb.len
  subst hs
  subst hu
  refine Ret.enter plain mixed (laws_cfPast_fn _ _ _) (by kernel_rfl) (n := 2) (by kernel_rfl) rfl ?_
  simp (disch := first | omega | (simp only [World.size_alloc, size_setRow, dw_size]; done) | (simp only [World.size_alloc, size_setRow, dw_size]; omega) | (simp only [List.length_set, Array.length_toList]; omega)) [-Option.bind_some, hp_alloc_lt, hp_alloc_eq, hp_set_ne, bne_self_eq_false]
  refine Ret.mono (laws_cfPast_l (c := w.heap.size + 1) xs.length 0 _ _ (by omega) rfl rfl rfl ((hp_alloc_lt (by simp)).trans (hp_alloc_eq rfl)) (hp_alloc_eq (by simp)) (ha'.mono (Ext.keep (by (repeat (first | exact Ext.rfl | assumption | (refine Ext.al ?_ _) | (refine Ext.dw ?_) | (refine Ext.set ?_ (by first | omega | (simp only [World.size_alloc, size_setRow, dw_size]; omega)) _) | (refine Ext.tr ?_ (by assumption))))))) (hb'.mono (Ext.keep (by (repeat (first | exact Ext.rfl | assumption | (refine Ext.al ?_ _) | (refine Ext.dw ?_) | (refine Ext.set ?_ (by first | omega | (simp only [World.size_alloc, size_setRow, dw_size]; omega)) _) | (refine Ext.tr ?_ (by assumption)))))))) ?_
  rintro r ⟨h1, h2⟩
  exact ⟨h1, (Ext.al (Ext.al Ext.rfl _) _).tr h2⟩
theorem impl_Past_join_l {u sv : Value} {xs ys : List Tag} {b4 b5 B : Nat} {w0 : World} (hl4 : xs.length = ys.length) (h04 : w0.heap.size ≤ b4) (h05 : w0.heap.size ≤ b5) (h0B : w0.heap.size ≤ B) (hne : ∀ b ∈ (blkOf sv).toList, b ≠ b4 ∧ b ≠ b5) (h45 : b4 ≠ b5) (hym : ys.length ≤ 8796093021952) :
    ∀ (d k : Nat) (e : Env) (w : World) (c0 : Value), k + d = ys.length → e 4 = pt b4 0 → e 5 = pt b5 0 → e 11 = u → e 12 = i64 ys.length → e 13 = i64 k →
    hp w b4 = some (.cells #[c0] 51 (0, 0)) → hp w b5 = some (.cells #[sv] 51 (0, 0)) → rTags w0 u ys → Ext w0 w → fTags 53 B w sv ((joinT xs ys).take k ++ xs.drop k) →
    Ret (impl_Past_join_l1 e w) fun r => r.1 = .agg #[sv] ∧ fTags 53 B r.2 sv (joinT xs ys) ∧ Ext w0 r.2 := by
  have hjl : (joinT xs ys).length = xs.length := joinT_length hl4
  intro d
  induction d with
  | zero =>
    intro k e w c0 hd h4 h5 h11 h12 h13 hx4 hx5 hb hE hf
    rw [impl_Past_join_l1_eq]
    rw [List.take_of_length_le (by omega), List.drop_eq_nil_of_le (by omega), List.append_nil] at hf
    obtain ⟨ab, cb, hsv, _⟩ := hf.r.len
    subst hsv
    obtain rfl : k = ys.length := by omega
    simp (disch := first | omega | (simp only [World.size_alloc, size_setRow, dw_size]; done) | (simp only [World.size_alloc, size_setRow, dw_size]; omega) | (simp only [List.length_set, Array.length_toList]; omega)) [-Option.bind_some, hp_alloc_lt, hp_alloc_eq, hp_set_ne, h4, h5, h11, h12, h13, hx4, hx5]
    exact ⟨hf.keep fun b hb => hp_set_ne (hne b hb).1, by (repeat (first | exact Ext.rfl | assumption | (refine Ext.al ?_ _) | (refine Ext.dw ?_) | (refine Ext.set ?_ (by first | omega | (simp only [World.size_alloc, size_setRow, dw_size]; omega)) _) | (refine Ext.tr ?_ (by assumption))))⟩
  | succ d ih =>
    intro k e w c0 hd h4 h5 h11 h12 h13 hx4 hx5 hb hE hf
    rw [impl_Past_join_l1_eq]
    have hlt : k < ys.length := by omega
    have hlx : k < xs.length := by omega
    obtain ⟨x, hxk, hdx⟩ := drop_at hlx
    obtain ⟨y, hyk, _⟩ := drop_at hlt
    obtain ⟨b2, o2, c2, hs2, hB⟩ := (hb.mono (Ext.keep hE)).at hyk
    have q0 := hB 0 _ rfl
    have q1 := hB 1 _ rfl
    have hL : ((joinT xs ys).take k ++ xs.drop k).length = xs.length := by simp only [List.length_append, List.length_take, List.length_drop]; omega
    have hLk : ((joinT xs ys).take k ++ xs.drop k)[k]? = some x := by
      rw [List.getElem?_append_right (by simp only [List.length_take]; omega), List.length_take, hjl, show k - min k xs.length = 0 by omega, hdx]; rfl
    obtain ⟨d1, o1, c1, hs1, hA⟩ := hf.r.at hLk
    obtain ⟨g, cap, cur, hs, hg, hgl, hh, hle, hput⟩ := hf.put (j := k) (by omega)
    rw [hL] at hs1 hs hle
    have hin := hs1.symm.trans hs
    simp only [Value.slice.injEq, Option.some.injEq, Addr.mk.injEq, true_and, and_true] at hin
    obtain ⟨⟨rfl, rfl⟩, rfl⟩ := hin
    have p0 := hA 0 _ rfl
    have p1 := hA 1 _ rfl
    simp only [Nat.add_zero, Nat.zero_add] at p0 p1 q0
    have hb2 := hB.lt
    have l5 := hp_lt hx5
    have hgn := hne d1 (by simp [hs, blkOf])
    have hg4 : b4 ≠ d1 := fun e => hgn.1 e.symm
    have hg5 : b5 ≠ d1 := fun e => hgn.2 e.symm
    subst hs2
    subst hs
    simp (disch := first | omega | (simp only [World.size_alloc, size_setRow, dw_size]; done) | (simp only [World.size_alloc, size_setRow, dw_size]; omega) | (simp only [List.length_set, Array.length_toList]; omega)) [-Option.bind_some, hp_alloc_lt, hp_alloc_eq, hp_set_ne, h4, h5, h11, h12, h13, hx5, hlt, hlx, ia_49, p0, p1, q0, q1]
    refine Ret.bind (impl_TagMax_c x y _) ?_
    rintro ⟨_, w1⟩ ⟨rfl, hE1⟩
    try dsimp only at *
    have E1 : Ext w w1 := Ext.tr (by (repeat (first | exact Ext.rfl | assumption | (refine Ext.al ?_ _) | (refine Ext.dw ?_) | (refine Ext.set ?_ (by first | omega | (simp only [World.size_alloc, size_setRow, dw_size]; omega)) _) | (refine Ext.tr ?_ (by assumption))))) hE1
    have X5 := (E1.blk l5).trans hx5
    have G1 := (E1.blk hgl).trans hh
    have X4 := (E1.blk (hp_lt hx4)).trans hx4
    simp (disch := first | omega | (simp only [World.size_alloc, size_setRow, dw_size]; done) | (simp only [World.size_alloc, size_setRow, dw_size]; omega) | (simp only [List.length_set, Array.length_toList]; omega)) [-Option.bind_some, hp_alloc_lt, hp_alloc_eq, hp_set_ne, X5, G1, hlx, ia_49, splice_two, -splice_eq, show k * 2 + 2 ≤ cur.size by omega, show k * 2 + 1 < cur.size by omega, h13]
    refine Ret.mono (ih (k + 1) _ _ c0 (by omega) h4 h5 h11 h12 (congrArg i64 (w64 (by omega) (by omega))) ((hp_set_ne hg4).trans X4) ((hp_set_ne hg5).trans X5) hb (Ext.set (hE.tr E1) (by omega) _) ?_) fun _ h => h
    rw [← joinT_put hxk hyk hl4]
    refine hput (tagMax x y) _ ?_
    rw [hp_set_eq, G1]; rfl
theorem impl_Past_join_c {s u : Value} {xs ys : List Tag} (hl4 : xs.length = ys.length) {w : World} (ha : rTags w s xs) (hb : rTags w u ys) : Ret (EV P 58 #[.agg #[s], .agg #[u]] w) fun r => ∃ s', r.1 = .agg #[s'] ∧ fTags 53 w.heap.size r.2 s' (joinT xs ys) ∧ Ext w r.2 := by
  have ha' := ha
  have hb' := hb
  obtain ⟨aa, ca, hs, hm⟩ := ha.len
  obtain ⟨ab, cb, hu, hym⟩ := hb.len
  subst hs
  subst hu
  refine Ret.enter plain mixed (impl_Past_join_fn _ _ _) (by kernel_rfl) (n := 2) (by kernel_rfl) rfl ?_
  simp (disch := first | omega | (simp only [World.size_alloc, size_setRow, dw_size]; done) | (simp only [World.size_alloc, size_setRow, dw_size]; omega) | (simp only [List.length_set, Array.length_toList]; omega)) [-Option.bind_some, hp_alloc_lt, hp_alloc_eq, hp_set_ne]
  refine Ret.bind (impl_Past_copied_c (ha'.mono (Ext.keep (by (repeat (first | exact Ext.rfl | assumption | (refine Ext.al ?_ _) | (refine Ext.dw ?_) | (refine Ext.set ?_ (by first | omega | (simp only [World.size_alloc, size_setRow, dw_size]; omega)) _) | (refine Ext.tr ?_ (by assumption)))))))) ?_
  rintro ⟨_, w1⟩ ⟨s1, rfl, hf, hE⟩
  try dsimp only at *
  have z1 := hE.size
  simp only [World.size_alloc] at z1 hf
  have Y1 := (hE.blk (b := w.heap.size + 1) (by simp only [World.size_alloc]; omega)).trans ((hp_alloc_lt (by simp)).trans (hp_alloc_eq (by simp)))
  have Z1 := (hE.blk (b := w.heap.size + 1 + 1) (by simp)).trans (hp_alloc_eq (by simp))
  obtain ⟨a1, c1, hs1, _⟩ := hf.r.len
  subst hs1
  simp (disch := first | omega | (simp only [World.size_alloc, size_setRow, dw_size]; done) | (simp only [World.size_alloc, size_setRow, dw_size]; omega) | (simp only [List.length_set, Array.length_toList]; omega)) [-Option.bind_some, hp_alloc_lt, hp_alloc_eq, hp_set_ne, Y1]
  have D1 : Ext w1 ((w1.alloc (.cells #[.slice none 0 0] 51)).setRow w1.heap.size #[.slice a1 xs.length c1]) := by (repeat (first | exact Ext.rfl | assumption | (refine Ext.al ?_ _) | (refine Ext.dw ?_) | (refine Ext.set ?_ (by first | omega | (simp only [World.size_alloc, size_setRow, dw_size]; omega)) _) | (refine Ext.tr ?_ (by assumption))))
  refine Ret.mono (impl_Past_join_l (u := .slice ab ys.length cb) (sv := .slice a1 xs.length c1) (xs := xs) (ys := ys) (b4 := w.heap.size + 1 + 1) (b5 := w1.heap.size) (B := w.heap.size + 3) (w0 := w) hl4 (by omega) (by omega) (by omega) (fun b hb => by have := hf.lt b hb; omega) (by omega) hym ys.length 0 _ _ _ (by omega) rfl rfl rfl rfl rfl
    ((hp_set_ne (by omega)).trans ((hp_alloc_lt (by omega)).trans Z1)) (by rw [hp_set_eq, hp_alloc_eq rfl]; rfl) hb' (Ext.tr (by (repeat (first | exact Ext.rfl | assumption | (refine Ext.al ?_ _) | (refine Ext.dw ?_) | (refine Ext.set ?_ (by first | omega | (simp only [World.size_alloc, size_setRow, dw_size]; omega)) _) | (refine Ext.tr ?_ (by assumption))))) D1) ?_) ?_
  · rw [List.take_zero, List.nil_append, List.drop_zero]
    exact hf.keep fun b hb => D1.blk (hf.lt b hb).2
  rintro ⟨_, w2⟩ ⟨rfl, h1, h2⟩
  try dsimp only at *
  exact ⟨_, rfl, h1.from (by omega), h2⟩
end Go.Proofs.YtligcpabhddggaaGreat.X
set_option maxHeartbeats 1000000
namespace Go.Proofs.YtligcpabhddggaaGreat.X
open Go Go.Ev Go.RowKit
abbrev tTags : Lay (List Tag) := LTags 53
abbrev tVer : Lay Ver := LVer 53
abbrev tVers : Lay (List Ver) := LVers 53 58
theorem At.new {w : World} {cs : List Value} {E : TypeId} : At (w.alloc (.cells cs.toArray E)) w.heap.size 0 cs := by
  intro j v hv
  rw [hp_alloc_eq rfl, cellO_some, ← nth_eq, Nat.zero_add]
  simpa using hv
theorem impl_Past_copied_n {a : Option Addr} {n c : Nat} {S : Nat → Prop} {xs : List Tag} {w : World} (ha : D tTags S w [.slice a n c] xs) :
    Ret (EV P 80 #[.agg #[.slice a n c]] w) fun r => ∃ a' c', r.1 = .agg #[.slice a' xs.length c'] ∧ O tTags (In w.heap.size r.2.heap.size) r.2 [.slice a' xs.length c'] xs ∧ Ext w r.2 := by
  refine Ret.mono (impl_Past_copied_c ha.rTags) ?_
  rintro ⟨_, w1⟩ ⟨s, rfl, h1, h2⟩
  obtain ⟨a', c', rfl, h3⟩ := tags_os h1
  exact ⟨a', c', rfl, h3, h2⟩
theorem impl_Ver_copied_n {S : Nat → Prop} {cs : List Value} {v : Ver} {w : World} (ha : D tVer S w cs v) :
    Ret (EV P 103 #[.agg cs.toArray] w) fun r => ∃ ds, r.1 = .agg ds.toArray ∧ O tVer (In w.heap.size r.2.heap.size) r.2 ds v ∧ Ext w r.2 := by
  obtain ⟨a, c, rfl, h1, h2⟩ := D.ver.1 ha
  refine Ret.enter plain mixed (impl_Ver_copied_fn _ _) (by kernel_rfl) (n := 1) (by kernel_rfl) rfl ?_
  simp (disch := first | exact xD | fail) [-Option.bind_some, qs]
  refine Ret.bind (impl_Past_copied_n (h1.ext xE)) ?_
  rintro ⟨_, w1⟩ ⟨a1, c1, rfl, o1, E1⟩
  try dsimp only at a1 c1 o1 E1
  have zE1 := E1.size
  try simp only [qz] at zE1
  simp (disch := first | exact xD | fail) [-Option.bind_some, qs, E1.blk]
  refine ⟨(O.ver.2 ⟨a1, c1, rfl, o1.keep (by intro b hS hb; (try dsimp only at hS); (try simp only [In, qz] at hS hb); first | rfl | (simp (disch := first | exact xF | fail) only [E1.blk, qk]; done)), h2⟩).wide ?_, xE⟩
  intro b hS hb
  simp only [In, World.size_alloc, size_setRow] at *
  omega
theorem impl_versCopied_n1 {a : Option Addr} {c : Nat} {S : Nat → Prop} {xs : List Ver} {w0 : World} :
    ∀ (d k : Nat) (e : Env) (w : World) (a3 : Option Addr) (c3 : Nat), k + d = xs.length → e 3 = .slice a3 k c3 → e 9 = .slice a xs.length c → e 10 = i64 xs.length → e 11 = i64 k → D tVers S w0 [.slice a xs.length c] xs → Ext w0 w →
    O tVers (In w0.heap.size w.heap.size) w [.slice a3 k c3] (xs.take k) →
    Ret (impl_versCopied_l1 e w) fun r => ∃ a' c', r.1 = .slice a' xs.length c' ∧ O tVers (In w0.heap.size r.2.heap.size) r.2 [.slice a' xs.length c'] xs ∧ Ext w0 r.2 := by
  intro d
  induction d with
  | zero =>
    intro k e w a3 c3 hd e3 e9 e10 e11 ha E0 ho
    have zE0 := E0.size
    try simp only [qz] at zE0
    rw [impl_versCopied_l1_eq]
    obtain rfl : k = xs.length := by omega
    rw [List.take_length] at ho
    simp (disch := first | exact xD | fail) [-Option.bind_some, qs, e3, e9, e10, e11, E0.blk]
    exact ⟨_, _, ⟨rfl, rfl⟩, ho, E0⟩
  | succ d ih =>
    intro k e w a3 c3 hd e3 e9 e10 e11 ha E0 ho
    have zE0 := E0.size
    try simp only [qz] at zE0
    rw [impl_versCopied_l1_eq]
    have hlt : k < xs.length := by omega
    obtain ⟨x, hx, _⟩ := drop_at hlt
    have hn := ha.n
    obtain ⟨b1, o1, cs1, rfl, A1, D1, _, l1⟩ := (ha.ext E0).at (by decide) hx
    obtain ⟨a2, c2, rfl, hp2, ht⟩ := D.ver.1 D1
    have p0 := A1 0 _ rfl
    have p1 := A1 1 _ rfl
    have p2 := A1 2 _ rfl
    have p3 := A1 3 _ rfl
    have p4 := A1 4 _ rfl
    have p5 := A1 5 _ rfl
    simp only [LVer_n, LTag_n, LNode_n, Nat.add_zero] at p0 p1 p2 p3 p4 p5
    have htk : (xs.take k).length = k := by rw [List.length_take]; omega
    simp (disch := first | exact xD | fail) [-Option.bind_some, qs, ia_45, e3, e9, e10, e11, E0.blk, hlt, p0, p1, p2, p3, p4, p5]
    refine Ret.bind (impl_Ver_copied_n (D1.ext xE)) ?_
    rintro ⟨_, w1⟩ ⟨ds, rfl, o2, E1⟩
    try dsimp only at ds o2 E1
    have zE1 := E1.size
    try simp only [qz] at zE1
    have zds := O.ver.1 o2
    obtain ⟨a4, c4, rfl, _, _⟩ := zds
    simp (disch := first | exact xD | fail) [-Option.bind_some, qs, e3, e9, e10, e11, E0.blk, hlt, p0, p1, p2, p3, p4, p5, E1.blk]
    refine Ret.bind (O.app (mx := 1954687338211) el_45 zz_58 rfl (by decide) (ho.keep (by intro b hS hb; (try dsimp only at hS); (try simp only [In, qz] at hS hb); first | rfl | (simp (disch := first | exact xF | fail) only [E0.blk, E1.blk, qk]; done))) (o2.keep (by intro b hS hb; (try dsimp only at hS); (try simp only [In, qz] at hS hb); first | rfl | (simp (disch := first | exact xF | fail) only [E0.blk, E1.blk, qk]; done))) (by intro b hb h1 h2; simp only [In, World.size_alloc, size_setRow] at *; omega) At.new (by omega) (by decide) (by decide)) ?_
    rintro ⟨_, w2⟩ ⟨a5, c5, rfl, o3, M2⟩
    have zM2 := M2.size
    try simp only [qz] at zM2
    try dsimp only at o3 M2
    have zM2 := M2.size
    simp only [World.size_alloc, size_setRow] at zM2
    rw [htk, ← take_at hx] at o3
    rw [htk]
    simp (disch := first | exact xD | fail) [-Option.bind_some, qs, e3, e9, e10, e11, E0.blk, hlt, p0, p1, p2, p3, p4, p5, E1.blk, M2.blk]
    refine Ret.mono (ih (k + 1) _ _ a5 c5 (by omega) xA xA xA xA ha ?_ (o3.wide ?_)) fun _ h => h
    · exact Mod.after (E0.tr xE) M2 (by intro x hx h; simp only [In] at h; omega)
    · intro b h1 h2
      simp only [In, World.size_alloc, size_setRow] at *
      omega
theorem impl_versCopied_n {a : Option Addr} {n c : Nat} {S : Nat → Prop} {xs : List Ver} {w : World} (ha : D tVers S w [.slice a n c] xs) :
    Ret (EV P 98 #[.slice a n c] w) fun r => ∃ a' c', r.1 = .slice a' xs.length c' ∧ O tVers (In w.heap.size r.2.heap.size) r.2 [.slice a' xs.length c'] xs ∧ Ext w r.2 := by
  obtain ⟨rfl, hm, _⟩ := ha.n
  refine Ret.enter plain mixed (impl_versCopied_fn _ _) (by kernel_rfl) (n := 1) (by kernel_rfl) rfl ?_
  simp (disch := first | exact xD | fail) [-Option.bind_some, qs]
  refine Ret.bind (O.make0 (L := tVer) (mx := 1954687338211) el_45 zz_58 rfl (by decide) hm (by decide) (by decide)) ?_
  rintro ⟨_, w1⟩ ⟨rfl, o1, z1, E1⟩
  have zE1 := E1.size
  try simp only [qz] at zE1
  dsimp only at o1 z1 E1
  simp (disch := first | exact xD | fail) [-Option.bind_some, qs, E1.blk]
  exact impl_versCopied_n1 xs.length 0 _ w1 _ _ (by omega) rfl rfl rfl rfl ha E1 (o1.wide (by intro b h1 h2; simp only [In]; omega))
theorem impl_Store_copied_n {a : Option Addr} {n c : Nat} {S : Nat → Prop} {xs : List Ver} {w : World} (ha : D tVers S w [.slice a n c] xs) :
    Ret (EV P 89 #[.agg #[.slice a n c]] w) fun r => ∃ a' c', r.1 = .agg #[.slice a' xs.length c'] ∧ O tVers (In w.heap.size r.2.heap.size) r.2 [.slice a' xs.length c'] xs ∧ Ext w r.2 := by
  obtain ⟨rfl, hm, _⟩ := ha.n
  refine Ret.enter plain mixed (impl_Store_copied_fn _ _) (by kernel_rfl) (n := 1) (by kernel_rfl) rfl ?_
  simp (disch := first | exact xD | fail) [-Option.bind_some, qs]
  refine Ret.bind (impl_versCopied_n (ha.ext xE)) ?_
  rintro ⟨_, w1⟩ ⟨a1, c1, rfl, o1, E1⟩
  try dsimp only at a1 c1 o1 E1
  have zE1 := E1.size
  try simp only [qz] at zE1
  simp (disch := first | exact xD | fail) [-Option.bind_some, qs, E1.blk]
  exact ⟨_, _, ⟨rfl, rfl⟩, (o1.keep (by intro b hS hb; (try dsimp only at hS); (try simp only [In, qz] at hS hb); first | rfl | (simp (disch := first | exact xF | fail) only [E1.blk, qk]; done))).wide (by intro b h1 h2; simp only [In, World.size_alloc, size_setRow] at *; omega), xE⟩
theorem impl_Store_later_n {a : Option Addr} {n c : Nat} {S S1 : Nat → Prop} {xs : List Ver} {cs : List Value} {v u : Ver} {w : World} (ho : D tVers S w [.slice a n c] xs) (hv : D tVer S1 w cs v) (h0 : 0 ≤ v.key) (hu : xs[v.key.toNat]? = some u) :
    Ret (EV P 90 #[.agg #[.slice a n c], .agg cs.toArray] w) fun r => r.1 = .bool (tagLess u.tag v.tag) ∧ Ext w r.2 := by
  obtain ⟨rfl, hm, _⟩ := ho.n
  obtain ⟨av, cv, rfl, hv1, hv2⟩ := D.ver.1 hv
  have h1 : v.key.toNat < xs.length := (List.getElem?_eq_some_iff.1 hu).1
  obtain ⟨b1, o1, cs1, rfl, A1, D1, _, l1⟩ := ho.at (by decide) hu
  obtain ⟨a2, c2, rfl, hp2, ht⟩ := D.ver.1 D1
  have p0 := A1 0 _ rfl
  have p1 := A1 1 _ rfl
  have p2 := A1 2 _ rfl
  have p3 := A1 3 _ rfl
  have p4 := A1 4 _ rfl
  have p5 := A1 5 _ rfl
  simp only [LVer_n, LTag_n, LNode_n, Nat.add_zero] at p0 p1 p2 p3 p4 p5
  have hk : v.key < xs.length := by omega
  refine Ret.enter plain mixed (impl_Store_later_fn _ _ _) (by kernel_rfl) (n := 2) (by kernel_rfl) rfl ?_
  simp (disch := first | exact xD | fail) [-Option.bind_some, qs, ia_45, p0, p1, p2, p3, p4, p5]
  refine Ret.bind (impl_TagLess_c u.tag v.tag _) ?_
  rintro ⟨_, w1⟩ ⟨rfl, E1⟩
  try dsimp only at E1
  have zE1 := E1.size
  try simp only [qz] at zE1
  simp (disch := first | exact xD | fail) [-Option.bind_some, qs, p0, p1, p2, p3, p4, p5, E1.blk]
  exact xE
theorem verOk_key {v : Ver} (h : verOk v = true) : 0 ≤ v.key ∧ v.key ≤ 3 := by
  simp only [verOk, verWr, keyOk, Bool.and_eq_true, decide_eq_true_eq] at h
  omega
abbrev tNode : Lay CNode := LNode 53 58
abbrev tNodes : Lay (List CNode) := LNodes 53 58 89
def verZ : Ver := ⟨0, ⟨0, 0⟩, [], ⟨#[]⟩, false⟩
def nodeZ : CNode := ⟨List.replicate 4 verZ, []⟩
theorem zero_Ver (w : World) : O tVer (fun _ => False) w [i64 0, i64 0, i64 0, .slice none 0 0, .string ⟨#[]⟩, .bool false] verZ :=
  O.ver.2 ⟨none, 0, rfl, O.nil, by decide⟩
theorem impl_StoreNew_n (w : World) : Ret (EV P 84 #[] w) fun r => ∃ a c, r.1 = .agg #[.slice a 4 c] ∧ O tVers (In w.heap.size r.2.heap.size) r.2 [.slice a 4 c] (List.replicate 4 verZ) ∧ Ext w r.2 := by
  refine Ret.post fun Q hQ => ?_
  refine Ret.enter plain mixed (impl_StoreNew_fn _) (by kernel_rfl) (n := 0) (by kernel_rfl) rfl ?_
  simp (disch := first | exact xD | fail) [-Option.bind_some, qs]
  refine Ret.bind (O.make (L := tVer) (mx := 1954687338211) (n := 4) el_45 zz_58 rfl (by decide) zero_Ver (by decide) (by decide) (by decide)) ?_
  rintro ⟨_, w1⟩ ⟨rfl, o1, z1, E1⟩
  have zE1 := E1.size
  try simp only [qz] at zE1
  try dsimp only at o1 z1 E1
  have X1 := E1.blk (b := w.heap.size) (by simp)
  simp only [World.size_alloc] at z1 o1
  simp (disch := first | exact xD | fail) [-Option.bind_some, qs, -splice_eq, -stR_cells, qm, E1.blk, X1]
  exact hQ _ ⟨_, _, rfl, (o1.keep (by intro b hS hb; (try dsimp only at hS); (try simp only [In, qz] at hS hb); first | rfl | (simp (disch := first | exact xF | fail) only [E1.blk, qk]; done))).wide xV, xE⟩
theorem spec_l2New_n (w : World) : Ret (EV P 85 #[] w) fun r => ∃ a c, r.1 = .agg #[.slice a 4 c] ∧ O tVers (In w.heap.size r.2.heap.size) r.2 [.slice a 4 c] (List.replicate 4 verZ) ∧ Ext w r.2 := by
  refine Ret.post fun Q hQ => ?_
  refine Ret.enter plain mixed (spec_l2New_fn _) (by kernel_rfl) (n := 0) (by kernel_rfl) rfl ?_
  simp (disch := first | exact xD | fail) [-Option.bind_some, qs]
  refine Ret.bind (O.make (L := tVer) (mx := 1954687338211) (n := 4) el_45 zz_58 rfl (by decide) zero_Ver (by decide) (by decide) (by decide)) ?_
  rintro ⟨_, w1⟩ ⟨rfl, o1, z1, E1⟩
  have zE1 := E1.size
  try simp only [qz] at zE1
  try dsimp only at o1 z1 E1
  have X1 := E1.blk (b := w.heap.size) (by simp)
  simp only [World.size_alloc] at z1 o1
  simp (disch := first | exact xD | fail) [-Option.bind_some, qs, -splice_eq, -stR_cells, qm, E1.blk, X1]
  exact hQ _ ⟨_, _, rfl, (o1.keep (by intro b hS hb; (try dsimp only at hS); (try simp only [In, qz] at hS hb); first | rfl | (simp (disch := first | exact xF | fail) only [E1.blk, qk]; done))).wide xV, xE⟩
theorem impl_nodesOk_c (n : Int) (w : World) : Ret (EV P 33 #[i64 n] w) fun r => r = (.bool (decide (1 ≤ n) && decide (n ≤ 4)), w) := by
  refine Ret.post fun Q hQ => ?_
  refine Ret.enter plain mixed (impl_nodesOk_fn _ _) (by kernel_rfl) (n := 1) (by kernel_rfl) rfl ?_
  simp (disch := first | exact xD | fail) [-Option.bind_some, qs]
  refine Ret.bind (impl_within_c _ _ _ _) ?_
  rintro _ rfl
  simp (disch := first | exact xD | fail) [-Option.bind_some, qs]
  exact hQ _ rfl
def chainNewP (n : Int) : List CNode := if (decide (1 ≤ n) && decide (n ≤ 4)) then List.replicate n.toNat nodeZ else []
theorem rep_app {α : Type} (k : Nat) (x : α) : List.replicate k x ++ [x] = List.replicate (k + 1) x := by rw [List.replicate_succ']
theorem impl_ChainNew_n1 {g2 g3 B n : Nat} {w0 : World} (h2 : g2 < B) (h02 : w0.heap.size ≤ g2) (h3 : w0.heap.size ≤ g3) (h23 : g2 ≠ g3) (hn4 : n ≤ 4) :
    ∀ (d k : Nat) (e : Env) (w : World) (a3 : Option Addr) (c3 : Nat) (sv : Value), k + d = n → e 11 = i64 n → e 2 = pt g2 0 → e 3 = pt g3 0 → e 12 = i64 k → hp w g2 = some (.cells #[sv] 44 (0, 0)) → hp w g3 = some (.cells #[.slice a3 k c3] 44 (0, 0)) → Ext w0 w → B ≤ w.heap.size →
    O tNodes (fun b => In B w.heap.size b ∧ b ≠ g3) w [.slice a3 k c3] (List.replicate k nodeZ) →
    Ret (impl_ChainNew_l1 e w) fun r => ∃ a' c', r.1 = .agg #[.slice a' n c'] ∧ O tNodes (In B r.2.heap.size) r.2 [.slice a' n c'] (List.replicate n nodeZ) ∧ Ext w0 r.2 := by
  intro d
  induction d with
  | zero =>
    intro k e w a3 c3 sv hd e0 e2 e3 ei X2 X3 E0 hB ho
    have zE0 := E0.size
    try simp only [qz] at zE0
    rw [impl_ChainNew_l1_eq]
    obtain rfl : k = n := by omega
    refine Ret.post fun Q hQ => ?_
    simp (disch := first | exact xD | fail) [-Option.bind_some, qs, -splice_eq, -stR_cells, qm, e0, e2, e3, ei, X2, X3, E0.blk]
    exact hQ _ ⟨_, _, rfl, (ho.keep (by intro b hS hb; (try dsimp only at hS); (try simp only [In, qz] at hS hb); first | rfl | (simp (disch := first | exact xF | fail) only [E0.blk, qk]; done))).wide xV, xE⟩
  | succ d ih =>
    intro k e w a3 c3 sv hd e0 e2 e3 ei X2 X3 E0 hB ho
    have zE0 := E0.size
    try simp only [qz] at zE0
    rw [impl_ChainNew_l1_eq]
    have hlt : k < n := by omega
    have y2 := hp_lt X2
    have y3 := hp_lt X3
    refine Ret.post fun Q hQ => ?_
    simp (disch := first | exact xD | fail) [-Option.bind_some, qs, -splice_eq, -stR_cells, qm, e0, e2, e3, ei, X2, X3, hlt, E0.blk]
    refine Ret.bind (impl_StoreNew_n _) ?_
    rintro ⟨_, w1⟩ ⟨a1, c1, rfl, o1, E1⟩
    try dsimp only at a1 c1 o1 E1
    have zE1 := E1.size
    try simp only [qz] at zE1
    simp (disch := first | exact xD | fail) [-Option.bind_some, qs, -splice_eq, -stR_cells, qm, e0, e2, e3, ei, X2, X3, hlt, E0.blk, E1.blk]
    refine Ret.bind (O.app (L := tNode) (x := nodeZ) (mx := 2932031007317) (S1 := In (dw w).heap.size w1.heap.size) el_42 zz_89 rfl (by decide) (ho.keep (by intro b hS hb; (try dsimp only at hS); (try simp only [In, qz] at hS hb); first | rfl | (simp (disch := first | exact xF | fail) only [E0.blk, E1.blk, qk]; done))) ((O.node_mk (v := nodeZ) (S2 := fun _ => False) (o1.keep (by intro b hS hb; (try dsimp only at hS); (try simp only [In, qz] at hS hb); first | rfl | (simp (disch := first | exact xF | fail) only [E0.blk, E1.blk, qk]; done))) O.nil (fun _ _ _ h => h)).wide (by intro b h _; exact h.elim id fun h => h.elim)) (by intro b hb h1 h2; simp only [In, World.size_alloc, size_setRow, dw_size] at *; omega) At.new (by rw [List.length_replicate]; omega) (by decide) (by decide)) ?_
    rintro ⟨_, w2⟩ ⟨a5, c5, rfl, o3, M2⟩
    have zM2 := M2.size
    try simp only [qz] at zM2
    try dsimp only at o3 M2
    have zM2 := M2.size
    simp only [World.size_alloc, size_setRow] at zM2
    rw [rep_app, List.length_replicate] at o3
    rw [List.length_replicate]
    have Y2 : hp w2 g2 = hp w g2 := (M2.blk g2 xN xN).trans (by first | assumption | rfl | (simp (disch := first | exact xD | fail) [-Option.bind_some, qs, e0, e2, e3, X2, X3, E0.blk, hlt, E1.blk, M2.blk]; done))
    have Y3 : hp w2 g3 = hp w g3 := (M2.blk g3 xN xN).trans (by first | assumption | rfl | (simp (disch := first | exact xD | fail) [-Option.bind_some, qs, e0, e2, e3, X2, X3, E0.blk, hlt, E1.blk, M2.blk]; done))
    simp (disch := first | exact xD | fail) [-Option.bind_some, qs, -splice_eq, -stR_cells, qm, e0, e2, e3, ei, X2, X3, hlt, Y2, Y3, E0.blk, E1.blk, M2.blk]
    have E3 : Ext w0 w2 := Mod.after (E0.tr xE) M2 xI
    have zE3 := E3.size
    try simp only [qz] at zE3
    refine Ret.mono (ih (k + 1) _ _ a5 c5 sv (by omega) xA xA xA xA (by first | assumption | rfl | (simp (disch := first | exact xD | fail) [-Option.bind_some, qs, -splice_eq, -stR_cells, qm, Y2, X2, e0, e2, e3, X3, E0.blk, hlt, E1.blk, M2.blk, E3.blk]; done)) (by first | assumption | rfl | (simp (disch := first | exact xD | fail) [-Option.bind_some, qs, -splice_eq, -stR_cells, qm, Y3, X3, e0, e2, e3, X2, E0.blk, hlt, E1.blk, M2.blk, E3.blk]; done)) xE xN (((o3.wide (S' := fun b => In B w2.heap.size b ∧ b ≠ g3) ?_).keep (by intro b hS hb; (try dsimp only at hS); (try simp only [In, qz] at hS hb); first | rfl | (simp (disch := first | exact xF | fail) only [E0.blk, E1.blk, M2.blk, E3.blk, qk]; done))).wide ?_)) hQ
    · intro b h1 h2
      simp only [In, World.size_alloc, size_setRow, dw_size] at *
      omega
    · intro b h1 h2
      simp only [In, World.size_alloc, size_setRow, dw_size] at *
      omega
theorem spec_ChainNew_n1 {g2 g3 B n : Nat} {w0 : World} (h2 : g2 < B) (h02 : w0.heap.size ≤ g2) (h3 : w0.heap.size ≤ g3) (h23 : g2 ≠ g3) (hn4 : n ≤ 4) :
    ∀ (d k : Nat) (e : Env) (w : World) (a3 : Option Addr) (c3 : Nat) (sv : Value), k + d = n → e 0 = i64 n → e 2 = pt g2 0 → e 3 = pt g3 0 → e 4 = i64 k → hp w g2 = some (.cells #[sv] 44 (0, 0)) → hp w g3 = some (.cells #[.slice a3 k c3] 44 (0, 0)) → Ext w0 w → B ≤ w.heap.size →
    O tNodes (fun b => In B w.heap.size b ∧ b ≠ g3) w [.slice a3 k c3] (List.replicate k nodeZ) →
    Ret (spec_ChainNew_l1 e w) fun r => ∃ a' c', r.1 = .agg #[.slice a' n c'] ∧ O tNodes (In B r.2.heap.size) r.2 [.slice a' n c'] (List.replicate n nodeZ) ∧ Ext w0 r.2 := by
  intro d
  induction d with
  | zero =>
    intro k e w a3 c3 sv hd e0 e2 e3 ei X2 X3 E0 hB ho
    have zE0 := E0.size
    try simp only [qz] at zE0
    rw [spec_ChainNew_l1_eq]
    obtain rfl : k = n := by omega
    refine Ret.post fun Q hQ => ?_
    simp (disch := first | exact xD | fail) [-Option.bind_some, qs, -splice_eq, -stR_cells, qm, e0, e2, e3, ei, X2, X3, E0.blk]
    exact hQ _ ⟨_, _, rfl, (ho.keep (by intro b hS hb; (try dsimp only at hS); (try simp only [In, qz] at hS hb); first | rfl | (simp (disch := first | exact xF | fail) only [E0.blk, qk]; done))).wide xV, xE⟩
  | succ d ih =>
    intro k e w a3 c3 sv hd e0 e2 e3 ei X2 X3 E0 hB ho
    have zE0 := E0.size
    try simp only [qz] at zE0
    rw [spec_ChainNew_l1_eq]
    have hlt : k < n := by omega
    have y2 := hp_lt X2
    have y3 := hp_lt X3
    refine Ret.post fun Q hQ => ?_
    simp (disch := first | exact xD | fail) [-Option.bind_some, qs, -splice_eq, -stR_cells, qm, e0, e2, e3, ei, X2, X3, hlt, E0.blk]
    refine Ret.bind (spec_l2New_n _) ?_
    rintro ⟨_, w1⟩ ⟨a1, c1, rfl, o1, E1⟩
    try dsimp only at a1 c1 o1 E1
    have zE1 := E1.size
    try simp only [qz] at zE1
    simp (disch := first | exact xD | fail) [-Option.bind_some, qs, -splice_eq, -stR_cells, qm, e0, e2, e3, ei, X2, X3, hlt, E0.blk, E1.blk]
    refine Ret.bind (O.app (L := tNode) (x := nodeZ) (mx := 2932031007317) (S1 := In (dw w).heap.size w1.heap.size) el_42 zz_89 rfl (by decide) (ho.keep (by intro b hS hb; (try dsimp only at hS); (try simp only [In, qz] at hS hb); first | rfl | (simp (disch := first | exact xF | fail) only [E0.blk, E1.blk, qk]; done))) ((O.node_mk (v := nodeZ) (S2 := fun _ => False) (o1.keep (by intro b hS hb; (try dsimp only at hS); (try simp only [In, qz] at hS hb); first | rfl | (simp (disch := first | exact xF | fail) only [E0.blk, E1.blk, qk]; done))) O.nil (fun _ _ _ h => h)).wide (by intro b h _; exact h.elim id fun h => h.elim)) (by intro b hb h1 h2; simp only [In, World.size_alloc, size_setRow, dw_size] at *; omega) At.new (by rw [List.length_replicate]; omega) (by decide) (by decide)) ?_
    rintro ⟨_, w2⟩ ⟨a5, c5, rfl, o3, M2⟩
    have zM2 := M2.size
    try simp only [qz] at zM2
    try dsimp only at o3 M2
    have zM2 := M2.size
    simp only [World.size_alloc, size_setRow] at zM2
    rw [rep_app, List.length_replicate] at o3
    rw [List.length_replicate]
    have Y2 : hp w2 g2 = hp w g2 := (M2.blk g2 xN xN).trans (by first | assumption | rfl | (simp (disch := first | exact xD | fail) [-Option.bind_some, qs, e0, e2, e3, X2, X3, E0.blk, hlt, E1.blk, M2.blk]; done))
    have Y3 : hp w2 g3 = hp w g3 := (M2.blk g3 xN xN).trans (by first | assumption | rfl | (simp (disch := first | exact xD | fail) [-Option.bind_some, qs, e0, e2, e3, X2, X3, E0.blk, hlt, E1.blk, M2.blk]; done))
    simp (disch := first | exact xD | fail) [-Option.bind_some, qs, -splice_eq, -stR_cells, qm, e0, e2, e3, ei, X2, X3, hlt, Y2, Y3, E0.blk, E1.blk, M2.blk]
    have E3 : Ext w0 w2 := Mod.after (E0.tr xE) M2 xI
    have zE3 := E3.size
    try simp only [qz] at zE3
    refine Ret.mono (ih (k + 1) _ _ a5 c5 sv (by omega) xA xA xA xA (by first | assumption | rfl | (simp (disch := first | exact xD | fail) [-Option.bind_some, qs, -splice_eq, -stR_cells, qm, Y2, X2, e0, e2, e3, X3, E0.blk, hlt, E1.blk, M2.blk, E3.blk]; done)) (by first | assumption | rfl | (simp (disch := first | exact xD | fail) [-Option.bind_some, qs, -splice_eq, -stR_cells, qm, Y3, X3, e0, e2, e3, X2, E0.blk, hlt, E1.blk, M2.blk, E3.blk]; done)) xE xN (((o3.wide (S' := fun b => In B w2.heap.size b ∧ b ≠ g3) ?_).keep (by intro b hS hb; (try dsimp only at hS); (try simp only [In, qz] at hS hb); first | rfl | (simp (disch := first | exact xF | fail) only [E0.blk, E1.blk, M2.blk, E3.blk, qk]; done))).wide ?_)) hQ
    · intro b h1 h2
      simp only [In, World.size_alloc, size_setRow, dw_size] at *
      omega
    · intro b h1 h2
      simp only [In, World.size_alloc, size_setRow, dw_size] at *
      omega
theorem impl_ChainNew_n (n : Int) {w : World} : Ret (EV P 64 #[i64 n] w) fun r => ∃ a c, r.1 = .agg #[.slice a (chainNewP n).length c] ∧ O tNodes (In w.heap.size r.2.heap.size) r.2 [.slice a (chainNewP n).length c] (chainNewP n) ∧ Ext w r.2 := by
  refine Ret.post fun Q hQ => ?_
  refine Ret.enter plain mixed (impl_ChainNew_fn _ _) (by kernel_rfl) (n := 1) (by kernel_rfl) rfl ?_
  simp (disch := first | exact xD | fail) [-Option.bind_some, qs, -splice_eq, -stR_cells, qm]
  refine Ret.bind (impl_nodesOk_c _ _) ?_
  rintro _ rfl
  cases h : (decide (1 ≤ n) && decide (n ≤ 4))
  · have e : chainNewP n = [] := by simp [chainNewP, h]
    rw [e] at hQ
    simp (disch := first | exact xD | fail) [-Option.bind_some, qs, -splice_eq, -stR_cells, qm, h]
    exact hQ _ ⟨_, _, rfl, O.nil, xE⟩
  have e : chainNewP n = List.replicate n.toNat nodeZ := by simp [chainNewP, h]
  simp only [Bool.and_eq_true, decide_eq_true_eq] at h
  obtain ⟨m, rfl⟩ : ∃ m : Nat, n = m := ⟨n.toNat, by omega⟩
  rw [e, List.length_replicate, Int.toNat_natCast] at hQ
  simp (disch := first | exact xD | fail) [-Option.bind_some, qs, -splice_eq, -stR_cells, qm, show (1 : Int) ≤ m by omega, show (m : Int) ≤ 4 by omega]
  refine Ret.bind (O.make0 (L := tNode) (mx := 2932031007317) el_42 zz_89 rfl (by decide) (by omega) (by decide) (by decide)) ?_
  rintro ⟨_, w1⟩ ⟨rfl, o1, z1, E1⟩
  have zE1 := E1.size
  try simp only [qz] at zE1
  try dsimp only at o1 z1 E1
  simp only [World.size_alloc] at z1 o1
  have X1 := E1.blk (b := w.heap.size) (by simp)
  simp (disch := first | exact xD | fail) [-Option.bind_some, qs, -splice_eq, -stR_cells, qm, E1.blk, X1]
  refine Ret.mono (impl_ChainNew_n1 (g2 := w.heap.size) (g3 := w1.heap.size) (B := w.heap.size + 1) (n := m) (w0 := w) (by omega) (by omega) (by omega) (by omega) (by omega) m 0 _ _ _ _ (.slice none 0 0) (by omega) rfl rfl rfl rfl (by first | assumption | rfl | (simp (disch := first | exact xD | fail) [-Option.bind_some, qs, -splice_eq, -stR_cells, qm, E1.blk, X1]; done)) (by first | assumption | rfl | (simp (disch := first | exact xD | fail) [-Option.bind_some, qs, -splice_eq, -stR_cells, qm, E1.blk, X1]; done)) xE xN ((o1.keep (by intro b hS hb; (try dsimp only at hS); (try simp only [In, qz] at hS hb); first | rfl | (simp (disch := first | exact xF | fail) only [E1.blk, qk]; done))).wide ?_)) ?_
  · intro b h1 h2
    simp only [In, World.size_alloc, size_setRow, dw_size] at *
    omega
  · rintro ⟨_, w4⟩ ⟨a4, c4, rfl, o4, E4⟩
    have zE4 := E4.size
    try simp only [qz] at zE4
    exact hQ _ ⟨_, _, rfl, o4.wide xV, E4⟩
theorem spec_ChainNew_n (n : Int) {w : World} : Ret (EV P 66 #[i64 n] w) fun r => ∃ a c, r.1 = .agg #[.slice a (chainNewP n).length c] ∧ O tNodes (In w.heap.size r.2.heap.size) r.2 [.slice a (chainNewP n).length c] (chainNewP n) ∧ Ext w r.2 := by
  refine Ret.post fun Q hQ => ?_
  refine Ret.enter plain mixed (spec_ChainNew_fn _ _) (by kernel_rfl) (n := 1) (by kernel_rfl) rfl ?_
  simp (disch := first | exact xD | fail) [-Option.bind_some, qs, -splice_eq, -stR_cells, qm]
  refine Ret.bind (spec_l1In_c _ _ _ _) ?_
  rintro _ rfl
  cases h : (decide (1 ≤ n) && decide (n ≤ 4))
  · have e : chainNewP n = [] := by simp [chainNewP, h]
    rw [e] at hQ
    simp (disch := first | exact xD | fail) [-Option.bind_some, qs, -splice_eq, -stR_cells, qm, h]
    exact hQ _ ⟨_, _, rfl, O.nil, xE⟩
  have e : chainNewP n = List.replicate n.toNat nodeZ := by simp [chainNewP, h]
  simp only [Bool.and_eq_true, decide_eq_true_eq] at h
  obtain ⟨m, rfl⟩ : ∃ m : Nat, n = m := ⟨n.toNat, by omega⟩
  rw [e, List.length_replicate, Int.toNat_natCast] at hQ
  simp (disch := first | exact xD | fail) [-Option.bind_some, qs, -splice_eq, -stR_cells, qm, show (1 : Int) ≤ m by omega, show (m : Int) ≤ 4 by omega]
  refine Ret.mono (spec_ChainNew_n1 (g2 := w.heap.size) (g3 := w.heap.size + 1) (B := w.heap.size + 1) (n := m) (w0 := w) (by omega) (by omega) (by omega) (by omega) (by omega) m 0 _ _ none 0 (.slice none 0 0) (by omega) rfl rfl rfl rfl (by first | assumption | rfl | (simp (disch := first | exact xD | fail) [-Option.bind_some, qs, -splice_eq, -stR_cells, qm]; done)) (by first | assumption | rfl | (simp (disch := first | exact xD | fail) [-Option.bind_some, qs, -splice_eq, -stR_cells, qm]; done)) xE xN O.nil) ?_
  rintro ⟨_, w4⟩ ⟨a4, c4, rfl, o4, E4⟩
  have zE4 := E4.size
  try simp only [qz] at zE4
  exact hQ _ ⟨_, _, rfl, o4.wide xV, E4⟩
theorem slices_Equal_Tag_n {a b : Option Addr} {c c' : Nat} {S S' : Nat → Prop} {xs ys : List Tag} {w0 : World} (hl : xs.length = ys.length) :
    ∀ (d k : Nat) (e : Env) (w : World), k + d = xs.length → e 0 = .slice a xs.length c → e 1 = .slice b ys.length c' → e 12 = i64 xs.length → e 13 = i64 k → D tTags S w0 [.slice a xs.length c] xs → D tTags S' w0 [.slice b ys.length c'] ys → Ext w0 w →
    Ret (slices_Equal_Tag_l1 e w) fun r => r.1 = .bool (xs.drop k == ys.drop k) ∧ Ext w0 r.2 := by
  intro d
  induction d with
  | zero =>
    intro k e w hd e0 e1 e12 e13 ha hb E0
    have zE0 := E0.size
    try simp only [qz] at zE0
    rw [slices_Equal_Tag_l1_eq]
    obtain rfl : k = xs.length := by omega
    refine Ret.post fun Q hQ => ?_
    simp (disch := first | exact xD | fail) [-Option.bind_some, qs, -splice_eq, -stR_cells, qm, e0, e1, e12, e13, E0.blk]
    rw [List.drop_length, hl, List.drop_length] at hQ
    exact hQ _ ⟨by simp, E0⟩
  | succ d ih =>
    intro k e w hd e0 e1 e12 e13 ha hb E0
    have zE0 := E0.size
    try simp only [qz] at zE0
    rw [slices_Equal_Tag_l1_eq]
    have hlt : k < xs.length := by omega
    have hlt2 : k < ys.length := by omega
    obtain ⟨x, hx, hdx⟩ := drop_at hlt
    obtain ⟨y, hy, hdy⟩ := drop_at hlt2
    have hn := ha.n
    obtain ⟨b1, o1, cs1, rfl, A1, D1, _, l1⟩ := (ha.ext E0).at (by decide) hx
    obtain rfl := D.tag.1 D1
    have p0 := A1 0 _ rfl
    have p1 := A1 1 _ rfl
    simp only [LVer_n, LTag_n, LNode_n, Nat.add_zero] at p0 p1
    obtain ⟨b2, o2, cs2, rfl, A2, D2, _, l2⟩ := (hb.ext E0).at (by decide) hy
    obtain rfl := D.tag.1 D2
    have q0 := A2 0 _ rfl
    have q1 := A2 1 _ rfl
    simp only [LVer_n, LTag_n, LNode_n, Nat.add_zero] at q0 q1
    rw [hdx, hdy]
    refine Ret.post fun Q hQ => ?_
    cases hxy : ((x.t == y.t) && (x.p == y.p))
    · have hne : (x :: xs.drop (k + 1) == y :: ys.drop (k + 1)) = false := by
        rw [beq_eq_false_iff_ne]
        intro h
        obtain ⟨rfl, _⟩ := List.cons.inj h
        simp at hxy
      rw [hne] at hQ
      simp (disch := first | exact xD | fail) [-Option.bind_some, qs, -splice_eq, -stR_cells, qm, e0, e1, e12, e13, hlt, ia_49, hxy, E0.blk, hlt2, p0, p1, q0, q1]
      exact hQ _ ⟨rfl, xE⟩
    · have he : x = y := by
        simp only [Bool.and_eq_true, beq_iff_eq] at hxy
        obtain ⟨xt, xp⟩ := x
        obtain ⟨yt, yp⟩ := y
        simp only [Tag.mk.injEq]
        exact hxy
      subst he
      have hcc : (x :: xs.drop (k + 1) == x :: ys.drop (k + 1)) = (xs.drop (k + 1) == ys.drop (k + 1)) := by simp
      rw [hcc] at hQ
      simp (disch := first | exact xD | fail) [-Option.bind_some, qs, -splice_eq, -stR_cells, qm, e0, e1, e12, e13, hlt, ia_49, hxy, E0.blk, hlt2, p0, p1, q0, q1]
      exact Ret.mono (ih (k + 1) _ _ (by omega) xA xA xA xA ha hb xE) hQ
theorem slices_Equal_Tag_m {a b : Option Addr} {n m c c' : Nat} {S S' : Nat → Prop} {xs ys : List Tag} {w : World} (ha : D tTags S w [.slice a n c] xs) (hb : D tTags S' w [.slice b m c'] ys) :
    Ret (EV P 77 #[.slice a n c, .slice b m c'] w) fun r => r.1 = .bool (xs == ys) ∧ Ext w r.2 := by
  obtain ⟨rfl, hm, _⟩ := ha.n
  obtain ⟨rfl, hm2, _⟩ := hb.n
  refine Ret.post fun Q hQ => ?_
  refine Ret.enter plain mixed (slices_Equal_Tag_fn _ _ _) (by kernel_rfl) (n := 2) (by kernel_rfl) rfl ?_
  cases hl : ((xs.length : Int) != ys.length)
  · simp (disch := first | exact xD | fail) [-Option.bind_some, qs, -splice_eq, -stR_cells, qm, hl]
    have hl : xs.length = ys.length := by simp only [bne_eq_false_iff_eq] at hl; omega
    refine Ret.mono (slices_Equal_Tag_n hl xs.length 0 _ w (by omega) rfl rfl rfl rfl ha hb Ext.rfl) ?_
    rintro r ⟨h1, h2⟩
    exact hQ _ ⟨by rw [h1]; simp, h2⟩
  · have hne : (xs == ys) = false := by
      rw [beq_eq_false_iff_ne]
      rintro rfl
      simp at hl
    rw [hne] at hQ
    simp (disch := first | exact xD | fail) [-Option.bind_some, qs, -splice_eq, -stR_cells, qm, hl]
    exact hQ _ ⟨rfl, xE⟩
theorem impl_Ver_same_m {S S' : Nat → Prop} {cs ds : List Value} {v u : Ver} {w : World} (ha : D tVer S w cs v) (hb : D tVer S' w ds u) : Ret (EV P 53 #[.agg cs.toArray, .agg ds.toArray] w) fun r => r.1 = .bool (verEq v u) ∧ Ext w r.2 := by
  obtain ⟨a, c, rfl, hp1, ht1⟩ := D.ver.1 ha
  obtain ⟨a', c', rfl, hp2, ht2⟩ := D.ver.1 hb
  refine Ret.post fun Q hQ => ?_
  refine Ret.enter plain mixed (impl_Ver_same_fn _ _ _) (by kernel_rfl) (n := 2) (by kernel_rfl) rfl ?_
  have htt : (v.tag == u.tag) = ((v.tag.t == u.tag.t) && (v.tag.p == u.tag.p)) := by
    obtain ⟨_, ⟨vt, vp⟩, _⟩ := v
    obtain ⟨_, ⟨ut, up⟩, _⟩ := u
    rw [Bool.eq_iff_iff]
    simp
  cases h1 : (v.key == u.key)
  · have : verEq v u = false := by simp [verEq, h1]
    rw [this] at hQ
    simp (disch := first | exact xD | fail) [-Option.bind_some, qs, -splice_eq, -stR_cells, qm, h1]
    exact hQ _ ⟨rfl, xE⟩
  cases h2 : ((v.tag.t == u.tag.t) && (v.tag.p == u.tag.p))
  · have : verEq v u = false := by simp [verEq, htt, h2]
    rw [this] at hQ
    simp (disch := first | exact xD | fail) [-Option.bind_some, qs, -splice_eq, -stR_cells, qm, h1, h2]
    exact hQ _ ⟨rfl, xE⟩
  simp (disch := first | exact xD | fail) [-Option.bind_some, qs, -splice_eq, -stR_cells, qm, h1, h2]
  refine Ret.bind (slices_Equal_Tag_m (hp1.ext xE) (hp2.ext xE)) ?_
  rintro ⟨_, w1⟩ ⟨rfl, E1⟩
  try dsimp only at E1
  have zE1 := E1.size
  try simp only [qz] at zE1
  cases h3 : (v.past == u.past)
  · have : verEq v u = false := by simp [verEq, h3]
    rw [this] at hQ
    simp (disch := first | exact xD | fail) [-Option.bind_some, qs, -splice_eq, -stR_cells, qm, h3, E1.blk]
    exact hQ _ ⟨rfl, xE⟩
  cases h4 : (v.text.toList == u.text.toList)
  · have : verEq v u = false := by simp [verEq, h4]
    rw [this] at hQ
    simp (disch := first | exact xD | fail) [-Option.bind_some, qs, -splice_eq, -stR_cells, qm, h3, h4, E1.blk]
    exact hQ _ ⟨rfl, xE⟩
  have : verEq v u = (v.gone == u.gone) := by rw [verEq, h1, htt, h2, h3, h4]; simp
  rw [this] at hQ
  simp (disch := first | exact xD | fail) [-Option.bind_some, qs, -splice_eq, -stR_cells, qm, h3, h4, E1.blk]
  exact hQ _ ⟨rfl, xE⟩
def sameV : List Ver → List Ver → Bool
  | x :: xs, y :: ys => verEq x y && sameV xs ys
  | [], [] => true
  | _, _ => false
theorem sameV_iff : ∀ {xs ys : List Ver}, sameV xs ys = true ↔ xs = ys
  | [], [] => by simp [sameV]
  | x :: xs, y :: ys => by simp only [sameV, Bool.and_eq_true, verEq_iff, sameV_iff, List.cons.injEq]
  | [], _ :: _ => by simp [sameV]
  | _ :: _, [] => by simp [sameV]
theorem slices_EqualFunc_Ver_n {a b : Option Addr} {c c' : Nat} {S S' : Nat → Prop} {xs ys : List Ver} {w0 : World} (hl : xs.length = ys.length) :
    ∀ (d k : Nat) (e : Env) (w : World), k + d = xs.length → e 1 = .slice b ys.length c' → e 2 = .func (.func 53) #[] #[] → e 15 = .slice a xs.length c → e 16 = i64 xs.length → e 17 = i64 k → D tVers S w0 [.slice a xs.length c] xs → D tVers S' w0 [.slice b ys.length c'] ys → Ext w0 w →
    Ret (slices_EqualFunc_Ver_l1 e w) fun r => r.1 = .bool (sameV (xs.drop k) (ys.drop k)) ∧ Ext w0 r.2 := by
  intro d
  induction d with
  | zero =>
    intro k e w hd e1 e2 e15 e16 e17 ha hb E0
    have zE0 := E0.size
    try simp only [qz] at zE0
    rw [slices_EqualFunc_Ver_l1_eq]
    obtain rfl : k = xs.length := by omega
    refine Ret.post fun Q hQ => ?_
    simp (disch := first | exact xD | fail) [-Option.bind_some, qs, -splice_eq, -stR_cells, qm, e1, e2, e15, e16, e17, E0.blk]
    rw [List.drop_length, hl, List.drop_length] at hQ
    exact hQ _ ⟨by simp [sameV], E0⟩
  | succ d ih =>
    intro k e w hd e1 e2 e15 e16 e17 ha hb E0
    have zE0 := E0.size
    try simp only [qz] at zE0
    rw [slices_EqualFunc_Ver_l1_eq]
    have hlt : k < xs.length := by omega
    have hlt2 : k < ys.length := by omega
    obtain ⟨x, hx, hdx⟩ := drop_at hlt
    obtain ⟨y, hy, hdy⟩ := drop_at hlt2
    have hn := ha.n
    obtain ⟨b1, o1, cs1, rfl, A1, D1, _, l1⟩ := (ha.ext E0).at (by decide) hx
    obtain ⟨a2, c2, rfl, hq1, ht1⟩ := D.ver.1 D1
    have p0 := A1 0 _ rfl
    have p1 := A1 1 _ rfl
    have p2 := A1 2 _ rfl
    have p3 := A1 3 _ rfl
    have p4 := A1 4 _ rfl
    have p5 := A1 5 _ rfl
    simp only [LVer_n, LTag_n, LNode_n, Nat.add_zero] at p0 p1 p2 p3 p4 p5
    obtain ⟨b2, o2, cs2, rfl, A2, D2, _, l2⟩ := (hb.ext E0).at (by decide) hy
    obtain ⟨a3, c3, rfl, hq2, ht2⟩ := D.ver.1 D2
    have q0 := A2 0 _ rfl
    have q1 := A2 1 _ rfl
    have q2 := A2 2 _ rfl
    have q3 := A2 3 _ rfl
    have q4 := A2 4 _ rfl
    have q5 := A2 5 _ rfl
    simp only [LVer_n, LTag_n, LNode_n, Nat.add_zero] at q0 q1 q2 q3 q4 q5
    rw [hdx, hdy]
    refine Ret.post fun Q hQ => ?_
    have hclo : ∀ u v w, clo P (.func (.func 53) #[] #[]) #[u, v] w = EV P 53 #[u, v] w := fun u v w => clo_eq (P := P) (by kernel_rfl) [] [] [u, v] w
    simp (disch := first | exact xD | fail) [-Option.bind_some, qs, -splice_eq, -stR_cells, qm, e1, e2, e15, e16, e17, hlt, ia_45, hclo, E0.blk, hlt2, p0, p1, p2, p3, p4, p5, q0, q1, q2, q3, q4, q5]
    refine Ret.bind (impl_Ver_same_m (D1.ext xE) (D2.ext xE)) ?_
    rintro ⟨_, w1⟩ ⟨rfl, E1⟩
    try dsimp only at E1
    have zE1 := E1.size
    try simp only [qz] at zE1
    cases hxy : verEq x y
    · rw [sameV, hxy] at hQ
      simp (disch := first | exact xD | fail) [-Option.bind_some, qs, -splice_eq, -stR_cells, qm, e1, e2, e15, e16, e17, E0.blk, hlt, hlt2, p0, p1, p2, p3, p4, p5, q0, q1, q2, q3, q4, q5, E1.blk]
      exact hQ _ ⟨rfl, xE⟩
    · rw [sameV, hxy] at hQ
      simp (disch := first | exact xD | fail) [-Option.bind_some, qs, -splice_eq, -stR_cells, qm, e1, e2, e15, e16, e17, E0.blk, hlt, hlt2, p0, p1, p2, p3, p4, p5, q0, q1, q2, q3, q4, q5, E1.blk]
      exact Ret.mono (ih (k + 1) _ _ (by omega) xA xA xA xA xA ha hb xE) hQ
theorem impl_Store_same_m {a b : Option Addr} {n m c c' : Nat} {S S' : Nat → Prop} {xs ys : List Ver} {w : World} (ha : D tVers S w [.slice a n c] xs) (hb : D tVers S' w [.slice b m c'] ys) :
    Ret (EV P 63 #[.agg #[.slice a n c], .agg #[.slice b m c']] w) fun r => r.1 = .bool (sameV xs ys) ∧ Ext w r.2 := by
  obtain ⟨rfl, hm, _⟩ := ha.n
  obtain ⟨rfl, hm2, _⟩ := hb.n
  refine Ret.post fun Q hQ => ?_
  refine Ret.enter plain mixed (impl_Store_same_fn _ _ _) (by kernel_rfl) (n := 2) (by kernel_rfl) rfl ?_
  simp (disch := first | exact xD | fail) [-Option.bind_some, qs, -splice_eq, -stR_cells, qm]
  have key : ∀ w1, Ext w w1 → Ret (EV P 52 #[.slice a xs.length c, .slice b ys.length c', .func (.func 53) #[] #[]] w1) fun r => r.1 = .bool (sameV xs ys) ∧ Ext w r.2 := by
    intro w1 E1
    have zE1 := E1.size
    try simp only [qz] at zE1
    refine Ret.post fun Q hQ => ?_
    refine Ret.enter plain mixed (slices_EqualFunc_Ver_fn _ _ _ _) (by kernel_rfl) (n := 3) (by kernel_rfl) rfl ?_
    cases hl : ((xs.length : Int) != ys.length)
    · simp (disch := first | exact xD | fail) [-Option.bind_some, qs, -splice_eq, -stR_cells, qm, hl, E1.blk]
      have hl : xs.length = ys.length := by simp only [bne_eq_false_iff_eq] at hl; omega
      refine Ret.mono (slices_EqualFunc_Ver_n hl xs.length 0 _ w1 (by omega) rfl rfl rfl rfl rfl ha hb E1) ?_
      rintro r ⟨h1, h2⟩
      exact hQ _ ⟨by rw [h1]; simp, h2⟩
    · have hne : sameV xs ys = false := by
        rw [Bool.eq_false_iff]
        intro h
        rw [sameV_iff] at h
        subst h
        simp at hl
      rw [hne] at hQ
      simp (disch := first | exact xD | fail) [-Option.bind_some, qs, -splice_eq, -stR_cells, qm, hl, E1.blk]
      exact hQ _ ⟨rfl, xE⟩
  refine Ret.bind (key _ xE) ?_
  rintro ⟨_, w2⟩ ⟨rfl, E2⟩
  try dsimp only at E2
  have zE2 := E2.size
  try simp only [qz] at zE2
  simp (disch := first | exact xD | fail) [-Option.bind_some, qs, -splice_eq, -stR_cells, qm, E2.blk]
  exact hQ _ ⟨rfl, xE⟩
def fitsL : List Ver → List Ver → List Ver → Bool
  | s, [], t => sameV s t
  | s, v :: l, t => match s[v.key.toNat]? with
    | some u => tagLess u.tag v.tag && fitsL (s.set v.key.toNat v) l t
    | none => false
theorem impl_Node_fits_n1 {a1 a2 : Option Addr} {c1 c2 c g g2 g5 B : Nat} {S Sw St : Nat → Prop} {wait store : List Ver} {w0 : World} (hok : ∀ v ∈ wait, verOk v = true) (hB : w0.heap.size ≤ B) (hg : B ≤ g)
    (hg2 : w0.heap.size ≤ g2) (hg5 : w0.heap.size ≤ g5) (h2g : g2 < B) (h5 : g5 ≠ g) (hS : ∀ b, S b → b < w0.heap.size ∨ (B ≤ b ∧ b ≠ g5 ∧ b ≠ g)) (hS2 : ∀ b, b < w0.heap.size → S b) :
    ∀ (d k : Nat) (e : Env) (w : World) (s : List Ver), k + d = wait.length → s.length = 4 → e 2 = pt g2 0 → e 5 = pt g5 0 → e 11 = .slice a1 wait.length c1 → e 12 = i64 wait.length → e 13 = i64 k → hp w g2 = some (.cells #[.slice a2 store.length c2, .slice a1 wait.length c1] 89 (0, 0)) → hp w g5 = some (.cells #[.slice (some ⟨g, 0, none⟩) 4 c] 86 (0, 0)) →
    D tVers Sw w0 [.slice a1 wait.length c1] wait → D tVers St w0 [.slice a2 store.length c2] store → Ext w0 w → g < w.heap.size → Row1 tVer 58 S w g s →
    Ret (impl_Node_fits_l1 e w) fun r => r.1 = .bool (fitsL s (wait.drop k) store) ∧ Ext w0 r.2 := by
  intro d
  induction d with
  | zero =>
    intro k e w s hd hs4 e2 e5 e11 e12 e13 X2 X5 ha hb E0 hgw ho
    have zE0 := E0.size
    try simp only [qz] at zE0
    rw [impl_Node_fits_l1_eq]
    obtain rfl : k = wait.length := by omega
    have y2 := hp_lt X2
    have y5 := hp_lt X5
    rw [List.drop_length]
    have hd0 := ho.d (mx := 1954687338211) (by omega) (by omega) c
    rw [hs4] at hd0
    refine Ret.post fun Q hQ => ?_
    simp (disch := first | exact xD | fail) [-Option.bind_some, qs, -splice_eq, -stR_cells, qm, e2, e5, e11, e12, e13, X2, X5, E0.blk]
    refine Ret.bind (impl_Store_same_m hd0 (hb.ext E0)) ?_
    rintro ⟨_, w1⟩ ⟨rfl, E1⟩
    try dsimp only at E1
    have zE1 := E1.size
    try simp only [qz] at zE1
    simp (disch := first | exact xD | fail) [-Option.bind_some, qs, -splice_eq, -stR_cells, qm, e2, e5, e11, e12, e13, X2, X5, E0.blk, E1.blk]
    exact hQ _ ⟨rfl, xE⟩
  | succ d ih =>
    intro k e w s hd hs4 e2 e5 e11 e12 e13 X2 X5 ha hb E0 hgw ho
    have zE0 := E0.size
    try simp only [qz] at zE0
    rw [impl_Node_fits_l1_eq]
    have hlt : k < wait.length := by omega
    obtain ⟨v, hv, hdv⟩ := drop_at hlt
    have hvo := hok v (List.mem_of_getElem? hv)
    have hk := verOk_key hvo
    have h4 : v.key.toNat < s.length := by omega
    obtain ⟨u, hu, _⟩ := drop_at h4
    have hn := ha.n
    have y2 := hp_lt X2
    have y5 := hp_lt X5
    obtain ⟨b1, o1, cs1, rfl, A1, D1, hb1, l1⟩ := ha.lt.at (by decide) hv
    have D1' := D1
    obtain ⟨av, cv, rfl, hq1, ht1⟩ := D.ver.1 D1
    have p0 := A1 0 _ rfl
    have p1 := A1 1 _ rfl
    have p2 := A1 2 _ rfl
    have p3 := A1 3 _ rfl
    have p4 := A1 4 _ rfl
    have p5 := A1 5 _ rfl
    simp only [LVer_n, LTag_n, LNode_n, Nat.add_zero] at p0 p1 p2 p3 p4 p5
    have hd0 := ho.d (mx := 1954687338211) (by omega) (by omega) c
    rw [hs4] at hd0
    obtain ⟨cur, cs, hgr, hle, hcs, D2, put⟩ := ho.row hu
    obtain ⟨au, cu, rfl, hq2, ht2⟩ := D.ver.1 D2
    simp only [LVer_n] at hgr hle put
    rw [hdv]
    have hfl : fitsL s (v :: wait.drop (k + 1)) store = (tagLess u.tag v.tag && fitsL (s.set v.key.toNat v) (wait.drop (k + 1)) store) := by rw [fitsL, hu]
    rw [hfl]
    refine Ret.post fun Q hQ => ?_
    simp (disch := first | exact xD | fail) [-Option.bind_some, qs, -splice_eq, -stR_cells, qm, e2, e5, e11, e12, e13, X2, X5, hlt, ia_45, E0.blk, p0, p1, p2, p3, p4, p5]
    refine Ret.bind (impl_Store_later_n (hd0.ext xE) (D1.ext xE) hk.1 hu) ?_
    rintro ⟨_, w1⟩ ⟨rfl, E1⟩
    try dsimp only at E1
    have zE1 := E1.size
    try simp only [qz] at zE1
    cases hl : tagLess u.tag v.tag
    · rw [hl] at hQ
      simp (disch := first | exact xD | fail) [-Option.bind_some, qs, -splice_eq, -stR_cells, qm, e2, e5, e11, e12, e13, X2, X5, E0.blk, hlt, p0, p1, p2, p3, p4, p5, E1.blk]
      exact hQ _ ⟨rfl, xE⟩
    · rw [hl] at hQ
      simp (disch := first | exact xD | fail) [-Option.bind_some, qs, -splice_eq, -stR_cells, qm, e2, e5, e11, e12, e13, X2, X5, hlt, ia_45, hgr, show v.key < 4 by omega, E0.blk, p0, p1, p2, p3, p4, p5, E1.blk]
      have E2 : Ext w0 w1 := xE
      have zE2 := E2.size
      try simp only [qz] at zE2
      refine Ret.mono (ih (k + 1) _ _ (s.set v.key.toNat v) (by omega) (by simpa using hs4) xA xA xA xA xA (by first | assumption | rfl | (simp (disch := first | exact xD | fail) [-Option.bind_some, qs, -splice_eq, -stR_cells, qm, X2, e2, e5, e11, e12, e13, X5, E0.blk, hlt, p0, p1, p2, p3, p4, p5, E1.blk, E2.blk]; done)) (by first | assumption | rfl | (simp (disch := first | exact xD | fail) [-Option.bind_some, qs, -splice_eq, -stR_cells, qm, X5, e2, e5, e11, e12, e13, X2, E0.blk, hlt, p0, p1, p2, p3, p4, p5, E1.blk, E2.blk]; done)) ha hb xE (by simp only [size_setRow]; omega) ?_) hQ
      refine put _ _ v ((D1.wide (S' := S) fun b h _ => hS2 b h.2).keep (by intro b hS' hb; have := hS b hS'; simp (disch := first | assumption | omega | (simp only [World.size_alloc, size_setRow, dw_size]; omega)) only [E0.blk, E1.blk, hp_alloc_lt, hp_set_ne, hp_dw])) (by first | assumption | rfl | (simp (disch := first | exact xD | fail) [-Option.bind_some, qs, -splice_eq, -stR_cells, qm, hgr, e2, e5, e11, e12, e13, X2, X5, E0.blk, hlt, p0, p1, p2, p3, p4, p5, E1.blk, E2.blk]; done)) ?_
      intro b hb hS'
      have := hS b hS'
      simp (disch := first | assumption | omega | (simp only [World.size_alloc, size_setRow, dw_size]; omega)) only [E1.blk, hp_alloc_lt, hp_set_ne, hp_dw]
theorem impl_Node_fits_m {S1 S2 S3 : Nat → Prop} {a1 a2 b : Option Addr} {c1 c2 n m k d : Nat} {wait store next : List Ver} {w : World} (hok : ∀ v ∈ wait, verOk v = true) (hn4 : next.length = 4) (hs : D tVers S1 w [.slice a1 n c1] store) (hw : D tVers S2 w [.slice a2 m c2] wait) (hx : D tVers S3 w [.slice b k d] next) :
    Ret (EV P 73 #[.agg #[.slice a1 n c1, .slice a2 m c2], .agg #[.slice b k d]] w) fun r => r.1 = .bool (fitsL next wait store) ∧ Ext w r.2 := by
  obtain ⟨rfl, hm, _⟩ := hs.n
  obtain ⟨rfl, hm2, _⟩ := hw.n
  obtain ⟨rfl, hm3, _⟩ := hx.n
  refine Ret.post fun Q hQ => ?_
  refine Ret.enter plain mixed (impl_Node_fits_fn _ _ _) (by kernel_rfl) (n := 2) (by kernel_rfl) rfl ?_
  simp (disch := first | exact xD | fail) [-Option.bind_some, qs, -splice_eq, -stR_cells, qm]
  refine Ret.bind (impl_Store_copied_n (hx.ext xE)) ?_
  rintro ⟨_, w1⟩ ⟨a3, c3, rfl, o3, E3⟩
  try dsimp only at a3 c3 o3 E3
  have zE3 := E3.size
  try simp only [qz] at zE3
  rw [hn4] at o3
  obtain ⟨g, cur, cs, S4, rfl, hSg, hgl, hg, _, _, _, _⟩ := o3.row (x := next[0]) (i := 0) (by decide) (List.getElem?_eq_getElem (by omega))
  simp only [In, World.size_alloc] at hSg
  simp (disch := first | exact xD | fail) [-Option.bind_some, qs, -splice_eq, -stR_cells, qm, hn4, E3.blk, hg]
  refine Ret.mono (impl_Node_fits_n1 (c := c3) (g := g) (g2 := w.heap.size) (g5 := w1.heap.size) (B := w.heap.size + 1 + 1) (S := fun b => b < w.heap.size ∨ (In (w.heap.size + 1 + 1) w1.heap.size b ∧ b ≠ g)) (w0 := w) (store := store) (wait := wait) hok (by omega) (by omega) (by omega) (by omega) (by omega) (by omega) (by intro b hb; simp only [In] at hb; omega) (fun b hb => .inl hb) wait.length 0 _ _ next (by omega) hn4 rfl rfl rfl rfl rfl (by first | assumption | rfl | (simp (disch := first | exact xD | fail) [-Option.bind_some, qs, -splice_eq, -stR_cells, qm, E3.blk, hg]; done)) (by first | assumption | rfl | (simp (disch := first | exact xD | fail) [-Option.bind_some, qs, -splice_eq, -stR_cells, qm, E3.blk, hg]; done)) hw hs xE (by simp; omega) ?_) ?_
  · refine (o3.row1.wide (S' := fun b => b < w.heap.size ∨ (In (w.heap.size + 1 + 1) w1.heap.size b ∧ b ≠ g)) ?_ ?_).keep ?_
    · intro b h1 h2
      simp only [In, World.size_alloc] at *
      omega
    · intro b h1
      simp only [In] at h1
      omega
    · intro b h1 h2
      simp only [In] at h1
      simp (disch := first | assumption | omega | (simp only [World.size_alloc, size_setRow, dw_size]; omega)) only [hp_alloc_lt, hp_set_ne]
  · rintro r ⟨h1, h2⟩
    exact hQ _ ⟨by rw [h1]; simp, h2⟩
def nodeOk (n : CNode) : Bool := storeOk n.store && decide (n.wait.length ≤ 6) && n.wait.all verOk
def links : List CNode → Bool
  | a :: b :: l => fitsL b.store a.wait a.store && links (b :: l)
  | [a] => a.wait.length == 0
  | [] => true
def lenOk (n : Nat) : Bool := decide ((1 : Int) ≤ n) && decide ((n : Int) ≤ 4)
def chainOk (ns : List CNode) : Bool := lenOk ns.length && ns.all nodeOk && links ns
theorem nodeOk_parts {n : CNode} (h : nodeOk n = true) : storeOk n.store = true ∧ n.wait.length ≤ 6 ∧ ∀ v ∈ n.wait, verOk v = true := by
  simp only [nodeOk, Bool.and_eq_true, decide_eq_true_eq, List.all_eq_true] at h
  exact ⟨h.1.1, h.1.2, h.2⟩
theorem impl_ChainOk_1_c {cs : List Value} {v : Ver} {w : World} (ha : rVer w cs v) : Ret (EV P 70 #[.agg cs.toArray] w) fun r => r.1 = .bool (!verOk v) ∧ Ext w r.2 := by
  have ha' := ha
  obtain ⟨s, rfl, _, _⟩ := ha
  refine Ret.post fun Q hQ => ?_
  refine Ret.enter plain mixed (impl_ChainOk_1_fn _ _) (by kernel_rfl) (n := 1) (by kernel_rfl) rfl ?_
  simp (disch := first | exact xD | fail) [-Option.bind_some, qs, -splice_eq, -stR_cells, qm]
  refine Ret.bind (impl_VerOk_c (ha'.mono (Ext.keep xE))) ?_
  rintro ⟨_, w1⟩ ⟨rfl, E1⟩
  try dsimp only at E1
  have zE1 := E1.size
  try simp only [qz] at zE1
  simp (disch := first | exact xD | fail) [-Option.bind_some, qs, -splice_eq, -stR_cells, qm, E1.blk]
  exact hQ _ ⟨rfl, xE⟩
theorem impl_Chain_last_m {a : Option Addr} {n c : Nat} {i : Int} {w : World} (h0 : 0 ≤ i) (hn : n < 9000000000000000000) : Ret (EV P 72 #[.agg #[.slice a n c], i64 i] w) fun r => r.1 = .bool (i == (n : Int) - 1) ∧ Ext w r.2 := by
  refine Ret.post fun Q hQ => ?_
  have hw : IntKind.i64.wrap ((n : Int) - 1) = (n : Int) - 1 := w64 (by omega) (by omega)
  refine Ret.enter plain mixed (impl_Chain_last_fn _ _ _) (by kernel_rfl) (n := 2) (by kernel_rfl) rfl ?_
  simp (disch := first | exact xD | fail) [-Option.bind_some, qs, -splice_eq, -stR_cells, qm, hw]
  exact hQ _ ⟨rfl, xE⟩
theorem impl_ChainOk_n2 {a : Option Addr} {c g1 : Nat} {S : Nat → Prop} {ns : List CNode} {w0 : World} (ha : D tNodes S w0 [.slice a ns.length c] ns) (hok : ns.all nodeOk = true) :
    ∀ (d k : Nat) (e : Env) (w : World), k + d = ns.length → e 1 = pt g1 0 → e 36 = .slice a ns.length c → e 37 = i64 ns.length → e 38 = i64 k → hp w g1 = some (.cells #[.slice a ns.length c] 44 (0, 0)) → Ext w0 w →
    Ret (impl_ChainOk_l2 e w) fun r => r.1 = .bool (links (ns.drop k)) ∧ Ext w0 r.2 := by
  have hn := ha.n
  rw [List.all_eq_true] at hok
  intro d
  induction d with
  | zero =>
    intro k e w hd e1 e36 e37 e38 X1 E0
    have zE0 := E0.size
    try simp only [qz] at zE0
    rw [impl_ChainOk_l2_eq]
    obtain rfl : k = ns.length := by omega
    have y1 := hp_lt X1
    rw [List.drop_length, links]
    refine Ret.post fun Q hQ => ?_
    simp (disch := first | exact xD | fail) [-Option.bind_some, qs, -splice_eq, -stR_cells, qm, e1, e36, e37, e38, X1, E0.blk]
    exact hQ _ ⟨rfl, xE⟩
  | succ d ih =>
    intro k e w hd e1 e36 e37 e38 X1 E0
    have zE0 := E0.size
    try simp only [qz] at zE0
    rw [impl_ChainOk_l2_eq]
    have hlt : k < ns.length := by omega
    have y1 := hp_lt X1
    obtain ⟨x, hx, hdx⟩ := drop_at hlt
    obtain ⟨hs, _, hv⟩ := nodeOk_parts (hok x (List.mem_of_getElem? hx))
    obtain ⟨b1, o1, cs1, ha1, A1, D1, _, l1⟩ := (ha.ext E0).at (by decide) hx
    obtain ⟨a2, c2, a3, c3, rfl, h2, h3⟩ := D.node.1 D1
    rw [hdx]
    refine Ret.post fun Q hQ => ?_
    by_cases hlast : k + 1 < ns.length
    · obtain ⟨y, hy, hdy⟩ := drop_at hlast
      obtain ⟨hs', _, _⟩ := nodeOk_parts (hok y (List.mem_of_getElem? hy))
      obtain ⟨b2, o2, cs2, ha2, A2, D2, _, l2⟩ := (ha.ext E0).at (by decide) hy
      subst ha1
      cases ha2
      obtain ⟨a4, c4, a5, c5, rfl, h4, h5⟩ := D.node.1 D2
      have p0 := A1 0 _ rfl
      have p1 := A1 1 _ rfl
      simp only [LVer_n, LTag_n, LNode_n, Nat.add_zero] at p0 p1
      have q0 := A2 0 _ rfl
      have q1 := A2 1 _ rfl
      simp only [LVer_n, LTag_n, LNode_n, Nat.add_zero] at q0 q1
      simp (disch := first | exact xD | fail) [-Option.bind_some, qs, -splice_eq, -stR_cells, qm, e1, e36, e37, e38, X1, hlt, ia_42, E0.blk, p0, p1, q0, q1]
      refine Ret.bind (impl_Chain_last_m (by omega) (by omega)) ?_
      rintro ⟨_, w1⟩ ⟨rfl, E1⟩
      try dsimp only at E1
      have zE1 := E1.size
      try simp only [qz] at zE1
      have hb : ((k : Int) == (ns.length : Int) - 1) = false := by
        rw [beq_eq_false_iff_ne]
        omega
      simp (disch := first | exact xD | fail) [-Option.bind_some, qs, -splice_eq, -stR_cells, qm, hb, X1, e1, e36, e37, e38, E0.blk, hlt, p0, p1, q0, q1, E1.blk]
      refine Ret.bind (impl_Chain_last_m (by omega) (by omega)) ?_
      rintro ⟨_, w2⟩ ⟨rfl, E2⟩
      try dsimp only at E2
      have zE2 := E2.size
      try simp only [qz] at zE2
      simp (disch := first | exact xD | fail) [-Option.bind_some, qs, -splice_eq, -stR_cells, qm, hb, X1, hlast, ia_42, show (k : Int) + 1 < ns.length by omega, show (0 : Int) ≤ (k : Int) + 1 by omega, show ((k : Int) + 1).toNat = k + 1 by omega, e1, e36, e37, e38, E0.blk, hlt, p0, p1, q0, q1, E1.blk, E2.blk]
      refine Ret.bind (impl_Node_fits_m hv (storeOk_len hs') (h2.ext xE) (h3.ext xE) (h4.ext xE)) ?_
      rintro ⟨_, w3⟩ ⟨rfl, E3⟩
      try dsimp only at E3
      have zE3 := E3.size
      try simp only [qz] at zE3
      have hc2 : links (x :: ns.drop (k + 1)) = (fitsL y.store x.wait x.store && links (ns.drop (k + 1))) := by rw [hdy, links]
      rw [hc2] at hQ
      cases hf : fitsL y.store x.wait x.store
      · rw [hf] at hQ
        simp (disch := first | exact xD | fail) [-Option.bind_some, qs, -splice_eq, -stR_cells, qm, e1, e36, e37, e38, X1, E0.blk, hlt, p0, p1, q0, q1, E1.blk, E2.blk, E3.blk]
        exact hQ _ ⟨rfl, xE⟩
      · rw [hf, Bool.true_and] at hQ
        simp (disch := first | exact xD | fail) [-Option.bind_some, qs, -splice_eq, -stR_cells, qm, e1, e36, e37, e38, X1, E0.blk, hlt, p0, p1, q0, q1, E1.blk, E2.blk, E3.blk]
        exact Ret.mono (ih (k + 1) _ _ (by omega) xA xA xA xA (by first | assumption | rfl | (simp (disch := first | exact xD | fail) [-Option.bind_some, qs, -splice_eq, -stR_cells, qm, X1, e1, e36, e37, e38, E0.blk, hlt, p0, p1, q0, q1, E1.blk, E2.blk, E3.blk]; done)) xE) hQ
    · subst ha1
      have p0 := A1 0 _ rfl
      have p1 := A1 1 _ rfl
      simp only [LVer_n, LTag_n, LNode_n, Nat.add_zero] at p0 p1
      have hc2 : links (x :: ns.drop (k + 1)) = (x.wait.length == 0) := by
        rw [List.drop_eq_nil_of_le (by omega), links]
      rw [hc2] at hQ
      have hb : ((k : Int) == (ns.length : Int) - 1) = true := by
        rw [beq_iff_eq]
        omega
      simp (disch := first | exact xD | fail) [-Option.bind_some, qs, -splice_eq, -stR_cells, qm, e1, e36, e37, e38, X1, hlt, ia_42, E0.blk, p0, p1]
      refine Ret.bind (impl_Chain_last_m (by omega) (by omega)) ?_
      rintro ⟨_, w1⟩ ⟨rfl, E1⟩
      try dsimp only at E1
      have zE1 := E1.size
      try simp only [qz] at zE1
      cases hz : x.wait.length == 0
      · rw [hz] at hQ
        have hz : 0 < x.wait.length := by
          rw [beq_eq_false_iff_ne] at hz
          omega
        simp (disch := first | exact xD | fail) [-Option.bind_some, qs, -splice_eq, -stR_cells, qm, hb, hz, X1, e1, e36, e37, e38, E0.blk, hlt, p0, p1, E1.blk]
        exact hQ _ ⟨rfl, xE⟩
      · have hz2 : ¬ 0 < x.wait.length := by
          rw [beq_iff_eq] at hz
          omega
        simp (disch := first | exact xD | fail) [-Option.bind_some, qs, -splice_eq, -stR_cells, qm, hb, hz2, X1, e1, e36, e37, e38, E0.blk, hlt, p0, p1, E1.blk]
        refine Ret.bind (impl_Chain_last_m (by omega) (by omega)) ?_
        rintro ⟨_, w2⟩ ⟨rfl, E2⟩
        try dsimp only at E2
        have zE2 := E2.size
        try simp only [qz] at zE2
        simp (disch := first | exact xD | fail) [-Option.bind_some, qs, -splice_eq, -stR_cells, qm, hb, e1, e36, e37, e38, X1, E0.blk, hlt, p0, p1, E1.blk, E2.blk]
        refine Ret.mono (ih (k + 1) _ _ (by omega) xA xA xA xA (by first | assumption | rfl | (simp (disch := first | exact xD | fail) [-Option.bind_some, qs, -splice_eq, -stR_cells, qm, X1, e1, e36, e37, e38, E0.blk, hlt, p0, p1, E1.blk, E2.blk]; done)) xE) fun r h => hQ r ?_
        rw [List.drop_eq_nil_of_le (by omega), links] at h
        rw [hz]
        exact h
theorem impl_ChainOk_n1 {a : Option Addr} {c g1 : Nat} {S : Nat → Prop} {ns : List CNode} {w0 : World} (ha : D tNodes S w0 [.slice a ns.length c] ns) :
    ∀ (d k : Nat) (e : Env) (w : World), k + d = ns.length → (ns.take k).all nodeOk = true → e 1 = pt g1 0 → e 13 = .slice a ns.length c → e 14 = i64 ns.length → e 15 = i64 k → hp w g1 = some (.cells #[.slice a ns.length c] 44 (0, 0)) → Ext w0 w →
    Ret (impl_ChainOk_l1 e w) fun r => r.1 = .bool (ns.all nodeOk && links ns) ∧ Ext w0 r.2 := by
  have hn := ha.n
  intro d
  induction d with
  | zero =>
    intro k e w hd hal e1 e13 e14 e15 X1 E0
    have zE0 := E0.size
    try simp only [qz] at zE0
    rw [impl_ChainOk_l1_eq]
    obtain rfl : k = ns.length := by omega
    rw [List.take_length] at hal
    have y1 := hp_lt X1
    rw [hal, Bool.true_and]
    refine Ret.post fun Q hQ => ?_
    simp (disch := first | exact xD | fail) [-Option.bind_some, qs, -splice_eq, -stR_cells, qm, e1, e13, e14, e15, X1, E0.blk]
    exact Ret.mono (impl_ChainOk_n2 ha hal ns.length 0 _ _ (by omega) xA xA xA xA (by first | assumption | rfl | (simp (disch := first | exact xD | fail) [-Option.bind_some, qs, -splice_eq, -stR_cells, qm, X1, e1, e13, e14, e15, E0.blk]; done)) xE) hQ
  | succ d ih =>
    intro k e w hd hal e1 e13 e14 e15 X1 E0
    have zE0 := E0.size
    try simp only [qz] at zE0
    rw [impl_ChainOk_l1_eq]
    have hlt : k < ns.length := by omega
    have y1 := hp_lt X1
    obtain ⟨x, hx, hdx⟩ := drop_at hlt
    obtain ⟨b1, o1, cs1, rfl, A1, D1, _, l1⟩ := (ha.ext E0).at (by decide) hx
    obtain ⟨a2, c2, a3, c3, rfl, h2, h3⟩ := D.node.1 D1
    have hno : nodeOk x = false → ns.all nodeOk = false := by
      intro h
      rw [List.all_eq_false]
      exact ⟨x, List.mem_of_getElem? hx, by rw [h]; decide⟩
    have p0 := A1 0 _ rfl
    have p1 := A1 1 _ rfl
    simp only [LVer_n, LTag_n, LNode_n, Nat.add_zero] at p0 p1
    refine Ret.post fun Q hQ => ?_
    simp (disch := first | exact xD | fail) [-Option.bind_some, qs, -splice_eq, -stR_cells, qm, e1, e13, e14, e15, X1, hlt, ia_42, E0.blk, p0, p1]
    refine Ret.bind (impl_StoreOk_c (D.rVers (h2.ext xE))) ?_
    rintro ⟨_, w1⟩ ⟨rfl, E1⟩
    try dsimp only at E1
    have zE1 := E1.size
    try simp only [qz] at zE1
    cases hs : storeOk x.store
    · rw [hno (by simp [nodeOk, hs])] at hQ
      simp (disch := first | exact xD | fail) [-Option.bind_some, qs, -splice_eq, -stR_cells, qm, e1, e13, e14, e15, X1, E0.blk, hlt, p0, p1, E1.blk]
      exact hQ _ ⟨rfl, xE⟩
    cases h6 : decide (x.wait.length ≤ 6)
    · rw [hno (by simp [nodeOk, h6])] at hQ
      simp only [decide_eq_false_iff_not] at h6
      simp (disch := first | exact xD | fail) [-Option.bind_some, qs, -splice_eq, -stR_cells, qm, show (6 : Int) < x.wait.length by omega, e1, e13, e14, e15, X1, E0.blk, hlt, p0, p1, E1.blk]
      exact hQ _ ⟨rfl, xE⟩
    simp only [decide_eq_true_eq] at h6
    simp (disch := first | exact xD | fail) [-Option.bind_some, qs, -splice_eq, -stR_cells, qm, show ¬ (6 : Int) < x.wait.length by omega, e1, e13, e14, e15, X1, E0.blk, hlt, p0, p1, E1.blk]
    have hf : ∀ (cs : List Value) (v : Ver) (w' : World), rVer w' cs v → Ret (clo P (.func (.func 70) #[] #[]) #[.agg cs.toArray] w') fun r => r.1 = .bool (!verOk v) ∧ Ext w' r.2 := by
      intro cs v w' hc
      rw [clo_eq (P := P) (g := 70) (by kernel_rfl) [] [] [.agg cs.toArray] w']
      exact impl_ChainOk_1_c hc
    refine Ret.bind (slices_ContainsFunc_Ver_c (p := fun v => !verOk v) (D.rVers (h3.ext xE)) (fun v _ cs w' _ hc => hf cs v w' hc)) ?_
    rintro ⟨_, w2⟩ ⟨rfl, E2⟩
    try dsimp only at E2
    have zE2 := E2.size
    try simp only [qz] at zE2
    have hany : (x.wait.any fun v => !verOk v) = !x.wait.all verOk := by rw [List.not_all_eq_any_not]
    rw [hany]
    cases hv : x.wait.all verOk
    · rw [hno (by simp [nodeOk, hv])] at hQ
      simp (disch := first | exact xD | fail) [-Option.bind_some, qs, -splice_eq, -stR_cells, qm, hv, e1, e13, e14, e15, X1, E0.blk, hlt, p0, p1, E1.blk, E2.blk]
      exact hQ _ ⟨rfl, xE⟩
    · have hnx : nodeOk x = true := by rw [nodeOk, hs, hv]; simp [h6]
      simp (disch := first | exact xD | fail) [-Option.bind_some, qs, -splice_eq, -stR_cells, qm, hv, e1, e13, e14, e15, X1, E0.blk, hlt, p0, p1, E1.blk, E2.blk]
      refine Ret.mono (ih (k + 1) _ _ (by omega) ?_ xA xA xA xA (by first | assumption | rfl | (simp (disch := first | exact xD | fail) [-Option.bind_some, qs, -splice_eq, -stR_cells, qm, X1, e1, e13, e14, e15, E0.blk, hlt, p0, p1, E1.blk, E2.blk]; done)) xE) hQ
      rw [List.take_add_one, hx]
      simp only [List.all_append, hal, Option.toList_some, List.all_cons, hnx, List.all_nil, Bool.and_self]
theorem impl_ChainOk_m {a : Option Addr} {n c : Nat} {S : Nat → Prop} {ns : List CNode} {w : World} (ha : D tNodes S w [.slice a n c] ns) :
    Ret (EV P 46 #[.agg #[.slice a n c]] w) fun r => r.1 = .bool (chainOk ns) ∧ Ext w r.2 := by
  obtain ⟨rfl, hm, _⟩ := ha.n
  refine Ret.post fun Q hQ => ?_
  refine Ret.enter plain mixed (impl_ChainOk_fn _ _) (by kernel_rfl) (n := 1) (by kernel_rfl) rfl ?_
  simp (disch := first | exact xD | fail) [-Option.bind_some, qs, -splice_eq, -stR_cells, qm]
  refine Ret.bind (impl_nodesOk_c _ _) ?_
  rintro _ rfl
  cases hl : (decide ((1 : Int) ≤ ns.length) && decide ((ns.length : Int) ≤ 4))
  · have hc : chainOk ns = false := by rw [chainOk, lenOk, hl]; rfl
    rw [hc] at hQ
    simp (disch := first | exact xD | fail) [-Option.bind_some, qs, -splice_eq, -stR_cells, qm, hl]
    exact hQ _ ⟨rfl, xE⟩
  · have hc : chainOk ns = (ns.all nodeOk && links ns) := by rw [chainOk, lenOk, hl]; rfl
    rw [hc] at hQ
    simp (disch := first | exact xD | fail) [-Option.bind_some, qs, -splice_eq, -stR_cells, qm, hl]
    exact Ret.mono (impl_ChainOk_n1 (g1 := w.heap.size) ha ns.length 0 _ _ (by omega) rfl xA xA xA xA (by first | assumption | rfl | (simp (disch := first | exact xD | fail) [-Option.bind_some, qs, -splice_eq, -stR_cells, qm]; done)) xE) hQ
def lastStore (ns : List CNode) : List Ver := match ns[ns.length - 1]? with
  | some n => n.store
  | none => []
theorem impl_Store_tags_n {a : Option Addr} {n c : Nat} {S : Nat → Prop} {vs : List Ver} {w : World} (h4 : vs.length = 4) (ha : D tVers S w [.slice a n c] vs) :
    Ret (EV P 49 #[.agg #[.slice a n c]] w) fun r => ∃ a' c', r.1 = .agg #[.slice a' (tagsOf vs).length c'] ∧ O tTags (In w.heap.size r.2.heap.size) r.2 [.slice a' (tagsOf vs).length c'] (tagsOf vs) ∧ Ext w r.2 := by
  refine Ret.mono (impl_Store_tags_c h4 (D.rVers ha)) ?_
  rintro r ⟨s', h1, f2, E2⟩
  have zE2 := E2.size
  try simp only [qz] at zE2
  obtain ⟨a3, c3, hs', o3⟩ := (tags_o f2).sl'
  obtain rfl := (List.cons.inj hs').1
  exact ⟨a3, c3, h1, o3, E2⟩
theorem laws_cfPast_m {a b : Option Addr} {n m c c' : Nat} {S S' : Nat → Prop} {xs : List Tag} {w : World} (ha : D tTags S w [.slice a n c] xs) (hb : D tTags S' w [.slice b m c'] xs) :
    Ret (EV P 17 #[.agg #[.slice a n c], .agg #[.slice b m c']] w) fun r => r.1 = .bool true ∧ Ext w r.2 := laws_cfPast_c ha.rTags hb.rTags
theorem laws_cfVer_m {S S' : Nat → Prop} {cs ds : List Value} {x : Ver} {w : World} (ha : D tVer S w cs x) (hb : D tVer S' w ds x) : Ret (EV P 18 #[.agg cs.toArray, .agg ds.toArray] w) fun r => r.1 = .bool true ∧ Ext w r.2 := by
  obtain ⟨a, c, rfl, h1, _⟩ := D.ver.1 ha
  obtain ⟨b, c', rfl, h2, _⟩ := D.ver.1 hb
  refine Ret.post fun Q hQ => ?_
  refine Ret.enter plain mixed (laws_cfVer_fn _ _ _) (by kernel_rfl) (n := 2) (by kernel_rfl) rfl ?_
  simp (disch := first | exact xD | fail) [-Option.bind_some, qs, -splice_eq, -stR_cells, qm, beq_self_eq_true]
  refine Ret.bind (laws_cfPast_m (h1.ext xE) (h2.ext xE)) ?_
  rintro ⟨_, w1⟩ ⟨rfl, E1⟩
  try dsimp only at E1
  have zE1 := E1.size
  try simp only [qz] at zE1
  simp (disch := first | exact xD | fail) [-Option.bind_some, qs, -splice_eq, -stR_cells, qm, beq_self_eq_true, E1.blk]
  exact hQ _ ⟨rfl, xE⟩
theorem laws_cfVers_n {a b : Option Addr} {c c' : Nat} {S S' : Nat → Prop} {xs : List Ver} {w0 : World} :
    ∀ (d k : Nat) (e : Env) (w : World), k + d = xs.length → e 0 = .slice a xs.length c → e 1 = .slice b xs.length c' → e 5 = i64 k → D tVers S w0 [.slice a xs.length c] xs → D tVers S' w0 [.slice b xs.length c'] xs → Ext w0 w →
    Ret (laws_cfVers_l1 e w) fun r => r.1 = .bool true ∧ Ext w0 r.2 := by
  intro d
  induction d with
  | zero =>
    intro k e w hd e0 e1 e5 ha hb E0
    have zE0 := E0.size
    try simp only [qz] at zE0
    rw [laws_cfVers_l1_eq]
    obtain rfl : k = xs.length := by omega
    refine Ret.post fun Q hQ => ?_
    simp (disch := first | exact xD | fail) [-Option.bind_some, qs, -splice_eq, -stR_cells, qm, e0, e1, e5, E0.blk]
    exact hQ _ ⟨rfl, xE⟩
  | succ d ih =>
    intro k e w hd e0 e1 e5 ha hb E0
    have zE0 := E0.size
    try simp only [qz] at zE0
    rw [laws_cfVers_l1_eq]
    have hlt : k < xs.length := by omega
    obtain ⟨x, hx, hdx⟩ := drop_at hlt
    have hn := ha.n
    obtain ⟨b1, o1, cs1, rfl, A1, D1, _, l1⟩ := (ha.ext E0).at (by decide) hx
    have D1' := D1
    obtain ⟨a2, c2, rfl, hq1, ht1⟩ := D.ver.1 D1
    have p0 := A1 0 _ rfl
    have p1 := A1 1 _ rfl
    have p2 := A1 2 _ rfl
    have p3 := A1 3 _ rfl
    have p4 := A1 4 _ rfl
    have p5 := A1 5 _ rfl
    simp only [LVer_n, LTag_n, LNode_n, Nat.add_zero] at p0 p1 p2 p3 p4 p5
    obtain ⟨b2, o2, cs2, rfl, A2, D2, _, l2⟩ := (hb.ext E0).at (by decide) hx
    have D2' := D2
    obtain ⟨a3, c3, rfl, hq2, ht2⟩ := D.ver.1 D2
    have q0 := A2 0 _ rfl
    have q1 := A2 1 _ rfl
    have q2 := A2 2 _ rfl
    have q3 := A2 3 _ rfl
    have q4 := A2 4 _ rfl
    have q5 := A2 5 _ rfl
    simp only [LVer_n, LTag_n, LNode_n, Nat.add_zero] at q0 q1 q2 q3 q4 q5
    refine Ret.post fun Q hQ => ?_
    simp (disch := first | exact xD | fail) [-Option.bind_some, qs, -splice_eq, -stR_cells, qm, e0, e1, e5, hlt, ia_45, E0.blk, p0, p1, p2, p3, p4, p5, q0, q1, q2, q3, q4, q5]
    refine Ret.bind (laws_cfVer_m (D1'.ext xE) (D2'.ext xE)) ?_
    rintro ⟨_, w1⟩ ⟨rfl, E1⟩
    try dsimp only at E1
    have zE1 := E1.size
    try simp only [qz] at zE1
    simp (disch := first | exact xD | fail) [-Option.bind_some, qs, -splice_eq, -stR_cells, qm, e0, e1, e5, E0.blk, hlt, p0, p1, p2, p3, p4, p5, q0, q1, q2, q3, q4, q5, E1.blk]
    exact Ret.mono (ih (k + 1) _ _ (by omega) xA xA xA ha hb xE) hQ
theorem laws_cfVers_m {a b : Option Addr} {n m c c' : Nat} {S S' : Nat → Prop} {xs : List Ver} {w : World} (ha : D tVers S w [.slice a n c] xs) (hb : D tVers S' w [.slice b m c'] xs) :
    Ret (EV P 38 #[.slice a n c, .slice b m c'] w) fun r => r.1 = .bool true ∧ Ext w r.2 := by
  obtain ⟨rfl, hm, _⟩ := ha.n
  obtain ⟨rfl, hm2, _⟩ := hb.n
  refine Ret.post fun Q hQ => ?_
  refine Ret.enter plain mixed (laws_cfVers_fn _ _ _) (by kernel_rfl) (n := 2) (by kernel_rfl) rfl ?_
  simp (disch := first | exact xD | fail) [-Option.bind_some, qs, -splice_eq, -stR_cells, qm, bne_self_eq_false]
  refine Ret.mono (laws_cfVers_n xs.length 0 _ w (by omega) rfl rfl rfl ha hb Ext.rfl) hQ
theorem laws_cfStore_n {a b : Option Addr} {c c' g2 g3 : Nat} {S S' : Nat → Prop} {xs : List Ver} {w0 : World} :
    ∀ (d k : Nat) (e : Env) (w : World), k + d = xs.length → e 2 = pt g2 0 → e 3 = pt g3 0 → e 5 = i64 k → hp w g2 = some (.cells #[.slice a xs.length c] 86 (0, 0)) → hp w g3 = some (.cells #[.slice b xs.length c'] 86 (0, 0)) → D tVers S w0 [.slice a xs.length c] xs → D tVers S' w0 [.slice b xs.length c'] xs → Ext w0 w →
    Ret (laws_cfStore_l1 e w) fun r => r.1 = .bool true ∧ Ext w0 r.2 := by
  intro d
  induction d with
  | zero =>
    intro k e w hd e2 e3 e5 X2 X3 ha hb E0
    have zE0 := E0.size
    try simp only [qz] at zE0
    rw [laws_cfStore_l1_eq]
    obtain rfl : k = xs.length := by omega
    have y2 := hp_lt X2
    have y3 := hp_lt X3
    refine Ret.post fun Q hQ => ?_
    simp (disch := first | exact xD | fail) [-Option.bind_some, qs, -splice_eq, -stR_cells, qm, e2, e3, e5, X2, X3, E0.blk]
    exact hQ _ ⟨rfl, xE⟩
  | succ d ih =>
    intro k e w hd e2 e3 e5 X2 X3 ha hb E0
    have zE0 := E0.size
    try simp only [qz] at zE0
    rw [laws_cfStore_l1_eq]
    have hlt : k < xs.length := by omega
    obtain ⟨x, hx, hdx⟩ := drop_at hlt
    have hn := ha.n
    have y2 := hp_lt X2
    have y3 := hp_lt X3
    obtain ⟨b1, o1, cs1, rfl, A1, D1, _, l1⟩ := (ha.ext E0).at (by decide) hx
    have D1' := D1
    obtain ⟨a2, c2, rfl, hq1, ht1⟩ := D.ver.1 D1
    have p0 := A1 0 _ rfl
    have p1 := A1 1 _ rfl
    have p2 := A1 2 _ rfl
    have p3 := A1 3 _ rfl
    have p4 := A1 4 _ rfl
    have p5 := A1 5 _ rfl
    simp only [LVer_n, LTag_n, LNode_n, Nat.add_zero] at p0 p1 p2 p3 p4 p5
    obtain ⟨b2, o2, cs2, rfl, A2, D2, _, l2⟩ := (hb.ext E0).at (by decide) hx
    have D2' := D2
    obtain ⟨a3, c3, rfl, hq2, ht2⟩ := D.ver.1 D2
    have q0 := A2 0 _ rfl
    have q1 := A2 1 _ rfl
    have q2 := A2 2 _ rfl
    have q3 := A2 3 _ rfl
    have q4 := A2 4 _ rfl
    have q5 := A2 5 _ rfl
    simp only [LVer_n, LTag_n, LNode_n, Nat.add_zero] at q0 q1 q2 q3 q4 q5
    refine Ret.post fun Q hQ => ?_
    simp (disch := first | exact xD | fail) [-Option.bind_some, qs, -splice_eq, -stR_cells, qm, e2, e3, e5, X2, X3, hlt, ia_45, E0.blk, p0, p1, p2, p3, p4, p5, q0, q1, q2, q3, q4, q5]
    refine Ret.bind (laws_cfVer_m (D1'.ext xE) (D2'.ext xE)) ?_
    rintro ⟨_, w1⟩ ⟨rfl, E1⟩
    try dsimp only at E1
    have zE1 := E1.size
    try simp only [qz] at zE1
    simp (disch := first | exact xD | fail) [-Option.bind_some, qs, -splice_eq, -stR_cells, qm, e2, e3, e5, X2, X3, E0.blk, hlt, p0, p1, p2, p3, p4, p5, q0, q1, q2, q3, q4, q5, E1.blk]
    exact Ret.mono (ih (k + 1) _ _ (by omega) xA xA xA (by first | assumption | rfl | (simp (disch := first | exact xD | fail) [-Option.bind_some, qs, -splice_eq, -stR_cells, qm, X2, e2, e3, e5, X3, E0.blk, hlt, p0, p1, p2, p3, p4, p5, q0, q1, q2, q3, q4, q5, E1.blk]; done)) (by first | assumption | rfl | (simp (disch := first | exact xD | fail) [-Option.bind_some, qs, -splice_eq, -stR_cells, qm, X3, e2, e3, e5, X2, E0.blk, hlt, p0, p1, p2, p3, p4, p5, q0, q1, q2, q3, q4, q5, E1.blk]; done)) ha hb xE) hQ
theorem laws_cfStore_m {a b : Option Addr} {n m c c' : Nat} {S S' : Nat → Prop} {xs : List Ver} {w : World} (ha : D tVers S w [.slice a n c] xs) (hb : D tVers S' w [.slice b m c'] xs) :
    Ret (EV P 65 #[.agg #[.slice a n c], .agg #[.slice b m c']] w) fun r => r.1 = .bool true ∧ Ext w r.2 := by
  obtain ⟨rfl, hm, _⟩ := ha.n
  obtain ⟨rfl, hm2, _⟩ := hb.n
  refine Ret.post fun Q hQ => ?_
  refine Ret.enter plain mixed (laws_cfStore_fn _ _ _) (by kernel_rfl) (n := 2) (by kernel_rfl) rfl ?_
  simp (disch := first | exact xD | fail) [-Option.bind_some, qs, -splice_eq, -stR_cells, qm, bne_self_eq_false]
  exact Ret.mono (laws_cfStore_n (g2 := w.heap.size) (g3 := w.heap.size + 1) xs.length 0 _ _ (by omega) rfl rfl rfl (by first | assumption | rfl | (simp (disch := first | exact xD | fail) [-Option.bind_some, qs, -splice_eq, -stR_cells, qm]; done)) (by first | assumption | rfl | (simp (disch := first | exact xD | fail) [-Option.bind_some, qs, -splice_eq, -stR_cells, qm]; done)) ha hb xE) hQ
theorem laws_cfChain_n {a b : Option Addr} {c c' g2 g3 : Nat} {S S' : Nat → Prop} {xs : List CNode} {w0 : World} :
    ∀ (d k : Nat) (e : Env) (w : World), k + d = xs.length → e 2 = pt g2 0 → e 3 = pt g3 0 → e 5 = i64 k → hp w g2 = some (.cells #[.slice a xs.length c] 44 (0, 0)) → hp w g3 = some (.cells #[.slice b xs.length c'] 44 (0, 0)) → D tNodes S w0 [.slice a xs.length c] xs → D tNodes S' w0 [.slice b xs.length c'] xs → Ext w0 w →
    Ret (laws_cfChain_l1 e w) fun r => r.1 = .bool true ∧ Ext w0 r.2 := by
  intro d
  induction d with
  | zero =>
    intro k e w hd e2 e3 e5 X2 X3 ha hb E0
    have zE0 := E0.size
    try simp only [qz] at zE0
    rw [laws_cfChain_l1_eq]
    obtain rfl : k = xs.length := by omega
    have y2 := hp_lt X2
    have y3 := hp_lt X3
    refine Ret.post fun Q hQ => ?_
    simp (disch := first | exact xD | fail) [-Option.bind_some, qs, -splice_eq, -stR_cells, qm, e2, e3, e5, X2, X3, E0.blk]
    exact hQ _ ⟨rfl, xE⟩
  | succ d ih =>
    intro k e w hd e2 e3 e5 X2 X3 ha hb E0
    have zE0 := E0.size
    try simp only [qz] at zE0
    rw [laws_cfChain_l1_eq]
    have hlt : k < xs.length := by omega
    obtain ⟨x, hx, hdx⟩ := drop_at hlt
    have hn := ha.n
    have y2 := hp_lt X2
    have y3 := hp_lt X3
    obtain ⟨b1, o1, cs1, rfl, A1, D1, _, l1⟩ := (ha.ext E0).at (by decide) hx
    obtain ⟨a2, c2, a3, c3, rfl, h1, h2⟩ := D.node.1 D1
    have p0 := A1 0 _ rfl
    have p1 := A1 1 _ rfl
    simp only [LVer_n, LTag_n, LNode_n, Nat.add_zero] at p0 p1
    obtain ⟨b2, o2, cs2, rfl, A2, D2, _, l2⟩ := (hb.ext E0).at (by decide) hx
    obtain ⟨a4, c4, a5, c5, rfl, h3, h4⟩ := D.node.1 D2
    have q0 := A2 0 _ rfl
    have q1 := A2 1 _ rfl
    simp only [LVer_n, LTag_n, LNode_n, Nat.add_zero] at q0 q1
    refine Ret.post fun Q hQ => ?_
    simp (disch := first | exact xD | fail) [-Option.bind_some, qs, -splice_eq, -stR_cells, qm, e2, e3, e5, X2, X3, hlt, ia_42, E0.blk, p0, p1, q0, q1]
    refine Ret.bind (laws_cfStore_m (h1.ext xE) (h3.ext xE)) ?_
    rintro ⟨_, w1⟩ ⟨rfl, E1⟩
    try dsimp only at E1
    have zE1 := E1.size
    try simp only [qz] at zE1
    simp (disch := first | exact xD | fail) [-Option.bind_some, qs, -splice_eq, -stR_cells, qm, e2, e3, e5, X2, X3, hlt, ia_42, E0.blk, p0, p1, q0, q1, E1.blk]
    refine Ret.bind (laws_cfVers_m (h2.ext xE) (h4.ext xE)) ?_
    rintro ⟨_, w2⟩ ⟨rfl, E2⟩
    try dsimp only at E2
    have zE2 := E2.size
    try simp only [qz] at zE2
    simp (disch := first | exact xD | fail) [-Option.bind_some, qs, -splice_eq, -stR_cells, qm, e2, e3, e5, X2, X3, E0.blk, hlt, p0, p1, q0, q1, E1.blk, E2.blk]
    exact Ret.mono (ih (k + 1) _ _ (by omega) xA xA xA (by first | assumption | rfl | (simp (disch := first | exact xD | fail) [-Option.bind_some, qs, -splice_eq, -stR_cells, qm, X2, e2, e3, e5, X3, E0.blk, hlt, p0, p1, q0, q1, E1.blk, E2.blk]; done)) (by first | assumption | rfl | (simp (disch := first | exact xD | fail) [-Option.bind_some, qs, -splice_eq, -stR_cells, qm, X3, e2, e3, e5, X2, E0.blk, hlt, p0, p1, q0, q1, E1.blk, E2.blk]; done)) ha hb xE) hQ
theorem laws_cfChain_m {a b : Option Addr} {n m c c' : Nat} {S S' : Nat → Prop} {xs : List CNode} {w : World} (ha : D tNodes S w [.slice a n c] xs) (hb : D tNodes S' w [.slice b m c'] xs) :
    Ret (EV P 37 #[.agg #[.slice a n c], .agg #[.slice b m c']] w) fun r => r.1 = .bool true ∧ Ext w r.2 := by
  obtain ⟨rfl, hm, _⟩ := ha.n
  obtain ⟨rfl, hm2, _⟩ := hb.n
  refine Ret.post fun Q hQ => ?_
  refine Ret.enter plain mixed (laws_cfChain_fn _ _ _) (by kernel_rfl) (n := 2) (by kernel_rfl) rfl ?_
  simp (disch := first | exact xD | fail) [-Option.bind_some, qs, -splice_eq, -stR_cells, qm, bne_self_eq_false]
  exact Ret.mono (laws_cfChain_n (g2 := w.heap.size) (g3 := w.heap.size + 1) xs.length 0 _ _ (by omega) rfl rfl rfl (by first | assumption | rfl | (simp (disch := first | exact xD | fail) [-Option.bind_some, qs, -splice_eq, -stR_cells, qm]; done)) (by first | assumption | rfl | (simp (disch := first | exact xD | fail) [-Option.bind_some, qs, -splice_eq, -stR_cells, qm]; done)) ha hb xE) hQ
theorem tmod_nat (a b : Nat) : (a : Int).tmod (b : Int) = ((a % b : Nat) : Int) := by
  rw [Int.tmod_eq_emod_of_nonneg (by omega)]; rfl
theorem tdiv_nat (a b : Nat) : (a : Int).tdiv (b : Int) = ((a / b : Nat) : Int) := by
  rw [Int.tdiv_eq_ediv_of_nonneg (by omega)]; rfl
theorem rBytes_get {w : World} {s : Value} {ns : List Int} (h : rBytes w s ns) {i : Nat} (hi : i < ns.length) : ∃ (b o c m : Nat), s = .slice (some ⟨b, o, none⟩) ns.length c ∧ cellO (hp w b) (o + i) = some (.int .u8 (m : Int)) ∧ m ≤ 255 ∧ b < w.heap.size := by
  obtain ⟨a, c, h1, h2, h3, h4, h5⟩ := h
  rcases h5 with h5 | ⟨b, o, h5, h6⟩
  · subst h5; simp at hi
  · subst h5
    have hm := h4 ns[i] (List.getElem_mem hi)
    obtain ⟨m, hmm⟩ := Int.eq_ofNat_of_zero_le hm.1
    have hc := h6 i (.int .u8 (m : Int)) (by rw [List.getElem?_map, List.getElem?_eq_getElem hi, hmm]; rfl)
    refine ⟨b, o, c, m, h1, hc, by omega, ?_⟩
    rcases Nat.lt_or_ge b w.heap.size with h' | h'
    · exact h'
    · rw [hp, Array.getElem?_eq_none h'] at hc; simp [cellO] at hc
theorem rowB_of {s : Value} {ns : List Int} (h : ns.length ≠ 0) : rowB s ns = (blkOf s).toList := by
  cases ns with
  | nil => exact absurd rfl h
  | cons n ns => rfl
theorem spec_l20Rd_pick_c {b p t : Nat} {k : Nat} (hk : 1 ≤ k) (hk2 : k ≤ 1000000) (hp0 : p ≤ 1000000000000) {s : Value} {ns : List Int} {w : World} (hr : rRd t w b s p) (hs : rBytes w s ns) (hn : ns.length ≤ 1000000000000) (hb : ∀ x ∈ rowB s ns, x ≠ b) :
    Ret (EV P 32 #[pt b 0, i64 k] w) fun r => ∃ m : Nat, r.1 = i64 m ∧ m < k ∧ rRd t r.2 b s ((p + 1 : Nat) : Int) ∧ But w r.2 (some b) := by
  have hs' := hs
  obtain ⟨a, c, rfl, hc, hcm, _, _⟩ := hs
  unfold rRd at *
  have hwr : ∀ x : Int, 0 ≤ x → x ≤ 9000000000000000000 → IntKind.i64.wrap x = x := fun x h0 h1 => w64 (by omega) (by omega)
  have b1 : But w (w.setRow b #[.slice a ns.length c, i64 ((p : Int) + 1)]) (some b) := But.set w b _
  have hx1 : hp (w.setRow b #[.slice a ns.length c, i64 ((p : Int) + 1)]) b = some (.cells #[.slice a ns.length c, i64 (((p + 1 : Nat)) : Int)] t (0, 0)) := by rw [hp_set_eq, hr]; rfl
  refine Ret.enter plain mixed (spec_l20Rd_pick_fn _ _ _) (by kernel_rfl) (n := 2) (by kernel_rfl) rfl ?_
  have kk : ¬ (k : Int) < 1 := by omega
  have kn : (k : Int) ≠ 0 := by omega
  by_cases h0 : ns.length = 0
  · have hz : ((ns.length : Int) == 0) = true := by simp only [beq_iff_eq]; omega
    simp (disch := first | omega | (simp only [World.size_alloc, size_setRow, dw_size]; done) | (simp only [World.size_alloc, size_setRow, dw_size]; omega) | (simp only [List.length_set, Array.length_toList]; omega)) [-Option.bind_some, hp_alloc_lt, hp_alloc_eq, hp_set_ne, nk_ptr, hr, hwr, hz, kk, show ¬ k < 1 by omega]
    exact ⟨0, rfl, by omega, b1⟩
  have hz : ((ns.length : Int) == 0) = false := by simp only [beq_eq_false_iff_ne, ne_eq]; omega
  by_cases h1 : p < ns.length
  · obtain ⟨d, o, c', m, hs, hcell, hm, hd⟩ := rBytes_get hs' h1
    have hdb : d ≠ b := hb d (by rw [rowB_of h0]; simp [hs, blkOf])
    simp only [Value.slice.injEq, true_and] at hs
    obtain ⟨rfl, rfl⟩ := hs
    have hm1 : (m : Int).tmod (k : Int) = ((m % k : Nat) : Int) := tmod_nat m k
    simp (disch := first | omega | (simp only [World.size_alloc, size_setRow, dw_size]; done) | (simp only [World.size_alloc, size_setRow, dw_size]; omega) | (simp only [List.length_set, Array.length_toList]; omega)) [-Option.bind_some, hp_alloc_lt, hp_alloc_eq, hp_set_ne, nk_ptr, hr, hwr, hz, h1, kk, show ¬ k < 1 by omega, ia_22, hcell, hp_set_ne, hdb, bo_rem, kn, hm1]
    exact ⟨m % k, rfl, Nat.mod_lt _ (by omega), b1⟩
  have g1 : p % ns.length < ns.length := Nat.mod_lt _ (by omega)
  have g2 : (p * 7 + 3) % ns.length < ns.length := Nat.mod_lt _ (by omega)
  obtain ⟨d, o, c', m1, hs, hcell1, hm1, hd⟩ := rBytes_get hs' g1
  obtain ⟨d2, o2, c2, m2, hs2, hcell2, hm2, hd2⟩ := rBytes_get hs' g2
  have hdb : d ≠ b := hb d (by rw [rowB_of h0]; simp [hs, blkOf])
  have he := hs.symm.trans hs2
  simp only [Value.slice.injEq, Option.some.injEq, Addr.mk.injEq, true_and, and_true] at he hs
  obtain ⟨⟨rfl, rfl⟩, rfl⟩ := he
  obtain ⟨rfl, rfl⟩ := hs
  have t1 : (p : Int).tmod (ns.length : Int) = ((p % ns.length : Nat) : Int) := tmod_nat _ _
  have t2 : ((p : Int) * 7 + 3).tmod (ns.length : Int) = (((p * 7 + 3) % ns.length : Nat) : Int) := tmod_nat (p * 7 + 3) _
  have t3 : (p : Int).tdiv (ns.length : Int) = ((p / ns.length : Nat) : Int) := tdiv_nat _ _
  have t4 : p / ns.length ≤ p := Nat.div_le_self _ _
  generalize p % ns.length = q1 at *
  generalize (p * 7 + 3) % ns.length = q2 at *
  generalize p / ns.length = q3 at *
  have hn0 : (ns.length : Int) ≠ 0 := by omega
  simp (disch := first | omega | (simp only [World.size_alloc, size_setRow, dw_size]; done) | (simp only [World.size_alloc, size_setRow, dw_size]; omega) | (simp only [List.length_set, Array.length_toList]; omega)) [-Option.bind_some, hp_alloc_lt, hp_alloc_eq, hp_set_ne, nk_ptr, hr, hwr, hz, h1, kk, show ¬ k < 1 by omega, ia_22, hcell1, hcell2, hp_set_ne, hdb, bo_rem, bo_quo, kn, hn0, t1, t2, t3, g1, g2, show ns.length ≤ p by omega]
  obtain ⟨X, hX⟩ : ∃ X : Nat, X = m1 * 131 + m2 * 1117 + p * 29 + q3 * 53 := ⟨_, rfl⟩
  have hXi : (m1 : Int) * 131 + m2 * 1117 + p * 29 + q3 * 53 = (X : Int) := by omega
  have hXd : (X : Int).tdiv 64 = ((X / 64 : Nat) : Int) := tdiv_nat X 64
  rw [hXi, hXd, hwr _ (by omega) (by omega)]
  have hxo := fun x y w => (bo_xor (P := P) 3 x y (a := X) (b := X / 64) (by omega) (by omega) w).1
  rw [hxo]
  generalize (X ^^^ X / 64 : Nat) = Y
  have hY : (Y : Int).tmod (k : Int) = ((Y % k : Nat) : Int) := tmod_nat Y k
  simp (disch := first | omega | (simp only [World.size_alloc, size_setRow, dw_size]; done) | (simp only [World.size_alloc, size_setRow, dw_size]; omega) | (simp only [List.length_set, Array.length_toList]; omega)) [-Option.bind_some, hp_alloc_lt, hp_alloc_eq, hp_set_ne, bo_rem, kn, hY]
  exact ⟨Y % k, rfl, Nat.mod_lt _ (by omega), by simp (disch := first | omega | (simp only [World.size_alloc, size_setRow, dw_size]; done) | (simp only [World.size_alloc, size_setRow, dw_size]; omega) | (simp only [List.length_set, Array.length_toList]; omega)) [-Option.bind_some, hp_alloc_lt, hp_alloc_eq, hp_set_ne, hr], b1.tr (But.of (dw_ext _) _)⟩
/-- A reader in block g, at place p; what it reads lies below B. -/
def R (w : World) (B g p : Nat) : Prop := ∃ s ns, rRd 72 w g s p ∧ rBytes w s ns ∧ ns.length ≤ 1000000000000 ∧ (∀ x ∈ rowB s ns, x < B) ∧ B ≤ g
theorem R.lt {w : World} {B g p : Nat} (h : R w B g p) : B ≤ g ∧ g < w.heap.size := by
  obtain ⟨s, ns, h1, h2, h3, h4, h5⟩ := h
  exact ⟨h5, hp_lt h1⟩
theorem R.keep {w w' : World} {B g p : Nat} (h : R w B g p) (k : ∀ b, b < B ∨ b = g → b < w.heap.size → hp w' b = hp w b) : R w' B g p := by
  obtain ⟨s, ns, h1, h2, h3, h4, h5⟩ := h
  refine ⟨s, ns, (k g (.inr rfl) (hp_lt h1)).trans h1, ?_, h3, h4, h5⟩
  obtain ⟨a, c, q1, q2, q3, q4, q5⟩ := h2
  refine ⟨a, c, q1, q2, q3, q4, ?_⟩
  cases ns with
  | nil => exact .inl rfl
  | cons n ns =>
    rcases q5 with q5 | ⟨d, o, q6, q7⟩
    · cases q5
    · subst q1; subst q6
      have hd := h4 d (by simp [rowB, blkOf])
      exact .inr ⟨d, o, rfl, q7.same (k d (.inl hd) (At.lt (l := ns.map (Value.int .u8)) q7))⟩
theorem R.ext {w w' : World} {B g p : Nat} (h : R w B g p) (k : Ext w w') : R w' B g p := h.keep fun b _ hb => k.blk hb
theorem spec_l20Rd_pick_m {B g p k : Nat} (hk : 1 ≤ k) (hk2 : k ≤ 1000000) (hp0 : p ≤ 1000000000000) {w : World} (hr : R w B g p) :
    Ret (EV P 32 #[pt g 0, i64 k] w) fun r => ∃ m : Nat, r.1 = i64 m ∧ m < k ∧ R r.2 B g (p + 1) ∧ Mod (fun b => b = g) w r.2 := by
  obtain ⟨s, ns, h1, h2, h3, h4, h5⟩ := hr
  have hb : ∀ x ∈ rowB s ns, x ≠ g := fun x hx => by have := h4 x hx; omega
  refine Ret.mono (spec_l20Rd_pick_c hk hk2 hp0 h1 h2 h3 hb) ?_
  rintro r ⟨m, e1, e2, e3, M⟩
  have M' : Mod (fun b => b = g) w r.2 := ⟨M.os, M.tape, M.output, M.size, fun b hb hne => M.blk b hb (by simpa using fun h => hne h.symm)⟩
  have R0 : R w B g p := ⟨s, ns, h1, h2, h3, h4, h5⟩
  refine ⟨m, e1, e2, ⟨s, ns, e3, ?_, h3, h4, h5⟩, M'⟩
  obtain ⟨a, c, q1, q2, q3, q4, q5⟩ := h2
  refine ⟨a, c, q1, q2, q3, q4, ?_⟩
  cases ns with
  | nil => exact .inl rfl
  | cons n ns =>
    rcases q5 with q5 | ⟨d, o, q6, q7⟩
    · cases q5
    · subst q1; subst q6
      have hd := h4 d (by simp [rowB, blkOf])
      exact .inr ⟨d, o, rfl, q7.same (M'.blk d (At.lt (l := ns.map (Value.int .u8)) q7) (by omega))⟩
theorem spec_l20Open_m {s : Value} {ns : List Int} {w : World} (hs : rBytes w s ns) (hn : ns.length ≤ 1000000000000) :
    Ret (EV P 11 #[s] w) fun r => ∃ g, r.1 = pt g 0 ∧ R r.2 w.heap.size g 0 ∧ Ext w r.2 := by
  have hlt : ∀ x ∈ rowB s ns, x < w.heap.size := by
    intro x hx
    obtain ⟨a, c, q1, q2, q3, q4, q5⟩ := hs
    cases ns with
    | nil => simp [rowB] at hx
    | cons n ns =>
      rcases q5 with q5 | ⟨d, o, q6, q7⟩
      · cases q5
      · subst q1; subst q6
        simp only [rowB, blkOf, Option.toList_some, List.mem_singleton] at hx
        rw [hx]
        exact At.lt (l := ns.map (Value.int .u8)) q7
  have fin : ∀ (e : Env) (s : Value) (ns : List Int), e 0 = s → rBytes w s ns → ns.length ≤ 1000000000000 → (∀ x ∈ rowB s ns, x < w.heap.size) → Ret (spec_l20Open_j1 e w) fun r => ∃ g, r.1 = pt g 0 ∧ R r.2 w.heap.size g 0 ∧ Ext w r.2 := by
    intro e s ns e0 hs hn hlt
    have hs' := hs
    obtain ⟨a, c, rfl, q2, q3, q4, q5⟩ := hs
    refine Ret.post fun Q hQ => ?_
    rw [spec_l20Open_j1_eq]
    simp (disch := first | exact xD | fail) [-Option.bind_some, qs, -splice_eq, -stR_cells, qm, e0, hlt]
    refine hQ _ ⟨w.heap.size, rfl, ⟨_, ns, ?_, hs'.mono (Ext.keep xE), hn, hlt, by omega⟩, xE⟩
    show hp _ _ = _
    exact (by first | assumption | rfl | (simp (disch := first | exact xD | fail) [-Option.bind_some, qs, -splice_eq, -stR_cells, qm, hlt, e0]; done))
  have hs' := hs
  obtain ⟨a, c, rfl, q2, q3, q4, q5⟩ := hs
  refine Ret.post fun Q hQ => ?_
  refine Ret.enter plain mixed (spec_l20Open_fn _ _) (by kernel_rfl) (n := 1) (by kernel_rfl) rfl ?_
  by_cases hl : 2000 < ns.length
  · have hts : rBytes w (.slice a 2000 c) (ns.take 2000) := by
      refine ⟨a, c, by rw [List.length_take]; congr 1; omega, by rw [List.length_take]; omega, q3, fun n hn => q4 n (List.mem_of_mem_take hn), ?_⟩
      rcases q5 with q5 | ⟨d, o, q6, q7⟩
      · subst q5; simp at hl
      · refine .inr ⟨d, o, q6, fun j v hv => q7 j v ?_⟩
        rw [List.map_take, List.getElem?_take] at hv
        split at hv
        · exact hv
        · cases hv
    simp (disch := first | exact xD | fail) [-Option.bind_some, qs, -splice_eq, -stR_cells, qm, show (2000 : Int) < ns.length by omega, sl_h (P := P) el_22, show (2000 : Int) ≤ c by omega, hlt]
    refine Ret.mono (fin _ (.slice a 2000 c) (ns.take 2000) rfl hts (by rw [List.length_take]; omega) ?_) hQ
    intro x hx
    refine hlt x ?_
    cases ns with
    | nil => simp at hl
    | cons n ns =>
      cases a with
      | none => simp [rowB, blkOf] at hx
      | some _ => simpa [rowB, blkOf] using hx
  · simp (disch := first | exact xD | fail) [-Option.bind_some, qs, -splice_eq, -stR_cells, qm, show ¬ (2000 : Int) < ns.length by omega, hlt]
    exact Ret.mono (fin _ _ ns rfl hs' hn hlt) hQ
theorem spec_l20Rd_one_m {B g p b k c : Nat} {ints : List Int} (hk : 1 ≤ k) (hk2 : k ≤ 1000000) (hp0 : p ≤ 1000000000000) {w : World} (hl : ints.length = k) (hA : At w b 0 (ints.map fun n => i64 n)) (hbg : b ≠ g) (hr : R w B g p) :
    Ret (EV P 12 #[pt g 0, .slice (some ⟨b, 0, none⟩) k c] w) fun r => ∃ n ∈ ints, r.1 = i64 n ∧ R r.2 B g (p + 1) ∧ Mod (fun b => b = g) w r.2 := by
  refine Ret.post fun Q hQ => ?_
  refine Ret.enter plain mixed (spec_l20Rd_one_fn _ _ _) (by kernel_rfl) (n := 2) (by kernel_rfl) rfl ?_
  simp (disch := first | exact xD | fail) [-Option.bind_some, qs, -splice_eq, -stR_cells, qm]
  refine Ret.bind (spec_l20Rd_pick_m hk hk2 hp0 hr) ?_
  rintro ⟨_, w1⟩ ⟨m, rfl, hm, R1, M1⟩
  have zM1 := M1.size
  try simp only [qz] at zM1
  try dsimp only at R1 M1
  obtain ⟨n, hn, _⟩ := drop_at (l := ints) (k := m) (by omega)
  have hA1 := hA m (i64 n) (by rw [List.getElem?_map, hn]; rfl)
  have hbl : b < w.heap.size := by
    rcases Nat.lt_or_ge b w.heap.size with h | h
    · exact h
    · rw [hp, Array.getElem?_eq_none h] at hA1; simp [cellO] at hA1
  rw [Nat.zero_add] at hA1
  simp (disch := first | exact xD | fail) [-Option.bind_some, qs, -splice_eq, -stR_cells, qm, ia_38, show (m : Int) < k by omega, hA1, M1.blk]
  exact hQ _ ⟨n, List.mem_of_getElem? hn, rfl, R1, M1⟩
theorem impl_PastNone_m {w : World} : Ret (EV P 36 #[] w) fun r => ∃ a c, r.1 = .agg #[.slice a 4 c] ∧ O tTags (In w.heap.size r.2.heap.size) r.2 [.slice a 4 c] (List.replicate 4 ⟨0, 0⟩) ∧ Ext w r.2 := by
  refine Ret.post fun Q hQ => ?_
  refine Ret.enter plain mixed (impl_PastNone_fn _) (by kernel_rfl) (n := 0) (by kernel_rfl) rfl ?_
  simp (disch := first | exact xD | fail) [-Option.bind_some, qs, -splice_eq, -stR_cells, qm]
  refine Ret.bind (O.make (L := LTag) (mx := 8796093021952) (n := 4) (x0 := (⟨0, 0⟩ : Tag)) el_49 zz_53 rfl (by decide) (fun w => O.tag.2 rfl) (by decide) (by decide) (by decide)) ?_
  rintro ⟨_, w1⟩ ⟨rfl, o1, z1, E1⟩
  have zE1 := E1.size
  try simp only [qz] at zE1
  try dsimp only at o1 z1 E1
  have X1 := E1.blk (b := w.heap.size) (by simp)
  simp only [World.size_alloc] at z1 o1
  simp (disch := first | exact xD | fail) [-Option.bind_some, qs, -splice_eq, -stR_cells, qm, E1.blk, X1]
  exact hQ _ ⟨_, _, rfl, (o1.keep (by intro b hS hb; (try dsimp only at hS); (try simp only [In, qz] at hS hb); first | rfl | (simp (disch := first | exact xF | fail) only [E1.blk, qk]; done))).wide xV, xE⟩
theorem chainOk_head {ns : List CNode} (h : chainOk ns = true) : ∃ n, ns[0]? = some n ∧ nodeOk n = true ∧ 0 < ns.length ∧ ns.length ≤ 4 := by
  simp only [chainOk, lenOk, Bool.and_eq_true, decide_eq_true_eq, List.all_eq_true] at h
  obtain ⟨n, hn, _⟩ := drop_at (l := ns) (k := 0) (by omega)
  exact ⟨n, hn, h.1.2 n (List.mem_of_getElem? hn), by omega, by omega⟩
theorem spec_l1None_m {w : World} : Ret (EV P 40 #[] w) fun r => ∃ a c, r.1 = .agg #[.slice a 4 c] ∧ O tTags (In w.heap.size r.2.heap.size) r.2 [.slice a 4 c] (List.replicate 4 ⟨0, 0⟩) ∧ Ext w r.2 := by
  refine Ret.post fun Q hQ => ?_
  refine Ret.enter plain mixed (spec_l1None_fn _) (by kernel_rfl) (n := 0) (by kernel_rfl) rfl ?_
  simp (disch := first | exact xD | fail) [-Option.bind_some, qs, -splice_eq, -stR_cells, qm]
  refine Ret.bind (O.make (L := LTag) (mx := 8796093021952) (n := 4) (x0 := (⟨0, 0⟩ : Tag)) el_49 zz_53 rfl (by decide) (fun w => O.tag.2 rfl) (by decide) (by decide) (by decide)) ?_
  rintro ⟨_, w1⟩ ⟨rfl, o1, z1, E1⟩
  have zE1 := E1.size
  try simp only [qz] at zE1
  try dsimp only at o1 z1 E1
  have X1 := E1.blk (b := w.heap.size) (by simp)
  simp only [World.size_alloc] at z1 o1
  simp (disch := first | exact xD | fail) [-Option.bind_some, qs, -splice_eq, -stR_cells, qm, E1.blk, X1]
  exact hQ _ ⟨_, _, rfl, (o1.keep (by intro b hS hb; (try dsimp only at hS); (try simp only [In, qz] at hS hb); first | rfl | (simp (disch := first | exact xF | fail) only [E1.blk, qk]; done))).wide xV, xE⟩
abbrev tVerSS : Lay (List (List Ver)) := LVerSS 53 58 45
abbrev tPlace : Lay PlaceD := LPlace 53 58 89 45
def placeZ : PlaceD := ⟨0, 0, [], [], [], false⟩
def placeNewB (me nodes : Int) : Bool := (decide (0 ≤ me) && decide (me ≤ 2)) && (decide (1 ≤ nodes) && decide (nodes ≤ 4))
def placeNewP (me nodes : Int) : PlaceD := if placeNewB me nodes then ⟨me, 0, chainNewP nodes, [], List.replicate 3 [], false⟩ else placeZ
theorem placeZ_O (w : World) : O tPlace (fun _ => False) w [i64 0, i64 0, .slice none 0 0, .slice none 0 0, .slice none 0 0, .bool false] placeZ :=
  (O.place_mk (p := placeZ) (S1 := fun _ => False) (S2 := fun _ => False) (S3 := fun _ => False) O.nil O.nil O.nil (fun _ _ h => h.elim) (fun _ _ h => h.elim) (fun _ _ h => h.elim)).wide fun b h _ => h.elim id fun h => h.elim id id
theorem spec_l4New_r {me nodes : Int} {g : Nat} {e : Env} {w : World} (hb : placeNewB me nodes = true) (e0 : e 0 = i64 me) (e1 : e 1 = i64 nodes) (e4 : e 4 = pt g 0) (X1 : hp w g = some (.cells #[i64 0, i64 0, .slice none 0 0, .slice none 0 0, .slice none 0 0, .bool false] 48 (0, 0))) :
    Ret (spec_l4New_a1 e w) fun r => ∃ ds, r.1 = .agg ds.toArray ∧ O tPlace (In w.heap.size r.2.heap.size) r.2 ds (placeNewP me nodes) ∧ Mod (fun b => b = g) w r.2 := by
  have ep : placeNewP me nodes = ⟨me, 0, chainNewP nodes, [], List.replicate 3 [], false⟩ := by rw [placeNewP, if_pos hb]
  have y1 := hp_lt X1
  rw [ep]
  refine Ret.post fun Q hQ => ?_
  refine spec_l4New_a1_any _ _ ?_
  simp (disch := first | exact xD | fail) [-Option.bind_some, qs, -splice_eq, -stR_cells, qm, e0, e1, e4, X1]
  constructor
  · skip
    refine Ret.mono (spec_ChainNew_n nodes) ?_
    rintro ⟨_, w1⟩ ⟨a1, c1, rfl, o1, E1⟩
    try dsimp only at a1 c1 o1 E1
    have zE1 := E1.size
    try simp only [qz] at zE1
    simp (disch := first | exact xD | fail) [-Option.bind_some, qs, -splice_eq, -stR_cells, qm, e0, e1, e4, X1, E1.blk]
    refine Ret.mono (O.make (L := tVers) (mx := 5864062014805) (n := 3) (x0 := ([] : List Ver)) el_46 zz_45 rfl (by decide) (fun w => O.nil) (by decide) (by decide) (by decide)) ?_
    rintro ⟨_, w2⟩ ⟨rfl, o2, z2, E2⟩
    have zE2 := E2.size
    try simp only [qz] at zE2
    try dsimp only at o2 z2 E2
    have Y1 : hp w2 g = hp w g := (E2.blk (by omega)).trans ((E1.blk (by simp only [dw_size]; omega)).trans (hp_dw _ _))
    simp (disch := first | exact xD | fail) [-Option.bind_some, qs, -splice_eq, -stR_cells, qm, e0, e1, e4, Y1, X1, spec_l4New_j1_eq, E1.blk, E2.blk]
    refine hQ _ ⟨[_, _, _, _, _, _], rfl, ((O.place_mk (p := ⟨me, 0, chainNewP nodes, [], List.replicate 3 [], false⟩) (S2 := fun _ => False) (o1.keep (fun b hS hb => (hp_set_ne (by simp only [In, dw_size] at hS; omega)).trans (E2.blk hb))) O.nil (o2.keep (fun b hS hb => hp_set_ne (by omega))) (fun _ _ _ h => h) (fun b _ h h' => by simp only [In] at h; omega) (fun _ _ h => h.elim))).wide ?_, (Mod.of (show Ext w w2 from ((dw_ext w).tr E1).tr E2) (fun b => b = g)).set' (.inr rfl) _⟩
    rintro b (h | h | h) hb
    · simp only [In, size_setRow, dw_size] at *
      omega
    · exact h.elim
    · simp only [In, size_setRow, dw_size] at *
      omega
  · skip
    refine Ret.mono (O.make (L := tVers) (mx := 5864062014805) (n := 3) (x0 := ([] : List Ver)) el_46 zz_45 rfl (by decide) (fun w => O.nil) (by decide) (by decide) (by decide)) ?_
    rintro ⟨_, w2⟩ ⟨rfl, o2, z2, E2⟩
    have zE2 := E2.size
    try simp only [qz] at zE2
    try dsimp only at o2 z2 E2
    rw [dw_size] at z2
    simp (disch := first | exact xD | fail) [-Option.bind_some, qs, -splice_eq, -stR_cells, qm, e0, e1, e4, X1, E2.blk]
    refine Ret.mono (spec_ChainNew_n nodes) ?_
    rintro ⟨_, w1⟩ ⟨a1, c1, rfl, o1, E1⟩
    try dsimp only at a1 c1 o1 E1
    have zE1 := E1.size
    try simp only [qz] at zE1
    have Y1 : hp w1 g = hp w g := (E1.blk (by omega)).trans ((E2.blk (by simp only [dw_size]; omega)).trans (hp_dw _ _))
    have zE1' := E1.size
    simp (disch := first | exact xD | fail) [-Option.bind_some, qs, -splice_eq, -stR_cells, qm, e0, e1, e4, Y1, X1, spec_l4New_j1_eq, E2.blk, E1.blk]
    refine hQ _ ⟨[_, _, _, _, _, _], rfl, ((O.place_mk (p := ⟨me, 0, chainNewP nodes, [], List.replicate 3 [], false⟩) (S2 := fun _ => False) (o1.keep (fun b hS hb => hp_set_ne (by simp only [In] at hS; omega))) O.nil (o2.keep (fun b hS hb => (hp_set_ne (by rw [dw_size] at hS; omega)).trans (E1.blk hb))) (fun _ _ _ h => h) (fun b _ h h' => by rw [dw_size] at h'; simp only [In] at h; omega) (fun _ _ h => h.elim))).wide ?_, (Mod.of (show Ext w w1 from (dw_ext w).tr (E2.tr E1)) (fun b => b = g)).set' (.inr rfl) _⟩
    rintro b (h | h | h) hb
    · simp only [In, size_setRow, dw_size] at *
      omega
    · exact h.elim
    · simp only [In, size_setRow, dw_size] at *
      omega
theorem impl_PlaceNew_r {me nodes : Int} {g : Nat} {e : Env} {w : World} (hb : placeNewB me nodes = true) (e0 : e 0 = i64 me) (e1 : e 1 = i64 nodes) (e4 : e 4 = pt g 0) (X1 : hp w g = some (.cells #[i64 0, i64 0, .slice none 0 0, .slice none 0 0, .slice none 0 0, .bool false] 48 (0, 0))) :
    Ret (impl_PlaceNew_a1 e w) fun r => ∃ ds, r.1 = .agg ds.toArray ∧ O tPlace (In w.heap.size r.2.heap.size) r.2 ds (placeNewP me nodes) ∧ Mod (fun b => b = g) w r.2 := by
  have ep : placeNewP me nodes = ⟨me, 0, chainNewP nodes, [], List.replicate 3 [], false⟩ := by rw [placeNewP, if_pos hb]
  have y1 := hp_lt X1
  rw [ep]
  refine Ret.post fun Q hQ => ?_
  refine impl_PlaceNew_a1_any _ _ ?_
  simp (disch := first | exact xD | fail) [-Option.bind_some, qs, -splice_eq, -stR_cells, qm, e0, e1, e4, X1]
  constructor
  · skip
    refine Ret.mono (impl_ChainNew_n nodes) ?_
    rintro ⟨_, w1⟩ ⟨a1, c1, rfl, o1, E1⟩
    try dsimp only at a1 c1 o1 E1
    have zE1 := E1.size
    try simp only [qz] at zE1
    simp (disch := first | exact xD | fail) [-Option.bind_some, qs, -splice_eq, -stR_cells, qm, e0, e1, e4, X1, E1.blk]
    refine Ret.mono (O.make (L := tVers) (mx := 5864062014805) (n := 3) (x0 := ([] : List Ver)) el_46 zz_45 rfl (by decide) (fun w => O.nil) (by decide) (by decide) (by decide)) ?_
    rintro ⟨_, w2⟩ ⟨rfl, o2, z2, E2⟩
    have zE2 := E2.size
    try simp only [qz] at zE2
    try dsimp only at o2 z2 E2
    have Y1 : hp w2 g = hp w g := (E2.blk (by omega)).trans ((E1.blk (by simp only [dw_size]; omega)).trans (hp_dw _ _))
    simp (disch := first | exact xD | fail) [-Option.bind_some, qs, -splice_eq, -stR_cells, qm, e0, e1, e4, Y1, X1, impl_PlaceNew_j1_eq, E1.blk, E2.blk]
    refine hQ _ ⟨[_, _, _, _, _, _], rfl, ((O.place_mk (p := ⟨me, 0, chainNewP nodes, [], List.replicate 3 [], false⟩) (S2 := fun _ => False) (o1.keep (fun b hS hb => (hp_set_ne (by simp only [In, dw_size] at hS; omega)).trans (E2.blk hb))) O.nil (o2.keep (fun b hS hb => hp_set_ne (by omega))) (fun _ _ _ h => h) (fun b _ h h' => by simp only [In] at h; omega) (fun _ _ h => h.elim))).wide ?_, (Mod.of (show Ext w w2 from ((dw_ext w).tr E1).tr E2) (fun b => b = g)).set' (.inr rfl) _⟩
    rintro b (h | h | h) hb
    · simp only [In, size_setRow, dw_size] at *
      omega
    · exact h.elim
    · simp only [In, size_setRow, dw_size] at *
      omega
  · skip
    refine Ret.mono (O.make (L := tVers) (mx := 5864062014805) (n := 3) (x0 := ([] : List Ver)) el_46 zz_45 rfl (by decide) (fun w => O.nil) (by decide) (by decide) (by decide)) ?_
    rintro ⟨_, w2⟩ ⟨rfl, o2, z2, E2⟩
    have zE2 := E2.size
    try simp only [qz] at zE2
    try dsimp only at o2 z2 E2
    rw [dw_size] at z2
    simp (disch := first | exact xD | fail) [-Option.bind_some, qs, -splice_eq, -stR_cells, qm, e0, e1, e4, X1, E2.blk]
    refine Ret.mono (impl_ChainNew_n nodes) ?_
    rintro ⟨_, w1⟩ ⟨a1, c1, rfl, o1, E1⟩
    try dsimp only at a1 c1 o1 E1
    have zE1 := E1.size
    try simp only [qz] at zE1
    have Y1 : hp w1 g = hp w g := (E1.blk (by omega)).trans ((E2.blk (by simp only [dw_size]; omega)).trans (hp_dw _ _))
    have zE1' := E1.size
    simp (disch := first | exact xD | fail) [-Option.bind_some, qs, -splice_eq, -stR_cells, qm, e0, e1, e4, Y1, X1, impl_PlaceNew_j1_eq, E2.blk, E1.blk]
    refine hQ _ ⟨[_, _, _, _, _, _], rfl, ((O.place_mk (p := ⟨me, 0, chainNewP nodes, [], List.replicate 3 [], false⟩) (S2 := fun _ => False) (o1.keep (fun b hS hb => hp_set_ne (by simp only [In] at hS; omega))) O.nil (o2.keep (fun b hS hb => (hp_set_ne (by rw [dw_size] at hS; omega)).trans (E1.blk hb))) (fun _ _ _ h => h) (fun b _ h h' => by rw [dw_size] at h'; simp only [In] at h; omega) (fun _ _ h => h.elim))).wide ?_, (Mod.of (show Ext w w1 from (dw_ext w).tr (E2.tr E1)) (fun b => b = g)).set' (.inr rfl) _⟩
    rintro b (h | h | h) hb
    · simp only [In, size_setRow, dw_size] at *
      omega
    · exact h.elim
    · simp only [In, size_setRow, dw_size] at *
      omega
theorem spec_l4New_n (me nodes : Int) (hb : placeNewB me nodes = true) {w : World} : Ret (EV P 39 #[i64 me, i64 nodes] w) fun r => ∃ ds, r.1 = .agg ds.toArray ∧ O tPlace (In w.heap.size r.2.heap.size) r.2 ds (placeNewP me nodes) ∧ Ext w r.2 := by
  refine Ret.post fun Q hQ => ?_
  refine Ret.enter plain mixed (spec_l4New_fn _ _ _) (by kernel_rfl) (n := 2) (by kernel_rfl) rfl ?_
  simp (disch := first | exact xD | fail) [-Option.bind_some, qs, -splice_eq, -stR_cells, qm]
  refine Ret.mono (spec_l4New_r (g := w.heap.size) hb rfl rfl rfl (by first | assumption | rfl | (simp (disch := first | exact xD | fail) [-Option.bind_some, qs, -splice_eq, -stR_cells, qm]; done))) ?_
  rintro r ⟨ds, h1, h2, h3⟩
  exact hQ _ ⟨ds, h1, h2.wide (fun b h _ => by simp only [In, World.size_alloc] at h; simp only [In]; omega), Mod.after xE h3 (fun b h1 h2 => by have h2 : b = w.heap.size := h2; omega)⟩
theorem impl_PlaceNew_n (me nodes : Int) {w : World} : Ret (EV P 35 #[i64 me, i64 nodes] w) fun r => ∃ ds, r.1 = .agg ds.toArray ∧ O tPlace (In w.heap.size r.2.heap.size) r.2 ds (placeNewP me nodes) ∧ Ext w r.2 := by
  refine Ret.post fun Q hQ => ?_
  have neg : placeNewB me nodes = false → placeNewP me nodes = placeZ := fun h => by rw [placeNewP, h]; rfl
  refine Ret.enter plain mixed (impl_PlaceNew_fn _ _ _) (by kernel_rfl) (n := 2) (by kernel_rfl) rfl ?_
  simp (disch := first | exact xD | fail) [-Option.bind_some, qs, -splice_eq, -stR_cells, qm]
  refine Ret.bind (impl_placeOk_c _ _) ?_
  rintro _ rfl
  cases h1 : (decide (0 ≤ me) && decide (me ≤ 2))
  · have hb : placeNewB me nodes = false := by rw [placeNewB, h1]; rfl
    rw [neg hb] at hQ
    simp (disch := first | exact xD | fail) [-Option.bind_some, qs, -splice_eq, -stR_cells, qm]
    exact hQ _ ⟨[_, _, _, _, _, _], rfl, (placeZ_O _).wide fun b h _ => h.elim, xE⟩
  simp (disch := first | exact xD | fail) [-Option.bind_some, qs, -splice_eq, -stR_cells, qm]
  refine Ret.bind (impl_nodesOk_c _ _) ?_
  rintro _ rfl
  cases h2 : (decide (1 ≤ nodes) && decide (nodes ≤ 4))
  · have hb : placeNewB me nodes = false := by rw [placeNewB, h2, Bool.and_false]
    rw [neg hb] at hQ
    simp (disch := first | exact xD | fail) [-Option.bind_some, qs, -splice_eq, -stR_cells, qm]
    exact hQ _ ⟨[_, _, _, _, _, _], rfl, (placeZ_O _).wide fun b h _ => h.elim, xE⟩
  have hb : placeNewB me nodes = true := by rw [placeNewB, h1, h2]; rfl
  simp (disch := first | exact xD | fail) [-Option.bind_some, qs, -splice_eq, -stR_cells, qm]
  refine Ret.mono (impl_PlaceNew_r (me := me) (nodes := nodes) (g := w.heap.size) hb rfl rfl rfl (by first | assumption | rfl | (simp (disch := first | exact xD | fail) [-Option.bind_some, qs, -splice_eq, -stR_cells, qm]; done))) ?_
  rintro r ⟨ds, h1, h2, h3⟩
  exact hQ _ ⟨ds, h1, h2.wide (fun b h _ => by simp only [In, World.size_alloc] at h; simp only [In]; omega), Mod.after xE h3 (fun b h1 h2 => by have h2 : b = w.heap.size := h2; omega)⟩
theorem slices_Grow_Ver_z {n : Nat} (h0 : 0 < n) (hn : n ≤ 1000000000) {w : World} :
    Ret (EV P 75 #[.slice none 0 0, i64 n] w) fun r => ∃ cap, r.1 = .slice (some ⟨w.heap.size, 0, none⟩) 0 cap ∧ Own r.2 w.heap.size 58 6 (.slice (some ⟨w.heap.size, 0, none⟩) 0 cap) 0 [] ∧ w.heap.size < r.2.heap.size ∧ Ext w r.2 := by
  refine Ret.post fun Q hQ => ?_
  refine Ret.enter plain mixed (slices_Grow_Ver_fn _ _ _) (by kernel_rfl) (n := 2) (by kernel_rfl) rfl ?_
  simp (disch := first | exact xD | fail) [-Option.bind_some, qs, -splice_eq, -stR_cells, qm, show ¬ (n : Int) < 0 by omega, slices_Grow_Ver_j1_eq]
  have hc0 : ∀ w', b_cap P #[45] 3 #[.slice none 0 0] w' = some (i64 0, w') := fun w' => by first | rfl | simp [b_cap, Builtin.cap_, ro]
  simp (disch := first | exact xD | fail) [-Option.bind_some, qs, -splice_eq, -stR_cells, qm, hc0, h0, show (0 : Int) < n by omega, sl_h (P := P) el_45]
  refine Ret.bind (appZ (P := P) (t := 45) (tn := 3) (ty := 45) (kn := .i64) el_45 (by kernel_rfl) zz_58 rfl (by decide) h0 (by omega) (by omega) _) ?_
  rintro ⟨_, w1⟩ ⟨cap, rfl, hcap, hcap9, ho, hsz, E1⟩
  have zE1 := E1.size
  try simp only [qz] at zE1
  try dsimp only at ho hsz E1
  simp (disch := first | exact xD | fail) [-Option.bind_some, qs, -splice_eq, -stR_cells, qm, sl_h (P := P) el_45, slices_Grow_Ver_j2_eq, E1.blk]
  exact hQ _ ⟨cap, rfl, ho, hsz, E1⟩
theorem slices_Concat_Ver_n {a b : Option Addr} {c d g : Nat} {S : Nat → Prop} {xs ys : List Ver} {w : World} (hx : 0 < xs.length) (hxl : xs.length ≤ 1000000) (hyl : ys.length ≤ 1000000) (ha : D tVers S w [.slice a xs.length c] xs) (hb : D tVers S w [.slice b ys.length d] ys) (hS : ∀ b, S b → b < w.heap.size)
    (X1 : hp w g = some (.cells #[.slice a xs.length c, .slice b ys.length d] 45 (0, 0))) :
    Ret (EV P 50 #[.slice (some ⟨g, 0, none⟩) 2 2] w) fun r => ∃ a' c', r.1 = .slice a' (xs.length + ys.length) c' ∧ D tVers (fun b => b < r.2.heap.size) r.2 [.slice a' (xs.length + ys.length) c'] (xs ++ ys) ∧ Ext w r.2 := by
  have y1 := hp_lt X1
  have e1 : ¬ (xs.length : Int) < 0 := by omega
  have e2 : ¬ (xs.length : Int) + (ys.length : Int) < 0 := by omega
  refine Ret.post fun Q hQ => ?_
  refine Ret.enter plain mixed (slices_Concat_Ver_fn _ _) (by kernel_rfl) (n := 1) (by kernel_rfl) rfl ?_
  simp (disch := first | exact xD | fail) [-Option.bind_some, qs, -splice_eq, -stR_cells, qm, e1, e2]
  rw [slices_Concat_Ver_l1_eq]
  simp (disch := first | exact xD | fail) [-Option.bind_some, qs, -splice_eq, -stR_cells, qm, ia_46, X1, e1, e2]
  rw [slices_Concat_Ver_j1_eq]
  simp (disch := first | exact xD | fail) [-Option.bind_some, qs, -splice_eq, -stR_cells, qm, e1, e2]
  rw [slices_Concat_Ver_l1_eq]
  simp (disch := first | exact xD | fail) [-Option.bind_some, qs, -splice_eq, -stR_cells, qm, ia_46, X1, e2, e1]
  rw [slices_Concat_Ver_j1_eq]
  simp (disch := first | exact xD | fail) [-Option.bind_some, qs, -splice_eq, -stR_cells, qm, e1, e2]
  rw [slices_Concat_Ver_l1_eq]
  simp (disch := first | exact xD | fail) [-Option.bind_some, qs, -splice_eq, -stR_cells, qm, e1, e2]
  have hgz := slices_Grow_Ver_z (n := xs.length + ys.length) (w := w) (by omega) (by omega)
  rw [Int.natCast_add] at hgz
  refine Ret.bind hgz ?_
  rintro ⟨_, w1⟩ ⟨cap, rfl, ho, hsz, E1⟩
  have zE1 := E1.size
  try simp only [qz] at zE1
  try dsimp only at ho hsz E1
  have Y1 : hp w1 g = hp w g := E1.blk y1
  have oD : OwnD tVer 58 S w.heap.size w1 (.slice (some ⟨w.heap.size, 0, none⟩) 0 cap) [] := ⟨[], ho, trivial, fun b hb => by
    have hbg : b = w.heap.size := by simpa [blkOf] using hb
    subst hbg
    exact ⟨fun h => absurd (hS _ h) (by omega), hsz⟩⟩
  simp (disch := first | exact xD | fail) [-Option.bind_some, qs, -splice_eq, -stR_cells, qm, e1, e2, E1.blk]
  rw [slices_Concat_Ver_l2_eq]
  simp (disch := first | exact xD | fail) [-Option.bind_some, qs, -splice_eq, -stR_cells, qm, ia_46, Y1, X1, e1, e2, E1.blk]
  refine Ret.bind (OwnD.app (P := P) (mx := 1954687338211) (ty := 45) el_45 zz_58 rfl (by decide) oD (ha.ext E1) (fun b h => by have := hS b h; omega) (by omega) (by simp only [List.length_nil]; omega) (by decide) (by decide)) ?_
  rintro ⟨_, w2⟩ ⟨a2, c2, rfl, o2, B2⟩
  try dsimp only at o2 B2
  have zB2 := B2.size
  have hk2 : ∀ b, b < w.heap.size → hp w2 b = hp w b := fun b hb => (B2.blk b (by omega) (by simp only [blkOf]; intro h; have := Option.some.inj h; omega)).trans (E1.blk hb)
  have Y2 : hp w2 g = hp w g := hk2 g y1
  simp only [List.length_nil, Nat.zero_add, List.nil_append] at o2
  have k2 : ∀ b ∈ (blkOf (.slice a2 xs.length c2)).toList, w.heap.size ≤ b := o2.blk
  simp (disch := first | exact xD | fail) [-Option.bind_some, qs, -splice_eq, -stR_cells, qm, e1, e2, E1.blk]
  rw [slices_Concat_Ver_l2_eq]
  simp (disch := first | exact xD | fail) [-Option.bind_some, qs, -splice_eq, -stR_cells, qm, ia_46, Y2, X1, e1, e2, E1.blk]
  refine Ret.bind (OwnD.app (P := P) (mx := 1954687338211) (ty := 45) el_45 zz_58 rfl (by decide) o2 (hb.keep (fun b h hs => hk2 b hs)) (fun b h => by have := hS b h; omega) (by omega) (by omega) (by decide) (by decide)) ?_
  rintro ⟨_, w3⟩ ⟨a3, c3, rfl, o3, B3⟩
  try dsimp only at o3 B3
  have zB3 := B3.size
  simp (disch := first | exact xD | fail) [-Option.bind_some, qs, -splice_eq, -stR_cells, qm, e1, e2, E1.blk]
  rw [slices_Concat_Ver_l2_eq]
  simp (disch := first | exact xD | fail) [-Option.bind_some, qs, -splice_eq, -stR_cells, qm, e1, e2, E1.blk]
  refine hQ _ ⟨a3, c3, rfl, ?_, ?_⟩
  · have := o3.d (mx := 1954687338211) (by rw [List.length_append]; omega)
    exact this.lt.wide (fun b h _ => h.2)
  · have F2 : Ext w w2 := Ext.but E1 B2 (fun x hx => by simp only [blkOf] at hx; have := Option.some.inj hx; omega)
    exact Ext.but F2 B3 (fun x hx => k2 x (by simp [hx]))
def hasT (l : List Ver) (t : Tag) : Bool := l.any fun v => v.tag == t
def logGo (place : Int) : List Ver → List Ver → Bool
  | _, [] => true
  | pre, v :: l => verOk v && (v.tag.p == place) && !hasT pre v.tag && logGo place (pre ++ [v]) l
def logOkP (l : List Ver) (place : Int) : Bool := logGo place [] l && decide (l.length ≤ 60)
theorem tag_beq (a b : Tag) : (a == b) = ((a.t == b.t) && (a.p == b.p)) := by
  rw [Bool.eq_iff_iff]
  simp only [beq_iff_eq, Bool.and_eq_true]
  exact ⟨fun h => by subst h; exact ⟨rfl, rfl⟩, fun h => tag_ext h.1 h.2⟩
theorem impl_hasTag_m {a : Option Addr} {n c : Nat} {S : Nat → Prop} {xs : List Ver} {t : Tag} {w : World} (ha : D tVers S w [.slice a n c] xs) :
    Ret (EV P 74 #[.slice a n c, .agg #[i64 t.t, i64 t.p]] w) fun r => r.1 = .bool (hasT xs t) ∧ Ext w r.2 := by
  refine Ret.post fun Q hQ => ?_
  refine Ret.enter plain mixed (impl_hasTag_fn _ _ _) (by kernel_rfl) (n := 2) (by kernel_rfl) rfl ?_
  simp (disch := first | exact xD | fail) [-Option.bind_some, qs, -splice_eq, -stR_cells, qm]
  have X0 : hp (w.alloc (.cells #[i64 t.t, i64 t.p] 53)) w.heap.size = some (.cells #[i64 t.t, i64 t.p] 53 (0, 0)) := (by first | assumption | rfl | (simp (disch := first | exact xD | fail) [-Option.bind_some, qs, -splice_eq, -stR_cells, qm]; done))
  have y0 : w.heap.size < (w.alloc (.cells #[i64 t.t, i64 t.p] 53)).heap.size := by simp
  have hf : ∀ (v : Ver) (cs : List Value) (w' : World), Ext (w.alloc (.cells #[i64 t.t, i64 t.p] 53)) w' → rVer w' cs v → Ret (clo P (.func (.func 91) #[] #[pt w.heap.size 0]) #[.agg cs.toArray] w') fun r => r.1 = .bool (v.tag == t) ∧ Ext w' r.2 := by
    intro v cs w' hE hc
    rw [clo_eq (P := P) (g := 91) (by kernel_rfl) [] [pt w.heap.size 0] [.agg cs.toArray] w']
    obtain ⟨s, rfl, h2, h3⟩ := hc
    have Y0 := (hE.blk y0).trans X0
    have y1 := hp_lt Y0
    refine Ret.post fun Q hQ => ?_
    refine Ret.enter plain mixed (impl_hasTag_1_fn _ _ _) (by kernel_rfl) (n := 2) (by kernel_rfl) rfl ?_
    simp (disch := first | exact xD | fail) [-Option.bind_some, qs, -splice_eq, -stR_cells, qm, Y0, tag_beq, X0]
    refine hQ _ ⟨by rw [tag_beq], xE⟩
  refine Ret.bind (slices_ContainsFunc_Ver_c (p := fun v => v.tag == t) (D.rVers (ha.ext xE)) (fun v _ cs w' hE hc => hf v cs w' hE hc)) ?_
  rintro ⟨_, w2⟩ ⟨rfl, E2⟩
  try dsimp only at E2
  have zE2 := E2.size
  try simp only [qz] at zE2
  simp (disch := first | exact xD | fail) [-Option.bind_some, qs, -splice_eq, -stR_cells, qm, X0, E2.blk]
  exact hQ _ ⟨rfl, xE⟩
theorem impl_logOk_n {a : Option Addr} {c : Nat} {S : Nat → Prop} {xs : List Ver} {place : Int} {w0 : World} (hc : xs.length ≤ c) (ha : D tVers S w0 [.slice a xs.length c] xs) :
    ∀ (d k : Nat) (e : Env) (w : World), k + d = xs.length → e 0 = .slice a xs.length c → e 1 = i64 place → e 7 = .slice a xs.length c → e 8 = i64 xs.length → e 9 = i64 k → Ext w0 w →
    Ret (impl_logOk_l1 e w) fun r => r.1 = .bool (logGo place (xs.take k) (xs.drop k) && decide (xs.length ≤ 60)) ∧ Ext w0 r.2 := by
  have hn := ha.n
  intro d
  induction d with
  | zero =>
    intro k e w hd e0 e1 e7 e8 e9 E0
    have zE0 := E0.size
    try simp only [qz] at zE0
    rw [impl_logOk_l1_eq]
    obtain rfl : k = xs.length := by omega
    rw [List.drop_length, logGo, Bool.true_and]
    refine Ret.post fun Q hQ => ?_
    cases h6 : decide (xs.length ≤ 60)
    · rw [h6] at hQ
      simp only [decide_eq_false_iff_not] at h6
      simp (disch := first | exact xD | fail) [-Option.bind_some, qs, -splice_eq, -stR_cells, qm, e0, e1, e7, e8, e9, show ¬ (xs.length : Int) ≤ 60 by omega, E0.blk]
      exact hQ _ ⟨rfl, xE⟩
    · rw [h6] at hQ
      simp only [decide_eq_true_eq] at h6
      simp (disch := first | exact xD | fail) [-Option.bind_some, qs, -splice_eq, -stR_cells, qm, e0, e1, e7, e8, e9, show (xs.length : Int) ≤ 60 by omega, E0.blk]
      exact hQ _ ⟨rfl, xE⟩
  | succ d ih =>
    intro k e w hd e0 e1 e7 e8 e9 E0
    have zE0 := E0.size
    try simp only [qz] at zE0
    rw [impl_logOk_l1_eq]
    have hlt : k < xs.length := by omega
    obtain ⟨v, hv, hdv⟩ := drop_at hlt
    obtain ⟨b1, o1, cs1, rfl, A1, D1, _, l1⟩ := (ha.ext E0).at (by decide) hv
    have D1' := D1
    obtain ⟨av, cv, rfl, hq1, ht1⟩ := D.ver.1 D1
    have p0 := A1 0 _ rfl
    have p1 := A1 1 _ rfl
    have p2 := A1 2 _ rfl
    have p3 := A1 3 _ rfl
    have p4 := A1 4 _ rfl
    have p5 := A1 5 _ rfl
    simp only [LVer_n, LTag_n, LNode_n, Nat.add_zero] at p0 p1 p2 p3 p4 p5
    have hgo : logGo place (xs.take k) (xs.drop k) = (verOk v && (v.tag.p == place) && !hasT (xs.take k) v.tag && logGo place (xs.take (k + 1)) (xs.drop (k + 1))) := by
      rw [hdv, logGo, take_at hv]
    rw [hgo]
    refine Ret.post fun Q hQ => ?_
    simp (disch := first | exact xD | fail) [-Option.bind_some, qs, -splice_eq, -stR_cells, qm, e0, e1, e7, e8, e9, hlt, ia_45, E0.blk, p0, p1, p2, p3, p4, p5]
    refine Ret.bind (impl_VerOk_c (D.rVer (D1'.ext xE))) ?_
    rintro ⟨_, w1⟩ ⟨rfl, E1⟩
    try dsimp only at E1
    have zE1 := E1.size
    try simp only [qz] at zE1
    cases hvo : verOk v
    · rw [hvo] at hQ
      simp (disch := first | exact xD | fail) [-Option.bind_some, qs, -splice_eq, -stR_cells, qm, e0, e1, e7, e8, e9, E0.blk, hlt, p0, p1, p2, p3, p4, p5, E1.blk]
      exact hQ _ ⟨rfl, xE⟩
    cases hpl : (v.tag.p == place)
    · rw [hvo, hpl] at hQ
      have hpl' : (v.tag.p != place) = true := by rw [bne, hpl]; rfl
      simp (disch := first | exact xD | fail) [-Option.bind_some, qs, -splice_eq, -stR_cells, qm, e0, e1, hpl', e7, e8, e9, E0.blk, hlt, p0, p1, p2, p3, p4, p5, E1.blk]
      exact hQ _ ⟨rfl, xE⟩
    have hpl' : (v.tag.p != place) = false := by rw [bne, hpl]; rfl
    rw [hvo, hpl] at hQ
    simp (disch := first | exact xD | fail) [-Option.bind_some, qs, -splice_eq, -stR_cells, qm, e0, e1, hpl', sl_h (P := P) el_45, show (k : Int) ≤ c by omega, e7, e8, e9, E0.blk, hlt, p0, p1, p2, p3, p4, p5, E1.blk]
    refine Ret.bind (impl_hasTag_m (t := v.tag) ((ha.take (k := k) (by omega)).ext xE)) ?_
    rintro ⟨_, w2⟩ ⟨rfl, E2⟩
    try dsimp only at E2
    have zE2 := E2.size
    try simp only [qz] at zE2
    cases hht : hasT (xs.take k) v.tag
    · rw [hht] at hQ
      simp (disch := first | exact xD | fail) [-Option.bind_some, qs, -splice_eq, -stR_cells, qm, e0, e1, e7, e8, e9, E0.blk, hlt, p0, p1, p2, p3, p4, p5, E1.blk, E2.blk]
      refine Ret.mono (ih (k + 1) _ _ (by omega) xA xA xA xA xA xE) ?_
      rintro r ⟨h1, h2⟩
      exact hQ _ ⟨by rw [h1]; rfl, h2⟩
    · rw [hht] at hQ
      simp (disch := first | exact xD | fail) [-Option.bind_some, qs, -splice_eq, -stR_cells, qm, e0, e1, e7, e8, e9, E0.blk, hlt, p0, p1, p2, p3, p4, p5, E1.blk, E2.blk]
      exact hQ _ ⟨rfl, xE⟩
theorem impl_logOk_m {a : Option Addr} {n c : Nat} {S : Nat → Prop} {xs : List Ver} {place : Int} {w : World} (hc : xs.length ≤ c) (ha : D tVers S w [.slice a n c] xs) :
    Ret (EV P 47 #[.slice a n c, i64 place] w) fun r => r.1 = .bool (logOkP xs place) ∧ Ext w r.2 := by
  obtain ⟨rfl, hm, _⟩ := ha.n
  refine Ret.post fun Q hQ => ?_
  refine Ret.enter plain mixed (impl_logOk_fn _ _ _) (by kernel_rfl) (n := 2) (by kernel_rfl) rfl ?_
  simp (disch := first | exact xD | fail) [-Option.bind_some, qs, -splice_eq, -stR_cells, qm]
  exact Ret.mono (impl_logOk_n hc ha xs.length 0 _ w (by omega) rfl rfl rfl rfl rfl Ext.rfl) hQ
def placeV (stable : List Tag) (clock : Int) (k : Nat) (v : Ver) : Bool := ((v.tag == Tag.zero) || under v.past stable) && (!(k == 0) || decide (v.tag.t ≤ clock))
def nodesGo (stable : List Tag) (clock : Int) : Nat → List CNode → Bool
  | _, [] => true
  | k, n :: l => (n.store ++ n.wait).all (placeV stable clock k) && nodesGo stable clock (k + 1) l
def gotGo (me : Int) : Nat → List (List Ver) → Bool
  | _, [] => true
  | i, l :: r => logOkP l i && !(((i : Int) == me) && decide (0 < l.length)) && gotGo me (i + 1) r
def placeOkP (p : PlaceD) : Bool := (decide (0 ≤ p.me) && decide (p.me ≤ 2)) && (decide (0 ≤ p.clock) && decide (p.clock ≤ 999)) && chainOk p.chain && logOkP p.log p.me && (p.got.length == 3) && nodesGo (tagsOf (lastStore p.chain)) p.clock 0 p.chain && gotGo p.me 0 p.got
theorem under_ok {x : CNode} (h : nodeOk x = true) : ∀ v ∈ x.store ++ x.wait, v.tag ≠ Tag.zero → v.past.length = 4 := by
  have h := nodeOk_parts h
  intro v hv hz
  have key : verOk v = true → v.past.length = 4 := fun h => by
    simp only [verOk, verWr, Bool.and_eq_true] at h
    exact (pastOk_iff.1 h.1.2.2.2).2
  rcases List.mem_append.1 hv with hv | hv
  · obtain ⟨k, hk⟩ := List.getElem?_of_mem hv
    have hs := Go.Ev.slots_get (storeOk_iff.1 h.1).1 hk
    simp only [slotOk, Bool.or_eq_true, Bool.and_eq_true] at hs
    rcases hs with hs | hs
    · simp only [verNone, Bool.and_eq_true, beq_iff_eq] at hs
      exact absurd hs.2.1 hz
    · exact key hs.1
  · exact key (h.2.2 v hv)
theorem impl_PlaceOk_n2 {a58 asl : Option Addr} {c58 cs0 g1 g3 k n : Nat} {S Ss : Nat → Prop} {vs : List Ver} {stable : List Tag} {clock me : Int} {x2 x3 x4 x45 x46 : Value} {fl : Bool} {rest : Bool} {w0 : World} (hst : stable.length = 4) (hk : k < n) (hn4 : n ≤ 1000) (hv4 : ∀ v ∈ vs, v.tag ≠ Tag.zero → v.past.length = 4)
    (hs : D tTags Ss w0 [.slice asl 4 cs0] stable) (y1 : g1 < w0.heap.size) (y3 : g3 < w0.heap.size)
    (X1 : hp w0 g1 = some (.cells #[i64 me, i64 clock, x2, x3, x4, .bool fl] 48 (0, 0))) (X3 : hp w0 g3 = some (.cells #[.slice asl 4 cs0] 51 (0, 0)))
    (hnext : ∀ (e' : Env) (W : World), e' 1 = pt g1 0 → e' 3 = pt g3 0 → e' 47 = i64 ((k + 1 : Nat)) → e' 45 = x45 → e' 46 = x46 → Ext w0 W → Ret (impl_PlaceOk_l1 e' W) fun r => r.1 = .bool rest ∧ Ext w0 r.2) :
    ∀ (d j : Nat) (e : Env) (w : World), j + d = vs.length → e 1 = pt g1 0 → e 3 = pt g3 0 → e 4 = i64 k → e 47 = i64 k → e 45 = x45 → e 46 = x46 → e 58 = .slice a58 vs.length c58 → e 59 = i64 vs.length → e 60 = i64 j → D tVers S w [.slice a58 vs.length c58] vs → Ext w0 w →
    Ret (impl_PlaceOk_l2 e w) fun r => r.1 = .bool ((vs.drop j).all (placeV stable clock k) && rest) ∧ Ext w0 r.2 := by
  intro d
  induction d with
  | zero =>
    intro j e w hd e1 e3 e4 e47 e45 e46 e58 e59 e60 ha E0
    have zE0 := E0.size
    try simp only [qz] at zE0
    rw [impl_PlaceOk_l2_eq]
    obtain rfl : j = vs.length := by omega
    rw [List.drop_length, List.all_nil, Bool.true_and]
    refine Ret.post fun Q hQ => ?_
    simp (disch := first | exact xD | fail) [-Option.bind_some, qs, -splice_eq, -stR_cells, qm, e1, e3, e4, e47, e58, e59, e60, e45, e46, E0.blk]
    refine Ret.mono (hnext _ _ xA xA (by first | rfl | (simp; done) | exact congrArg i64 (by omega)) xA xA E0) hQ
  | succ d ih =>
    intro j e w hd e1 e3 e4 e47 e45 e46 e58 e59 e60 ha E0
    have zE0 := E0.size
    try simp only [qz] at zE0
    rw [impl_PlaceOk_l2_eq]
    have hn := ha.n
    have hlt : j < vs.length := by omega
    obtain ⟨v, hv, hdv⟩ := drop_at hlt
    have hvm := hv4 v (List.mem_of_getElem? hv)
    obtain ⟨b1, o1, cs1, rfl, A1, D1, _, l1⟩ := ha.at (by decide) hv
    have D1' := D1
    obtain ⟨av, cv, rfl, hq1, ht1⟩ := D.ver.1 D1
    have p0 := A1 0 _ rfl
    have p1 := A1 1 _ rfl
    have p2 := A1 2 _ rfl
    have p3 := A1 3 _ rfl
    have p4 := A1 4 _ rfl
    have p5 := A1 5 _ rfl
    simp only [LVer_n, LTag_n, LNode_n, Nat.add_zero] at p0 p1 p2 p3 p4 p5
    have X1' := (E0.blk y1).trans X1
    have X3' := (E0.blk y3).trans X3
    have zE0' := E0.size
    rw [hdv, List.all_cons]
    refine Ret.post fun Q hQ => ?_
    simp (disch := first | exact xD | fail) [-Option.bind_some, qs, -splice_eq, -stR_cells, qm, e1, e3, e4, e47, e58, e59, e60, hlt, ia_45, X1', X3', e45, e46, E0.blk, p0, p1, p2, p3, p4, p5]
    have hb : (!(v.tag.t == 0) || !(v.tag.p == 0)) = !(v.tag == Tag.zero) := by
      rw [tag_beq, show Tag.zero.t = 0 from rfl, show Tag.zero.p = 0 from rfl, Bool.not_and]
    rw [hb]
    cases hz : (v.tag == Tag.zero)
    · have hp4 := hvm (by simpa using hz)
      simp (disch := first | exact xD | fail) [-Option.bind_some, qs, -splice_eq, -stR_cells, qm, e1, e3, e4, e47, e58, e59, e60, X1', X3', e45, e46, E0.blk, hlt, p0, p1, p2, p3, p4, p5]
      refine Ret.bind (impl_Past_under_c (by rw [hst, hp4]) (D.rTags (hq1.ext xE)) (D.rTags (hs.ext xE))) ?_
      rintro ⟨_, w1⟩ ⟨rfl, E1⟩
      try dsimp only at E1
      have zE1 := E1.size
      try simp only [qz] at zE1
      have EX : Ext w w1 := xE
      cases hu : under v.past stable
      · rw [show placeV stable clock k v = false by simp only [placeV, hz, hu]; rfl] at hQ
        simp (disch := first | exact xD | fail) [-Option.bind_some, qs, -splice_eq, -stR_cells, qm, e1, e3, e4, e47, e45, e46, e58, e59, e60, E0.blk, hlt, p0, p1, p2, p3, p4, p5, E1.blk]
        exact hQ _ ⟨rfl, E0.tr EX⟩
      · skip
        cases hk0 : (k == 0)
        · have hki : ((k : Int) == 0) = false := by rw [beq_eq_false_iff_ne] at *; omega
          rw [show placeV stable clock k v = true by simp only [placeV, hz, hu, hk0]; rfl, Bool.true_and] at hQ
          simp (disch := first | exact xD | fail) [-Option.bind_some, qs, -splice_eq, -stR_cells, qm, e1, e3, e4, e47, e58, e59, e60, hki, e45, e46, E0.blk, hlt, p0, p1, p2, p3, p4, p5, E1.blk]
          refine Ret.mono (ih (j + 1) _ _ (by omega) xA xA xA xA xA xA xA xA xA (ha.ext EX) (E0.tr EX)) hQ
        · have hki : ((k : Int) == 0) = true := by rw [beq_iff_eq] at *; omega
          cases ht : decide (v.tag.t ≤ clock)
          · rw [show placeV stable clock k v = false by simp only [placeV, hz, hu, hk0, ht]; rfl] at hQ
            simp only [decide_eq_false_iff_not] at ht
            simp (disch := first | exact xD | fail) [-Option.bind_some, qs, -splice_eq, -stR_cells, qm, e1, e3, e4, e47, e58, e59, e60, hki, X1', show clock < v.tag.t by omega, e45, e46, E0.blk, hlt, p0, p1, p2, p3, p4, p5, E1.blk]
            exact hQ _ ⟨rfl, E0.tr EX⟩
          · rw [show placeV stable clock k v = true by simp only [placeV, hz, hu, hk0, ht]; rfl, Bool.true_and] at hQ
            simp only [decide_eq_true_eq] at ht
            simp (disch := first | exact xD | fail) [-Option.bind_some, qs, -splice_eq, -stR_cells, qm, e1, e3, e4, e47, e58, e59, e60, hki, X1', show ¬ clock < v.tag.t by omega, e45, e46, E0.blk, hlt, p0, p1, p2, p3, p4, p5, E1.blk]
            refine Ret.mono (ih (j + 1) _ _ (by omega) xA xA xA xA xA xA xA xA xA (ha.ext EX) (E0.tr EX)) hQ
    · have EX : Ext w ((w.alloc (.cells #[i64 0, i64 0, i64 0, .slice none 0 0, .string ⟨#[]⟩, .bool false] 58)).setRow w.heap.size #[i64 v.key, i64 v.tag.t, i64 v.tag.p, .slice av v.past.length cv, .string v.text, .bool v.gone]) := xE
      cases hk0 : (k == 0)
      · have hki : ((k : Int) == 0) = false := by rw [beq_eq_false_iff_ne] at *; omega
        rw [show placeV stable clock k v = true by simp only [placeV, hz, hk0]; rfl, Bool.true_and] at hQ
        simp (disch := first | exact xD | fail) [-Option.bind_some, qs, -splice_eq, -stR_cells, qm, e1, e3, e4, e47, e58, e59, e60, hki, e45, e46, E0.blk, hlt, p0, p1, p2, p3, p4, p5]
        refine Ret.mono (ih (j + 1) _ _ (by omega) xA xA xA xA xA xA xA xA xA (ha.ext EX) (E0.tr EX)) hQ
      · have hki : ((k : Int) == 0) = true := by rw [beq_iff_eq] at *; omega
        cases ht : decide (v.tag.t ≤ clock)
        · rw [show placeV stable clock k v = false by simp only [placeV, hz, hk0, ht]; rfl] at hQ
          simp only [decide_eq_false_iff_not] at ht
          simp (disch := first | exact xD | fail) [-Option.bind_some, qs, -splice_eq, -stR_cells, qm, e1, e3, e4, e47, e58, e59, e60, hki, X1', show clock < v.tag.t by omega, e45, e46, E0.blk, hlt, p0, p1, p2, p3, p4, p5]
          exact hQ _ ⟨rfl, E0.tr EX⟩
        · rw [show placeV stable clock k v = true by simp only [placeV, hz, hk0, ht]; rfl, Bool.true_and] at hQ
          simp only [decide_eq_true_eq] at ht
          simp (disch := first | exact xD | fail) [-Option.bind_some, qs, -splice_eq, -stR_cells, qm, e1, e3, e4, e47, e58, e59, e60, hki, X1', show ¬ clock < v.tag.t by omega, e45, e46, E0.blk, hlt, p0, p1, p2, p3, p4, p5]
          refine Ret.mono (ih (j + 1) _ _ (by omega) xA xA xA xA xA xA xA xA xA (ha.ext EX) (E0.tr EX)) hQ
theorem gots_of {a : Option Addr} {n c : Nat} {S : Nat → Prop} {xs : List (List Ver)} {w : World} (h : O tVerSS S w [.slice a n c] xs) {i : Nat} {l : List Ver} (hi : xs[i]? = some l) :
    ∃ b al cl, a = some ⟨b, 0, none⟩ ∧ b < w.heap.size ∧ cellO (hp w b) i = some (.slice al l.length cl) ∧ l.length ≤ cl ∧ D tVers S w [.slice al l.length cl] l := by
  obtain ⟨g, cur, cs, S1, rfl, hSg, hgl, hg, hle, hx1, hS1, put⟩ := h.row (by decide) hi
  obtain ⟨al, cl, rfl, hx1⟩ := hx1.sl'
  simp only [LList_n, Nat.mul_one] at hg hle
  refine ⟨g, al, cl, rfl, hgl, ?_, hx1.clip.1, hx1.d.wide fun b h _ => (hS1 b h).1⟩
  rw [hg, cellO_some, ← nth_eq, List.toList_toArray, rowv_get (by simp only [List.length_cons, List.length_nil]; omega), if_pos (by simp only [List.length_cons, List.length_nil]; omega), Nat.sub_self]
  rfl
theorem impl_PlaceOk_n3 {a2 : Option Addr} {c2 g1 : Nat} {S : Nat → Prop} {got : List (List Ver)} {clock me : Int} {x2 x3 x4 : Value} {fl : Bool} {w0 : World} (ho : O tVerSS S w0 [.slice a2 got.length c2] got) (hgl : got.length ≤ 1000) (y1 : g1 < w0.heap.size)
    (X1 : hp w0 g1 = some (.cells #[i64 me, i64 clock, x2, x3, x4, .bool fl] 48 (0, 0))) :
    ∀ (d j : Nat) (e : Env) (w : World), j + d = got.length → e 1 = pt g1 0 → e 90 = .slice a2 got.length c2 → e 91 = i64 got.length → e 92 = i64 j → Ext w0 w →
    Ret (impl_PlaceOk_l3 e w) fun r => r.1 = .bool (gotGo me j (got.drop j)) ∧ Ext w0 r.2 := by
  intro d
  induction d with
  | zero =>
    intro j e w hd e1 e90 e91 e92 E0
    have zE0 := E0.size
    try simp only [qz] at zE0
    rw [impl_PlaceOk_l3_eq]
    obtain rfl : j = got.length := by omega
    rw [List.drop_length, gotGo]
    refine Ret.post fun Q hQ => ?_
    simp (disch := first | exact xD | fail) [-Option.bind_some, qs, -splice_eq, -stR_cells, qm, e1, e90, e91, e92, E0.blk]
    exact hQ _ ⟨rfl, xE⟩
  | succ d ih =>
    intro j e w hd e1 e90 e91 e92 E0
    have zE0 := E0.size
    try simp only [qz] at zE0
    rw [impl_PlaceOk_l3_eq]
    have hlt : j < got.length := by omega
    obtain ⟨l, hl, hdl⟩ := drop_at hlt
    obtain ⟨b, al, cl, rfl, hbl, hcell, hcap, hd1⟩ := gots_of ho hl
    have hcell' : cellO (hp w b) j = some (.slice al l.length cl) := by rw [E0.blk hbl]; exact hcell
    have X1' := (E0.blk y1).trans X1
    have hln := hd1.n
    rw [hdl, gotGo]
    refine Ret.post fun Q hQ => ?_
    simp (disch := first | exact xD | fail) [-Option.bind_some, qs, -splice_eq, -stR_cells, qm, e1, e90, e91, e92, hlt, ia_46, hcell, X1', E0.blk]
    refine Ret.bind (impl_logOk_m hcap (hd1.ext xE)) ?_
    rintro ⟨_, w1⟩ ⟨rfl, E1⟩
    try dsimp only at E1
    have zE1 := E1.size
    try simp only [qz] at zE1
    have EX : Ext w w1 := xE
    cases h1 : logOkP l (j : Int)
    · rw [h1] at hQ
      simp (disch := first | exact xD | fail) [-Option.bind_some, qs, -splice_eq, -stR_cells, qm, e1, e90, e91, e92, E0.blk, hlt, E1.blk]
      exact hQ _ ⟨rfl, E0.tr EX⟩
    rw [h1, Bool.true_and] at hQ
    cases h2 : ((j : Int) == me)
    · rw [h2] at hQ
      simp (disch := first | exact xD | fail) [-Option.bind_some, qs, -splice_eq, -stR_cells, qm, e1, e90, e91, e92, X1', h2, E0.blk, hlt, E1.blk]
      refine Ret.mono (ih (j + 1) _ _ (by omega) xA xA xA xA (E0.tr EX)) ?_
      rintro r ⟨h3, h4⟩
      exact hQ _ ⟨by rw [h3]; rfl, h4⟩
    rw [h2, Bool.true_and] at hQ
    cases h3 : decide (0 < l.length)
    · rw [h3] at hQ
      simp only [decide_eq_false_iff_not] at h3
      simp (disch := first | exact xD | fail) [-Option.bind_some, qs, -splice_eq, -stR_cells, qm, e1, e90, e91, e92, X1', h2, h3, show ¬ (0 : Int) < l.length by omega, E0.blk, hlt, E1.blk]
      refine Ret.mono (ih (j + 1) _ _ (by omega) xA xA xA xA (E0.tr EX)) ?_
      rintro r ⟨h3, h4⟩
      exact hQ _ ⟨by rw [h3]; rfl, h4⟩
    · rw [h3] at hQ
      simp only [decide_eq_true_eq] at h3
      simp (disch := first | exact xD | fail) [-Option.bind_some, qs, -splice_eq, -stR_cells, qm, e1, e90, e91, e92, X1', h2, h3, show (0 : Int) < l.length by omega, E0.blk, hlt, E1.blk]
      exact hQ _ ⟨rfl, E0.tr EX⟩
theorem impl_Chain_tail_p {a : Option Addr} {c g1 o1 : Nat} {S : Nat → Prop} {ns : List CNode} {x : CNode} {w : World} (hx : ns[ns.length - 1]? = some x) (h0 : 0 < ns.length) (h4 : ns.length ≤ 4) (ha : D tNodes S w [.slice a ns.length c] ns) (hc : cellO (hp w g1) o1 = some (.slice a ns.length c)) (y1 : g1 < w.heap.size) :
    Ret (EV P 48 #[pt g1 o1] w) fun r => ∃ a' c', r.1 = .agg #[.slice a' x.store.length c'] ∧ D tVers S r.2 [.slice a' x.store.length c'] x.store ∧ Ext w r.2 := by
  obtain ⟨b1, o1', cs1, rfl, A1, D1, _, l1⟩ := ha.at (by decide) hx
  obtain ⟨a2, c2, a3, c3, rfl, h2, h3⟩ := D.node.1 D1
  refine Ret.post fun Q hQ => ?_
  have p0 := A1 0 _ rfl
  have p1 := A1 1 _ rfl
  simp only [LVer_n, LTag_n, LNode_n, Nat.add_zero] at p0 p1
  refine Ret.enter plain mixed (impl_Chain_tail_fn _ _) (by kernel_rfl) (n := 1) (by kernel_rfl) rfl ?_
  simp (disch := first | exact xD | fail) [-Option.bind_some, qs, -splice_eq, -stR_cells, qm, nk_ptr, hc, ia_42, show (ns.length : Int) - 1 = ((ns.length - 1 : Nat) : Int) by omega, show ns.length - 1 < ns.length by omega, p0, p1]
  exact hQ _ ⟨_, _, rfl, h2.ext xE, xE⟩
theorem impl_PlaceOk_n1 {a asl a2 : Option Addr} {c cs0 g1 g3 gl c2 : Nat} {S Ss : Nat → Prop} {ns : List CNode} {stable : List Tag} {clock me : Int} {x3 : Value} {fl : Bool} {rest : Bool} {w0 : World} (hst : stable.length = 4) (hn4 : ns.length ≤ 4) (hgl : gl ≤ 1000) (hok : ∀ x ∈ ns, nodeOk x = true)
    (hs : D tTags Ss w0 [.slice asl 4 cs0] stable) (ha : D tNodes S w0 [.slice a ns.length c] ns) (y1 : g1 < w0.heap.size) (y3 : g3 < w0.heap.size)
    (X1 : hp w0 g1 = some (.cells #[i64 me, i64 clock, .slice a ns.length c, x3, .slice a2 gl c2, .bool fl] 48 (0, 0))) (X3 : hp w0 g3 = some (.cells #[.slice asl 4 cs0] 51 (0, 0)))
    (hnext : ∀ (e' : Env) (W : World), e' 1 = pt g1 0 → e' 90 = .slice a2 gl c2 → e' 91 = i64 gl → e' 92 = i64 0 → Ext w0 W → Ret (impl_PlaceOk_l3 e' W) fun r => r.1 = .bool rest ∧ Ext w0 r.2) :
    ∀ (d k : Nat) (e : Env) (w : World), k + d = ns.length → e 1 = pt g1 0 → e 3 = pt g3 0 → e 45 = .slice a ns.length c → e 46 = i64 ns.length → e 47 = i64 k → Ext w0 w →
    Ret (impl_PlaceOk_l1 e w) fun r => r.1 = .bool (nodesGo stable clock k (ns.drop k) && rest) ∧ Ext w0 r.2 := by
  intro d
  induction d with
  | zero =>
    intro k e w hd e1 e3 e45 e46 e47 E0
    have zE0 := E0.size
    try simp only [qz] at zE0
    rw [impl_PlaceOk_l1_eq]
    obtain rfl : k = ns.length := by omega
    rw [List.drop_length, nodesGo, Bool.true_and]
    have X1' := (E0.blk y1).trans X1
    refine Ret.post fun Q hQ => ?_
    simp (disch := first | exact xD | fail) [-Option.bind_some, qs, -splice_eq, -stR_cells, qm, e1, e3, e45, e46, e47, X1', E0.blk]
    exact Ret.mono (hnext _ _ xA xA xA xA E0) hQ
  | succ d ih =>
    intro k e w hd e1 e3 e45 e46 e47 E0
    have zE0 := E0.size
    try simp only [qz] at zE0
    rw [impl_PlaceOk_l1_eq]
    have hlt : k < ns.length := by omega
    obtain ⟨x, hx, hdx⟩ := drop_at hlt
    have hxo := hok x (List.mem_of_getElem? hx)
    obtain ⟨hso, hw6, hwo⟩ := nodeOk_parts hxo
    have hs4 := (storeOk_iff.1 hso).2
    obtain ⟨b1, o1, cs1, rfl, A1, D1, _, l1⟩ := (ha.ext E0).lt.at (by decide) hx
    obtain ⟨a3, c3, a4, c4, rfl, h1, h2⟩ := D.node.1 D1
    have p0 := A1 0 _ rfl
    have p1 := A1 1 _ rfl
    simp only [LVer_n, LTag_n, LNode_n, Nat.add_zero] at p0 p1
    have X1' := (E0.blk y1).trans X1
    have X3' := (E0.blk y3).trans X3
    have zE0' := E0.size
    rw [hdx, nodesGo]
    have hall : (((x.store ++ x.wait).all (placeV stable clock k)) && nodesGo stable clock (k + 1) (ns.drop (k + 1)) && rest) = (((x.store ++ x.wait).drop 0).all (placeV stable clock k) && (nodesGo stable clock (k + 1) (ns.drop (k + 1)) && rest)) := by rw [Bool.and_assoc]; rfl
    rw [hall]
    refine Ret.post fun Q hQ => ?_
    simp (disch := first | exact xD | fail) [-Option.bind_some, qs, -splice_eq, -stR_cells, qm, e1, e3, e45, e46, e47, hlt, ia_42, X1', E0.blk, p0, p1]
    refine Ret.bind (slices_Concat_Ver_n (S := fun b => S b ∧ b < w.heap.size) (xs := x.store) (ys := x.wait) (by omega) (by omega) (by omega) (h1.ext xE) (h2.ext xE) (fun b h => by simp only [World.size_alloc, size_setRow]; omega) (by first | assumption | rfl | (simp (disch := first | exact xD | fail) [-Option.bind_some, qs, -splice_eq, -stR_cells, qm, e1, e3, e45, e46, e47, E0.blk, hlt, p0, p1]; done))) ?_
    rintro ⟨_, w1⟩ ⟨a5, c5, rfl, dC, E1⟩
    have zE1 := E1.size
    try simp only [qz] at zE1
    try dsimp only at dC E1
    have EX : Ext w w1 := xE
    simp (disch := first | exact xD | fail) [-Option.bind_some, qs, -splice_eq, -stR_cells, qm, e1, e3, e45, e46, e47, E0.blk, hlt, p0, p1, E1.blk]
    have hll : (x.store ++ x.wait).length = x.store.length + x.wait.length := List.length_append
    refine Ret.mono (impl_PlaceOk_n2 (w0 := w0) (n := ns.length) (asl := asl) (cs0 := cs0) (g1 := g1) (g3 := g3) (k := k) (vs := x.store ++ x.wait) (stable := stable) (me := me) (clock := clock) (fl := fl) (rest := nodesGo stable clock (k + 1) (ns.drop (k + 1)) && rest) hst hlt (by omega) (under_ok hxo) hs y1 y3 X1 X3 ?_ (x.store ++ x.wait).length 0 _ w1 (by omega) xA xA xA xA rfl rfl ?_ ?_ xA (hll ▸ dC) (E0.tr EX)) hQ
    · intro e' W f1 f3 f47 f45 f46 hE
      exact ih (k + 1) e' W (by omega) f1 f3 (f45.trans e45) (f46.trans e46) f47 hE
    · rw [hll]; rfl
    · rw [hll]; rfl
theorem impl_PlaceOk_m {S : Nat → Prop} {cs : List Value} {p : PlaceD} {w : World} (ho : O tPlace S w cs p) : Ret (EV P 22 #[.agg cs.toArray] w) fun r => r.1 = .bool (placeOkP p) ∧ Ext w r.2 := by
  have ho' := O.place_un ho
  obtain ⟨a, c, a1, c1, a2, c2, S1, S2, S3, rfl, h1, h2, h3, d1, d2, d3⟩ := ho'
  have n1 := h1.n
  have n2 := h2.n
  have n3 := h3.n
  have cap2 := h2.clip.1
  have hP : ∀ b1 b2 b3 b4 b5 b6 b7 : Bool, placeOkP p = (b1 && b2 && b3 && b4 && b5 && b6 && b7) → True := fun _ _ _ _ _ _ _ _ => trivial
  refine Ret.post fun Q hQ => ?_
  refine Ret.enter plain mixed (impl_PlaceOk_fn _ _) (by kernel_rfl) (n := 1) (by kernel_rfl) rfl ?_
  simp (disch := first | exact xD | fail) [-Option.bind_some, qs, -splice_eq, -stR_cells, qm]
  refine Ret.bind (impl_placeOk_c _ _) ?_
  rintro _ rfl
  cases b1 : (decide (0 ≤ p.me) && decide (p.me ≤ 2))
  · rw [show placeOkP p = false by simp only [placeOkP, b1, Bool.false_and]] at hQ
    simp (disch := first | exact xD | fail) [-Option.bind_some, qs, -splice_eq, -stR_cells, qm]
    exact hQ _ ⟨rfl, xE⟩
  simp (disch := first | exact xD | fail) [-Option.bind_some, qs, -splice_eq, -stR_cells, qm]
  refine Ret.bind (impl_within_c _ _ _ _) ?_
  rintro _ rfl
  cases b2 : (decide (0 ≤ p.clock) && decide (p.clock ≤ 999))
  · rw [show placeOkP p = false by simp only [placeOkP, b1, b2, Bool.false_and, Bool.and_false]] at hQ
    simp (disch := first | exact xD | fail) [-Option.bind_some, qs, -splice_eq, -stR_cells, qm]
    exact hQ _ ⟨rfl, xE⟩
  simp (disch := first | exact xD | fail) [-Option.bind_some, qs, -splice_eq, -stR_cells, qm]
  refine Ret.bind (impl_ChainOk_m (h1.d.ext xE)) ?_
  rintro ⟨_, w1⟩ ⟨rfl, E1⟩
  try dsimp only at E1
  have zE1 := E1.size
  try simp only [qz] at zE1
  cases b3 : chainOk p.chain
  · rw [show placeOkP p = false by simp only [placeOkP, b3, Bool.false_and, Bool.and_false]] at hQ
    simp (disch := first | exact xD | fail) [-Option.bind_some, qs, -splice_eq, -stR_cells, qm, E1.blk]
    exact hQ _ ⟨rfl, xE⟩
  simp (disch := first | exact xD | fail) [-Option.bind_some, qs, -splice_eq, -stR_cells, qm, E1.blk]
  refine Ret.bind (impl_logOk_m cap2 (h2.d.ext xE)) ?_
  rintro ⟨_, w2⟩ ⟨rfl, E2⟩
  try dsimp only at E2
  have zE2 := E2.size
  try simp only [qz] at zE2
  cases b4 : logOkP p.log p.me
  · rw [show placeOkP p = false by simp only [placeOkP, b4, Bool.false_and, Bool.and_false]] at hQ
    simp (disch := first | exact xD | fail) [-Option.bind_some, qs, -splice_eq, -stR_cells, qm, E1.blk, E2.blk]
    exact hQ _ ⟨rfl, xE⟩
  cases b5 : (p.got.length == 3)
  · rw [show placeOkP p = false by simp only [placeOkP, b5, Bool.false_and, Bool.and_false]] at hQ
    have b5' : ((p.got.length : Int) != 3) = true := by
      rw [bne_iff_ne]
      rw [beq_eq_false_iff_ne] at b5
      omega
    simp (disch := first | exact xD | fail) [-Option.bind_some, qs, -splice_eq, -stR_cells, qm, b5', E1.blk, E2.blk]
    exact hQ _ ⟨rfl, xE⟩
  have b5' : ((p.got.length : Int) != 3) = false := by
    rw [beq_iff_eq] at b5
    simp [b5]
  have hg3 : p.got.length = 3 := by simpa using b5
  obtain ⟨_, _, _, hl0, hl4⟩ := chainOk_head b3
  obtain ⟨x, hx, _⟩ := drop_at (l := p.chain) (k := p.chain.length - 1) (by omega)
  have hok : ∀ x ∈ p.chain, nodeOk x = true := by
    simp only [chainOk, Bool.and_eq_true, List.all_eq_true] at b3
    exact b3.1.2
  have hxs := (nodeOk_parts (hok x (List.mem_of_getElem? hx))).1
  have hx4 := (storeOk_iff.1 hxs).2
  have hls : lastStore p.chain = x.store := by rw [lastStore, hx]
  rw [show placeOkP p = (nodesGo (tagsOf x.store) p.clock 0 p.chain && gotGo p.me 0 p.got) by simp only [placeOkP, b1, b2, b3, b4, b5, Bool.true_and, hls]] at hQ
  simp (disch := first | exact xD | fail) [-Option.bind_some, qs, -splice_eq, -stR_cells, qm, b5', E1.blk, E2.blk, hg3]
  have hc2 : cellO (hp w2 w.heap.size) 2 = some (.slice a p.chain.length c) := (by first | assumption | rfl | (simp (disch := first | exact xD | fail) [-Option.bind_some, qs, E1.blk, E2.blk, hg3]; done))
  have yb : w.heap.size < w2.heap.size := by
    have := E1.size
    have := E2.size
    simp only [World.size_alloc] at *
    omega
  refine Ret.bind (impl_Chain_tail_p hx hl0 hl4 (h1.d.ext xE) hc2 yb) ?_
  rintro ⟨_, w3⟩ ⟨a3, c3, rfl, h5, E3⟩
  try dsimp only at a3 c3 h5 E3
  have zE3 := E3.size
  try simp only [qz] at zE3
  simp (disch := first | exact xD | fail) [-Option.bind_some, qs, -splice_eq, -stR_cells, qm, E1.blk, E2.blk, hg3, E3.blk]
  refine Ret.bind (impl_Store_tags_n hx4 h5) ?_
  rintro ⟨_, w4⟩ ⟨a4, c4, rfl, o4, E4⟩
  try dsimp only at a4 c4 o4 E4
  have zE4 := E4.size
  try simp only [qz] at zE4
  have ht4 : (tagsOf x.store).length = 4 := by rw [tagsOf, List.length_map]; exact hx4
  rw [ht4] at o4
  simp (disch := first | exact xD | fail) [-Option.bind_some, qs, -splice_eq, -stR_cells, qm, ht4, E1.blk, E2.blk, hg3, E3.blk, E4.blk]
  obtain ⟨W, hW⟩ : ∃ W : World, W = (w4.alloc (.cells #[.slice none 0 0] 51)).setRow w4.heap.size #[.slice a4 4 c4] := ⟨_, rfl⟩
  have EW : Ext w W := by rw [hW]; exact (xE : Ext w ((w4.alloc (.cells #[.slice none 0 0] 51)).setRow w4.heap.size #[.slice a4 4 c4]))
  have V1 : hp W w.heap.size = some (.cells #[i64 p.me, i64 p.clock, .slice a p.chain.length c, .slice a1 p.log.length c1, .slice a2 3 c2, .bool p.fell] 48 (0, 0)) := by rw [hW]; exact (by first | assumption | rfl | (simp (disch := first | exact xD | fail) [-Option.bind_some, qs, hg3, E1.blk, E2.blk, E3.blk, E4.blk]; done))
  have V3 : hp W w4.heap.size = some (.cells #[.slice a4 4 c4] 51 (0, 0)) := by rw [hW]; exact (by first | assumption | rfl | (simp (disch := first | exact xD | fail) [-Option.bind_some, qs, -splice_eq, -stR_cells, qm, E1.blk, E2.blk, hg3, E3.blk, E4.blk]; done))
  have oT : O tTags (In w3.heap.size w4.heap.size) W [.slice a4 4 c4] (tagsOf x.store) := o4.keep (fun b hS hb => by rw [hW]; exact (by first | assumption | rfl | (simp (disch := first | exact xD | fail) [-Option.bind_some, qs, E1.blk, E2.blk, hg3, E3.blk, E4.blk]; done)))
  have sW : W.heap.size = w4.heap.size + 1 := by rw [hW, size_setRow, World.size_alloc]
  have z3 := E3.size
  have z4 := E4.size
  rw [← hW]
  have h3' : O tVerSS S3 W [.slice a2 p.got.length c2] p.got := h3.ext EW
  refine Ret.mono (impl_PlaceOk_n1 (w0 := W) (g1 := w.heap.size) (g3 := w4.heap.size) (gl := 3) (stable := tagsOf x.store) (ns := p.chain) (me := p.me) (clock := p.clock) (fl := p.fell) (rest := gotGo p.me 0 p.got) ht4 hl4 (by omega) hok oT.d (h1.d.ext EW) (by omega) (by omega) V1 V3 ?_ p.chain.length 0 _ W (by omega) xA xA xA xA xA Ext.rfl) ?_
  · intro e' U f1 f90 f91 f92 hE
    have := impl_PlaceOk_n3 (me := p.me) (clock := p.clock) (fl := p.fell) h3' (by omega) (show w.heap.size < W.heap.size by omega) V1 p.got.length 0 e' U (by omega) f1 (by rw [hg3]; exact f90) (by rw [hg3]; exact f91) f92 hE
    exact this
  · rintro r ⟨g1, g2⟩
    exact hQ _ ⟨g1, EW.tr g2⟩
end Go.Proofs.YtligcpabhddggaaGreat.X
