/- A part of the proof: an evaluator of the model, its laws, and contracts of functions; no condition. -/
import Derived.Test.YtggmfmanpjcjkaaGreatEvS
import Derived.Test.YtggmfmanpjcjkaaGreatEvT
import Derived.Test.YtggmfmanpjcjkaaGreatEvF0
import Derived.Test.YtggmfmanpjcjkaaGreatEvF1
import Derived.Test.YtggmfmanpjcjkaaGreatEvF2
import Derived.Test.YtggmfmanpjcjkaaGreatEvF3
set_option linter.unusedVariables false
set_option linter.unusedSimpArgs false
set_option maxRecDepth 100000
namespace Go.Proofs.YtggmfmanpjcjkaaGreat.X
open Go Go.Ev Go.RowKit
theorem spec_l1In_c (n a b : Int) (w : World) : Ret (EV P 25 #[i64 n, i64 a, i64 b] w) fun r => r = (.bool (decide (a ≤ n) && decide (n ≤ b)), w) := by
  refine Ret.enter plain mixed (spec_l1In_fn _ _ _ _) (by kernel_rfl) (n := 3) (by kernel_rfl) rfl ?_
  cases h : decide (a ≤ n) <;> simp (disch := first | omega | (simp only [World.size_alloc, size_setRow, dw_size]; done) | (simp only [World.size_alloc, size_setRow, dw_size]; omega) | (simp only [List.length_set, Array.length_toList]; omega)) [-Option.bind_some, hp_alloc_lt, hp_alloc_eq, hp_set_ne, h]
theorem impl_within_c (n a b : Int) (w : World) : Ret (EV P 45 #[i64 n, i64 a, i64 b] w) fun r => r = (.bool (decide (a ≤ n) && decide (n ≤ b)), w) := by
  refine Ret.enter plain mixed (impl_within_fn _ _ _ _) (by kernel_rfl) (n := 3) (by kernel_rfl) rfl ?_
  cases h : decide (a ≤ n) <;> simp (disch := first | omega | (simp only [World.size_alloc, size_setRow, dw_size]; done) | (simp only [World.size_alloc, size_setRow, dw_size]; omega) | (simp only [List.length_set, Array.length_toList]; omega)) [-Option.bind_some, hp_alloc_lt, hp_alloc_eq, hp_set_ne, h]
theorem impl_placeOk_c (n : Int) (w : World) : Ret (EV P 44 #[i64 n] w) fun r => r = (.bool (decide (0 ≤ n) && decide (n ≤ 2)), w) := by
  refine Ret.enter plain mixed (impl_placeOk_fn _ _) (by kernel_rfl) (n := 1) (by kernel_rfl) rfl ?_
  simp (disch := first | omega | (simp only [World.size_alloc, size_setRow, dw_size]; done) | (simp only [World.size_alloc, size_setRow, dw_size]; omega) | (simp only [List.length_set, Array.length_toList]; omega)) [-Option.bind_some, hp_alloc_lt, hp_alloc_eq, hp_set_ne]
  refine Ret.bind (impl_within_c n 0 2 w) ?_
  rintro _ rfl
  simp (disch := first | omega | (simp only [World.size_alloc, size_setRow, dw_size]; done) | (simp only [World.size_alloc, size_setRow, dw_size]; omega) | (simp only [List.length_set, Array.length_toList]; omega)) [-Option.bind_some, hp_alloc_lt, hp_alloc_eq, hp_set_ne]
theorem spec_l1TagOk_c (x : Tag) (w : World) : Ret (EV P 137 #[x.v] w) fun r => r.1 = .bool (tagOk x) ∧ Ext w r.2 := by
  refine Ret.enter plain mixed (spec_l1TagOk_fn _ _) (by kernel_rfl) (n := 1) (by kernel_rfl) rfl ?_
  cases h : ((x.t == 0) && (x.p == 0))
  · simp (disch := first | omega | (simp only [World.size_alloc, size_setRow, dw_size]; done) | (simp only [World.size_alloc, size_setRow, dw_size]; omega) | (simp only [List.length_set, Array.length_toList]; omega)) [-Option.bind_some, hp_alloc_lt, hp_alloc_eq, hp_set_ne, h]
    refine Ret.bind (spec_l1In_c _ _ _ _) ?_
    rintro _ rfl
    cases h1 : (decide (1 ≤ x.t) && decide (x.t ≤ 999))
    · simp (disch := first | omega | (simp only [World.size_alloc, size_setRow, dw_size]; done) | (simp only [World.size_alloc, size_setRow, dw_size]; omega) | (simp only [List.length_set, Array.length_toList]; omega)) [-Option.bind_some, hp_alloc_lt, hp_alloc_eq, hp_set_ne, h1, Ext.alloc, tagOk, h]
    · simp (disch := first | omega | (simp only [World.size_alloc, size_setRow, dw_size]; done) | (simp only [World.size_alloc, size_setRow, dw_size]; omega) | (simp only [List.length_set, Array.length_toList]; omega)) [-Option.bind_some, hp_alloc_lt, hp_alloc_eq, hp_set_ne, h1]
      refine Ret.bind (spec_l1In_c _ _ _ _) ?_
      rintro _ rfl
      simp (disch := first | omega | (simp only [World.size_alloc, size_setRow, dw_size]; done) | (simp only [World.size_alloc, size_setRow, dw_size]; omega) | (simp only [List.length_set, Array.length_toList]; omega)) [-Option.bind_some, hp_alloc_lt, hp_alloc_eq, hp_set_ne, Ext.alloc, tagOk, h, h1]
  · simp (disch := first | omega | (simp only [World.size_alloc, size_setRow, dw_size]; done) | (simp only [World.size_alloc, size_setRow, dw_size]; omega) | (simp only [List.length_set, Array.length_toList]; omega)) [-Option.bind_some, hp_alloc_lt, hp_alloc_eq, hp_set_ne, h, Ext.alloc, tagOk]
theorem impl_TagOk_c (x : Tag) (w : World) : Ret (EV P 66 #[x.v] w) fun r => r.1 = .bool (tagOk x) ∧ Ext w r.2 := by
  refine Ret.enter plain mixed (impl_TagOk_fn _ _) (by kernel_rfl) (n := 1) (by kernel_rfl) rfl ?_
  cases h : ((x.t == 0) && (x.p == 0))
  · simp (disch := first | omega | (simp only [World.size_alloc, size_setRow, dw_size]; done) | (simp only [World.size_alloc, size_setRow, dw_size]; omega) | (simp only [List.length_set, Array.length_toList]; omega)) [-Option.bind_some, hp_alloc_lt, hp_alloc_eq, hp_set_ne, h]
    refine Ret.bind (impl_within_c _ _ _ _) ?_
    rintro _ rfl
    cases h1 : (decide (1 ≤ x.t) && decide (x.t ≤ 999))
    · simp (disch := first | omega | (simp only [World.size_alloc, size_setRow, dw_size]; done) | (simp only [World.size_alloc, size_setRow, dw_size]; omega) | (simp only [List.length_set, Array.length_toList]; omega)) [-Option.bind_some, hp_alloc_lt, hp_alloc_eq, hp_set_ne, h1, Ext.alloc, tagOk, h]
    · simp (disch := first | omega | (simp only [World.size_alloc, size_setRow, dw_size]; done) | (simp only [World.size_alloc, size_setRow, dw_size]; omega) | (simp only [List.length_set, Array.length_toList]; omega)) [-Option.bind_some, hp_alloc_lt, hp_alloc_eq, hp_set_ne, h1]
      refine Ret.bind (impl_placeOk_c _ _) ?_
      rintro _ rfl
      simp (disch := first | omega | (simp only [World.size_alloc, size_setRow, dw_size]; done) | (simp only [World.size_alloc, size_setRow, dw_size]; omega) | (simp only [List.length_set, Array.length_toList]; omega)) [-Option.bind_some, hp_alloc_lt, hp_alloc_eq, hp_set_ne, Ext.alloc, tagOk, h, h1]
  · simp (disch := first | omega | (simp only [World.size_alloc, size_setRow, dw_size]; done) | (simp only [World.size_alloc, size_setRow, dw_size]; omega) | (simp only [List.length_set, Array.length_toList]; omega)) [-Option.bind_some, hp_alloc_lt, hp_alloc_eq, hp_set_ne, h, Ext.alloc, tagOk]
theorem laws_toTag_c (x : Tag) (w : World) : Ret (EV P 116 #[x.v] w) fun r => r.1 = x.v ∧ Ext w r.2 := by
  refine Ret.enter plain mixed (laws_toTag_fn _ _) (by kernel_rfl) (n := 1) (by kernel_rfl) rfl ?_
  simp (disch := first | omega | (simp only [World.size_alloc, size_setRow, dw_size]; done) | (simp only [World.size_alloc, size_setRow, dw_size]; omega) | (simp only [List.length_set, Array.length_toList]; omega)) [-Option.bind_some, hp_alloc_lt, hp_alloc_eq, hp_set_ne]
  (repeat (first | exact Ext.rfl | assumption | (refine Ext.al ?_ _) | (refine Ext.dw ?_) | (refine Ext.set ?_ (by first | omega | (simp only [World.size_alloc, size_setRow, dw_size]; omega)) _) | (refine Ext.tr ?_ (by assumption))))
end Go.Proofs.YtggmfmanpjcjkaaGreat.X
set_option linter.unusedVariables false
set_option linter.unusedSimpArgs false
set_option maxRecDepth 100000
namespace Go.Proofs.YtggmfmanpjcjkaaGreat.X
open Go Go.Ev Go.RowKit
theorem laws_eqTag_c (x y : Tag) (w : World) : Ret (EV P 126 #[x.v, y.v] w) fun r => r.1 = .bool (decide (x = y)) ∧ Ext w r.2 := by
  refine Ret.enter plain mixed (laws_eqTag_fn _ _ _) (by kernel_rfl) (n := 2) (by kernel_rfl) rfl ?_
  obtain ⟨a, b⟩ := x
  obtain ⟨c, d⟩ := y
  cases h : (a != c)
  · cases h1 : (b != d)
    · simp (disch := first | omega | (simp only [World.size_alloc, size_setRow, dw_size]; done) | (simp only [World.size_alloc, size_setRow, dw_size]; omega) | (simp only [List.length_set, Array.length_toList]; omega)) [-Option.bind_some, hp_alloc_lt, hp_alloc_eq, hp_set_ne, h, h1]
      simp only [bne_eq_false_iff_eq] at h h1
      exact ⟨⟨h, h1⟩, by (repeat (first | exact Ext.rfl | assumption | (refine Ext.al ?_ _) | (refine Ext.dw ?_) | (refine Ext.set ?_ (by first | omega | (simp only [World.size_alloc, size_setRow, dw_size]; omega)) _) | (refine Ext.tr ?_ (by assumption))))⟩
    · simp (disch := first | omega | (simp only [World.size_alloc, size_setRow, dw_size]; done) | (simp only [World.size_alloc, size_setRow, dw_size]; omega) | (simp only [List.length_set, Array.length_toList]; omega)) [-Option.bind_some, hp_alloc_lt, hp_alloc_eq, hp_set_ne, h, h1]
      simp only [bne_iff_ne, ne_eq] at h1
      exact ⟨fun _ => h1, by (repeat (first | exact Ext.rfl | assumption | (refine Ext.al ?_ _) | (refine Ext.dw ?_) | (refine Ext.set ?_ (by first | omega | (simp only [World.size_alloc, size_setRow, dw_size]; omega)) _) | (refine Ext.tr ?_ (by assumption))))⟩
  · simp (disch := first | omega | (simp only [World.size_alloc, size_setRow, dw_size]; done) | (simp only [World.size_alloc, size_setRow, dw_size]; omega) | (simp only [List.length_set, Array.length_toList]; omega)) [-Option.bind_some, hp_alloc_lt, hp_alloc_eq, hp_set_ne, h]
    simp only [bne_iff_ne, ne_eq] at h
    exact ⟨fun h' => (h h').elim, by (repeat (first | exact Ext.rfl | assumption | (refine Ext.al ?_ _) | (refine Ext.dw ?_) | (refine Ext.set ?_ (by first | omega | (simp only [World.size_alloc, size_setRow, dw_size]; omega)) _) | (refine Ext.tr ?_ (by assumption))))⟩
theorem laws_eqTagS_l {s u : Value} {xs ys : List Tag} (hl : xs.length = ys.length) : ∀ (d k : Nat) (e : Env) (w : World), k + d = xs.length → e 0 = s → e 1 = u → e 5 = i64 k →
    rTags w s xs → rTags w u ys → Ret (laws_eqTagS_l1 e w) fun r => r.1 = .bool (decide (xs.drop k = ys.drop k)) ∧ Ext w r.2 := by
  intro d
  induction d with
  | zero =>
    intro k e w hd h0 h1 h5 ha hb
    obtain ⟨aa, ca, hs, hm⟩ := ha.len
    rw [laws_eqTagS_l1_eq]
    subst hs
    simp (disch := first | omega | (simp only [World.size_alloc, size_setRow, dw_size]; done) | (simp only [World.size_alloc, size_setRow, dw_size]; omega) | (simp only [List.length_set, Array.length_toList]; omega)) [-Option.bind_some, hp_alloc_lt, hp_alloc_eq, hp_set_ne, h0, h1, h5, show ¬ k < xs.length by omega, show xs.length ≤ k by omega, show ys.length ≤ k by omega]
    exact ⟨by rw [List.drop_eq_nil_of_le (by omega), List.drop_eq_nil_of_le (by omega)], by (repeat (first | exact Ext.rfl | assumption | (refine Ext.al ?_ _) | (refine Ext.dw ?_) | (refine Ext.set ?_ (by first | omega | (simp only [World.size_alloc, size_setRow, dw_size]; omega)) _) | (refine Ext.tr ?_ (by assumption))))⟩
  | succ d ih =>
    intro k e w hd h0 h1 h5 ha hb
    obtain ⟨aa, ca, hs, hm⟩ := ha.len
    rw [laws_eqTagS_l1_eq]
    have hlt : k < xs.length := by omega
    obtain ⟨x, hx, hdx⟩ := drop_at hlt
    obtain ⟨y, hy, hdy⟩ := drop_at (hl ▸ hlt)
    obtain ⟨b1, o1, c1, hs1, hA⟩ := ha.at hx
    obtain ⟨b2, o2, c2, hs2, hB⟩ := hb.at hy
    have hb1 := hA.lt
    have hb2 := hB.lt
    have p0 := hA 0 _ rfl
    have p1 := hA 1 _ rfl
    have q0 := hB 0 _ rfl
    have q1 := hB 1 _ rfl
    simp only [Nat.add_zero] at p0 q0
    subst hs1
    subst hs2
    simp (disch := first | omega | (simp only [World.size_alloc, size_setRow, dw_size]; done) | (simp only [World.size_alloc, size_setRow, dw_size]; omega) | (simp only [List.length_set, Array.length_toList]; omega)) [-Option.bind_some, hp_alloc_lt, hp_alloc_eq, hp_set_ne, h0, h1, h5, hlt, ia_60, p0, p1, q0, q1]
    refine Ret.bind (laws_eqTag_c x y _) ?_
    rintro ⟨_, w1⟩ ⟨rfl, hE⟩
    by_cases hxy : x = y
    · simp (disch := first | omega | (simp only [World.size_alloc, size_setRow, dw_size]; done) | (simp only [World.size_alloc, size_setRow, dw_size]; omega) | (simp only [List.length_set, Array.length_toList]; omega)) [-Option.bind_some, hp_alloc_lt, hp_alloc_eq, hp_set_ne, hxy]
      refine Ret.mono (ih (k + 1) _ w1 (by omega) h0 h1 (congrArg i64 (w64 (by omega) (by omega))) (ha.mono (Ext.keep (by (repeat (first | exact Ext.rfl | assumption | (refine Ext.al ?_ _) | (refine Ext.dw ?_) | (refine Ext.set ?_ (by first | omega | (simp only [World.size_alloc, size_setRow, dw_size]; omega)) _) | (refine Ext.tr ?_ (by assumption))))))) (hb.mono (Ext.keep (by (repeat (first | exact Ext.rfl | assumption | (refine Ext.al ?_ _) | (refine Ext.dw ?_) | (refine Ext.set ?_ (by first | omega | (simp only [World.size_alloc, size_setRow, dw_size]; omega)) _) | (refine Ext.tr ?_ (by assumption)))))))) ?_
      rintro r ⟨h3, h4⟩
      rw [hdx, hdy, hxy]
      exact ⟨by simp [h3], by (repeat (first | exact Ext.rfl | assumption | (refine Ext.al ?_ _) | (refine Ext.dw ?_) | (refine Ext.set ?_ (by first | omega | (simp only [World.size_alloc, size_setRow, dw_size]; omega)) _) | (refine Ext.tr ?_ (by assumption))))⟩
    · simp (disch := first | omega | (simp only [World.size_alloc, size_setRow, dw_size]; done) | (simp only [World.size_alloc, size_setRow, dw_size]; omega) | (simp only [List.length_set, Array.length_toList]; omega)) [-Option.bind_some, hp_alloc_lt, hp_alloc_eq, hp_set_ne, hxy, hdx, hdy]
      (repeat (first | exact Ext.rfl | assumption | (refine Ext.al ?_ _) | (refine Ext.dw ?_) | (refine Ext.set ?_ (by first | omega | (simp only [World.size_alloc, size_setRow, dw_size]; omega)) _) | (refine Ext.tr ?_ (by assumption))))
end Go.Proofs.YtggmfmanpjcjkaaGreat.X
set_option linter.unusedVariables false
set_option linter.unusedSimpArgs false
set_option maxRecDepth 100000
namespace Go.Proofs.YtggmfmanpjcjkaaGreat.X
open Go Go.Ev Go.RowKit
theorem laws_toTagS_l {s : Value} {xs : List Tag} {g : Nat} {w0 : World} : ∀ (d k : Nat) (e : Env) (w : World) (cur : Array Value), k + d = xs.length → e 0 = s → e 3 = .slice (some ⟨g, 0, none⟩) xs.length xs.length → e 4 = i64 k →
    rTags w0 s xs → Ext w0 w → w0.heap.size ≤ g → hp w g = some (.cells cur 64 (0, 0)) → cur.size = xs.length * 2 → cur.toList.take (k * 2) = tagCs (xs.take k) →
    Ret (laws_toTagS_l1 e w) fun r => r.1 = .slice (some ⟨g, 0, none⟩) xs.length xs.length ∧ (∃ c : Array Value, hp r.2 g = some (.cells c 64 (0, 0)) ∧ c.toList = tagCs xs) ∧ Ext w0 r.2 := by
  intro d
  induction d with
  | zero =>
    intro k e w cur hd h0 h3 h4 ha hE hB hg hc ht
    obtain ⟨aa, ca, hs, hm⟩ := ha.len
    rw [laws_toTagS_l1_eq]
    subst hs
    simp (disch := first | omega | (simp only [World.size_alloc, size_setRow, dw_size]; done) | (simp only [World.size_alloc, size_setRow, dw_size]; omega) | (simp only [List.length_set, Array.length_toList]; omega)) [-Option.bind_some, hp_alloc_lt, hp_alloc_eq, hp_set_ne, h0, h3, h4, show ¬ k < xs.length by omega, show xs.length ≤ k by omega]
    refine ⟨⟨cur, hg, ?_⟩, by (repeat (first | exact Ext.rfl | assumption | (refine Ext.al ?_ _) | (refine Ext.dw ?_) | (refine Ext.set ?_ (by first | omega | (simp only [World.size_alloc, size_setRow, dw_size]; omega)) _) | (refine Ext.tr ?_ (by assumption))))⟩
    rw [List.take_of_length_le (by simp; omega), List.take_of_length_le (by omega)] at ht
    exact ht
  | succ d ih =>
    intro k e w cur hd h0 h3 h4 ha hE hB hg hc ht
    rw [laws_toTagS_l1_eq]
    have hlt : k < xs.length := by omega
    obtain ⟨x, hx, hdx⟩ := drop_at hlt
    obtain ⟨_, _, _, hm⟩ := ha.len
    obtain ⟨b1, o1, c1, hs1, hA0⟩ := ha.at hx
    have hA := hA0.mono (Ext.keep hE)
    have hgl := hp_lt hg
    have p0 := hA 0 _ rfl
    have p1 := hA 1 _ rfl
    simp only [Nat.add_zero] at p0
    subst hs1
    simp (disch := first | omega | (simp only [World.size_alloc, size_setRow, dw_size]; done) | (simp only [World.size_alloc, size_setRow, dw_size]; omega) | (simp only [List.length_set, Array.length_toList]; omega)) [-Option.bind_some, hp_alloc_lt, hp_alloc_eq, hp_set_ne, h0, h3, h4, hlt, ia_121, p0, p1]
    refine Ret.bind (laws_toTag_c x _) ?_
    rintro ⟨_, w1⟩ ⟨rfl, hE1⟩
    have hg1 := (hE1.blk hgl).trans hg
    have hs1 := hE1.size
    have hkk : k * 2 + 2 ≤ cur.size := by omega
    have hpt := row_put (cur := cur) (vs := tagC x) (m := 2) hc hlt rfl
    simp (disch := first | omega | (simp only [World.size_alloc, size_setRow, dw_size]; done) | (simp only [World.size_alloc, size_setRow, dw_size]; omega) | (simp only [List.length_set, Array.length_toList]; omega)) [-Option.bind_some, hp_alloc_lt, hp_alloc_eq, hp_set_ne, ia_60, hlt, hg1, hkk]
    refine Ret.mono (ih (k + 1) _ _ _ (by omega) h0 h3 (congrArg i64 (w64 (by omega) (by omega))) ha (by (repeat (first | exact Ext.rfl | assumption | (refine Ext.al ?_ _) | (refine Ext.dw ?_) | (refine Ext.set ?_ (by first | omega | (simp only [World.size_alloc, size_setRow, dw_size]; omega)) _) | (refine Ext.tr ?_ (by assumption))))) hB (by rw [hp_set_eq, hg1]; rfl) (by simpa using hpt.1)
      (by rw [take_at hx, tagCs_app, ← ht]; simpa [tagCs] using hpt.2)) fun _ h => h
theorem laws_toTagS_c {s : Value} {xs : List Tag} {w : World} (ha : rTags w s xs) : Ret (EV P 145 #[s] w) fun r => fTags 64 w.heap.size r.2 r.1 xs ∧ Ext w r.2 := by
  have ha' := ha
  obtain ⟨aa, ca, hs, hm⟩ := ha.len
  subst hs
  refine Ret.enter plain mixed (laws_toTagS_fn _ _) (by kernel_rfl) (n := 1) (by kernel_rfl) rfl ?_
  have hmk := ms_eq (P := P) el_60 (z := [i64 0, i64 0]) (by kernel_rfl) rfl (by omega) (l := xs.length) (c := xs.length) (by omega) (by omega) (by omega) (by omega) w
  simp only [Int.toNat_natCast] at hmk
  simp (disch := first | omega | (simp only [World.size_alloc, size_setRow, dw_size]; done) | (simp only [World.size_alloc, size_setRow, dw_size]; omega) | (simp only [List.length_set, Array.length_toList]; omega)) [-Option.bind_some, hp_alloc_lt, hp_alloc_eq, hp_set_ne, hmk]
  refine Ret.mono (laws_toTagS_l (s := .slice aa xs.length ca) (xs := xs) (g := w.heap.size) (w0 := w) xs.length 0 _ _ _ (by omega) rfl rfl rfl ha' (by (repeat (first | exact Ext.rfl | assumption | (refine Ext.al ?_ _) | (refine Ext.dw ?_) | (refine Ext.set ?_ (by first | omega | (simp only [World.size_alloc, size_setRow, dw_size]; omega)) _) | (refine Ext.tr ?_ (by assumption))))) (by omega) (hp_alloc_eq rfl) (by simp [zrep_len]) (by simp [tagCs])) ?_
  rintro ⟨_, w1⟩ ⟨rfl, ⟨c, hc, hl⟩, hE⟩
  have hsz : c.size = xs.length * 2 := by rw [← tagCs_length, ← hl]; simp
  exact ⟨⟨⟨by rw [tagCs_length], by omega, .inr ⟨w.heap.size, xs.length, c, rfl, by omega, hc, by omega, by omega, by omega, by rw [hl, ← tagCs_length, List.take_length]⟩⟩, hm⟩, hE⟩
theorem laws_toPast_c {s : Value} {xs : List Tag} {w : World} (ha : rTags w s xs) : Ret (EV P 117 #[.agg #[s]] w) fun r => ∃ s', r.1 = .agg #[s'] ∧ fTags 64 w.heap.size r.2 s' xs ∧ Ext w r.2 := by
  obtain ⟨aa, ca, hs, hm⟩ := ha.len
  subst hs
  refine Ret.enter plain mixed (laws_toPast_fn _ _) (by kernel_rfl) (n := 1) (by kernel_rfl) rfl ?_
  simp (disch := first | omega | (simp only [World.size_alloc, size_setRow, dw_size]; done) | (simp only [World.size_alloc, size_setRow, dw_size]; omega) | (simp only [List.length_set, Array.length_toList]; omega)) [-Option.bind_some, hp_alloc_lt, hp_alloc_eq, hp_set_ne]
  refine Ret.bind (laws_toTagS_c (ha.mono (Ext.keep (by (repeat (first | exact Ext.rfl | assumption | (refine Ext.al ?_ _) | (refine Ext.dw ?_) | (refine Ext.set ?_ (by first | omega | (simp only [World.size_alloc, size_setRow, dw_size]; omega)) _) | (refine Ext.tr ?_ (by assumption)))))))) ?_
  rintro ⟨s', w1⟩ ⟨hf, hE⟩
  obtain ⟨ab, cb, hs', hm'⟩ := hf.r.len
  subst hs'
  have hs := hE.size
  simp only [World.size_alloc] at hs hf
  simp (disch := first | omega | (simp only [World.size_alloc, size_setRow, dw_size]; done) | (simp only [World.size_alloc, size_setRow, dw_size]; omega) | (simp only [List.length_set, Array.length_toList]; omega)) [-Option.bind_some, hp_alloc_lt, hp_alloc_eq, hp_set_ne, hE.blk]
  refine ⟨?_, by (repeat (first | exact Ext.rfl | assumption | (refine Ext.al ?_ _) | (refine Ext.dw ?_) | (refine Ext.set ?_ (by first | omega | (simp only [World.size_alloc, size_setRow, dw_size]; omega)) _) | (refine Ext.tr ?_ (by assumption))))⟩
  refine ⟨(hf.1.keep fun g hg => ?_).from (by omega), hf.2⟩
  have := hf.1.lt hg
  rw [hp_set_ne (by omega), hp_set_ne (by omega)]
theorem laws_szTagS_c (n : Int) (h0 : -1 ≤ n) (h1 : n ≤ 1048576) {s : Value} {xs : List Tag} {w : World} (ha : rTags w s xs) : Ret (EV P 135 #[s, i64 n] w) fun r => ∃ m, r = (i64 m, w) ∧ -1 ≤ m ∧ m ≤ 1048576 ∧ (0 ≤ m → m + xs.length ≤ n) := by
  obtain ⟨aa, ca, hs, hm⟩ := ha.len
  subst hs
  refine Ret.enter plain mixed (laws_szTagS_fn _ _ _) (by kernel_rfl) (n := 2) (by kernel_rfl) rfl ?_
  simp (disch := first | omega | (simp only [World.size_alloc, size_setRow, dw_size]; done) | (simp only [World.size_alloc, size_setRow, dw_size]; omega) | (simp only [List.length_set, Array.length_toList]; omega)) [-Option.bind_some, hp_alloc_lt, hp_alloc_eq, hp_set_ne]
  rw [w64 (by omega) (by omega)]
  by_cases h : n - xs.length < 0
  · simp (disch := first | omega | (simp only [World.size_alloc, size_setRow, dw_size]; done) | (simp only [World.size_alloc, size_setRow, dw_size]; omega) | (simp only [List.length_set, Array.length_toList]; omega)) [-Option.bind_some, hp_alloc_lt, hp_alloc_eq, hp_set_ne, h]
  · simp (disch := first | omega | (simp only [World.size_alloc, size_setRow, dw_size]; done) | (simp only [World.size_alloc, size_setRow, dw_size]; omega) | (simp only [List.length_set, Array.length_toList]; omega)) [-Option.bind_some, hp_alloc_lt, hp_alloc_eq, hp_set_ne, h]
    omega
theorem laws_szPast_c (n : Int) (h0 : -1 ≤ n) (h1 : n ≤ 1048576) {s : Value} {xs : List Tag} {w : World} (ha : rTags w s xs) : Ret (EV P 109 #[.agg #[s], i64 n] w) fun r => ∃ m, r.1 = i64 m ∧ -1 ≤ m ∧ m ≤ 1048576 ∧ (0 ≤ m → m + xs.length ≤ n) ∧ Ext w r.2 := by
  obtain ⟨aa, ca, hs, hm⟩ := ha.len
  subst hs
  refine Ret.enter plain mixed (laws_szPast_fn _ _ _) (by kernel_rfl) (n := 2) (by kernel_rfl) rfl ?_
  simp (disch := first | omega | (simp only [World.size_alloc, size_setRow, dw_size]; done) | (simp only [World.size_alloc, size_setRow, dw_size]; omega) | (simp only [List.length_set, Array.length_toList]; omega)) [-Option.bind_some, hp_alloc_lt, hp_alloc_eq, hp_set_ne]
  refine Ret.bind (laws_szTagS_c n h0 h1 (ha.mono (Ext.keep (by (repeat (first | exact Ext.rfl | assumption | (refine Ext.al ?_ _) | (refine Ext.dw ?_) | (refine Ext.set ?_ (by first | omega | (simp only [World.size_alloc, size_setRow, dw_size]; omega)) _) | (refine Ext.tr ?_ (by assumption)))))))) ?_
  rintro _ ⟨m, rfl, h2, h3, h4⟩
  by_cases h : m < 0
  · simp (disch := first | omega | (simp only [World.size_alloc, size_setRow, dw_size]; done) | (simp only [World.size_alloc, size_setRow, dw_size]; omega) | (simp only [List.length_set, Array.length_toList]; omega)) [-Option.bind_some, hp_alloc_lt, hp_alloc_eq, hp_set_ne, h]
    (repeat (first | exact Ext.rfl | assumption | (refine Ext.al ?_ _) | (refine Ext.dw ?_) | (refine Ext.set ?_ (by first | omega | (simp only [World.size_alloc, size_setRow, dw_size]; omega)) _) | (refine Ext.tr ?_ (by assumption))))
  · simp (disch := first | omega | (simp only [World.size_alloc, size_setRow, dw_size]; done) | (simp only [World.size_alloc, size_setRow, dw_size]; omega) | (simp only [List.length_set, Array.length_toList]; omega)) [-Option.bind_some, hp_alloc_lt, hp_alloc_eq, hp_set_ne, h]
    exact ⟨h2, h3, fun _ => h4 (by omega), by (repeat (first | exact Ext.rfl | assumption | (refine Ext.al ?_ _) | (refine Ext.dw ?_) | (refine Ext.set ?_ (by first | omega | (simp only [World.size_alloc, size_setRow, dw_size]; omega)) _) | (refine Ext.tr ?_ (by assumption))))⟩
end Go.Proofs.YtggmfmanpjcjkaaGreat.X
set_option linter.unusedVariables false
set_option linter.unusedSimpArgs false
set_option maxRecDepth 100000
namespace Go.Proofs.YtggmfmanpjcjkaaGreat.X
open Go Go.Ev Go.RowKit
theorem laws_eqTagS_c {s u : Value} {xs : List Tag} {w : World} (ha : rTags w s xs) (hb : rTags w u xs) : Ret (EV P 151 #[s, u] w) fun r => r.1 = .bool true ∧ Ext w r.2 := by
  have ha' := ha
  have hb' := hb
  obtain ⟨aa, ca, hs, hm⟩ := ha.len
  obtain ⟨ab, cb, hu, _⟩ := hb.len
  subst hs
  subst hu
  refine Ret.enter plain mixed (laws_eqTagS_fn _ _ _) (by kernel_rfl) (n := 2) (by kernel_rfl) rfl ?_
  simp (disch := first | omega | (simp only [World.size_alloc, size_setRow, dw_size]; done) | (simp only [World.size_alloc, size_setRow, dw_size]; omega) | (simp only [List.length_set, Array.length_toList]; omega)) [-Option.bind_some, hp_alloc_lt, hp_alloc_eq, hp_set_ne]
  refine Ret.mono (laws_eqTagS_l (xs := xs) (ys := xs) rfl xs.length 0 _ w (by omega) rfl rfl rfl ha' hb') ?_
  rintro r ⟨h1, h2⟩
  exact ⟨by simp [h1], h2⟩
theorem laws_eqPast_c {s u : Value} {xs : List Tag} {w : World} (ha : rTags w s xs) (hb : rTags w u xs) : Ret (EV P 127 #[.agg #[s], .agg #[u]] w) fun r => r.1 = .bool true ∧ Ext w r.2 := by
  obtain ⟨aa, ca, hs, hm⟩ := ha.len
  obtain ⟨ab, cb, hu, _⟩ := hb.len
  subst hs
  subst hu
  refine Ret.enter plain mixed (laws_eqPast_fn _ _ _) (by kernel_rfl) (n := 2) (by kernel_rfl) rfl ?_
  simp (disch := first | omega | (simp only [World.size_alloc, size_setRow, dw_size]; done) | (simp only [World.size_alloc, size_setRow, dw_size]; omega) | (simp only [List.length_set, Array.length_toList]; omega)) [-Option.bind_some, hp_alloc_lt, hp_alloc_eq, hp_set_ne]
  refine Ret.bind (laws_eqTagS_c (ha.mono (Ext.keep (by (repeat (first | exact Ext.rfl | assumption | (refine Ext.al ?_ _) | (refine Ext.dw ?_) | (refine Ext.set ?_ (by first | omega | (simp only [World.size_alloc, size_setRow, dw_size]; omega)) _) | (refine Ext.tr ?_ (by assumption))))))) (hb.mono (Ext.keep (by (repeat (first | exact Ext.rfl | assumption | (refine Ext.al ?_ _) | (refine Ext.dw ?_) | (refine Ext.set ?_ (by first | omega | (simp only [World.size_alloc, size_setRow, dw_size]; omega)) _) | (refine Ext.tr ?_ (by assumption)))))))) ?_
  rintro ⟨_, w1⟩ ⟨rfl, hE⟩
  simp (disch := first | omega | (simp only [World.size_alloc, size_setRow, dw_size]; done) | (simp only [World.size_alloc, size_setRow, dw_size]; omega) | (simp only [List.length_set, Array.length_toList]; omega)) [-Option.bind_some, hp_alloc_lt, hp_alloc_eq, hp_set_ne]
  (repeat (first | exact Ext.rfl | assumption | (refine Ext.al ?_ _) | (refine Ext.dw ?_) | (refine Ext.set ?_ (by first | omega | (simp only [World.size_alloc, size_setRow, dw_size]; omega)) _) | (refine Ext.tr ?_ (by assumption))))
theorem laws_eqVer_c {cs ds : List Value} {v : Ver} {w : World} (ha : rVer w cs v) (hb : rVer w ds v) : Ret (EV P 96 #[.agg cs.toArray, .agg ds.toArray] w) fun r => r.1 = .bool true ∧ Ext w r.2 := by
  obtain ⟨s, rfl, ha, ht⟩ := ha
  obtain ⟨u, rfl, hb, _⟩ := hb
  obtain ⟨aa, ca, hs, hm⟩ := ha.len
  obtain ⟨ab, cb, hu, _⟩ := hb.len
  subst hs
  subst hu
  refine Ret.enter plain mixed (laws_eqVer_fn _ _ _) (by kernel_rfl) (n := 2) (by kernel_rfl) rfl ?_
  simp (disch := first | omega | (simp only [World.size_alloc, size_setRow, dw_size]; done) | (simp only [World.size_alloc, size_setRow, dw_size]; omega) | (simp only [List.length_set, Array.length_toList]; omega)) [-Option.bind_some, hp_alloc_lt, hp_alloc_eq, hp_set_ne]
  refine Ret.bind (laws_eqTag_c v.tag v.tag _) ?_
  rintro ⟨_, w1⟩ ⟨rfl, hE⟩
  have hs := hE.size
  simp only [World.size_alloc] at hs
  simp (disch := first | omega | (simp only [World.size_alloc, size_setRow, dw_size]; done) | (simp only [World.size_alloc, size_setRow, dw_size]; omega) | (simp only [List.length_set, Array.length_toList]; omega)) [-Option.bind_some, hp_alloc_lt, hp_alloc_eq, hp_set_ne, hE.blk]
  refine Ret.bind (laws_eqPast_c (ha.mono (Ext.keep (by (repeat (first | exact Ext.rfl | assumption | (refine Ext.al ?_ _) | (refine Ext.dw ?_) | (refine Ext.set ?_ (by first | omega | (simp only [World.size_alloc, size_setRow, dw_size]; omega)) _) | (refine Ext.tr ?_ (by assumption))))))) (hb.mono (Ext.keep (by (repeat (first | exact Ext.rfl | assumption | (refine Ext.al ?_ _) | (refine Ext.dw ?_) | (refine Ext.set ?_ (by first | omega | (simp only [World.size_alloc, size_setRow, dw_size]; omega)) _) | (refine Ext.tr ?_ (by assumption)))))))) ?_
  rintro ⟨_, w2⟩ ⟨rfl, hE2⟩
  have hs2 := hE2.size
  simp (disch := first | omega | (simp only [World.size_alloc, size_setRow, dw_size]; done) | (simp only [World.size_alloc, size_setRow, dw_size]; omega) | (simp only [List.length_set, Array.length_toList]; omega)) [-Option.bind_some, hp_alloc_lt, hp_alloc_eq, hp_set_ne, hE2.blk, hE.blk]
  (repeat (first | exact Ext.rfl | assumption | (refine Ext.al ?_ _) | (refine Ext.dw ?_) | (refine Ext.set ?_ (by first | omega | (simp only [World.size_alloc, size_setRow, dw_size]; omega)) _) | (refine Ext.tr ?_ (by assumption))))
theorem laws_eqVerS_l {s u : Value} {vs : List Ver} : ∀ (d k : Nat) (e : Env) (w : World), k + d = vs.length → e 0 = s → e 1 = u → e 5 = i64 k →
    rVers w s vs → rVers w u vs → Ret (laws_eqVerS_l1 e w) fun r => r.1 = .bool true ∧ Ext w r.2 := by
  intro d
  induction d with
  | zero =>
    intro k e w hd h0 h1 h5 ha hb
    obtain ⟨aa, ca, hs, hm⟩ := ha.len
    rw [laws_eqVerS_l1_eq]
    subst hs
    simp (disch := first | omega | (simp only [World.size_alloc, size_setRow, dw_size]; done) | (simp only [World.size_alloc, size_setRow, dw_size]; omega) | (simp only [List.length_set, Array.length_toList]; omega)) [-Option.bind_some, hp_alloc_lt, hp_alloc_eq, hp_set_ne, h0, h1, h5, show ¬ k < vs.length by omega, show vs.length ≤ k by omega]
    (repeat (first | exact Ext.rfl | assumption | (refine Ext.al ?_ _) | (refine Ext.dw ?_) | (refine Ext.set ?_ (by first | omega | (simp only [World.size_alloc, size_setRow, dw_size]; omega)) _) | (refine Ext.tr ?_ (by assumption))))
  | succ d ih =>
    intro k e w hd h0 h1 h5 ha hb
    obtain ⟨aa, ca, hs, hm⟩ := ha.len
    rw [laws_eqVerS_l1_eq]
    have hlt : k < vs.length := by omega
    obtain ⟨v, hv, hdx⟩ := drop_at hlt
    obtain ⟨b1, o1, c1, cs, hs1, hA, hcs⟩ := ha.at hv
    obtain ⟨b2, o2, c2, ds, hs2, hB, hds⟩ := hb.at hv
    have hcs' := hcs
    have hds' := hds
    have hla := At.ld (P := P) (t := 69) (by kernel_rfl) (by rw [hcs.length]; kernel_rfl) (hA.mono (w' := dw w) (Ext.keep (by (repeat (first | exact Ext.rfl | assumption | (refine Ext.al ?_ _) | (refine Ext.dw ?_) | (refine Ext.set ?_ (by first | omega | (simp only [World.size_alloc, size_setRow, dw_size]; omega)) _) | (refine Ext.tr ?_ (by assumption)))))))
    have hlb := At.ld (P := P) (t := 69) (by kernel_rfl) (by rw [hds.length]; kernel_rfl) (hB.mono (w' := dw w) (Ext.keep (by (repeat (first | exact Ext.rfl | assumption | (refine Ext.al ?_ _) | (refine Ext.dw ?_) | (refine Ext.set ?_ (by first | omega | (simp only [World.size_alloc, size_setRow, dw_size]; omega)) _) | (refine Ext.tr ?_ (by assumption)))))))
    subst hs1
    subst hs2
    simp (disch := first | omega | (simp only [World.size_alloc, size_setRow, dw_size]; done) | (simp only [World.size_alloc, size_setRow, dw_size]; omega) | (simp only [List.length_set, Array.length_toList]; omega)) [-Option.bind_some, hp_alloc_lt, hp_alloc_eq, hp_set_ne, h0, h1, h5, hlt, ia_47, hla, hlb, -ld_69]
    refine Ret.bind (laws_eqVer_c (hcs.mono (Ext.keep (by (repeat (first | exact Ext.rfl | assumption | (refine Ext.al ?_ _) | (refine Ext.dw ?_) | (refine Ext.set ?_ (by first | omega | (simp only [World.size_alloc, size_setRow, dw_size]; omega)) _) | (refine Ext.tr ?_ (by assumption))))))) (hds.mono (Ext.keep (by (repeat (first | exact Ext.rfl | assumption | (refine Ext.al ?_ _) | (refine Ext.dw ?_) | (refine Ext.set ?_ (by first | omega | (simp only [World.size_alloc, size_setRow, dw_size]; omega)) _) | (refine Ext.tr ?_ (by assumption)))))))) ?_
    rintro ⟨_, w1⟩ ⟨rfl, hE⟩
    simp (disch := first | omega | (simp only [World.size_alloc, size_setRow, dw_size]; done) | (simp only [World.size_alloc, size_setRow, dw_size]; omega) | (simp only [List.length_set, Array.length_toList]; omega)) [-Option.bind_some, hp_alloc_lt, hp_alloc_eq, hp_set_ne]
    refine Ret.mono (ih (k + 1) _ w1 (by omega) h0 h1 (congrArg i64 (w64 (by omega) (by omega))) (ha.mono (Ext.keep (by (repeat (first | exact Ext.rfl | assumption | (refine Ext.al ?_ _) | (refine Ext.dw ?_) | (refine Ext.set ?_ (by first | omega | (simp only [World.size_alloc, size_setRow, dw_size]; omega)) _) | (refine Ext.tr ?_ (by assumption))))))) (hb.mono (Ext.keep (by (repeat (first | exact Ext.rfl | assumption | (refine Ext.al ?_ _) | (refine Ext.dw ?_) | (refine Ext.set ?_ (by first | omega | (simp only [World.size_alloc, size_setRow, dw_size]; omega)) _) | (refine Ext.tr ?_ (by assumption)))))))) ?_
    rintro r ⟨h3, h4⟩
    exact ⟨by simp [h3], by (repeat (first | exact Ext.rfl | assumption | (refine Ext.al ?_ _) | (refine Ext.dw ?_) | (refine Ext.set ?_ (by first | omega | (simp only [World.size_alloc, size_setRow, dw_size]; omega)) _) | (refine Ext.tr ?_ (by assumption))))⟩
theorem laws_eqVerS_c {s u : Value} {vs : List Ver} {w : World} (ha : rVers w s vs) (hb : rVers w u vs) : Ret (EV P 53 #[s, u] w) fun r => r.1 = .bool true ∧ Ext w r.2 := by
  have ha' := ha
  have hb' := hb
  obtain ⟨aa, ca, hs, hm⟩ := ha.len
  obtain ⟨ab, cb, hu, _⟩ := hb.len
  subst hs
  subst hu
  refine Ret.enter plain mixed (laws_eqVerS_fn _ _ _) (by kernel_rfl) (n := 2) (by kernel_rfl) rfl ?_
  simp (disch := first | omega | (simp only [World.size_alloc, size_setRow, dw_size]; done) | (simp only [World.size_alloc, size_setRow, dw_size]; omega) | (simp only [List.length_set, Array.length_toList]; omega)) [-Option.bind_some, hp_alloc_lt, hp_alloc_eq, hp_set_ne]
  exact laws_eqVerS_l vs.length 0 _ w (by omega) rfl rfl rfl ha' hb'
theorem laws_eqStore_c {s u : Value} {vs : List Ver} {w : World} (ha : rVers w s vs) (hb : rVers w u vs) : Ret (EV P 150 #[.agg #[s], .agg #[u]] w) fun r => r.1 = .bool true ∧ Ext w r.2 := by
  obtain ⟨aa, ca, hs, hm⟩ := ha.len
  obtain ⟨ab, cb, hu, _⟩ := hb.len
  subst hs
  subst hu
  refine Ret.enter plain mixed (laws_eqStore_fn _ _ _) (by kernel_rfl) (n := 2) (by kernel_rfl) rfl ?_
  simp (disch := first | omega | (simp only [World.size_alloc, size_setRow, dw_size]; done) | (simp only [World.size_alloc, size_setRow, dw_size]; omega) | (simp only [List.length_set, Array.length_toList]; omega)) [-Option.bind_some, hp_alloc_lt, hp_alloc_eq, hp_set_ne]
  refine Ret.bind (laws_eqVerS_c (ha.mono (Ext.keep (by (repeat (first | exact Ext.rfl | assumption | (refine Ext.al ?_ _) | (refine Ext.dw ?_) | (refine Ext.set ?_ (by first | omega | (simp only [World.size_alloc, size_setRow, dw_size]; omega)) _) | (refine Ext.tr ?_ (by assumption))))))) (hb.mono (Ext.keep (by (repeat (first | exact Ext.rfl | assumption | (refine Ext.al ?_ _) | (refine Ext.dw ?_) | (refine Ext.set ?_ (by first | omega | (simp only [World.size_alloc, size_setRow, dw_size]; omega)) _) | (refine Ext.tr ?_ (by assumption)))))))) ?_
  rintro ⟨_, w1⟩ ⟨rfl, hE⟩
  simp (disch := first | omega | (simp only [World.size_alloc, size_setRow, dw_size]; done) | (simp only [World.size_alloc, size_setRow, dw_size]; omega) | (simp only [List.length_set, Array.length_toList]; omega)) [-Option.bind_some, hp_alloc_lt, hp_alloc_eq, hp_set_ne]
  (repeat (first | exact Ext.rfl | assumption | (refine Ext.al ?_ _) | (refine Ext.dw ?_) | (refine Ext.set ?_ (by first | omega | (simp only [World.size_alloc, size_setRow, dw_size]; omega)) _) | (refine Ext.tr ?_ (by assumption))))
theorem laws_szVer_c (n : Int) (h0 : -1 ≤ n) (h1 : n ≤ 1048576) {cs : List Value} {v : Ver} {w : World} (ha : rVer w cs v) : Ret (EV P 80 #[.agg cs.toArray, i64 n] w) fun r => ∃ m, r.1 = i64 m ∧ -1 ≤ m ∧ m ≤ 1048576 ∧ (0 ≤ m → m + v.past.length ≤ n) ∧ Ext w r.2 := by
  obtain ⟨s, rfl, ha, ht⟩ := ha
  obtain ⟨aa, ca, hs, hm⟩ := ha.len
  subst hs
  refine Ret.enter plain mixed (laws_szVer_fn _ _ _) (by kernel_rfl) (n := 2) (by kernel_rfl) rfl ?_
  simp (disch := first | omega | (simp only [World.size_alloc, size_setRow, dw_size]; done) | (simp only [World.size_alloc, size_setRow, dw_size]; omega) | (simp only [List.length_set, Array.length_toList]; omega)) [-Option.bind_some, hp_alloc_lt, hp_alloc_eq, hp_set_ne]
  refine Ret.bind (laws_szPast_c n h0 h1 (ha.mono (Ext.keep (by (repeat (first | exact Ext.rfl | assumption | (refine Ext.al ?_ _) | (refine Ext.dw ?_) | (refine Ext.set ?_ (by first | omega | (simp only [World.size_alloc, size_setRow, dw_size]; omega)) _) | (refine Ext.tr ?_ (by assumption)))))))) ?_
  rintro ⟨_, w1⟩ ⟨m, rfl, h2, h3, h4, hE⟩
  have hs := hE.size
  simp only [World.size_alloc] at hs
  by_cases h : m < 0
  · simp (disch := first | omega | (simp only [World.size_alloc, size_setRow, dw_size]; done) | (simp only [World.size_alloc, size_setRow, dw_size]; omega) | (simp only [List.length_set, Array.length_toList]; omega)) [-Option.bind_some, hp_alloc_lt, hp_alloc_eq, hp_set_ne, h]
    exact by (repeat (first | exact Ext.rfl | assumption | (refine Ext.al ?_ _) | (refine Ext.dw ?_) | (refine Ext.set ?_ (by first | omega | (simp only [World.size_alloc, size_setRow, dw_size]; omega)) _) | (refine Ext.tr ?_ (by assumption))))
  · simp (disch := first | omega | (simp only [World.size_alloc, size_setRow, dw_size]; done) | (simp only [World.size_alloc, size_setRow, dw_size]; omega) | (simp only [List.length_set, Array.length_toList]; omega)) [-Option.bind_some, hp_alloc_lt, hp_alloc_eq, hp_set_ne, h, hE.blk]
    rw [w64 (by omega) (by omega)]
    by_cases h' : m - v.text.size < 0
    · simp (disch := first | omega | (simp only [World.size_alloc, size_setRow, dw_size]; done) | (simp only [World.size_alloc, size_setRow, dw_size]; omega) | (simp only [List.length_set, Array.length_toList]; omega)) [-Option.bind_some, hp_alloc_lt, hp_alloc_eq, hp_set_ne, h']
      (repeat (first | exact Ext.rfl | assumption | (refine Ext.al ?_ _) | (refine Ext.dw ?_) | (refine Ext.set ?_ (by first | omega | (simp only [World.size_alloc, size_setRow, dw_size]; omega)) _) | (refine Ext.tr ?_ (by assumption))))
    · simp (disch := first | omega | (simp only [World.size_alloc, size_setRow, dw_size]; done) | (simp only [World.size_alloc, size_setRow, dw_size]; omega) | (simp only [List.length_set, Array.length_toList]; omega)) [-Option.bind_some, hp_alloc_lt, hp_alloc_eq, hp_set_ne, h']
      exact ⟨by omega, by omega, fun _ => by have := h4 (by omega); omega, by (repeat (first | exact Ext.rfl | assumption | (refine Ext.al ?_ _) | (refine Ext.dw ?_) | (refine Ext.set ?_ (by first | omega | (simp only [World.size_alloc, size_setRow, dw_size]; omega)) _) | (refine Ext.tr ?_ (by assumption))))⟩
theorem laws_szVerS_l {s : Value} {vs : List Ver} : ∀ (d k : Nat) (e : Env) (w : World) (n : Int), k + d = vs.length → e 0 = s → e 1 = i64 n → -1 ≤ n → n ≤ 1048576 → e 5 = i64 k →
    rVers w s vs → Ret (laws_szVerS_l1 e w) fun r => ∃ m, r.1 = i64 m ∧ -1 ≤ m ∧ m ≤ 1048576 ∧ (0 ≤ m → m + pastSum (vs.drop k) ≤ n) ∧ Ext w r.2 := by
  intro d
  induction d with
  | zero =>
    intro k e w n hd h0 h1 hn0 hn1 h5 ha
    obtain ⟨aa, ca, hs, hm⟩ := ha.len
    rw [laws_szVerS_l1_eq]
    subst hs
    simp (disch := first | omega | (simp only [World.size_alloc, size_setRow, dw_size]; done) | (simp only [World.size_alloc, size_setRow, dw_size]; omega) | (simp only [List.length_set, Array.length_toList]; omega)) [-Option.bind_some, hp_alloc_lt, hp_alloc_eq, hp_set_ne, h0, h1, h5, show ¬ k < vs.length by omega, show vs.length ≤ k by omega]
    rw [List.drop_eq_nil_of_le (by omega)]
    exact ⟨hn0, hn1, fun _ => by simp [pastSum], by (repeat (first | exact Ext.rfl | assumption | (refine Ext.al ?_ _) | (refine Ext.dw ?_) | (refine Ext.set ?_ (by first | omega | (simp only [World.size_alloc, size_setRow, dw_size]; omega)) _) | (refine Ext.tr ?_ (by assumption))))⟩
  | succ d ih =>
    intro k e w n hd h0 h1 hn0 hn1 h5 ha
    obtain ⟨aa, ca, hs, hm⟩ := ha.len
    rw [laws_szVerS_l1_eq]
    have hlt : k < vs.length := by omega
    obtain ⟨v, hv, hdx⟩ := drop_at hlt
    obtain ⟨b1, o1, c1, cs, hs1, hA, hcs⟩ := ha.at hv
    have hla := At.ld (P := P) (t := 125) (by kernel_rfl) (by rw [hcs.length]; kernel_rfl) hA
    subst hs1
    rw [hdx]
    simp (disch := first | omega | (simp only [World.size_alloc, size_setRow, dw_size]; done) | (simp only [World.size_alloc, size_setRow, dw_size]; omega) | (simp only [List.length_set, Array.length_toList]; omega)) [-Option.bind_some, hp_alloc_lt, hp_alloc_eq, hp_set_ne, h0, h1, h5, hlt, ia_38, hla, -ld_125]
    refine Ret.bind (laws_szVer_c n hn0 hn1 hcs) ?_
    rintro ⟨_, w1⟩ ⟨m, rfl, h2, h3, hw, hE⟩
    by_cases h : m < 0
    · simp (disch := first | omega | (simp only [World.size_alloc, size_setRow, dw_size]; done) | (simp only [World.size_alloc, size_setRow, dw_size]; omega) | (simp only [List.length_set, Array.length_toList]; omega)) [-Option.bind_some, hp_alloc_lt, hp_alloc_eq, hp_set_ne, h]
      exact by (repeat (first | exact Ext.rfl | assumption | (refine Ext.al ?_ _) | (refine Ext.dw ?_) | (refine Ext.set ?_ (by first | omega | (simp only [World.size_alloc, size_setRow, dw_size]; omega)) _) | (refine Ext.tr ?_ (by assumption))))
    · simp (disch := first | omega | (simp only [World.size_alloc, size_setRow, dw_size]; done) | (simp only [World.size_alloc, size_setRow, dw_size]; omega) | (simp only [List.length_set, Array.length_toList]; omega)) [-Option.bind_some, hp_alloc_lt, hp_alloc_eq, hp_set_ne, h]
      refine Ret.mono (ih (k + 1) _ w1 m (by omega) h0 rfl h2 h3 (congrArg i64 (w64 (by omega) (by omega))) (ha.mono (Ext.keep (by (repeat (first | exact Ext.rfl | assumption | (refine Ext.al ?_ _) | (refine Ext.dw ?_) | (refine Ext.set ?_ (by first | omega | (simp only [World.size_alloc, size_setRow, dw_size]; omega)) _) | (refine Ext.tr ?_ (by assumption)))))))) ?_
      rintro r ⟨m', h3, h4, h5, h7, h6⟩
      exact ⟨m', h3, h4, h5, fun hm' => by have := h7 hm'; have := hw (by omega); simp only [pastSum]; omega, by (repeat (first | exact Ext.rfl | assumption | (refine Ext.al ?_ _) | (refine Ext.dw ?_) | (refine Ext.set ?_ (by first | omega | (simp only [World.size_alloc, size_setRow, dw_size]; omega)) _) | (refine Ext.tr ?_ (by assumption))))⟩
theorem laws_szVerS_c (n : Int) (h0 : -1 ≤ n) (h1 : n ≤ 1048576) {s : Value} {vs : List Ver} {w : World} (ha : rVers w s vs) : Ret (EV P 38 #[s, i64 n] w) fun r => ∃ m, r.1 = i64 m ∧ -1 ≤ m ∧ m ≤ 1048576 ∧ (0 ≤ m → m + (vs.length + pastSum vs) ≤ n) ∧ Ext w r.2 := by
  have ha' := ha
  obtain ⟨aa, ca, hs, hm⟩ := ha.len
  subst hs
  refine Ret.enter plain mixed (laws_szVerS_fn _ _ _) (by kernel_rfl) (n := 2) (by kernel_rfl) rfl ?_
  simp (disch := first | omega | (simp only [World.size_alloc, size_setRow, dw_size]; done) | (simp only [World.size_alloc, size_setRow, dw_size]; omega) | (simp only [List.length_set, Array.length_toList]; omega)) [-Option.bind_some, hp_alloc_lt, hp_alloc_eq, hp_set_ne]
  rw [w64 (by omega) (by omega)]
  by_cases h : n - vs.length < 0
  · simp (disch := first | omega | (simp only [World.size_alloc, size_setRow, dw_size]; done) | (simp only [World.size_alloc, size_setRow, dw_size]; omega) | (simp only [List.length_set, Array.length_toList]; omega)) [-Option.bind_some, hp_alloc_lt, hp_alloc_eq, hp_set_ne, h]
    exact by (repeat (first | exact Ext.rfl | assumption | (refine Ext.al ?_ _) | (refine Ext.dw ?_) | (refine Ext.set ?_ (by first | omega | (simp only [World.size_alloc, size_setRow, dw_size]; omega)) _) | (refine Ext.tr ?_ (by assumption))))
  · simp (disch := first | omega | (simp only [World.size_alloc, size_setRow, dw_size]; done) | (simp only [World.size_alloc, size_setRow, dw_size]; omega) | (simp only [List.length_set, Array.length_toList]; omega)) [-Option.bind_some, hp_alloc_lt, hp_alloc_eq, hp_set_ne, h]
    refine Ret.mono (laws_szVerS_l vs.length 0 _ w (n - vs.length) (by omega) rfl rfl (by omega) (by omega) rfl ha') ?_
    rintro r ⟨m, h1, h2, h3, h4, h5⟩
    exact ⟨m, h1, h2, h3, fun hm' => by have := h4 hm'; simp only [List.drop_zero] at this; omega, h5⟩
theorem laws_szStore_c (n : Int) (h0 : -1 ≤ n) (h1 : n ≤ 1048576) {s : Value} {vs : List Ver} {w : World} (ha : rVers w s vs) : Ret (EV P 134 #[.agg #[s], i64 n] w) fun r => ∃ m, r.1 = i64 m ∧ -1 ≤ m ∧ m ≤ 1048576 ∧ (0 ≤ m → m + (vs.length + pastSum vs) ≤ n) ∧ Ext w r.2 := by
  obtain ⟨aa, ca, hs, hm⟩ := ha.len
  subst hs
  refine Ret.enter plain mixed (laws_szStore_fn _ _ _) (by kernel_rfl) (n := 2) (by kernel_rfl) rfl ?_
  simp (disch := first | omega | (simp only [World.size_alloc, size_setRow, dw_size]; done) | (simp only [World.size_alloc, size_setRow, dw_size]; omega) | (simp only [List.length_set, Array.length_toList]; omega)) [-Option.bind_some, hp_alloc_lt, hp_alloc_eq, hp_set_ne]
  refine Ret.bind (laws_szVerS_c n h0 h1 (ha.mono (Ext.keep (by (repeat (first | exact Ext.rfl | assumption | (refine Ext.al ?_ _) | (refine Ext.dw ?_) | (refine Ext.set ?_ (by first | omega | (simp only [World.size_alloc, size_setRow, dw_size]; omega)) _) | (refine Ext.tr ?_ (by assumption)))))))) ?_
  rintro ⟨_, w1⟩ ⟨m, rfl, h2, h3, h4, hE⟩
  by_cases h : m < 0
  · simp (disch := first | omega | (simp only [World.size_alloc, size_setRow, dw_size]; done) | (simp only [World.size_alloc, size_setRow, dw_size]; omega) | (simp only [List.length_set, Array.length_toList]; omega)) [-Option.bind_some, hp_alloc_lt, hp_alloc_eq, hp_set_ne, h]
    (repeat (first | exact Ext.rfl | assumption | (refine Ext.al ?_ _) | (refine Ext.dw ?_) | (refine Ext.set ?_ (by first | omega | (simp only [World.size_alloc, size_setRow, dw_size]; omega)) _) | (refine Ext.tr ?_ (by assumption))))
  · simp (disch := first | omega | (simp only [World.size_alloc, size_setRow, dw_size]; done) | (simp only [World.size_alloc, size_setRow, dw_size]; omega) | (simp only [List.length_set, Array.length_toList]; omega)) [-Option.bind_some, hp_alloc_lt, hp_alloc_eq, hp_set_ne, h]
    exact ⟨h2, h3, fun _ => h4 (by omega), by (repeat (first | exact Ext.rfl | assumption | (refine Ext.al ?_ _) | (refine Ext.dw ?_) | (refine Ext.set ?_ (by first | omega | (simp only [World.size_alloc, size_setRow, dw_size]; omega)) _) | (refine Ext.tr ?_ (by assumption))))⟩
end Go.Proofs.YtggmfmanpjcjkaaGreat.X
set_option linter.unusedVariables false
set_option linter.unusedSimpArgs false
set_option maxRecDepth 100000
namespace Go.Proofs.YtggmfmanpjcjkaaGreat.X
open Go Go.Ev Go.RowKit
theorem laws_toVer_c {cs : List Value} {v : Ver} {w : World} (ha : rVer w cs v) : Ret (EV P 85 #[.agg cs.toArray] w) fun r => ∃ ds, r.1 = .agg ds.toArray ∧ fVer 64 w.heap.size r.2 ds v ∧ Ext w r.2 := by
  obtain ⟨s, rfl, ha, ht⟩ := ha
  obtain ⟨aa, ca, hs, hm⟩ := ha.len
  subst hs
  refine Ret.enter plain mixed (laws_toVer_fn _ _) (by kernel_rfl) (n := 1) (by kernel_rfl) rfl ?_
  simp (disch := first | omega | (simp only [World.size_alloc, size_setRow, dw_size]; done) | (simp only [World.size_alloc, size_setRow, dw_size]; omega) | (simp only [List.length_set, Array.length_toList]; omega)) [-Option.bind_some, hp_alloc_lt, hp_alloc_eq, hp_set_ne]
  refine Ret.bind (laws_toTag_c v.tag _) ?_
  rintro ⟨_, w1⟩ ⟨rfl, hE⟩
  have hs := hE.size
  simp only [World.size_alloc, size_setRow] at hs
  have e2 : hp w1 (w.heap.size + 1 + 1) = _ := hE.blk (by simp only [World.size_alloc, size_setRow]; omega)
  simp (disch := first | omega | (simp only [World.size_alloc, size_setRow, dw_size]; done) | (simp only [World.size_alloc, size_setRow, dw_size]; omega) | (simp only [List.length_set, Array.length_toList]; omega)) [-Option.bind_some, hp_alloc_lt, hp_alloc_eq, hp_set_ne, hE.blk]
  refine Ret.bind (laws_toPast_c (ha.mono (Ext.keep (by (repeat (first | exact Ext.rfl | assumption | (refine Ext.al ?_ _) | (refine Ext.dw ?_) | (refine Ext.set ?_ (by first | omega | (simp only [World.size_alloc, size_setRow, dw_size]; omega)) _) | (refine Ext.tr ?_ (by assumption)))))))) ?_
  rintro ⟨_, w2⟩ ⟨s', rfl, hf, hE2⟩
  obtain ⟨ab, cb, hs', hm'⟩ := hf.r.len
  subst hs'
  have hs2 := hE2.size
  simp only [World.size_alloc, size_setRow] at hs2 hf
  simp (disch := first | omega | (simp only [World.size_alloc, size_setRow, dw_size]; done) | (simp only [World.size_alloc, size_setRow, dw_size]; omega) | (simp only [List.length_set, Array.length_toList]; omega)) [-Option.bind_some, hp_alloc_lt, hp_alloc_eq, hp_set_ne, hE2.blk, hE.blk]
  refine ⟨⟨_, rfl, ⟨(hf.1.keep fun g hg => ?_).from (by omega), hf.2⟩, ht⟩, by (repeat (first | exact Ext.rfl | assumption | (refine Ext.al ?_ _) | (refine Ext.dw ?_) | (refine Ext.set ?_ (by first | omega | (simp only [World.size_alloc, size_setRow, dw_size]; omega)) _) | (refine Ext.tr ?_ (by assumption))))⟩
  have := hf.1.lt hg
  repeat rw [hp_set_ne (by omega)]
theorem flat_len {css : List (List Value)} {m : Nat} (h : ∀ c ∈ css, c.length = m) : css.flatten.length = css.length * m := by
  induction css with
  | nil => simp
  | cons c css ih =>
    simp only [List.flatten_cons, List.length_append, List.length_cons, ih (fun c hc => h c (List.mem_cons_of_mem _ hc)), h c List.mem_cons_self, Nat.succ_mul]
    omega
theorem laws_toVerS_l {s : Value} {vs : List Ver} {g : Nat} {w0 : World} : ∀ (d k : Nat) (e : Env) (w : World) (cur : Array Value) (css : List (List Value)), k + d = vs.length → e 0 = s → e 3 = .slice (some ⟨g, 0, none⟩) vs.length vs.length → e 4 = i64 k →
    rVers w0 s vs → Ext w0 w → w0.heap.size ≤ g → hp w g = some (.cells cur 69 (0, 0)) → cur.size = vs.length * 6 → cur.toList.take (k * 6) = css.flatten →
    All2 (fVer 64 (g + 1) w) css (vs.take k) → (css.flatMap pastB).Nodup →
    Ret (laws_toVerS_l1 e w) fun r => r.1 = .slice (some ⟨g, 0, none⟩) vs.length vs.length ∧ (∃ (c : Array Value) (css : List (List Value)), hp r.2 g = some (.cells c 69 (0, 0)) ∧ c.toList = css.flatten ∧
      All2 (fVer 64 (g + 1) r.2) css vs ∧ (css.flatMap pastB).Nodup) ∧ Ext w0 r.2 := by
  intro d
  induction d with
  | zero =>
    intro k e w cur css hd h0 h3 h4 ha hE hB hg hc ht hl hn
    obtain ⟨aa, ca, hs, hm⟩ := ha.len
    rw [laws_toVerS_l1_eq]
    subst hs
    simp (disch := first | omega | (simp only [World.size_alloc, size_setRow, dw_size]; done) | (simp only [World.size_alloc, size_setRow, dw_size]; omega) | (simp only [List.length_set, Array.length_toList]; omega)) [-Option.bind_some, hp_alloc_lt, hp_alloc_eq, hp_set_ne, h0, h3, h4, show ¬ k < vs.length by omega, show vs.length ≤ k by omega]
    rw [List.take_of_length_le (by simp; omega)] at ht
    rw [List.take_of_length_le (by omega)] at hl
    exact ⟨⟨cur, hg, css, ht, hl, hn⟩, by (repeat (first | exact Ext.rfl | assumption | (refine Ext.al ?_ _) | (refine Ext.dw ?_) | (refine Ext.set ?_ (by first | omega | (simp only [World.size_alloc, size_setRow, dw_size]; omega)) _) | (refine Ext.tr ?_ (by assumption))))⟩
  | succ d ih =>
    intro k e w cur css hd h0 h3 h4 ha hE hB hg hc ht hl hn
    rw [laws_toVerS_l1_eq]
    have hlt : k < vs.length := by omega
    obtain ⟨x, hx, hdx⟩ := drop_at hlt
    obtain ⟨_, _, _, hm⟩ := ha.len
    obtain ⟨b1, o1, c1, cs, hs1, hA0, hcs0⟩ := ha.at hx
    have hcs := hcs0.mono (Ext.keep hE)
    have hla := At.ld (P := P) (t := 125) (by kernel_rfl) (by rw [hcs.length]; kernel_rfl) (hA0.mono (Ext.keep hE))
    have hgl := hp_lt hg
    subst hs1
    simp (disch := first | omega | (simp only [World.size_alloc, size_setRow, dw_size]; done) | (simp only [World.size_alloc, size_setRow, dw_size]; omega) | (simp only [List.length_set, Array.length_toList]; omega)) [-Option.bind_some, hp_alloc_lt, hp_alloc_eq, hp_set_ne, h0, h3, h4, hlt, ia_38, hla, -ld_125]
    refine Ret.bind (laws_toVer_c hcs) ?_
    rintro ⟨_, w1⟩ ⟨ds, rfl, hds, hE1⟩
    have hg1 := (hE1.blk hgl).trans hg
    have hs1 := hE1.size
    have hkk : k * 6 + 6 ≤ cur.size := by omega
    have hdl : ds.length = 6 := hds.length
    have hone : ds.all Value.oneCell' = true := by
      obtain ⟨s', rfl, hf, _⟩ := hds
      obtain ⟨ab, cb, hs', _⟩ := hf.r.len
      subst hs'
      rfl
    have hpt := row_put (cur := cur) (vs := ds) (m := 6) hc hlt hdl
    simp (disch := first | omega | (simp only [World.size_alloc, size_setRow, dw_size]; done) | (simp only [World.size_alloc, size_setRow, dw_size]; omega) | (simp only [List.length_set, Array.length_toList]; omega)) [-Option.bind_some, hp_alloc_lt, hp_alloc_eq, hp_set_ne, ia_47, hlt, hg1, hkk, hdl, hone]
    have keep1 : ∀ b, b < w.heap.size → b ≠ g → hp (w1.setRow g (List.take (k * 6) cur.toList ++ (ds ++ List.drop (k * 6 + 6) cur.toList)).toArray) b = hp w b := fun b hb hne => (hp_set_ne hne).trans (hE1.blk hb)
    refine Ret.mono (ih (k + 1) _ _ _ (css ++ [ds]) (by omega) h0 h3 (congrArg i64 (w64 (by omega) (by omega))) ha (by (repeat (first | exact Ext.rfl | assumption | (refine Ext.al ?_ _) | (refine Ext.dw ?_) | (refine Ext.set ?_ (by first | omega | (simp only [World.size_alloc, size_setRow, dw_size]; omega)) _) | (refine Ext.tr ?_ (by assumption))))) hB (by rw [hp_set_eq, hg1]; rfl) (by simpa [hdl] using hpt.1)
      (by rw [List.flatten_append, ← ht]; simpa [hdl] using hpt.2) ?_ ?_) fun _ ⟨h1, ⟨c, css, h2, h3, h4, h5⟩, h6⟩ => ⟨h1, ⟨c, h2, css, h3, h4, h5⟩, h6⟩
    · rw [take_at hx]
      refine All2.app (hl.imp fun a b h => h.keep fun b hb => keep1 b (h.lt b hb).2 (by have := (h.lt b hb).1; omega)) ?_
      obtain ⟨s', rfl, hf, hts⟩ := hds
      refine ⟨s', rfl, ⟨(hf.1.keep fun b hb => hp_set_ne ?_).from (by omega), hf.2⟩, hts⟩
      have := (hf.1.lt hb).1
      omega
    · rw [List.flatMap_append, List.nodup_append]
      refine ⟨hn, ?_, ?_⟩
      · obtain ⟨s', rfl, hf, hts⟩ := hds
        simp only [List.flatMap_cons, List.flatMap_nil, List.append_nil, pastB]
        cases blkOf s' <;> simp
      · intro a ha b hb
        obtain ⟨c, hc, hac⟩ := List.mem_flatMap.1 ha
        obtain ⟨v, _, hv⟩ := hl.mem hc
        have h1 := (hv.lt a hac).2
        simp only [List.flatMap_cons, List.flatMap_nil, List.append_nil] at hb
        have h2 := (hds.lt b hb).1
        omega
theorem laws_toVerS_c {s : Value} {vs : List Ver} {w : World} (ha : rVers w s vs) : Ret (EV P 42 #[s] w) fun r => fVers 64 69 w.heap.size r.2 r.1 vs ∧ Ext w r.2 := by
  have ha' := ha
  obtain ⟨aa, ca, hs, hm⟩ := ha.len
  subst hs
  refine Ret.enter plain mixed (laws_toVerS_fn _ _) (by kernel_rfl) (n := 1) (by kernel_rfl) rfl ?_
  have hmk := ms_eq (P := P) el_47 (z := [i64 0, i64 0, i64 0, .slice none 0 0, .string ⟨#[]⟩, .bool false]) (by kernel_rfl) rfl (by omega) (l := vs.length) (c := vs.length) (by omega) (by omega) (by omega) (by omega) w
  simp only [Int.toNat_natCast] at hmk
  simp (disch := first | omega | (simp only [World.size_alloc, size_setRow, dw_size]; done) | (simp only [World.size_alloc, size_setRow, dw_size]; omega) | (simp only [List.length_set, Array.length_toList]; omega)) [-Option.bind_some, hp_alloc_lt, hp_alloc_eq, hp_set_ne, hmk]
  refine Ret.mono (laws_toVerS_l (s := .slice aa vs.length ca) (vs := vs) (g := w.heap.size) (w0 := w) vs.length 0 _ _ _ [] (by omega) rfl rfl rfl ha' (by (repeat (first | exact Ext.rfl | assumption | (refine Ext.al ?_ _) | (refine Ext.dw ?_) | (refine Ext.set ?_ (by first | omega | (simp only [World.size_alloc, size_setRow, dw_size]; omega)) _) | (refine Ext.tr ?_ (by assumption))))) (by omega) (hp_alloc_eq rfl) (by simp [zrep_len]) (by simp) trivial (by simp)) ?_
  rintro ⟨_, w1⟩ ⟨rfl, ⟨c, css, hc, hl, hA, hn⟩, hE⟩
  have hcl : css.length = vs.length := hA.length
  have hfl : css.flatten.length = vs.length * 6 := by rw [← hcl]; exact flat_len fun c hc => by obtain ⟨v, _, hv⟩ := hA.mem hc; exact hv.length
  have hsz : c.size = vs.length * 6 := by rw [← hfl, ← hl]; simp
  refine ⟨⟨css, ⟨hfl, by omega, .inr ⟨w.heap.size, vs.length, c, rfl, by omega, hc, by omega, by omega, by omega, by rw [hl, ← hfl, List.take_length]⟩⟩, ?_, hm, ?_⟩, hE⟩
  · exact hA.imp fun a b ⟨s', h1, h2, h3⟩ => ⟨s', h1, ⟨h2.1.from (by omega), h2.2⟩, h3⟩
  · simp only [versB, blkOf, Option.toList, List.cons_append, List.nil_append, List.nodup_cons]
    refine ⟨fun h => ?_, hn⟩
    obtain ⟨c, hc, hac⟩ := List.mem_flatMap.1 h
    obtain ⟨v, _, hv⟩ := hA.mem hc
    have := (hv.lt _ hac).1
    omega
theorem laws_toStore_c {s : Value} {vs : List Ver} {w : World} (ha : rVers w s vs) : Ret (EV P 144 #[.agg #[s]] w) fun r => ∃ s', r.1 = .agg #[s'] ∧ fVers 64 69 w.heap.size r.2 s' vs ∧ Ext w r.2 := by
  obtain ⟨aa, ca, hs, hm⟩ := ha.len
  subst hs
  refine Ret.enter plain mixed (laws_toStore_fn _ _) (by kernel_rfl) (n := 1) (by kernel_rfl) rfl ?_
  simp (disch := first | omega | (simp only [World.size_alloc, size_setRow, dw_size]; done) | (simp only [World.size_alloc, size_setRow, dw_size]; omega) | (simp only [List.length_set, Array.length_toList]; omega)) [-Option.bind_some, hp_alloc_lt, hp_alloc_eq, hp_set_ne]
  refine Ret.bind (laws_toVerS_c (ha.mono (Ext.keep (by (repeat (first | exact Ext.rfl | assumption | (refine Ext.al ?_ _) | (refine Ext.dw ?_) | (refine Ext.set ?_ (by first | omega | (simp only [World.size_alloc, size_setRow, dw_size]; omega)) _) | (refine Ext.tr ?_ (by assumption)))))))) ?_
  rintro ⟨s', w1⟩ ⟨hf, hE⟩
  obtain ⟨ab, cb, hs', hm'⟩ := hf.r.len
  subst hs'
  have hs := hE.size
  simp only [World.size_alloc] at hs hf
  simp (disch := first | omega | (simp only [World.size_alloc, size_setRow, dw_size]; done) | (simp only [World.size_alloc, size_setRow, dw_size]; omega) | (simp only [List.length_set, Array.length_toList]; omega)) [-Option.bind_some, hp_alloc_lt, hp_alloc_eq, hp_set_ne, hE.blk]
  refine ⟨?_, by (repeat (first | exact Ext.rfl | assumption | (refine Ext.al ?_ _) | (refine Ext.dw ?_) | (refine Ext.set ?_ (by first | omega | (simp only [World.size_alloc, size_setRow, dw_size]; omega)) _) | (refine Ext.tr ?_ (by assumption))))⟩
  refine (hf.keep fun g hg _ => ?_).from (by omega)
  rw [hp_set_ne (by omega), hp_set_ne (by omega)]
end Go.Proofs.YtggmfmanpjcjkaaGreat.X
set_option linter.unusedVariables false
set_option linter.unusedSimpArgs false
set_option maxRecDepth 100000
namespace Go.Proofs.YtggmfmanpjcjkaaGreat.X
open Go Go.Ev Go.RowKit
theorem cmp_isNaN_int_c (a : Int) (w : World) : Ret (EV P 157 #[i64 a] w) fun r => r = (.bool false, w) := by
  refine Ret.enter plain mixed (cmp_isNaN_int_fn _ _) (by kernel_rfl) (n := 1) (by kernel_rfl) rfl ?_
  simp (disch := first | omega | (simp only [World.size_alloc, size_setRow, dw_size]; done) | (simp only [World.size_alloc, size_setRow, dw_size]; omega) | (simp only [List.length_set, Array.length_toList]; omega)) [-Option.bind_some, hp_alloc_lt, hp_alloc_eq, hp_set_ne]
theorem cmp_Compare_int_c (a b : Int) (w : World) : Ret (EV P 149 #[i64 a, i64 b] w) fun r => r = (i64 (if a < b then -1 else if b < a then 1 else 0), w) := by
  refine Ret.enter plain mixed (cmp_Compare_int_fn _ _ _) (by kernel_rfl) (n := 2) (by kernel_rfl) rfl ?_
  simp (disch := first | omega | (simp only [World.size_alloc, size_setRow, dw_size]; done) | (simp only [World.size_alloc, size_setRow, dw_size]; omega) | (simp only [List.length_set, Array.length_toList]; omega)) [-Option.bind_some, hp_alloc_lt, hp_alloc_eq, hp_set_ne]
  refine Ret.bind (cmp_isNaN_int_c _ _) ?_
  rintro _ rfl
  simp (disch := first | omega | (simp only [World.size_alloc, size_setRow, dw_size]; done) | (simp only [World.size_alloc, size_setRow, dw_size]; omega) | (simp only [List.length_set, Array.length_toList]; omega)) [-Option.bind_some, hp_alloc_lt, hp_alloc_eq, hp_set_ne]
  refine Ret.bind (cmp_isNaN_int_c _ _) ?_
  rintro _ rfl
  simp (disch := first | omega | (simp only [World.size_alloc, size_setRow, dw_size]; done) | (simp only [World.size_alloc, size_setRow, dw_size]; omega) | (simp only [List.length_set, Array.length_toList]; omega)) [-Option.bind_some, hp_alloc_lt, hp_alloc_eq, hp_set_ne]
  by_cases h : a < b
  · simp (disch := first | omega | (simp only [World.size_alloc, size_setRow, dw_size]; done) | (simp only [World.size_alloc, size_setRow, dw_size]; omega) | (simp only [List.length_set, Array.length_toList]; omega)) [-Option.bind_some, hp_alloc_lt, hp_alloc_eq, hp_set_ne, h]
  · by_cases h2 : b < a <;> simp (disch := first | omega | (simp only [World.size_alloc, size_setRow, dw_size]; done) | (simp only [World.size_alloc, size_setRow, dw_size]; omega) | (simp only [List.length_set, Array.length_toList]; omega)) [-Option.bind_some, hp_alloc_lt, hp_alloc_eq, hp_set_ne, h, h2]
theorem cmp_Or_int_c {b : Nat} {x y : Int} {w : World} {e z} (h : hp w b = some (.cells #[i64 x, i64 y] e z)) : Ret (EV P 148 #[.slice (some ⟨b, 0, none⟩) 2 2] w) fun r => r = (i64 (if x = 0 then y else x), w) := by
  have i0 := ia_57 (b := b) (o := 0) (n := 2) (c := 2) (i := 0) (by omega) (by omega)
  have i1 := ia_57 (b := b) (o := 0) (n := 2) (c := 2) (i := 1) (by omega) (by omega)
  have l2 : ∀ e : Env, e 3 = i64 0 → e 7 = i64 2 → e 8 = i64 2 → Ret (cmp_Or_int_l1 e w) fun r => r = (i64 0, w) := by
    intro e h3 h7 h8
    rw [cmp_Or_int_l1_eq]
    simp (disch := first | omega | (simp only [World.size_alloc, size_setRow, dw_size]; done) | (simp only [World.size_alloc, size_setRow, dw_size]; omega) | (simp only [List.length_set, Array.length_toList]; omega)) [-Option.bind_some, hp_alloc_lt, hp_alloc_eq, hp_set_ne, h3, h7, h8]
  have l1 : ∀ e : Env, e 3 = i64 0 → e 6 = .slice (some ⟨b, 0, none⟩) 2 2 → e 7 = i64 2 → e 8 = i64 1 → Ret (cmp_Or_int_l1 e w) fun r => r = (i64 y, w) := by
    intro e h3 h6 h7 h8
    rw [cmp_Or_int_l1_eq]
    cases hy : (y != 0)
    · simp (disch := first | omega | (simp only [World.size_alloc, size_setRow, dw_size]; done) | (simp only [World.size_alloc, size_setRow, dw_size]; omega) | (simp only [List.length_set, Array.length_toList]; omega)) [-Option.bind_some, hp_alloc_lt, hp_alloc_eq, hp_set_ne, h3, h6, h7, h8, h, i1, hy]
      simp only [bne_eq_false_iff_eq] at hy
      subst hy
      exact l2 _ h3 h7 (congrArg i64 (w64 (by omega) (by omega)))
    · simp (disch := first | omega | (simp only [World.size_alloc, size_setRow, dw_size]; done) | (simp only [World.size_alloc, size_setRow, dw_size]; omega) | (simp only [List.length_set, Array.length_toList]; omega)) [-Option.bind_some, hp_alloc_lt, hp_alloc_eq, hp_set_ne, h3, h6, h7, h8, h, i1, hy]
  refine Ret.enter plain mixed (cmp_Or_int_fn _ _) (by kernel_rfl) (n := 1) (by kernel_rfl) rfl ?_
  simp (disch := first | omega | (simp only [World.size_alloc, size_setRow, dw_size]; done) | (simp only [World.size_alloc, size_setRow, dw_size]; omega) | (simp only [List.length_set, Array.length_toList]; omega)) [-Option.bind_some, hp_alloc_lt, hp_alloc_eq, hp_set_ne]
  rw [cmp_Or_int_l1_eq]
  have e3 : (ups (env0 #[Value.slice (some ⟨b, 0, none⟩) 2 2]) [(2, i64 0), (3, i64 0), (6, Value.slice (some ⟨b, 0, none⟩) 2 2), (7, i64 2), (8, i64 0)]) 3 = i64 0 := rfl
  have e6 : (ups (env0 #[Value.slice (some ⟨b, 0, none⟩) 2 2]) [(2, i64 0), (3, i64 0), (6, Value.slice (some ⟨b, 0, none⟩) 2 2), (7, i64 2), (8, i64 0)]) 6 = Value.slice (some ⟨b, 0, none⟩) 2 2 := rfl
  have e7 : (ups (env0 #[Value.slice (some ⟨b, 0, none⟩) 2 2]) [(2, i64 0), (3, i64 0), (6, Value.slice (some ⟨b, 0, none⟩) 2 2), (7, i64 2), (8, i64 0)]) 7 = i64 2 := rfl
  have e8 : (ups (env0 #[Value.slice (some ⟨b, 0, none⟩) 2 2]) [(2, i64 0), (3, i64 0), (6, Value.slice (some ⟨b, 0, none⟩) 2 2), (7, i64 2), (8, i64 0)]) 8 = i64 0 := rfl
  show Ret (_ : Option (Value × World)) _
  simp only [show ((2 : Nat) : Int) = 2 from rfl, e3, e6, e7, e8]
  generalize (ups (env0 #[Value.slice (some ⟨b, 0, none⟩) 2 2]) [(2, i64 0), (3, i64 0), (6, Value.slice (some ⟨b, 0, none⟩) 2 2), (7, i64 2), (8, i64 0)]) = e at *
  cases hx : (x != 0)
  · simp (disch := first | omega | (simp only [World.size_alloc, size_setRow, dw_size]; done) | (simp only [World.size_alloc, size_setRow, dw_size]; omega) | (simp only [List.length_set, Array.length_toList]; omega)) [-Option.bind_some, hp_alloc_lt, hp_alloc_eq, hp_set_ne, h, i0, hx]
    refine Ret.mono (l1 _ e3 e6 e7 (congrArg i64 (w64 (by omega) (by omega)))) ?_
    rintro _ rfl
    simp only [bne_eq_false_iff_eq] at hx
    simp [hx]
  · simp (disch := first | omega | (simp only [World.size_alloc, size_setRow, dw_size]; done) | (simp only [World.size_alloc, size_setRow, dw_size]; omega) | (simp only [List.length_set, Array.length_toList]; omega)) [-Option.bind_some, hp_alloc_lt, hp_alloc_eq, hp_set_ne, h, i0, hx]
    simp only [bne_iff_ne, ne_eq] at hx
    simp [hx]
theorem impl_Tag_compare_c (x y : Tag) (w : World) : Ret (EV P 124 #[x.v, y.v] w) fun r => r.1 = i64 (if x.t < y.t then -1 else if y.t < x.t then 1 else if x.p < y.p then -1 else if y.p < x.p then 1 else 0) ∧ Ext w r.2 := by
  refine Ret.enter plain mixed (impl_Tag_compare_fn _ _ _) (by kernel_rfl) (n := 2) (by kernel_rfl) rfl ?_
  simp (disch := first | omega | (simp only [World.size_alloc, size_setRow, dw_size]; done) | (simp only [World.size_alloc, size_setRow, dw_size]; omega) | (simp only [List.length_set, Array.length_toList]; omega)) [-Option.bind_some, hp_alloc_lt, hp_alloc_eq, hp_set_ne]
  refine Ret.bind (cmp_Compare_int_c _ _ _) ?_
  rintro _ rfl
  simp (disch := first | omega | (simp only [World.size_alloc, size_setRow, dw_size]; done) | (simp only [World.size_alloc, size_setRow, dw_size]; omega) | (simp only [List.length_set, Array.length_toList]; omega)) [-Option.bind_some, hp_alloc_lt, hp_alloc_eq, hp_set_ne]
  refine Ret.bind (cmp_Compare_int_c _ _ _) ?_
  rintro _ rfl
  simp (disch := first | omega | (simp only [World.size_alloc, size_setRow, dw_size]; done) | (simp only [World.size_alloc, size_setRow, dw_size]; omega) | (simp only [List.length_set, Array.length_toList]; omega)) [-Option.bind_some, hp_alloc_lt, hp_alloc_eq, hp_set_ne]
  refine Ret.bind (cmp_Or_int_c (hp_alloc_eq (by simp only [World.size_alloc, dw_size]))) ?_
  rintro _ rfl
  simp (disch := first | omega | (simp only [World.size_alloc, size_setRow, dw_size]; done) | (simp only [World.size_alloc, size_setRow, dw_size]; omega) | (simp only [List.length_set, Array.length_toList]; omega)) [-Option.bind_some, hp_alloc_lt, hp_alloc_eq, hp_set_ne]
  refine ⟨?_, by (repeat (first | exact Ext.rfl | assumption | (refine Ext.al ?_ _) | (refine Ext.dw ?_) | (refine Ext.set ?_ (by first | omega | (simp only [World.size_alloc, size_setRow, dw_size]; omega)) _) | (refine Ext.tr ?_ (by assumption))))⟩
  by_cases h1 : x.t < y.t
  · simp [h1]
  · by_cases h2 : y.t < x.t <;> simp [h1, h2]
theorem impl_TagLess_c (x y : Tag) (w : World) : Ret (EV P 94 #[x.v, y.v] w) fun r => r.1 = .bool (tagLess x y) ∧ Ext w r.2 := by
  refine Ret.enter plain mixed (impl_TagLess_fn _ _ _) (by kernel_rfl) (n := 2) (by kernel_rfl) rfl ?_
  simp (disch := first | omega | (simp only [World.size_alloc, size_setRow, dw_size]; done) | (simp only [World.size_alloc, size_setRow, dw_size]; omega) | (simp only [List.length_set, Array.length_toList]; omega)) [-Option.bind_some, hp_alloc_lt, hp_alloc_eq, hp_set_ne]
  refine Ret.bind (impl_Tag_compare_c x y _) ?_
  rintro ⟨_, w1⟩ ⟨rfl, hE⟩
  simp (disch := first | omega | (simp only [World.size_alloc, size_setRow, dw_size]; done) | (simp only [World.size_alloc, size_setRow, dw_size]; omega) | (simp only [List.length_set, Array.length_toList]; omega)) [-Option.bind_some, hp_alloc_lt, hp_alloc_eq, hp_set_ne]
  refine ⟨?_, by (repeat (first | exact Ext.rfl | assumption | (refine Ext.al ?_ _) | (refine Ext.dw ?_) | (refine Ext.set ?_ (by first | omega | (simp only [World.size_alloc, size_setRow, dw_size]; omega)) _) | (refine Ext.tr ?_ (by assumption))))⟩
  unfold tagLess
  by_cases h1 : x.t < y.t
  · simp [h1]
  · by_cases h2 : y.t < x.t
    · have : ¬ x.t = y.t := by omega
      simp [h1, h2, this]
    · have : x.t = y.t := by omega
      simp [this]
      by_cases h3 : x.p < y.p
      · simp [h3]
      · by_cases h4 : y.p < x.p <;> simp [h3, h4]
theorem spec_l1Less_c (x y : Tag) (w : World) : Ret (EV P 140 #[x.v, y.v] w) fun r => r.1 = .bool (tagLess x y) ∧ Ext w r.2 := by
  refine Ret.enter plain mixed (spec_l1Less_fn _ _ _) (by kernel_rfl) (n := 2) (by kernel_rfl) rfl ?_
  cases h1 : decide (x.t < y.t)
  · cases h2 : (x.t == y.t)
    · simp (disch := first | omega | (simp only [World.size_alloc, size_setRow, dw_size]; done) | (simp only [World.size_alloc, size_setRow, dw_size]; omega) | (simp only [List.length_set, Array.length_toList]; omega)) [-Option.bind_some, hp_alloc_lt, hp_alloc_eq, hp_set_ne, h1, h2, tagLess]
      (repeat (first | exact Ext.rfl | assumption | (refine Ext.al ?_ _) | (refine Ext.dw ?_) | (refine Ext.set ?_ (by first | omega | (simp only [World.size_alloc, size_setRow, dw_size]; omega)) _) | (refine Ext.tr ?_ (by assumption))))
    · simp (disch := first | omega | (simp only [World.size_alloc, size_setRow, dw_size]; done) | (simp only [World.size_alloc, size_setRow, dw_size]; omega) | (simp only [List.length_set, Array.length_toList]; omega)) [-Option.bind_some, hp_alloc_lt, hp_alloc_eq, hp_set_ne, h1, h2, tagLess]
      (repeat (first | exact Ext.rfl | assumption | (refine Ext.al ?_ _) | (refine Ext.dw ?_) | (refine Ext.set ?_ (by first | omega | (simp only [World.size_alloc, size_setRow, dw_size]; omega)) _) | (refine Ext.tr ?_ (by assumption))))
  · simp (disch := first | omega | (simp only [World.size_alloc, size_setRow, dw_size]; done) | (simp only [World.size_alloc, size_setRow, dw_size]; omega) | (simp only [List.length_set, Array.length_toList]; omega)) [-Option.bind_some, hp_alloc_lt, hp_alloc_eq, hp_set_ne, h1, tagLess]
    (repeat (first | exact Ext.rfl | assumption | (refine Ext.al ?_ _) | (refine Ext.dw ?_) | (refine Ext.set ?_ (by first | omega | (simp only [World.size_alloc, size_setRow, dw_size]; omega)) _) | (refine Ext.tr ?_ (by assumption))))
end Go.Proofs.YtggmfmanpjcjkaaGreat.X
set_option linter.unusedVariables false
set_option linter.unusedSimpArgs false
set_option maxRecDepth 100000
namespace Go.Proofs.YtggmfmanpjcjkaaGreat.X
open Go Go.Ev Go.RowKit
theorem spec_l2TextOk_l {s : ByteArray} (hs : s.size ≤ 140737488351232) : ∀ (d k : Nat) (e : Env) (w : World), k + d = s.size → e 0 = .string s → e 3 = i64 k →
    Ret (spec_l2TextOk_l1 e w) fun r => r = (.bool ((s.toList.drop k).all byteOk && decide ((s.size : Int) ≤ 8)), w) := by
  intro d
  induction d with
  | zero =>
    intro k e w hd h0 h3
    rw [spec_l2TextOk_l1_eq]
    simp (disch := first | omega | (simp only [World.size_alloc, size_setRow, dw_size]; done) | (simp only [World.size_alloc, size_setRow, dw_size]; omega) | (simp only [List.length_set, Array.length_toList]; omega)) [-Option.bind_some, hp_alloc_lt, hp_alloc_eq, hp_set_ne, h0, h3, show ¬ k < s.size by omega, show s.size ≤ k by omega]
    rw [List.drop_eq_nil_of_le (by rw [byte_list]; omega)]
    simp
  | succ d ih =>
    intro k e w hd h0 h3
    rw [spec_l2TextOk_l1_eq]
    have hlt : k < s.size := by omega
    obtain ⟨b, hb, hdx⟩ := drop_at (l := s.toList) (k := k) (by rw [byte_list]; omega)
    have hix := fun w => ix_str (P := P) (t := 9) (by kernel_rfl) s (i := k) (by omega) (b := b) (by simpa using hb) w
    rw [hdx]
    cases hb1 : decide ((b.toNat : Int) < 33)
    · cases hb2 : decide ((b.toNat : Int) > 126)
      · simp (disch := first | omega | (simp only [World.size_alloc, size_setRow, dw_size]; done) | (simp only [World.size_alloc, size_setRow, dw_size]; omega) | (simp only [List.length_set, Array.length_toList]; omega)) [-Option.bind_some, hp_alloc_lt, hp_alloc_eq, hp_set_ne, h0, h3, hlt, hix, hb1, hb2]
        refine Ret.mono (ih (k + 1) _ w (by omega) h0 (congrArg i64 (w64 (by omega) (by omega)))) ?_
        rintro _ rfl
        simp only [decide_eq_false_iff_not] at hb1 hb2
        have hby : byteOk b = true := by simp only [byteOk, Bool.and_eq_true, decide_eq_true_eq]; omega
        simp [hby]
      · simp (disch := first | omega | (simp only [World.size_alloc, size_setRow, dw_size]; done) | (simp only [World.size_alloc, size_setRow, dw_size]; omega) | (simp only [List.length_set, Array.length_toList]; omega)) [-Option.bind_some, hp_alloc_lt, hp_alloc_eq, hp_set_ne, h0, h3, hlt, hix, hb1, hb2]
        simp only [decide_eq_true_eq] at hb2
        have hby : byteOk b = false := by simp only [byteOk, Bool.and_eq_false_iff, decide_eq_false_iff_not]; omega
        simp [hby]
    · simp (disch := first | omega | (simp only [World.size_alloc, size_setRow, dw_size]; done) | (simp only [World.size_alloc, size_setRow, dw_size]; omega) | (simp only [List.length_set, Array.length_toList]; omega)) [-Option.bind_some, hp_alloc_lt, hp_alloc_eq, hp_set_ne, h0, h3, hlt, hix, hb1]
      simp only [decide_eq_true_eq] at hb1
      have hby : byteOk b = false := by simp only [byteOk, Bool.and_eq_false_iff, decide_eq_false_iff_not]; omega
      simp [hby]
theorem spec_l2TextOk_c {s : ByteArray} (hs : s.size ≤ 140737488351232) (w : World) : Ret (EV P 136 #[.string s] w) fun r => r = (.bool (textOk s), w) := by
  refine Ret.enter plain mixed (spec_l2TextOk_fn _ _) (by kernel_rfl) (n := 1) (by kernel_rfl) rfl ?_
  simp (disch := first | omega | (simp only [World.size_alloc, size_setRow, dw_size]; done) | (simp only [World.size_alloc, size_setRow, dw_size]; omega) | (simp only [List.length_set, Array.length_toList]; omega)) [-Option.bind_some, hp_alloc_lt, hp_alloc_eq, hp_set_ne]
  exact spec_l2TextOk_l hs s.size 0 _ w (by omega) rfl rfl
theorem spec_l1PastOk_l {s : Value} {xs : List Tag} {b t : Nat} : ∀ (d k : Nat) (e : Env) (w : World), k + d = xs.length → e 1 = pt b 0 → e 3 = i64 k → hp w b = some (.cells #[s] t (0, 0)) → rTags w s xs →
    Ret (spec_l1PastOk_l1 e w) fun r => r.1 = .bool ((xs.drop k).all tagOk && (xs.length == 4)) ∧ Ext w r.2 := by
  intro d
  induction d with
  | zero =>
    intro k e w hd h1 h3 hx ha
    obtain ⟨aa, ca, hs, hm⟩ := ha.len
    rw [spec_l1PastOk_l1_eq]
    subst hs
    have hq : ((xs.length : Int) == 4) = (xs.length == 4) := by rw [Bool.eq_iff_iff]; simp only [beq_iff_eq]; omega
    simp (disch := first | omega | (simp only [World.size_alloc, size_setRow, dw_size]; done) | (simp only [World.size_alloc, size_setRow, dw_size]; omega) | (simp only [List.length_set, Array.length_toList]; omega)) [-Option.bind_some, hp_alloc_lt, hp_alloc_eq, hp_set_ne, h1, h3, hx, show ¬ k < xs.length by omega, show xs.length ≤ k by omega, hq]
    rw [List.drop_eq_nil_of_le (by omega)]
    exact ⟨by simp, by (repeat (first | exact Ext.rfl | assumption | (refine Ext.al ?_ _) | (refine Ext.dw ?_) | (refine Ext.set ?_ (by first | omega | (simp only [World.size_alloc, size_setRow, dw_size]; omega)) _) | (refine Ext.tr ?_ (by assumption))))⟩
  | succ d ih =>
    intro k e w hd h1 h3 hx ha
    obtain ⟨aa, ca, hs, hm⟩ := ha.len
    rw [spec_l1PastOk_l1_eq]
    have hlt : k < xs.length := by omega
    obtain ⟨x, hxk, hdx⟩ := drop_at hlt
    obtain ⟨b1, o1, c1, hs1, hA⟩ := ha.at hxk
    have p0 := hA 0 _ rfl
    have p1 := hA 1 _ rfl
    simp only [Nat.add_zero] at p0
    subst hs1
    simp (disch := first | omega | (simp only [World.size_alloc, size_setRow, dw_size]; done) | (simp only [World.size_alloc, size_setRow, dw_size]; omega) | (simp only [List.length_set, Array.length_toList]; omega)) [-Option.bind_some, hp_alloc_lt, hp_alloc_eq, hp_set_ne, h1, h3, hx, hlt, ia_60, p0, p1]
    refine Ret.bind (spec_l1TagOk_c x _) ?_
    rintro ⟨_, w1⟩ ⟨rfl, hE⟩
    cases hxo : tagOk x
    · simp (disch := first | omega | (simp only [World.size_alloc, size_setRow, dw_size]; done) | (simp only [World.size_alloc, size_setRow, dw_size]; omega) | (simp only [List.length_set, Array.length_toList]; omega)) [-Option.bind_some, hp_alloc_lt, hp_alloc_eq, hp_set_ne, hxo, hdx]
      (repeat (first | exact Ext.rfl | assumption | (refine Ext.al ?_ _) | (refine Ext.dw ?_) | (refine Ext.set ?_ (by first | omega | (simp only [World.size_alloc, size_setRow, dw_size]; omega)) _) | (refine Ext.tr ?_ (by assumption))))
    · simp (disch := first | omega | (simp only [World.size_alloc, size_setRow, dw_size]; done) | (simp only [World.size_alloc, size_setRow, dw_size]; omega) | (simp only [List.length_set, Array.length_toList]; omega)) [-Option.bind_some, hp_alloc_lt, hp_alloc_eq, hp_set_ne, hxo, hdx]
      refine Ret.mono (ih (k + 1) _ w1 (by omega) h1 (congrArg i64 (w64 (by omega) (by omega))) ((hE.blk (hp_lt hx)).trans hx) (ha.mono (Ext.keep (by (repeat (first | exact Ext.rfl | assumption | (refine Ext.al ?_ _) | (refine Ext.dw ?_) | (refine Ext.set ?_ (by first | omega | (simp only [World.size_alloc, size_setRow, dw_size]; omega)) _) | (refine Ext.tr ?_ (by assumption)))))))) ?_
      rintro r ⟨h4, h5⟩
      exact ⟨h4, by (repeat (first | exact Ext.rfl | assumption | (refine Ext.al ?_ _) | (refine Ext.dw ?_) | (refine Ext.set ?_ (by first | omega | (simp only [World.size_alloc, size_setRow, dw_size]; omega)) _) | (refine Ext.tr ?_ (by assumption))))⟩
theorem spec_l1PastOk_c {s : Value} {xs : List Tag} {w : World} (ha : rTags w s xs) : Ret (EV P 138 #[.agg #[s]] w) fun r => r.1 = .bool (pastOk xs) ∧ Ext w r.2 := by
  have ha' := ha
  obtain ⟨aa, ca, hs, hm⟩ := ha.len
  subst hs
  refine Ret.enter plain mixed (spec_l1PastOk_fn _ _) (by kernel_rfl) (n := 1) (by kernel_rfl) rfl ?_
  simp (disch := first | omega | (simp only [World.size_alloc, size_setRow, dw_size]; done) | (simp only [World.size_alloc, size_setRow, dw_size]; omega) | (simp only [List.length_set, Array.length_toList]; omega)) [-Option.bind_some, hp_alloc_lt, hp_alloc_eq, hp_set_ne]
  refine Ret.mono (spec_l1PastOk_l xs.length 0 _ _ (by omega) rfl rfl (hp_alloc_eq rfl) (ha'.mono (Ext.keep (by (repeat (first | exact Ext.rfl | assumption | (refine Ext.al ?_ _) | (refine Ext.dw ?_) | (refine Ext.set ?_ (by first | omega | (simp only [World.size_alloc, size_setRow, dw_size]; omega)) _) | (refine Ext.tr ?_ (by assumption)))))))) ?_
  rintro r ⟨h1, h2⟩
  exact ⟨h1, (Ext.al Ext.rfl _).tr h2⟩
theorem spec_l2Ok_l {v : Ver} {s : Value} {b t : Nat} (h4 : v.past.length = 4) : ∀ (d k : Nat) (e : Env) (w : World), k + d = 4 → e 1 = pt b 0 → e 3 = i64 k →
    hp w b = some (.cells #[i64 v.key, i64 v.tag.t, i64 v.tag.p, s, .string v.text, .bool v.gone] t (0, 0)) → rTags w s v.past →
    Ret (spec_l2Ok_l1 e w) fun r => r.1 = .bool ((v.past.drop k).all fun t => decide (t.t < v.tag.t)) ∧ Ext w r.2 := by
  intro d
  induction d with
  | zero =>
    intro k e w hd h1 h3 hx ha
    rw [spec_l2Ok_l1_eq]
    obtain rfl : k = 4 := by omega
    simp (disch := first | omega | (simp only [World.size_alloc, size_setRow, dw_size]; done) | (simp only [World.size_alloc, size_setRow, dw_size]; omega) | (simp only [List.length_set, Array.length_toList]; omega)) [-Option.bind_some, hp_alloc_lt, hp_alloc_eq, hp_set_ne, h1, h3, hx]
    rw [List.drop_eq_nil_of_le (by omega)]
    exact ⟨by simp, by (repeat (first | exact Ext.rfl | assumption | (refine Ext.al ?_ _) | (refine Ext.dw ?_) | (refine Ext.set ?_ (by first | omega | (simp only [World.size_alloc, size_setRow, dw_size]; omega)) _) | (refine Ext.tr ?_ (by assumption))))⟩
  | succ d ih =>
    intro k e w hd h1 h3 hx ha
    rw [spec_l2Ok_l1_eq]
    have hlt : k < v.past.length := by omega
    obtain ⟨x, hxk, hdx⟩ := drop_at hlt
    obtain ⟨b1, o1, c1, hs1, hA⟩ := ha.at hxk
    have p0 := hA 0 _ rfl
    have p1 := hA 1 _ rfl
    simp only [Nat.add_zero] at p0
    subst hs1
    cases hg : decide (x.t ≥ v.tag.t)
    · simp (disch := first | omega | (simp only [World.size_alloc, size_setRow, dw_size]; done) | (simp only [World.size_alloc, size_setRow, dw_size]; omega) | (simp only [List.length_set, Array.length_toList]; omega)) [-Option.bind_some, hp_alloc_lt, hp_alloc_eq, hp_set_ne, h1, h3, hx, hlt, h4, show (k : Int) < 4 by omega, show k < 4 by omega, ia_60, p0, p1, hdx, hg]
      refine Ret.mono (ih (k + 1) _ _ (by omega) h1 (congrArg i64 (w64 (by omega) (by omega))) (by simp (disch := first | omega | (simp only [World.size_alloc, size_setRow, dw_size]; done) | (simp only [World.size_alloc, size_setRow, dw_size]; omega) | (simp only [List.length_set, Array.length_toList]; omega)) [-Option.bind_some, hp_alloc_lt, hp_alloc_eq, hp_set_ne, hx]) (ha.mono (Ext.keep (by (repeat (first | exact Ext.rfl | assumption | (refine Ext.al ?_ _) | (refine Ext.dw ?_) | (refine Ext.set ?_ (by first | omega | (simp only [World.size_alloc, size_setRow, dw_size]; omega)) _) | (refine Ext.tr ?_ (by assumption)))))))) ?_
      rintro r ⟨h5, h6⟩
      simp only [decide_eq_false_iff_not] at hg
      exact ⟨by rw [h5]; simp [show x.t < v.tag.t by omega], (dw_ext w).tr h6⟩
    · simp (disch := first | omega | (simp only [World.size_alloc, size_setRow, dw_size]; done) | (simp only [World.size_alloc, size_setRow, dw_size]; omega) | (simp only [List.length_set, Array.length_toList]; omega)) [-Option.bind_some, hp_alloc_lt, hp_alloc_eq, hp_set_ne, h1, h3, hx, hlt, h4, show (k : Int) < 4 by omega, show k < 4 by omega, ia_60, p0, p1, hdx, hg]
      simp only [decide_eq_true_eq] at hg
      exact ⟨by simp [show ¬ x.t < v.tag.t by omega], by (repeat (first | exact Ext.rfl | assumption | (refine Ext.al ?_ _) | (refine Ext.dw ?_) | (refine Ext.set ?_ (by first | omega | (simp only [World.size_alloc, size_setRow, dw_size]; omega)) _) | (refine Ext.tr ?_ (by assumption))))⟩
theorem spec_l2Ok_c {cs : List Value} {v : Ver} {w : World} (ha : rVer w cs v) : Ret (EV P 111 #[.agg cs.toArray] w) fun r => r.1 = .bool (verOk v) ∧ Ext w r.2 := by
  obtain ⟨s, rfl, ha, ht⟩ := ha
  have ha' := ha
  obtain ⟨aa, ca, hs, hm⟩ := ha.len
  subst hs
  refine Ret.enter plain mixed (spec_l2Ok_fn _ _) (by kernel_rfl) (n := 1) (by kernel_rfl) rfl ?_
  simp (disch := first | omega | (simp only [World.size_alloc, size_setRow, dw_size]; done) | (simp only [World.size_alloc, size_setRow, dw_size]; omega) | (simp only [List.length_set, Array.length_toList]; omega)) [-Option.bind_some, hp_alloc_lt, hp_alloc_eq, hp_set_ne]
  refine Ret.bind (spec_l1In_c _ _ _ _) ?_
  rintro _ rfl
  cases hk : keyOk v.key
  · have hk' : (decide (0 ≤ v.key) && decide (v.key ≤ 3)) = false := hk
    have hv : verOk v = false := by simp [verOk, verWr, hk]
    simp (disch := first | omega | (simp only [World.size_alloc, size_setRow, dw_size]; done) | (simp only [World.size_alloc, size_setRow, dw_size]; omega) | (simp only [List.length_set, Array.length_toList]; omega)) [-Option.bind_some, hp_alloc_lt, hp_alloc_eq, hp_set_ne, hk', hv]
    (repeat (first | exact Ext.rfl | assumption | (refine Ext.al ?_ _) | (refine Ext.dw ?_) | (refine Ext.set ?_ (by first | omega | (simp only [World.size_alloc, size_setRow, dw_size]; omega)) _) | (refine Ext.tr ?_ (by assumption))))
  have hk' : (decide (0 ≤ v.key) && decide (v.key ≤ 3)) = true := hk
  simp (disch := first | omega | (simp only [World.size_alloc, size_setRow, dw_size]; done) | (simp only [World.size_alloc, size_setRow, dw_size]; omega) | (simp only [List.length_set, Array.length_toList]; omega)) [-Option.bind_some, hp_alloc_lt, hp_alloc_eq, hp_set_ne, hk']
  refine Ret.bind (spec_l2TextOk_c ht _) ?_
  rintro _ rfl
  cases hx : textOk v.text
  · have hv : verOk v = false := by simp [verOk, verWr, hx]
    simp (disch := first | omega | (simp only [World.size_alloc, size_setRow, dw_size]; done) | (simp only [World.size_alloc, size_setRow, dw_size]; omega) | (simp only [List.length_set, Array.length_toList]; omega)) [-Option.bind_some, hp_alloc_lt, hp_alloc_eq, hp_set_ne, hx, hv]
    (repeat (first | exact Ext.rfl | assumption | (refine Ext.al ?_ _) | (refine Ext.dw ?_) | (refine Ext.set ?_ (by first | omega | (simp only [World.size_alloc, size_setRow, dw_size]; omega)) _) | (refine Ext.tr ?_ (by assumption))))
  simp (disch := first | omega | (simp only [World.size_alloc, size_setRow, dw_size]; done) | (simp only [World.size_alloc, size_setRow, dw_size]; omega) | (simp only [List.length_set, Array.length_toList]; omega)) [-Option.bind_some, hp_alloc_lt, hp_alloc_eq, hp_set_ne, hx]
  refine Ret.bind (spec_l1TagOk_c v.tag _) ?_
  rintro ⟨_, w1⟩ ⟨rfl, hE⟩
  have hs := hE.size
  simp only [World.size_alloc] at hs
  cases hg : tagOk v.tag
  · have hv : verOk v = false := by simp [verOk, verWr, hg]
    simp (disch := first | omega | (simp only [World.size_alloc, size_setRow, dw_size]; done) | (simp only [World.size_alloc, size_setRow, dw_size]; omega) | (simp only [List.length_set, Array.length_toList]; omega)) [-Option.bind_some, hp_alloc_lt, hp_alloc_eq, hp_set_ne, hg, hv]
    (repeat (first | exact Ext.rfl | assumption | (refine Ext.al ?_ _) | (refine Ext.dw ?_) | (refine Ext.set ?_ (by first | omega | (simp only [World.size_alloc, size_setRow, dw_size]; omega)) _) | (refine Ext.tr ?_ (by assumption))))
  cases h0 : (v.tag.t == 0)
  case true =>
    have hv : verOk v = false := verOk_t0 h0
    simp (disch := first | omega | (simp only [World.size_alloc, size_setRow, dw_size]; done) | (simp only [World.size_alloc, size_setRow, dw_size]; omega) | (simp only [List.length_set, Array.length_toList]; omega)) [-Option.bind_some, hp_alloc_lt, hp_alloc_eq, hp_set_ne, hg, h0, hv, hE.blk]
    (repeat (first | exact Ext.rfl | assumption | (refine Ext.al ?_ _) | (refine Ext.dw ?_) | (refine Ext.set ?_ (by first | omega | (simp only [World.size_alloc, size_setRow, dw_size]; omega)) _) | (refine Ext.tr ?_ (by assumption))))
  cases hgt : (v.gone && !noText v.text)
  case true =>
    have hv : verOk v = false := by
      simp only [Bool.and_eq_true, Bool.not_eq_true'] at hgt
      simp [verOk, verWr, hgt.1, hgt.2]
    simp only [Bool.and_eq_true, Bool.not_eq_true'] at hgt
    have hgt2 := hgt.2
    unfold noText at hgt2
    simp (disch := first | omega | (simp only [World.size_alloc, size_setRow, dw_size]; done) | (simp only [World.size_alloc, size_setRow, dw_size]; omega) | (simp only [List.length_set, Array.length_toList]; omega)) [-Option.bind_some, hp_alloc_lt, hp_alloc_eq, hp_set_ne, hg, h0, hE.blk, hgt.1, hgt2, hv]
    (repeat (first | exact Ext.rfl | assumption | (refine Ext.al ?_ _) | (refine Ext.dw ?_) | (refine Ext.set ?_ (by first | omega | (simp only [World.size_alloc, size_setRow, dw_size]; omega)) _) | (refine Ext.tr ?_ (by assumption))))
  have hgt' : v.gone = false ∨ noText v.text = true := by
    cases h1 : v.gone
    · exact .inl rfl
    · right; simpa [h1] using hgt
  have hgn : (!v.gone || noText v.text) = true := by rcases hgt' with h | h <;> simp [h]
  have fin : ∀ w2, Ext w w2 → w.heap.size < w2.heap.size → rTags w2 (Value.slice aa v.past.length ca) v.past → pastOk v.past = true → ∀ e : Env, e 1 = pt w.heap.size 0 → e 3 = i64 0 →
      hp w2 w.heap.size = some (.cells #[i64 v.key, i64 v.tag.t, i64 v.tag.p, Value.slice aa v.past.length ca, .string v.text, .bool v.gone] 69 (0, 0)) →
      Ret (spec_l2Ok_l1 e w2) fun r => r.1 = .bool (verOk v) ∧ Ext w r.2 := by
    intro w2 hE2 hsz hr hp4 e h1 h3 hb
    have hlen : v.past.length = 4 := by
      unfold pastOk at hp4
      simp only [Bool.and_eq_true, beq_iff_eq] at hp4
      exact hp4.2
    refine Ret.mono (spec_l2Ok_l hlen 4 0 e w2 (by omega) h1 h3 hb hr) ?_
    rintro r ⟨h5, h6⟩
    refine ⟨?_, hE2.tr h6⟩
    rw [h5, List.drop_zero, ← latest_all hg h0]
    simp [verOk, verWr, hk, hx, hgn, hp4, hg]
  have hbx : hp w1 w.heap.size = some (.cells #[i64 v.key, i64 v.tag.t, i64 v.tag.p, Value.slice aa v.past.length ca, .string v.text, .bool v.gone] 69 (0, 0)) :=
    (hE.blk (by simp only [World.size_alloc]; omega)).trans (hp_alloc_eq rfl)
  rcases hgt' with h1 | h1
  all_goals
    try unfold noText at h1
    cases hgo : v.gone
    all_goals
      first
      | (rw [hgo] at h1; exact absurd h1 (by decide))
      | (simp (disch := first | omega | (simp only [World.size_alloc, size_setRow, dw_size]; done) | (simp only [World.size_alloc, size_setRow, dw_size]; omega) | (simp only [List.length_set, Array.length_toList]; omega)) [-Option.bind_some, hp_alloc_lt, hp_alloc_eq, hp_set_ne, hg, h0, hbx, h1, hgo]
         refine Ret.bind (spec_l1PastOk_c (ha'.mono (Ext.keep (by (repeat (first | exact Ext.rfl | assumption | (refine Ext.al ?_ _) | (refine Ext.dw ?_) | (refine Ext.set ?_ (by first | omega | (simp only [World.size_alloc, size_setRow, dw_size]; omega)) _) | (refine Ext.tr ?_ (by assumption)))))))) ?_
         rintro ⟨_, w2⟩ ⟨rfl, hE2⟩
         have hs2 : w1.heap.size ≤ w2.heap.size := hE2.size
         cases hp4 : pastOk v.past
         · have hv : verOk v = false := by simp [verOk, verWr, hp4]
           simp (disch := first | omega | (simp only [World.size_alloc, size_setRow, dw_size]; done) | (simp only [World.size_alloc, size_setRow, dw_size]; omega) | (simp only [List.length_set, Array.length_toList]; omega)) [-Option.bind_some, hp_alloc_lt, hp_alloc_eq, hp_set_ne, hp4, hv]
           (repeat (first | exact Ext.rfl | assumption | (refine Ext.al ?_ _) | (refine Ext.dw ?_) | (refine Ext.set ?_ (by first | omega | (simp only [World.size_alloc, size_setRow, dw_size]; omega)) _) | (refine Ext.tr ?_ (by assumption))))
         · simp (disch := first | omega | (simp only [World.size_alloc, size_setRow, dw_size]; done) | (simp only [World.size_alloc, size_setRow, dw_size]; omega) | (simp only [List.length_set, Array.length_toList]; omega)) [-Option.bind_some, hp_alloc_lt, hp_alloc_eq, hp_set_ne, hp4]
           exact fin w2 (by (repeat (first | exact Ext.rfl | assumption | (refine Ext.al ?_ _) | (refine Ext.dw ?_) | (refine Ext.set ?_ (by first | omega | (simp only [World.size_alloc, size_setRow, dw_size]; omega)) _) | (refine Ext.tr ?_ (by assumption))))) (by omega) (ha'.mono (Ext.keep (by (repeat (first | exact Ext.rfl | assumption | (refine Ext.al ?_ _) | (refine Ext.dw ?_) | (refine Ext.set ?_ (by first | omega | (simp only [World.size_alloc, size_setRow, dw_size]; omega)) _) | (refine Ext.tr ?_ (by assumption))))))) hp4 _ rfl rfl ((hE2.blk (hp_lt hbx)).trans hbx))
end Go.Proofs.YtggmfmanpjcjkaaGreat.X
set_option linter.unusedVariables false
set_option linter.unusedSimpArgs false
set_option maxRecDepth 100000
namespace Go.Proofs.YtggmfmanpjcjkaaGreat.X
open Go Go.Ev Go.RowKit
theorem spec_l1Within_l {s u : Value} {xs ys : List Tag} {b c t t' : Nat} (hx4 : xs.length = 4) (hy4 : ys.length = 4) : ∀ (d k : Nat) (e : Env) (w : World), k + d = 4 → e 2 = pt b 0 → e 3 = pt c 0 → e 5 = i64 k →
    hp w b = some (.cells #[s] t (0, 0)) → hp w c = some (.cells #[u] t' (0, 0)) → rTags w s xs → rTags w u ys →
    Ret (spec_l1Within_l1 e w) fun r => r.1 = .bool (under (xs.drop k) (ys.drop k)) ∧ Ext w r.2 := by
  intro d
  induction d with
  | zero =>
    intro k e w hd h2 h3 h5 hx hy ha hb
    rw [spec_l1Within_l1_eq]
    obtain rfl : k = 4 := by omega
    simp (disch := first | omega | (simp only [World.size_alloc, size_setRow, dw_size]; done) | (simp only [World.size_alloc, size_setRow, dw_size]; omega) | (simp only [List.length_set, Array.length_toList]; omega)) [-Option.bind_some, hp_alloc_lt, hp_alloc_eq, hp_set_ne, h2, h3, h5]
    rw [List.drop_eq_nil_of_le (by omega)]
    exact ⟨rfl, by (repeat (first | exact Ext.rfl | assumption | (refine Ext.al ?_ _) | (refine Ext.dw ?_) | (refine Ext.set ?_ (by first | omega | (simp only [World.size_alloc, size_setRow, dw_size]; omega)) _) | (refine Ext.tr ?_ (by assumption))))⟩
  | succ d ih =>
    intro k e w hd h2 h3 h5 hx hy ha hb
    rw [spec_l1Within_l1_eq]
    have hlt : k < xs.length := by omega
    obtain ⟨x, hxk, hdx⟩ := drop_at hlt
    obtain ⟨y, hyk, hdy⟩ := drop_at (show k < ys.length by omega)
    obtain ⟨b1, o1, c1, hs1, hA⟩ := ha.at hxk
    obtain ⟨b2, o2, c2, hs2, hB⟩ := hb.at hyk
    have p0 := hA 0 _ rfl
    have p1 := hA 1 _ rfl
    have q0 := hB 0 _ rfl
    have q1 := hB 1 _ rfl
    simp only [Nat.add_zero] at p0 q0
    subst hs1
    subst hs2
    simp (disch := first | omega | (simp only [World.size_alloc, size_setRow, dw_size]; done) | (simp only [World.size_alloc, size_setRow, dw_size]; omega) | (simp only [List.length_set, Array.length_toList]; omega)) [-Option.bind_some, hp_alloc_lt, hp_alloc_eq, hp_set_ne, h2, h3, h5, hx, hy, hx4, hy4, show (k : Int) < 4 by omega, show k < 4 by omega, ia_60, p0, p1, q0, q1]
    refine Ret.bind (spec_l1Less_c y x _) ?_
    rintro ⟨_, w1⟩ ⟨rfl, hE⟩
    have hE' : Ext w w1 := (dw_ext w).tr hE
    cases hl : tagLess y x
    · simp (disch := first | omega | (simp only [World.size_alloc, size_setRow, dw_size]; done) | (simp only [World.size_alloc, size_setRow, dw_size]; omega) | (simp only [List.length_set, Array.length_toList]; omega)) [-Option.bind_some, hp_alloc_lt, hp_alloc_eq, hp_set_ne, hl]
      refine Ret.mono (ih (k + 1) _ w1 (by omega) h2 h3 (congrArg i64 (w64 (by omega) (by omega))) ((hE'.blk (hp_lt hx)).trans hx) ((hE'.blk (hp_lt hy)).trans hy) (ha.mono (Ext.keep hE')) (hb.mono (Ext.keep hE'))) ?_
      rintro r ⟨h6, h7⟩
      exact ⟨by rw [h6, hdx, hdy]; simp [under, hl], hE'.tr h7⟩
    · simp (disch := first | omega | (simp only [World.size_alloc, size_setRow, dw_size]; done) | (simp only [World.size_alloc, size_setRow, dw_size]; omega) | (simp only [List.length_set, Array.length_toList]; omega)) [-Option.bind_some, hp_alloc_lt, hp_alloc_eq, hp_set_ne, hl]
      exact ⟨by rw [hdx, hdy]; simp [under, hl], hE'⟩
theorem spec_l1Within_c {s u : Value} {xs ys : List Tag} (hx4 : xs.length = 4) (hy4 : ys.length = 4) {w : World} (ha : rTags w s xs) (hb : rTags w u ys) : Ret (EV P 114 #[.agg #[s], .agg #[u]] w) fun r => r.1 = .bool (under xs ys) ∧ Ext w r.2 := by
  have ha' := ha
  have hb' := hb
  obtain ⟨aa, ca, hs, hm⟩ := ha.len
  obtain ⟨ab, cb, hu, _⟩ := hb.len
  subst hs
  subst hu
  refine Ret.enter plain mixed (spec_l1Within_fn _ _ _) (by kernel_rfl) (n := 2) (by kernel_rfl) rfl ?_
  simp (disch := first | omega | (simp only [World.size_alloc, size_setRow, dw_size]; done) | (simp only [World.size_alloc, size_setRow, dw_size]; omega) | (simp only [List.length_set, Array.length_toList]; omega)) [-Option.bind_some, hp_alloc_lt, hp_alloc_eq, hp_set_ne]
  refine Ret.mono (spec_l1Within_l hx4 hy4 4 0 _ _ (by omega) rfl rfl rfl ((hp_alloc_lt (by simp)).trans (hp_alloc_eq rfl)) (hp_alloc_eq (by simp)) (ha'.mono (Ext.keep (by (repeat (first | exact Ext.rfl | assumption | (refine Ext.al ?_ _) | (refine Ext.dw ?_) | (refine Ext.set ?_ (by first | omega | (simp only [World.size_alloc, size_setRow, dw_size]; omega)) _) | (refine Ext.tr ?_ (by assumption))))))) (hb'.mono (Ext.keep (by (repeat (first | exact Ext.rfl | assumption | (refine Ext.al ?_ _) | (refine Ext.dw ?_) | (refine Ext.set ?_ (by first | omega | (simp only [World.size_alloc, size_setRow, dw_size]; omega)) _) | (refine Ext.tr ?_ (by assumption)))))))) ?_
  rintro r ⟨h1, h2⟩
  exact ⟨h1, (Ext.al (Ext.al Ext.rfl _) _).tr h2⟩
theorem spec_l2Tags_l {s : Value} {vs : List Ver} {b1 b2 b3 t1 B : Nat} {w0 : World} (hb1 : b1 < B) (hb2 : b2 < B) (hb3 : b3 < B) (h0b2 : w0.heap.size ≤ b2) (h0b3 : w0.heap.size ≤ b3) (h21 : b2 ≠ b1) (h31 : b3 ≠ b1) (h32 : b3 ≠ b2) : ∀ (d k : Nat) (e : Env) (w : World) (sv c0 : Value), k + d = vs.length → e 1 = pt b1 0 → e 2 = pt b2 0 → e 3 = pt b3 0 → e 4 = i64 k →
    hp w b1 = some (.cells #[s] t1 (0, 0)) → hp w b2 = some (.cells #[c0] 62 (0, 0)) → hp w b3 = some (.cells #[sv] 62 (0, 0)) → rVers w0 s vs → Ext w0 w → B ≤ w.heap.size →
    fTags 64 B w sv (tagsOf (vs.take k)) →
    Ret (spec_l2Tags_l1 e w) fun r => ∃ s', r.1 = .agg #[s'] ∧ fTags 64 B r.2 s' (tagsOf vs) ∧ Ext w0 r.2 := by
  intro d
  induction d with
  | zero =>
    intro k e w sv c0 hd h1 h2 h3 h4 hx1 hx2 hx3 ha hE hBw hf
    obtain ⟨aa, ca, hs, hm⟩ := ha.len
    rw [spec_l2Tags_l1_eq]
    subst hs
    obtain ⟨ab, cb, hsv, _⟩ := hf.r.len
    subst hsv
    simp (disch := first | omega | (simp only [World.size_alloc, size_setRow, dw_size]; done) | (simp only [World.size_alloc, size_setRow, dw_size]; omega) | (simp only [List.length_set, Array.length_toList]; omega)) [-Option.bind_some, hp_alloc_lt, hp_alloc_eq, hp_set_ne, h1, h2, h3, h4, hx1, hx2, hx3, show ¬ k < vs.length by omega, show vs.length ≤ k by omega]
    rw [List.take_of_length_le (by omega)] at hf ⊢
    refine ⟨hf.keep fun b hb => hp_set_ne ?_, by (repeat (first | exact Ext.rfl | assumption | (refine Ext.al ?_ _) | (refine Ext.dw ?_) | (refine Ext.set ?_ (by first | omega | (simp only [World.size_alloc, size_setRow, dw_size]; omega)) _) | (refine Ext.tr ?_ (by assumption))))⟩
    have := (hf.lt b hb).1
    omega
  | succ d ih =>
    intro k e w sv c0 hd h1 h2 h3 h4 hx1 hx2 hx3 ha hE hBw hf
    rw [spec_l2Tags_l1_eq]
    have hlt : k < vs.length := by omega
    obtain ⟨v, hv, hdx⟩ := drop_at hlt
    obtain ⟨_, _, _, hm⟩ := ha.len
    obtain ⟨bb, oo, cc, cs, hs1, hA0, hcs0⟩ := ha.at hv
    have hA := hA0.mono (Ext.keep hE)
    obtain ⟨sp, rfl, _, _⟩ := hcs0
    have p1 := hA 1 _ rfl
    have p2 := hA 2 _ rfl
    have hbl := hp_lt hx3
    have hbb : bb < w.heap.size := hA.lt
    subst hs1
    obtain ⟨ab, cb, hsv, hfl⟩ := hf.r.len
    subst hsv
    have htl : (tagsOf (vs.take k)).length = k := by simp [tagsOf]; omega
    simp (disch := first | omega | (simp only [World.size_alloc, size_setRow, dw_size]; done) | (simp only [World.size_alloc, size_setRow, dw_size]; omega) | (simp only [List.length_set, Array.length_toList]; omega)) [-Option.bind_some, hp_alloc_lt, hp_alloc_eq, hp_set_ne, h1, h2, h3, h4, hx1, hx2, hx3, hlt, ia_47, p1, p2]
    refine Ret.bind (app_tag (x := v.tag) el_60 (by kernel_rfl) (hf.keep fun b hb => (hp_alloc_lt (by simp only [dw_size]; exact (hf.lt b hb).2)).trans (hp_dw w b)) (by simp only [World.size_alloc, dw_size]; omega) ?_ (by omega)) ?_
    · intro j u hj
      rw [hp_alloc_eq (by simp only [dw_size]), cellO_some, ← nth_eq, Nat.zero_add]
      exact hj
    rintro ⟨s', w1⟩ ⟨hf1, hBut⟩
    have hk1 : ∀ b, b < B → hp w1 b = hp w b := fun b hb => (hBut.blk b (by simp only [World.size_alloc, dw_size]; omega) (fun e => absurd (hf.lt b (Option.mem_toList.2 e)).1 (by omega))).trans ((hp_alloc_lt (by simp only [dw_size]; omega)).trans (hp_dw w b))
    have hE1 : Ext w0 w1 := Ext.but (b := (dw w).alloc _) (by (repeat (first | exact Ext.rfl | assumption | (refine Ext.al ?_ _) | (refine Ext.dw ?_) | (refine Ext.set ?_ (by first | omega | (simp only [World.size_alloc, size_setRow, dw_size]; omega)) _) | (refine Ext.tr ?_ (by assumption))))) hBut fun x hx => by have := (hf.lt x (Option.mem_toList.2 hx)).1; omega
    have hsz : w.heap.size < w1.heap.size := by have := hBut.size; simp only [World.size_alloc, dw_size] at this; omega
    obtain ⟨ac, c3, hsv, hfl1⟩ := hf1.r.len
    subst hsv
    simp (disch := first | omega | (simp only [World.size_alloc, size_setRow, dw_size]; done) | (simp only [World.size_alloc, size_setRow, dw_size]; omega) | (simp only [List.length_set, Array.length_toList]; omega)) [-Option.bind_some, hp_alloc_lt, hp_alloc_eq, hp_set_ne, hk1, hx3]
    refine Ret.mono (ih (k + 1) _ _ _ c0 (by omega) h1 h2 h3 (congrArg i64 (w64 (by omega) (by omega))) ((hp_set_ne (by omega)).trans ((hk1 _ hb1).trans hx1)) ((hp_set_ne (by omega)).trans ((hk1 _ hb2).trans hx2)) (by rw [hp_set_eq, hk1 _ hb3, hx3]; rfl) ha (by (repeat (first | exact Ext.rfl | assumption | (refine Ext.al ?_ _) | (refine Ext.dw ?_) | (refine Ext.set ?_ (by first | omega | (simp only [World.size_alloc, size_setRow, dw_size]; omega)) _) | (refine Ext.tr ?_ (by assumption))))) (by simp; omega) ?_) fun _ h => h
    rw [take_at hv]
    have : tagsOf (vs.take k ++ [v]) = tagsOf (vs.take k) ++ [v.tag] := by simp [tagsOf]
    rw [this]
    have hf2 : ∀ cs, fTags 64 B (w1.setRow b3 cs) _ (tagsOf (vs.take k) ++ [v.tag]) := fun cs => hf1.keep fun b hb => hp_set_ne (by have := (hf1.lt b hb).1; omega)
    simpa using hf2 _
theorem spec_l2Tags_c {s : Value} {vs : List Ver} {w : World} (ha : rVers w s vs) : Ret (EV P 143 #[.agg #[s]] w) fun r => ∃ s', r.1 = .agg #[s'] ∧ fTags 64 w.heap.size r.2 s' (tagsOf vs) ∧ Ext w r.2 := by
  have ha' := ha
  obtain ⟨aa, ca, hs, hm⟩ := ha.len
  subst hs
  refine Ret.enter plain mixed (spec_l2Tags_fn _ _) (by kernel_rfl) (n := 1) (by kernel_rfl) rfl ?_
  simp (disch := first | omega | (simp only [World.size_alloc, size_setRow, dw_size]; done) | (simp only [World.size_alloc, size_setRow, dw_size]; omega) | (simp only [List.length_set, Array.length_toList]; omega)) [-Option.bind_some, hp_alloc_lt, hp_alloc_eq, hp_set_ne]
  refine Ret.mono (spec_l2Tags_l (s := .slice aa vs.length ca) (vs := vs) (b1 := w.heap.size) (b2 := w.heap.size + 1) (b3 := w.heap.size + 2) (B := w.heap.size + 3) (w0 := w) (t1 := 91) (by omega) (by omega) (by omega) (by omega) (by omega) (by omega) (by omega) (by omega) vs.length 0 _ _ _ _ (by omega) rfl rfl rfl rfl
    (by simp (disch := first | omega | (simp only [World.size_alloc, size_setRow, dw_size]; done) | (simp only [World.size_alloc, size_setRow, dw_size]; omega) | (simp only [List.length_set, Array.length_toList]; omega)) [-Option.bind_some, hp_alloc_lt, hp_alloc_eq, hp_set_ne]; first | done | rfl) (by simp (disch := first | omega | (simp only [World.size_alloc, size_setRow, dw_size]; done) | (simp only [World.size_alloc, size_setRow, dw_size]; omega) | (simp only [List.length_set, Array.length_toList]; omega)) [-Option.bind_some, hp_alloc_lt, hp_alloc_eq, hp_set_ne]; first | done | rfl) (by simp (disch := first | omega | (simp only [World.size_alloc, size_setRow, dw_size]; done) | (simp only [World.size_alloc, size_setRow, dw_size]; omega) | (simp only [List.length_set, Array.length_toList]; omega)) [-Option.bind_some, hp_alloc_lt, hp_alloc_eq, hp_set_ne]; first | done | rfl) ha' (by (repeat (first | exact Ext.rfl | assumption | (refine Ext.al ?_ _) | (refine Ext.dw ?_) | (refine Ext.set ?_ (by first | omega | (simp only [World.size_alloc, size_setRow, dw_size]; omega)) _) | (refine Ext.tr ?_ (by assumption))))) (by simp) ⟨Own.nil _ _ _ _, by simp [tagsOf]⟩) ?_
  rintro ⟨_, w1⟩ ⟨s', rfl, hf, hE⟩
  exact ⟨s', rfl, hf.from (by omega), hE⟩
end Go.Proofs.YtggmfmanpjcjkaaGreat.X
