/- A part of the proof: an evaluator of the model, its laws, and contracts of functions; no condition. -/
import Derived.Test.YthicfemhpnnaaaaC1
set_option linter.unusedVariables false
set_option linter.unusedSimpArgs false
set_option maxRecDepth 100000
namespace Go.Proofs.Ythicfemhpnnaaaa.X
open Go Go.Ev Go.RowKit
theorem laws_toTagS_l {s : Value} {xs : List Tag} {g : Nat} {w0 : World} : ∀ (d k : Nat) (e : Env) (w : World) (cur : Array Value), k + d = xs.length → e 0 = s → e 3 = .slice (some ⟨g, 0, none⟩) xs.length xs.length → e 4 = i64 k →
    rTags w0 s xs → Ext w0 w → w0.heap.size ≤ g → hp w g = some (.cells cur 46 (0, 0)) → cur.size = xs.length * 2 → cur.toList.take (k * 2) = tagCs (xs.take k) →
    Ret (laws_toTagS_l1 e w) fun r => r.1 = .slice (some ⟨g, 0, none⟩) xs.length xs.length ∧ (∃ c : Array Value, hp r.2 g = some (.cells c 46 (0, 0)) ∧ c.toList = tagCs xs) ∧ Ext w0 r.2 := by
  intro d
  induction d with
  | zero =>
    intro k e w cur hd h0 h3 h4 ha hE hB hg hc ht
    obtain ⟨aa, ca, hs, hm⟩ := ha.len
    rw [laws_toTagS_l1_eq]
    subst hs
    simp (disch := first | omega | (simp only [World.size_alloc, size_setRow, dw_size]; done) | (simp only [World.size_alloc, size_setRow, dw_size]; omega) | (simp only [List.length_set, Array.length_toList]; omega)) [-Option.bind_some, hp_alloc_lt, hp_alloc_eq, hp_set_ne, h0, h3, h4, show ¬ k < xs.length by omega, show xs.length ≤ k by omega]
    refine ⟨⟨cur, hg, ?_⟩, by (repeat (first | exact Ext.rfl | assumption | (refine Ext.al ?_ _) | (refine Ext.dw ?_) | (refine Ext.set ?_ (by first | omega | (simp only [World.size_alloc, size_setRow, dw_size]; omega)) _) | (refine Ext.tr ?_ (by assumption))))⟩
    rw [List.take_of_length_le (by simp; omega), List.take_of_length_le (by omega)] at ht
    exact ht
  | succ d ih =>
    intro k e w cur hd h0 h3 h4 ha hE hB hg hc ht
    rw [laws_toTagS_l1_eq]
    have hlt : k < xs.length := by omega
    obtain ⟨x, hx, hdx⟩ := drop_at hlt
    obtain ⟨_, _, _, hm⟩ := ha.len
    obtain ⟨b1, o1, c1, hs1, hA0⟩ := ha.at hx
    have hA := hA0.mono (Ext.keep hE)
    have hgl := hp_lt hg
    have p0 := hA 0 _ rfl
    have p1 := hA 1 _ rfl
    simp only [Nat.add_zero] at p0
    subst hs1
    simp (disch := first | omega | (simp only [World.size_alloc, size_setRow, dw_size]; done) | (simp only [World.size_alloc, size_setRow, dw_size]; omega) | (simp only [List.length_set, Array.length_toList]; omega)) [-Option.bind_some, hp_alloc_lt, hp_alloc_eq, hp_set_ne, h0, h3, h4, hlt, ia_142, p0, p1]
    refine Ret.bind (laws_toTag_c x _) ?_
    rintro ⟨_, w1⟩ ⟨rfl, hE1⟩
    have hg1 := (hE1.blk hgl).trans hg
    have hs1 := hE1.size
    have hkk : k * 2 + 2 ≤ cur.size := by omega
    have hpt := row_put (cur := cur) (vs := tagC x) (m := 2) hc hlt rfl
    simp (disch := first | omega | (simp only [World.size_alloc, size_setRow, dw_size]; done) | (simp only [World.size_alloc, size_setRow, dw_size]; omega) | (simp only [List.length_set, Array.length_toList]; omega)) [-Option.bind_some, hp_alloc_lt, hp_alloc_eq, hp_set_ne, ia_33, hlt, hg1, hkk]
    refine Ret.mono (ih (k + 1) _ _ _ (by omega) h0 h3 (congrArg i64 (w64 (by omega) (by omega))) ha (by (repeat (first | exact Ext.rfl | assumption | (refine Ext.al ?_ _) | (refine Ext.dw ?_) | (refine Ext.set ?_ (by first | omega | (simp only [World.size_alloc, size_setRow, dw_size]; omega)) _) | (refine Ext.tr ?_ (by assumption))))) hB (by rw [hp_set_eq, hg1]; rfl) (by simpa using hpt.1)
      (by rw [take_at hx, tagCs_app, ← ht]; simpa [tagCs] using hpt.2)) fun _ h => h
theorem laws_toTagS_c {s : Value} {xs : List Tag} {w : World} (ha : rTags w s xs) : Ret (EV P 168 #[s] w) fun r => fTags 46 w.heap.size r.2 r.1 xs ∧ Ext w r.2 := by
  have ha' := ha
  obtain ⟨aa, ca, hs, hm⟩ := ha.len
  subst hs
  refine Ret.enter plain mixed (laws_toTagS_fn _ _) (by kernel_rfl) (n := 1) (by kernel_rfl) rfl ?_
  have hmk := ms_eq (P := P) el_33 (z := [i64 0, i64 0]) (by kernel_rfl) rfl (by omega) (l := xs.length) (c := xs.length) (by omega) (by omega) (by omega) (by omega) w
  simp only [Int.toNat_natCast] at hmk
  simp (disch := first | omega | (simp only [World.size_alloc, size_setRow, dw_size]; done) | (simp only [World.size_alloc, size_setRow, dw_size]; omega) | (simp only [List.length_set, Array.length_toList]; omega)) [-Option.bind_some, hp_alloc_lt, hp_alloc_eq, hp_set_ne, hmk]
  refine Ret.mono (laws_toTagS_l (s := .slice aa xs.length ca) (xs := xs) (g := w.heap.size) (w0 := w) xs.length 0 _ _ _ (by omega) rfl rfl rfl ha' (by (repeat (first | exact Ext.rfl | assumption | (refine Ext.al ?_ _) | (refine Ext.dw ?_) | (refine Ext.set ?_ (by first | omega | (simp only [World.size_alloc, size_setRow, dw_size]; omega)) _) | (refine Ext.tr ?_ (by assumption))))) (by omega) (hp_alloc_eq rfl) (by simp [zrep_len]) (by simp [tagCs])) ?_
  rintro ⟨_, w1⟩ ⟨rfl, ⟨c, hc, hl⟩, hE⟩
  have hsz : c.size = xs.length * 2 := by rw [← tagCs_length, ← hl]; simp
  exact ⟨⟨⟨by rw [tagCs_length], by omega, .inr ⟨w.heap.size, xs.length, c, rfl, by omega, hc, by omega, by omega, by omega, by rw [hl, ← tagCs_length, List.take_length]⟩⟩, hm⟩, hE⟩
theorem laws_toPast_c {s : Value} {xs : List Tag} {w : World} (ha : rTags w s xs) : Ret (EV P 162 #[.agg #[s]] w) fun r => ∃ s', r.1 = .agg #[s'] ∧ fTags 46 w.heap.size r.2 s' xs ∧ Ext w r.2 := by
  obtain ⟨aa, ca, hs, hm⟩ := ha.len
  subst hs
  refine Ret.enter plain mixed (laws_toPast_fn _ _) (by kernel_rfl) (n := 1) (by kernel_rfl) rfl ?_
  simp (disch := first | omega | (simp only [World.size_alloc, size_setRow, dw_size]; done) | (simp only [World.size_alloc, size_setRow, dw_size]; omega) | (simp only [List.length_set, Array.length_toList]; omega)) [-Option.bind_some, hp_alloc_lt, hp_alloc_eq, hp_set_ne]
  refine Ret.bind (laws_toTagS_c (ha.mono (Ext.keep (by (repeat (first | exact Ext.rfl | assumption | (refine Ext.al ?_ _) | (refine Ext.dw ?_) | (refine Ext.set ?_ (by first | omega | (simp only [World.size_alloc, size_setRow, dw_size]; omega)) _) | (refine Ext.tr ?_ (by assumption)))))))) ?_
  rintro ⟨s', w1⟩ ⟨hf, hE⟩
  obtain ⟨ab, cb, hs', hm'⟩ := hf.r.len
  subst hs'
  have hs := hE.size
  simp only [World.size_alloc] at hs hf
  simp (disch := first | omega | (simp only [World.size_alloc, size_setRow, dw_size]; done) | (simp only [World.size_alloc, size_setRow, dw_size]; omega) | (simp only [List.length_set, Array.length_toList]; omega)) [-Option.bind_some, hp_alloc_lt, hp_alloc_eq, hp_set_ne, hE.blk]
  refine ⟨?_, by (repeat (first | exact Ext.rfl | assumption | (refine Ext.al ?_ _) | (refine Ext.dw ?_) | (refine Ext.set ?_ (by first | omega | (simp only [World.size_alloc, size_setRow, dw_size]; omega)) _) | (refine Ext.tr ?_ (by assumption))))⟩
  refine ⟨(hf.1.keep fun g hg => ?_).from (by omega), hf.2⟩
  have := hf.1.lt hg
  rw [hp_set_ne (by omega), hp_set_ne (by omega)]
theorem laws_szTagS_c (n : Int) (h0 : -1 ≤ n) (h1 : n ≤ 1048576) {s : Value} {xs : List Tag} {w : World} (ha : rTags w s xs) : Ret (EV P 164 #[s, i64 n] w) fun r => ∃ m, r = (i64 m, w) ∧ -1 ≤ m ∧ m ≤ 1048576 ∧ (0 ≤ m → m + xs.length ≤ n) := by
  obtain ⟨aa, ca, hs, hm⟩ := ha.len
  subst hs
  refine Ret.enter plain mixed (laws_szTagS_fn _ _ _) (by kernel_rfl) (n := 2) (by kernel_rfl) rfl ?_
  simp (disch := first | omega | (simp only [World.size_alloc, size_setRow, dw_size]; done) | (simp only [World.size_alloc, size_setRow, dw_size]; omega) | (simp only [List.length_set, Array.length_toList]; omega)) [-Option.bind_some, hp_alloc_lt, hp_alloc_eq, hp_set_ne]
  rw [w64 (by omega) (by omega)]
  by_cases h : n - xs.length < 0
  · simp (disch := first | omega | (simp only [World.size_alloc, size_setRow, dw_size]; done) | (simp only [World.size_alloc, size_setRow, dw_size]; omega) | (simp only [List.length_set, Array.length_toList]; omega)) [-Option.bind_some, hp_alloc_lt, hp_alloc_eq, hp_set_ne, h]
  · simp (disch := first | omega | (simp only [World.size_alloc, size_setRow, dw_size]; done) | (simp only [World.size_alloc, size_setRow, dw_size]; omega) | (simp only [List.length_set, Array.length_toList]; omega)) [-Option.bind_some, hp_alloc_lt, hp_alloc_eq, hp_set_ne, h]
    omega
theorem laws_szPast_c (n : Int) (h0 : -1 ≤ n) (h1 : n ≤ 1048576) {s : Value} {xs : List Tag} {w : World} (ha : rTags w s xs) : Ret (EV P 159 #[.agg #[s], i64 n] w) fun r => ∃ m, r.1 = i64 m ∧ -1 ≤ m ∧ m ≤ 1048576 ∧ (0 ≤ m → m + xs.length ≤ n) ∧ Ext w r.2 := by
  obtain ⟨aa, ca, hs, hm⟩ := ha.len
  subst hs
  refine Ret.enter plain mixed (laws_szPast_fn _ _ _) (by kernel_rfl) (n := 2) (by kernel_rfl) rfl ?_
  simp (disch := first | omega | (simp only [World.size_alloc, size_setRow, dw_size]; done) | (simp only [World.size_alloc, size_setRow, dw_size]; omega) | (simp only [List.length_set, Array.length_toList]; omega)) [-Option.bind_some, hp_alloc_lt, hp_alloc_eq, hp_set_ne]
  refine Ret.bind (laws_szTagS_c n h0 h1 (ha.mono (Ext.keep (by (repeat (first | exact Ext.rfl | assumption | (refine Ext.al ?_ _) | (refine Ext.dw ?_) | (refine Ext.set ?_ (by first | omega | (simp only [World.size_alloc, size_setRow, dw_size]; omega)) _) | (refine Ext.tr ?_ (by assumption)))))))) ?_
  rintro _ ⟨m, rfl, h2, h3, h4⟩
  by_cases h : m < 0
  · simp (disch := first | omega | (simp only [World.size_alloc, size_setRow, dw_size]; done) | (simp only [World.size_alloc, size_setRow, dw_size]; omega) | (simp only [List.length_set, Array.length_toList]; omega)) [-Option.bind_some, hp_alloc_lt, hp_alloc_eq, hp_set_ne, h]
    (repeat (first | exact Ext.rfl | assumption | (refine Ext.al ?_ _) | (refine Ext.dw ?_) | (refine Ext.set ?_ (by first | omega | (simp only [World.size_alloc, size_setRow, dw_size]; omega)) _) | (refine Ext.tr ?_ (by assumption))))
  · simp (disch := first | omega | (simp only [World.size_alloc, size_setRow, dw_size]; done) | (simp only [World.size_alloc, size_setRow, dw_size]; omega) | (simp only [List.length_set, Array.length_toList]; omega)) [-Option.bind_some, hp_alloc_lt, hp_alloc_eq, hp_set_ne, h]
    exact ⟨h2, h3, fun _ => h4 (by omega), by (repeat (first | exact Ext.rfl | assumption | (refine Ext.al ?_ _) | (refine Ext.dw ?_) | (refine Ext.set ?_ (by first | omega | (simp only [World.size_alloc, size_setRow, dw_size]; omega)) _) | (refine Ext.tr ?_ (by assumption))))⟩
end Go.Proofs.Ythicfemhpnnaaaa.X
