/- A part of the proof: an evaluator of the model, its laws, and contracts of functions; no condition. -/
import Derived.Test.YthicfemhpnnaaaaC2
import Derived.Test.YthicfemhpnnaaaaC4
set_option linter.unusedVariables false
set_option linter.unusedSimpArgs false
set_option maxRecDepth 100000
namespace Go.Proofs.Ythicfemhpnnaaaa.X
open Go Go.Ev Go.RowKit
theorem laws_eqTagS_c {s u : Value} {xs : List Tag} {w : World} (ha : rTags w s xs) (hb : rTags w u xs) : Ret (EV P 86 #[s, u] w) fun r => r.1 = .bool true ∧ Ext w r.2 := by
  have ha' := ha
  have hb' := hb
  obtain ⟨aa, ca, hs, hm⟩ := ha.len
  obtain ⟨ab, cb, hu, _⟩ := hb.len
  subst hs
  subst hu
  refine Ret.enter plain mixed (laws_eqTagS_fn _ _ _) (by kernel_rfl) (n := 2) (by kernel_rfl) rfl ?_
  simp (disch := first | omega | (simp only [World.size_alloc, size_setRow, dw_size]; done) | (simp only [World.size_alloc, size_setRow, dw_size]; omega) | (simp only [List.length_set, Array.length_toList]; omega)) [-Option.bind_some, hp_alloc_lt, hp_alloc_eq, hp_set_ne]
  refine Ret.mono (laws_eqTagS_l (xs := xs) (ys := xs) rfl xs.length 0 _ w (by omega) rfl rfl rfl ha' hb') ?_
  rintro r ⟨h1, h2⟩
  exact ⟨by simp [h1], h2⟩
theorem laws_eqPast_c {s u : Value} {xs : List Tag} {w : World} (ha : rTags w s xs) (hb : rTags w u xs) : Ret (EV P 35 #[.agg #[s], .agg #[u]] w) fun r => r.1 = .bool true ∧ Ext w r.2 := by
  obtain ⟨aa, ca, hs, hm⟩ := ha.len
  obtain ⟨ab, cb, hu, _⟩ := hb.len
  subst hs
  subst hu
  refine Ret.enter plain mixed (laws_eqPast_fn _ _ _) (by kernel_rfl) (n := 2) (by kernel_rfl) rfl ?_
  simp (disch := first | omega | (simp only [World.size_alloc, size_setRow, dw_size]; done) | (simp only [World.size_alloc, size_setRow, dw_size]; omega) | (simp only [List.length_set, Array.length_toList]; omega)) [-Option.bind_some, hp_alloc_lt, hp_alloc_eq, hp_set_ne]
  refine Ret.bind (laws_eqTagS_c (ha.mono (Ext.keep (by (repeat (first | exact Ext.rfl | assumption | (refine Ext.al ?_ _) | (refine Ext.dw ?_) | (refine Ext.set ?_ (by first | omega | (simp only [World.size_alloc, size_setRow, dw_size]; omega)) _) | (refine Ext.tr ?_ (by assumption))))))) (hb.mono (Ext.keep (by (repeat (first | exact Ext.rfl | assumption | (refine Ext.al ?_ _) | (refine Ext.dw ?_) | (refine Ext.set ?_ (by first | omega | (simp only [World.size_alloc, size_setRow, dw_size]; omega)) _) | (refine Ext.tr ?_ (by assumption)))))))) ?_
  rintro ⟨_, w1⟩ ⟨rfl, hE⟩
  simp (disch := first | omega | (simp only [World.size_alloc, size_setRow, dw_size]; done) | (simp only [World.size_alloc, size_setRow, dw_size]; omega) | (simp only [List.length_set, Array.length_toList]; omega)) [-Option.bind_some, hp_alloc_lt, hp_alloc_eq, hp_set_ne]
  (repeat (first | exact Ext.rfl | assumption | (refine Ext.al ?_ _) | (refine Ext.dw ?_) | (refine Ext.set ?_ (by first | omega | (simp only [World.size_alloc, size_setRow, dw_size]; omega)) _) | (refine Ext.tr ?_ (by assumption))))
theorem laws_eqVer_c {cs ds : List Value} {v : Ver} {w : World} (ha : rVer w cs v) (hb : rVer w ds v) : Ret (EV P 40 #[.agg cs.toArray, .agg ds.toArray] w) fun r => r.1 = .bool true ∧ Ext w r.2 := by
  obtain ⟨s, rfl, ha, ht⟩ := ha
  obtain ⟨u, rfl, hb, _⟩ := hb
  obtain ⟨aa, ca, hs, hm⟩ := ha.len
  obtain ⟨ab, cb, hu, _⟩ := hb.len
  subst hs
  subst hu
  refine Ret.enter plain mixed (laws_eqVer_fn _ _ _) (by kernel_rfl) (n := 2) (by kernel_rfl) rfl ?_
  simp (disch := first | omega | (simp only [World.size_alloc, size_setRow, dw_size]; done) | (simp only [World.size_alloc, size_setRow, dw_size]; omega) | (simp only [List.length_set, Array.length_toList]; omega)) [-Option.bind_some, hp_alloc_lt, hp_alloc_eq, hp_set_ne]
  refine Ret.bind (laws_eqTag_c v.tag v.tag _) ?_
  rintro ⟨_, w1⟩ ⟨rfl, hE⟩
  have hs := hE.size
  simp only [World.size_alloc] at hs
  simp (disch := first | omega | (simp only [World.size_alloc, size_setRow, dw_size]; done) | (simp only [World.size_alloc, size_setRow, dw_size]; omega) | (simp only [List.length_set, Array.length_toList]; omega)) [-Option.bind_some, hp_alloc_lt, hp_alloc_eq, hp_set_ne, hE.blk]
  refine Ret.bind (laws_eqPast_c (ha.mono (Ext.keep (by (repeat (first | exact Ext.rfl | assumption | (refine Ext.al ?_ _) | (refine Ext.dw ?_) | (refine Ext.set ?_ (by first | omega | (simp only [World.size_alloc, size_setRow, dw_size]; omega)) _) | (refine Ext.tr ?_ (by assumption))))))) (hb.mono (Ext.keep (by (repeat (first | exact Ext.rfl | assumption | (refine Ext.al ?_ _) | (refine Ext.dw ?_) | (refine Ext.set ?_ (by first | omega | (simp only [World.size_alloc, size_setRow, dw_size]; omega)) _) | (refine Ext.tr ?_ (by assumption)))))))) ?_
  rintro ⟨_, w2⟩ ⟨rfl, hE2⟩
  have hs2 := hE2.size
  simp (disch := first | omega | (simp only [World.size_alloc, size_setRow, dw_size]; done) | (simp only [World.size_alloc, size_setRow, dw_size]; omega) | (simp only [List.length_set, Array.length_toList]; omega)) [-Option.bind_some, hp_alloc_lt, hp_alloc_eq, hp_set_ne, hE2.blk, hE.blk]
  (repeat (first | exact Ext.rfl | assumption | (refine Ext.al ?_ _) | (refine Ext.dw ?_) | (refine Ext.set ?_ (by first | omega | (simp only [World.size_alloc, size_setRow, dw_size]; omega)) _) | (refine Ext.tr ?_ (by assumption))))
theorem laws_eqVerS_l {s u : Value} {vs : List Ver} : ∀ (d k : Nat) (e : Env) (w : World), k + d = vs.length → e 0 = s → e 1 = u → e 5 = i64 k →
    rVers w s vs → rVers w u vs → Ret (laws_eqVerS_l1 e w) fun r => r.1 = .bool true ∧ Ext w r.2 := by
  intro d
  induction d with
  | zero =>
    intro k e w hd h0 h1 h5 ha hb
    obtain ⟨aa, ca, hs, hm⟩ := ha.len
    rw [laws_eqVerS_l1_eq]
    subst hs
    simp (disch := first | omega | (simp only [World.size_alloc, size_setRow, dw_size]; done) | (simp only [World.size_alloc, size_setRow, dw_size]; omega) | (simp only [List.length_set, Array.length_toList]; omega)) [-Option.bind_some, hp_alloc_lt, hp_alloc_eq, hp_set_ne, h0, h1, h5, show ¬ k < vs.length by omega, show vs.length ≤ k by omega]
    (repeat (first | exact Ext.rfl | assumption | (refine Ext.al ?_ _) | (refine Ext.dw ?_) | (refine Ext.set ?_ (by first | omega | (simp only [World.size_alloc, size_setRow, dw_size]; omega)) _) | (refine Ext.tr ?_ (by assumption))))
  | succ d ih =>
    intro k e w hd h0 h1 h5 ha hb
    obtain ⟨aa, ca, hs, hm⟩ := ha.len
    rw [laws_eqVerS_l1_eq]
    have hlt : k < vs.length := by omega
    obtain ⟨v, hv, hdx⟩ := drop_at hlt
    obtain ⟨b1, o1, c1, cs, hs1, hA, hcs⟩ := ha.at hv
    obtain ⟨b2, o2, c2, ds, hs2, hB, hds⟩ := hb.at hv
    have hcs' := hcs
    have hds' := hds
    have hla := At.ld (P := P) (t := 48) (by kernel_rfl) (by rw [hcs.length]; kernel_rfl) (hA.mono (w' := dw w) (Ext.keep (by (repeat (first | exact Ext.rfl | assumption | (refine Ext.al ?_ _) | (refine Ext.dw ?_) | (refine Ext.set ?_ (by first | omega | (simp only [World.size_alloc, size_setRow, dw_size]; omega)) _) | (refine Ext.tr ?_ (by assumption)))))))
    have hlb := At.ld (P := P) (t := 48) (by kernel_rfl) (by rw [hds.length]; kernel_rfl) (hB.mono (w' := dw w) (Ext.keep (by (repeat (first | exact Ext.rfl | assumption | (refine Ext.al ?_ _) | (refine Ext.dw ?_) | (refine Ext.set ?_ (by first | omega | (simp only [World.size_alloc, size_setRow, dw_size]; omega)) _) | (refine Ext.tr ?_ (by assumption)))))))
    subst hs1
    subst hs2
    simp (disch := first | omega | (simp only [World.size_alloc, size_setRow, dw_size]; done) | (simp only [World.size_alloc, size_setRow, dw_size]; omega) | (simp only [List.length_set, Array.length_toList]; omega)) [-Option.bind_some, hp_alloc_lt, hp_alloc_eq, hp_set_ne, h0, h1, h5, hlt, ia_55, hla, hlb, -ld_48]
    refine Ret.bind (laws_eqVer_c (hcs.mono (Ext.keep (by (repeat (first | exact Ext.rfl | assumption | (refine Ext.al ?_ _) | (refine Ext.dw ?_) | (refine Ext.set ?_ (by first | omega | (simp only [World.size_alloc, size_setRow, dw_size]; omega)) _) | (refine Ext.tr ?_ (by assumption))))))) (hds.mono (Ext.keep (by (repeat (first | exact Ext.rfl | assumption | (refine Ext.al ?_ _) | (refine Ext.dw ?_) | (refine Ext.set ?_ (by first | omega | (simp only [World.size_alloc, size_setRow, dw_size]; omega)) _) | (refine Ext.tr ?_ (by assumption)))))))) ?_
    rintro ⟨_, w1⟩ ⟨rfl, hE⟩
    simp (disch := first | omega | (simp only [World.size_alloc, size_setRow, dw_size]; done) | (simp only [World.size_alloc, size_setRow, dw_size]; omega) | (simp only [List.length_set, Array.length_toList]; omega)) [-Option.bind_some, hp_alloc_lt, hp_alloc_eq, hp_set_ne]
    refine Ret.mono (ih (k + 1) _ w1 (by omega) h0 h1 (congrArg i64 (w64 (by omega) (by omega))) (ha.mono (Ext.keep (by (repeat (first | exact Ext.rfl | assumption | (refine Ext.al ?_ _) | (refine Ext.dw ?_) | (refine Ext.set ?_ (by first | omega | (simp only [World.size_alloc, size_setRow, dw_size]; omega)) _) | (refine Ext.tr ?_ (by assumption))))))) (hb.mono (Ext.keep (by (repeat (first | exact Ext.rfl | assumption | (refine Ext.al ?_ _) | (refine Ext.dw ?_) | (refine Ext.set ?_ (by first | omega | (simp only [World.size_alloc, size_setRow, dw_size]; omega)) _) | (refine Ext.tr ?_ (by assumption)))))))) ?_
    rintro r ⟨h3, h4⟩
    exact ⟨by simp [h3], by (repeat (first | exact Ext.rfl | assumption | (refine Ext.al ?_ _) | (refine Ext.dw ?_) | (refine Ext.set ?_ (by first | omega | (simp only [World.size_alloc, size_setRow, dw_size]; omega)) _) | (refine Ext.tr ?_ (by assumption))))⟩
theorem laws_eqVerS_c {s u : Value} {vs : List Ver} {w : World} (ha : rVers w s vs) (hb : rVers w u vs) : Ret (EV P 133 #[s, u] w) fun r => r.1 = .bool true ∧ Ext w r.2 := by
  have ha' := ha
  have hb' := hb
  obtain ⟨aa, ca, hs, hm⟩ := ha.len
  obtain ⟨ab, cb, hu, _⟩ := hb.len
  subst hs
  subst hu
  refine Ret.enter plain mixed (laws_eqVerS_fn _ _ _) (by kernel_rfl) (n := 2) (by kernel_rfl) rfl ?_
  simp (disch := first | omega | (simp only [World.size_alloc, size_setRow, dw_size]; done) | (simp only [World.size_alloc, size_setRow, dw_size]; omega) | (simp only [List.length_set, Array.length_toList]; omega)) [-Option.bind_some, hp_alloc_lt, hp_alloc_eq, hp_set_ne]
  exact laws_eqVerS_l vs.length 0 _ w (by omega) rfl rfl rfl ha' hb'
theorem laws_eqStore_c {s u : Value} {vs : List Ver} {w : World} (ha : rVers w s vs) (hb : rVers w u vs) : Ret (EV P 132 #[.agg #[s], .agg #[u]] w) fun r => r.1 = .bool true ∧ Ext w r.2 := by
  obtain ⟨aa, ca, hs, hm⟩ := ha.len
  obtain ⟨ab, cb, hu, _⟩ := hb.len
  subst hs
  subst hu
  refine Ret.enter plain mixed (laws_eqStore_fn _ _ _) (by kernel_rfl) (n := 2) (by kernel_rfl) rfl ?_
  simp (disch := first | omega | (simp only [World.size_alloc, size_setRow, dw_size]; done) | (simp only [World.size_alloc, size_setRow, dw_size]; omega) | (simp only [List.length_set, Array.length_toList]; omega)) [-Option.bind_some, hp_alloc_lt, hp_alloc_eq, hp_set_ne]
  refine Ret.bind (laws_eqVerS_c (ha.mono (Ext.keep (by (repeat (first | exact Ext.rfl | assumption | (refine Ext.al ?_ _) | (refine Ext.dw ?_) | (refine Ext.set ?_ (by first | omega | (simp only [World.size_alloc, size_setRow, dw_size]; omega)) _) | (refine Ext.tr ?_ (by assumption))))))) (hb.mono (Ext.keep (by (repeat (first | exact Ext.rfl | assumption | (refine Ext.al ?_ _) | (refine Ext.dw ?_) | (refine Ext.set ?_ (by first | omega | (simp only [World.size_alloc, size_setRow, dw_size]; omega)) _) | (refine Ext.tr ?_ (by assumption)))))))) ?_
  rintro ⟨_, w1⟩ ⟨rfl, hE⟩
  simp (disch := first | omega | (simp only [World.size_alloc, size_setRow, dw_size]; done) | (simp only [World.size_alloc, size_setRow, dw_size]; omega) | (simp only [List.length_set, Array.length_toList]; omega)) [-Option.bind_some, hp_alloc_lt, hp_alloc_eq, hp_set_ne]
  (repeat (first | exact Ext.rfl | assumption | (refine Ext.al ?_ _) | (refine Ext.dw ?_) | (refine Ext.set ?_ (by first | omega | (simp only [World.size_alloc, size_setRow, dw_size]; omega)) _) | (refine Ext.tr ?_ (by assumption))))
theorem laws_szVer_c (n : Int) (h0 : -1 ≤ n) (h1 : n ≤ 1048576) {cs : List Value} {v : Ver} {w : World} (ha : rVer w cs v) : Ret (EV P 152 #[.agg cs.toArray, i64 n] w) fun r => ∃ m, r.1 = i64 m ∧ -1 ≤ m ∧ m ≤ 1048576 ∧ (0 ≤ m → m + v.past.length ≤ n) ∧ Ext w r.2 := by
  obtain ⟨s, rfl, ha, ht⟩ := ha
  obtain ⟨aa, ca, hs, hm⟩ := ha.len
  subst hs
  refine Ret.enter plain mixed (laws_szVer_fn _ _ _) (by kernel_rfl) (n := 2) (by kernel_rfl) rfl ?_
  simp (disch := first | omega | (simp only [World.size_alloc, size_setRow, dw_size]; done) | (simp only [World.size_alloc, size_setRow, dw_size]; omega) | (simp only [List.length_set, Array.length_toList]; omega)) [-Option.bind_some, hp_alloc_lt, hp_alloc_eq, hp_set_ne]
  refine Ret.bind (laws_szPast_c n h0 h1 (ha.mono (Ext.keep (by (repeat (first | exact Ext.rfl | assumption | (refine Ext.al ?_ _) | (refine Ext.dw ?_) | (refine Ext.set ?_ (by first | omega | (simp only [World.size_alloc, size_setRow, dw_size]; omega)) _) | (refine Ext.tr ?_ (by assumption)))))))) ?_
  rintro ⟨_, w1⟩ ⟨m, rfl, h2, h3, h4, hE⟩
  have hs := hE.size
  simp only [World.size_alloc] at hs
  by_cases h : m < 0
  · simp (disch := first | omega | (simp only [World.size_alloc, size_setRow, dw_size]; done) | (simp only [World.size_alloc, size_setRow, dw_size]; omega) | (simp only [List.length_set, Array.length_toList]; omega)) [-Option.bind_some, hp_alloc_lt, hp_alloc_eq, hp_set_ne, h]
    exact by (repeat (first | exact Ext.rfl | assumption | (refine Ext.al ?_ _) | (refine Ext.dw ?_) | (refine Ext.set ?_ (by first | omega | (simp only [World.size_alloc, size_setRow, dw_size]; omega)) _) | (refine Ext.tr ?_ (by assumption))))
  · simp (disch := first | omega | (simp only [World.size_alloc, size_setRow, dw_size]; done) | (simp only [World.size_alloc, size_setRow, dw_size]; omega) | (simp only [List.length_set, Array.length_toList]; omega)) [-Option.bind_some, hp_alloc_lt, hp_alloc_eq, hp_set_ne, h, hE.blk]
    rw [w64 (by omega) (by omega)]
    by_cases h' : m - v.text.size < 0
    · simp (disch := first | omega | (simp only [World.size_alloc, size_setRow, dw_size]; done) | (simp only [World.size_alloc, size_setRow, dw_size]; omega) | (simp only [List.length_set, Array.length_toList]; omega)) [-Option.bind_some, hp_alloc_lt, hp_alloc_eq, hp_set_ne, h']
      (repeat (first | exact Ext.rfl | assumption | (refine Ext.al ?_ _) | (refine Ext.dw ?_) | (refine Ext.set ?_ (by first | omega | (simp only [World.size_alloc, size_setRow, dw_size]; omega)) _) | (refine Ext.tr ?_ (by assumption))))
    · simp (disch := first | omega | (simp only [World.size_alloc, size_setRow, dw_size]; done) | (simp only [World.size_alloc, size_setRow, dw_size]; omega) | (simp only [List.length_set, Array.length_toList]; omega)) [-Option.bind_some, hp_alloc_lt, hp_alloc_eq, hp_set_ne, h']
      exact ⟨by omega, by omega, fun _ => by have := h4 (by omega); omega, by (repeat (first | exact Ext.rfl | assumption | (refine Ext.al ?_ _) | (refine Ext.dw ?_) | (refine Ext.set ?_ (by first | omega | (simp only [World.size_alloc, size_setRow, dw_size]; omega)) _) | (refine Ext.tr ?_ (by assumption))))⟩
theorem laws_szVerS_l {s : Value} {vs : List Ver} : ∀ (d k : Nat) (e : Env) (w : World) (n : Int), k + d = vs.length → e 0 = s → e 1 = i64 n → -1 ≤ n → n ≤ 1048576 → e 5 = i64 k →
    rVers w s vs → Ret (laws_szVerS_l1 e w) fun r => ∃ m, r.1 = i64 m ∧ -1 ≤ m ∧ m ≤ 1048576 ∧ (0 ≤ m → m + pastSum (vs.drop k) ≤ n) ∧ Ext w r.2 := by
  intro d
  induction d with
  | zero =>
    intro k e w n hd h0 h1 hn0 hn1 h5 ha
    obtain ⟨aa, ca, hs, hm⟩ := ha.len
    rw [laws_szVerS_l1_eq]
    subst hs
    simp (disch := first | omega | (simp only [World.size_alloc, size_setRow, dw_size]; done) | (simp only [World.size_alloc, size_setRow, dw_size]; omega) | (simp only [List.length_set, Array.length_toList]; omega)) [-Option.bind_some, hp_alloc_lt, hp_alloc_eq, hp_set_ne, h0, h1, h5, show ¬ k < vs.length by omega, show vs.length ≤ k by omega]
    rw [List.drop_eq_nil_of_le (by omega)]
    exact ⟨hn0, hn1, fun _ => by simp [pastSum], by (repeat (first | exact Ext.rfl | assumption | (refine Ext.al ?_ _) | (refine Ext.dw ?_) | (refine Ext.set ?_ (by first | omega | (simp only [World.size_alloc, size_setRow, dw_size]; omega)) _) | (refine Ext.tr ?_ (by assumption))))⟩
  | succ d ih =>
    intro k e w n hd h0 h1 hn0 hn1 h5 ha
    obtain ⟨aa, ca, hs, hm⟩ := ha.len
    rw [laws_szVerS_l1_eq]
    have hlt : k < vs.length := by omega
    obtain ⟨v, hv, hdx⟩ := drop_at hlt
    obtain ⟨b1, o1, c1, cs, hs1, hA, hcs⟩ := ha.at hv
    have hla := At.ld (P := P) (t := 146) (by kernel_rfl) (by rw [hcs.length]; kernel_rfl) hA
    subst hs1
    rw [hdx]
    simp (disch := first | omega | (simp only [World.size_alloc, size_setRow, dw_size]; done) | (simp only [World.size_alloc, size_setRow, dw_size]; omega) | (simp only [List.length_set, Array.length_toList]; omega)) [-Option.bind_some, hp_alloc_lt, hp_alloc_eq, hp_set_ne, h0, h1, h5, hlt, ia_109, hla, -ld_146]
    refine Ret.bind (laws_szVer_c n hn0 hn1 hcs) ?_
    rintro ⟨_, w1⟩ ⟨m, rfl, h2, h3, hw, hE⟩
    by_cases h : m < 0
    · simp (disch := first | omega | (simp only [World.size_alloc, size_setRow, dw_size]; done) | (simp only [World.size_alloc, size_setRow, dw_size]; omega) | (simp only [List.length_set, Array.length_toList]; omega)) [-Option.bind_some, hp_alloc_lt, hp_alloc_eq, hp_set_ne, h]
      exact by (repeat (first | exact Ext.rfl | assumption | (refine Ext.al ?_ _) | (refine Ext.dw ?_) | (refine Ext.set ?_ (by first | omega | (simp only [World.size_alloc, size_setRow, dw_size]; omega)) _) | (refine Ext.tr ?_ (by assumption))))
    · simp (disch := first | omega | (simp only [World.size_alloc, size_setRow, dw_size]; done) | (simp only [World.size_alloc, size_setRow, dw_size]; omega) | (simp only [List.length_set, Array.length_toList]; omega)) [-Option.bind_some, hp_alloc_lt, hp_alloc_eq, hp_set_ne, h]
      refine Ret.mono (ih (k + 1) _ w1 m (by omega) h0 rfl h2 h3 (congrArg i64 (w64 (by omega) (by omega))) (ha.mono (Ext.keep (by (repeat (first | exact Ext.rfl | assumption | (refine Ext.al ?_ _) | (refine Ext.dw ?_) | (refine Ext.set ?_ (by first | omega | (simp only [World.size_alloc, size_setRow, dw_size]; omega)) _) | (refine Ext.tr ?_ (by assumption)))))))) ?_
      rintro r ⟨m', h3, h4, h5, h7, h6⟩
      exact ⟨m', h3, h4, h5, fun hm' => by have := h7 hm'; have := hw (by omega); simp only [pastSum]; omega, by (repeat (first | exact Ext.rfl | assumption | (refine Ext.al ?_ _) | (refine Ext.dw ?_) | (refine Ext.set ?_ (by first | omega | (simp only [World.size_alloc, size_setRow, dw_size]; omega)) _) | (refine Ext.tr ?_ (by assumption))))⟩
theorem laws_szVerS_c (n : Int) (h0 : -1 ≤ n) (h1 : n ≤ 1048576) {s : Value} {vs : List Ver} {w : World} (ha : rVers w s vs) : Ret (EV P 138 #[s, i64 n] w) fun r => ∃ m, r.1 = i64 m ∧ -1 ≤ m ∧ m ≤ 1048576 ∧ (0 ≤ m → m + (vs.length + pastSum vs) ≤ n) ∧ Ext w r.2 := by
  have ha' := ha
  obtain ⟨aa, ca, hs, hm⟩ := ha.len
  subst hs
  refine Ret.enter plain mixed (laws_szVerS_fn _ _ _) (by kernel_rfl) (n := 2) (by kernel_rfl) rfl ?_
  simp (disch := first | omega | (simp only [World.size_alloc, size_setRow, dw_size]; done) | (simp only [World.size_alloc, size_setRow, dw_size]; omega) | (simp only [List.length_set, Array.length_toList]; omega)) [-Option.bind_some, hp_alloc_lt, hp_alloc_eq, hp_set_ne]
  rw [w64 (by omega) (by omega)]
  by_cases h : n - vs.length < 0
  · simp (disch := first | omega | (simp only [World.size_alloc, size_setRow, dw_size]; done) | (simp only [World.size_alloc, size_setRow, dw_size]; omega) | (simp only [List.length_set, Array.length_toList]; omega)) [-Option.bind_some, hp_alloc_lt, hp_alloc_eq, hp_set_ne, h]
    exact by (repeat (first | exact Ext.rfl | assumption | (refine Ext.al ?_ _) | (refine Ext.dw ?_) | (refine Ext.set ?_ (by first | omega | (simp only [World.size_alloc, size_setRow, dw_size]; omega)) _) | (refine Ext.tr ?_ (by assumption))))
  · simp (disch := first | omega | (simp only [World.size_alloc, size_setRow, dw_size]; done) | (simp only [World.size_alloc, size_setRow, dw_size]; omega) | (simp only [List.length_set, Array.length_toList]; omega)) [-Option.bind_some, hp_alloc_lt, hp_alloc_eq, hp_set_ne, h]
    refine Ret.mono (laws_szVerS_l vs.length 0 _ w (n - vs.length) (by omega) rfl rfl (by omega) (by omega) rfl ha') ?_
    rintro r ⟨m, h1, h2, h3, h4, h5⟩
    exact ⟨m, h1, h2, h3, fun hm' => by have := h4 hm'; simp only [List.drop_zero] at this; omega, h5⟩
theorem laws_szStore_c (n : Int) (h0 : -1 ≤ n) (h1 : n ≤ 1048576) {s : Value} {vs : List Ver} {w : World} (ha : rVers w s vs) : Ret (EV P 137 #[.agg #[s], i64 n] w) fun r => ∃ m, r.1 = i64 m ∧ -1 ≤ m ∧ m ≤ 1048576 ∧ (0 ≤ m → m + (vs.length + pastSum vs) ≤ n) ∧ Ext w r.2 := by
  obtain ⟨aa, ca, hs, hm⟩ := ha.len
  subst hs
  refine Ret.enter plain mixed (laws_szStore_fn _ _ _) (by kernel_rfl) (n := 2) (by kernel_rfl) rfl ?_
  simp (disch := first | omega | (simp only [World.size_alloc, size_setRow, dw_size]; done) | (simp only [World.size_alloc, size_setRow, dw_size]; omega) | (simp only [List.length_set, Array.length_toList]; omega)) [-Option.bind_some, hp_alloc_lt, hp_alloc_eq, hp_set_ne]
  refine Ret.bind (laws_szVerS_c n h0 h1 (ha.mono (Ext.keep (by (repeat (first | exact Ext.rfl | assumption | (refine Ext.al ?_ _) | (refine Ext.dw ?_) | (refine Ext.set ?_ (by first | omega | (simp only [World.size_alloc, size_setRow, dw_size]; omega)) _) | (refine Ext.tr ?_ (by assumption)))))))) ?_
  rintro ⟨_, w1⟩ ⟨m, rfl, h2, h3, h4, hE⟩
  by_cases h : m < 0
  · simp (disch := first | omega | (simp only [World.size_alloc, size_setRow, dw_size]; done) | (simp only [World.size_alloc, size_setRow, dw_size]; omega) | (simp only [List.length_set, Array.length_toList]; omega)) [-Option.bind_some, hp_alloc_lt, hp_alloc_eq, hp_set_ne, h]
    (repeat (first | exact Ext.rfl | assumption | (refine Ext.al ?_ _) | (refine Ext.dw ?_) | (refine Ext.set ?_ (by first | omega | (simp only [World.size_alloc, size_setRow, dw_size]; omega)) _) | (refine Ext.tr ?_ (by assumption))))
  · simp (disch := first | omega | (simp only [World.size_alloc, size_setRow, dw_size]; done) | (simp only [World.size_alloc, size_setRow, dw_size]; omega) | (simp only [List.length_set, Array.length_toList]; omega)) [-Option.bind_some, hp_alloc_lt, hp_alloc_eq, hp_set_ne, h]
    exact ⟨h2, h3, fun _ => h4 (by omega), by (repeat (first | exact Ext.rfl | assumption | (refine Ext.al ?_ _) | (refine Ext.dw ?_) | (refine Ext.set ?_ (by first | omega | (simp only [World.size_alloc, size_setRow, dw_size]; omega)) _) | (refine Ext.tr ?_ (by assumption))))⟩
end Go.Proofs.Ythicfemhpnnaaaa.X
