/- A part of the proof: an evaluator of the model, its laws, and contracts of functions; no condition. -/
import Derived.Test.YthicfemhpnnaaaaC1
set_option linter.unusedVariables false
set_option linter.unusedSimpArgs false
set_option maxRecDepth 100000
namespace Go.Proofs.Ythicfemhpnnaaaa.X
open Go Go.Ev Go.RowKit
theorem spec_l2TextOk_l {s : ByteArray} (hs : s.size ≤ 140737488351232) : ∀ (d k : Nat) (e : Env) (w : World), k + d = s.size → e 0 = .string s → e 3 = i64 k →
    Ret (spec_l2TextOk_l1 e w) fun r => r = (.bool ((s.toList.drop k).all byteOk && decide ((s.size : Int) ≤ 8)), w) := by
  intro d
  induction d with
  | zero =>
    intro k e w hd h0 h3
    rw [spec_l2TextOk_l1_eq]
    simp (disch := first | omega | (simp only [World.size_alloc, size_setRow, dw_size]; done) | (simp only [World.size_alloc, size_setRow, dw_size]; omega) | (simp only [List.length_set, Array.length_toList]; omega)) [-Option.bind_some, hp_alloc_lt, hp_alloc_eq, hp_set_ne, h0, h3, show ¬ k < s.size by omega, show s.size ≤ k by omega]
    rw [List.drop_eq_nil_of_le (by rw [byte_list]; omega)]
    simp
  | succ d ih =>
    intro k e w hd h0 h3
    rw [spec_l2TextOk_l1_eq]
    have hlt : k < s.size := by omega
    obtain ⟨b, hb, hdx⟩ := drop_at (l := s.toList) (k := k) (by rw [byte_list]; omega)
    have hix := fun w => ix_str (P := P) (t := 9) (by kernel_rfl) s (i := k) (by omega) (b := b) (by simpa using hb) w
    rw [hdx]
    cases hb1 : decide ((b.toNat : Int) < 33)
    · cases hb2 : decide ((b.toNat : Int) > 126)
      · simp (disch := first | omega | (simp only [World.size_alloc, size_setRow, dw_size]; done) | (simp only [World.size_alloc, size_setRow, dw_size]; omega) | (simp only [List.length_set, Array.length_toList]; omega)) [-Option.bind_some, hp_alloc_lt, hp_alloc_eq, hp_set_ne, h0, h3, hlt, hix, hb1, hb2]
        refine Ret.mono (ih (k + 1) _ w (by omega) h0 (congrArg i64 (w64 (by omega) (by omega)))) ?_
        rintro _ rfl
        simp only [decide_eq_false_iff_not] at hb1 hb2
        have hby : byteOk b = true := by simp only [byteOk, Bool.and_eq_true, decide_eq_true_eq]; omega
        simp [hby]
      · simp (disch := first | omega | (simp only [World.size_alloc, size_setRow, dw_size]; done) | (simp only [World.size_alloc, size_setRow, dw_size]; omega) | (simp only [List.length_set, Array.length_toList]; omega)) [-Option.bind_some, hp_alloc_lt, hp_alloc_eq, hp_set_ne, h0, h3, hlt, hix, hb1, hb2]
        simp only [decide_eq_true_eq] at hb2
        have hby : byteOk b = false := by simp only [byteOk, Bool.and_eq_false_iff, decide_eq_false_iff_not]; omega
        simp [hby]
    · simp (disch := first | omega | (simp only [World.size_alloc, size_setRow, dw_size]; done) | (simp only [World.size_alloc, size_setRow, dw_size]; omega) | (simp only [List.length_set, Array.length_toList]; omega)) [-Option.bind_some, hp_alloc_lt, hp_alloc_eq, hp_set_ne, h0, h3, hlt, hix, hb1]
      simp only [decide_eq_true_eq] at hb1
      have hby : byteOk b = false := by simp only [byteOk, Bool.and_eq_false_iff, decide_eq_false_iff_not]; omega
      simp [hby]
theorem spec_l2TextOk_c {s : ByteArray} (hs : s.size ≤ 140737488351232) (w : World) : Ret (EV P 114 #[.string s] w) fun r => r = (.bool (textOk s), w) := by
  refine Ret.enter plain mixed (spec_l2TextOk_fn _ _) (by kernel_rfl) (n := 1) (by kernel_rfl) rfl ?_
  simp (disch := first | omega | (simp only [World.size_alloc, size_setRow, dw_size]; done) | (simp only [World.size_alloc, size_setRow, dw_size]; omega) | (simp only [List.length_set, Array.length_toList]; omega)) [-Option.bind_some, hp_alloc_lt, hp_alloc_eq, hp_set_ne]
  exact spec_l2TextOk_l hs s.size 0 _ w (by omega) rfl rfl
theorem spec_l1PastOk_l {s : Value} {xs : List Tag} {b t : Nat} : ∀ (d k : Nat) (e : Env) (w : World), k + d = xs.length → e 1 = pt b 0 → e 3 = i64 k → hp w b = some (.cells #[s] t (0, 0)) → rTags w s xs →
    Ret (spec_l1PastOk_l1 e w) fun r => r.1 = .bool ((xs.drop k).all tagOk && (xs.length == 4)) ∧ Ext w r.2 := by
  intro d
  induction d with
  | zero =>
    intro k e w hd h1 h3 hx ha
    obtain ⟨aa, ca, hs, hm⟩ := ha.len
    rw [spec_l1PastOk_l1_eq]
    subst hs
    have hq : ((xs.length : Int) == 4) = (xs.length == 4) := by rw [Bool.eq_iff_iff]; simp only [beq_iff_eq]; omega
    simp (disch := first | omega | (simp only [World.size_alloc, size_setRow, dw_size]; done) | (simp only [World.size_alloc, size_setRow, dw_size]; omega) | (simp only [List.length_set, Array.length_toList]; omega)) [-Option.bind_some, hp_alloc_lt, hp_alloc_eq, hp_set_ne, h1, h3, hx, show ¬ k < xs.length by omega, show xs.length ≤ k by omega, hq]
    rw [List.drop_eq_nil_of_le (by omega)]
    exact ⟨by simp, by (repeat (first | exact Ext.rfl | assumption | (refine Ext.al ?_ _) | (refine Ext.dw ?_) | (refine Ext.set ?_ (by first | omega | (simp only [World.size_alloc, size_setRow, dw_size]; omega)) _) | (refine Ext.tr ?_ (by assumption))))⟩
  | succ d ih =>
    intro k e w hd h1 h3 hx ha
    obtain ⟨aa, ca, hs, hm⟩ := ha.len
    rw [spec_l1PastOk_l1_eq]
    have hlt : k < xs.length := by omega
    obtain ⟨x, hxk, hdx⟩ := drop_at hlt
    obtain ⟨b1, o1, c1, hs1, hA⟩ := ha.at hxk
    have p0 := hA 0 _ rfl
    have p1 := hA 1 _ rfl
    simp only [Nat.add_zero] at p0
    subst hs1
    simp (disch := first | omega | (simp only [World.size_alloc, size_setRow, dw_size]; done) | (simp only [World.size_alloc, size_setRow, dw_size]; omega) | (simp only [List.length_set, Array.length_toList]; omega)) [-Option.bind_some, hp_alloc_lt, hp_alloc_eq, hp_set_ne, h1, h3, hx, hlt, ia_33, p0, p1]
    refine Ret.bind (spec_l1TagOk_c x _) ?_
    rintro ⟨_, w1⟩ ⟨rfl, hE⟩
    cases hxo : tagOk x
    · simp (disch := first | omega | (simp only [World.size_alloc, size_setRow, dw_size]; done) | (simp only [World.size_alloc, size_setRow, dw_size]; omega) | (simp only [List.length_set, Array.length_toList]; omega)) [-Option.bind_some, hp_alloc_lt, hp_alloc_eq, hp_set_ne, hxo, hdx]
      (repeat (first | exact Ext.rfl | assumption | (refine Ext.al ?_ _) | (refine Ext.dw ?_) | (refine Ext.set ?_ (by first | omega | (simp only [World.size_alloc, size_setRow, dw_size]; omega)) _) | (refine Ext.tr ?_ (by assumption))))
    · simp (disch := first | omega | (simp only [World.size_alloc, size_setRow, dw_size]; done) | (simp only [World.size_alloc, size_setRow, dw_size]; omega) | (simp only [List.length_set, Array.length_toList]; omega)) [-Option.bind_some, hp_alloc_lt, hp_alloc_eq, hp_set_ne, hxo, hdx]
      refine Ret.mono (ih (k + 1) _ w1 (by omega) h1 (congrArg i64 (w64 (by omega) (by omega))) ((hE.blk (hp_lt hx)).trans hx) (ha.mono (Ext.keep (by (repeat (first | exact Ext.rfl | assumption | (refine Ext.al ?_ _) | (refine Ext.dw ?_) | (refine Ext.set ?_ (by first | omega | (simp only [World.size_alloc, size_setRow, dw_size]; omega)) _) | (refine Ext.tr ?_ (by assumption)))))))) ?_
      rintro r ⟨h4, h5⟩
      exact ⟨h4, by (repeat (first | exact Ext.rfl | assumption | (refine Ext.al ?_ _) | (refine Ext.dw ?_) | (refine Ext.set ?_ (by first | omega | (simp only [World.size_alloc, size_setRow, dw_size]; omega)) _) | (refine Ext.tr ?_ (by assumption))))⟩
theorem spec_l1PastOk_c {s : Value} {xs : List Tag} {w : World} (ha : rTags w s xs) : Ret (EV P 116 #[.agg #[s]] w) fun r => r.1 = .bool (pastOk xs) ∧ Ext w r.2 := by
  have ha' := ha
  obtain ⟨aa, ca, hs, hm⟩ := ha.len
  subst hs
  refine Ret.enter plain mixed (spec_l1PastOk_fn _ _) (by kernel_rfl) (n := 1) (by kernel_rfl) rfl ?_
  simp (disch := first | omega | (simp only [World.size_alloc, size_setRow, dw_size]; done) | (simp only [World.size_alloc, size_setRow, dw_size]; omega) | (simp only [List.length_set, Array.length_toList]; omega)) [-Option.bind_some, hp_alloc_lt, hp_alloc_eq, hp_set_ne]
  refine Ret.mono (spec_l1PastOk_l xs.length 0 _ _ (by omega) rfl rfl (hp_alloc_eq rfl) (ha'.mono (Ext.keep (by (repeat (first | exact Ext.rfl | assumption | (refine Ext.al ?_ _) | (refine Ext.dw ?_) | (refine Ext.set ?_ (by first | omega | (simp only [World.size_alloc, size_setRow, dw_size]; omega)) _) | (refine Ext.tr ?_ (by assumption)))))))) ?_
  rintro r ⟨h1, h2⟩
  exact ⟨h1, (Ext.al Ext.rfl _).tr h2⟩
theorem spec_l2Ok_l {v : Ver} {s : Value} {b t : Nat} (h4 : v.past.length = 4) : ∀ (d k : Nat) (e : Env) (w : World), k + d = 4 → e 1 = pt b 0 → e 3 = i64 k →
    hp w b = some (.cells #[i64 v.key, i64 v.tag.t, i64 v.tag.p, s, .string v.text, .bool v.gone] t (0, 0)) → rTags w s v.past →
    Ret (spec_l2Ok_l1 e w) fun r => r.1 = .bool ((v.past.drop k).all fun t => decide (t.t < v.tag.t)) ∧ Ext w r.2 := by
  intro d
  induction d with
  | zero =>
    intro k e w hd h1 h3 hx ha
    rw [spec_l2Ok_l1_eq]
    obtain rfl : k = 4 := by omega
    simp (disch := first | omega | (simp only [World.size_alloc, size_setRow, dw_size]; done) | (simp only [World.size_alloc, size_setRow, dw_size]; omega) | (simp only [List.length_set, Array.length_toList]; omega)) [-Option.bind_some, hp_alloc_lt, hp_alloc_eq, hp_set_ne, h1, h3, hx]
    rw [List.drop_eq_nil_of_le (by omega)]
    exact ⟨by simp, by (repeat (first | exact Ext.rfl | assumption | (refine Ext.al ?_ _) | (refine Ext.dw ?_) | (refine Ext.set ?_ (by first | omega | (simp only [World.size_alloc, size_setRow, dw_size]; omega)) _) | (refine Ext.tr ?_ (by assumption))))⟩
  | succ d ih =>
    intro k e w hd h1 h3 hx ha
    rw [spec_l2Ok_l1_eq]
    have hlt : k < v.past.length := by omega
    obtain ⟨x, hxk, hdx⟩ := drop_at hlt
    obtain ⟨b1, o1, c1, hs1, hA⟩ := ha.at hxk
    have p0 := hA 0 _ rfl
    have p1 := hA 1 _ rfl
    simp only [Nat.add_zero] at p0
    subst hs1
    cases hg : decide (x.t ≥ v.tag.t)
    · simp (disch := first | omega | (simp only [World.size_alloc, size_setRow, dw_size]; done) | (simp only [World.size_alloc, size_setRow, dw_size]; omega) | (simp only [List.length_set, Array.length_toList]; omega)) [-Option.bind_some, hp_alloc_lt, hp_alloc_eq, hp_set_ne, h1, h3, hx, hlt, h4, show (k : Int) < 4 by omega, show k < 4 by omega, ia_33, p0, p1, hdx, hg]
      refine Ret.mono (ih (k + 1) _ _ (by omega) h1 (congrArg i64 (w64 (by omega) (by omega))) (by simp (disch := first | omega | (simp only [World.size_alloc, size_setRow, dw_size]; done) | (simp only [World.size_alloc, size_setRow, dw_size]; omega) | (simp only [List.length_set, Array.length_toList]; omega)) [-Option.bind_some, hp_alloc_lt, hp_alloc_eq, hp_set_ne, hx]) (ha.mono (Ext.keep (by (repeat (first | exact Ext.rfl | assumption | (refine Ext.al ?_ _) | (refine Ext.dw ?_) | (refine Ext.set ?_ (by first | omega | (simp only [World.size_alloc, size_setRow, dw_size]; omega)) _) | (refine Ext.tr ?_ (by assumption)))))))) ?_
      rintro r ⟨h5, h6⟩
      simp only [decide_eq_false_iff_not] at hg
      exact ⟨by rw [h5]; simp [show x.t < v.tag.t by omega], (dw_ext w).tr h6⟩
    · simp (disch := first | omega | (simp only [World.size_alloc, size_setRow, dw_size]; done) | (simp only [World.size_alloc, size_setRow, dw_size]; omega) | (simp only [List.length_set, Array.length_toList]; omega)) [-Option.bind_some, hp_alloc_lt, hp_alloc_eq, hp_set_ne, h1, h3, hx, hlt, h4, show (k : Int) < 4 by omega, show k < 4 by omega, ia_33, p0, p1, hdx, hg]
      simp only [decide_eq_true_eq] at hg
      exact ⟨by simp [show ¬ x.t < v.tag.t by omega], by (repeat (first | exact Ext.rfl | assumption | (refine Ext.al ?_ _) | (refine Ext.dw ?_) | (refine Ext.set ?_ (by first | omega | (simp only [World.size_alloc, size_setRow, dw_size]; omega)) _) | (refine Ext.tr ?_ (by assumption))))⟩
theorem spec_l2Ok_c {cs : List Value} {v : Ver} {w : World} (ha : rVer w cs v) : Ret (EV P 70 #[.agg cs.toArray] w) fun r => r.1 = .bool (verOk v) ∧ Ext w r.2 := by
  obtain ⟨s, rfl, ha, ht⟩ := ha
  have ha' := ha
  obtain ⟨aa, ca, hs, hm⟩ := ha.len
  subst hs
  refine Ret.enter plain mixed (spec_l2Ok_fn _ _) (by kernel_rfl) (n := 1) (by kernel_rfl) rfl ?_
  simp (disch := first | omega | (simp only [World.size_alloc, size_setRow, dw_size]; done) | (simp only [World.size_alloc, size_setRow, dw_size]; omega) | (simp only [List.length_set, Array.length_toList]; omega)) [-Option.bind_some, hp_alloc_lt, hp_alloc_eq, hp_set_ne]
  refine Ret.bind (spec_l1In_c _ _ _ _) ?_
  rintro _ rfl
  cases hk : keyOk v.key
  · have hk' : (decide (0 ≤ v.key) && decide (v.key ≤ 3)) = false := hk
    have hv : verOk v = false := by simp [verOk, verWr, hk]
    simp (disch := first | omega | (simp only [World.size_alloc, size_setRow, dw_size]; done) | (simp only [World.size_alloc, size_setRow, dw_size]; omega) | (simp only [List.length_set, Array.length_toList]; omega)) [-Option.bind_some, hp_alloc_lt, hp_alloc_eq, hp_set_ne, hk', hv]
    (repeat (first | exact Ext.rfl | assumption | (refine Ext.al ?_ _) | (refine Ext.dw ?_) | (refine Ext.set ?_ (by first | omega | (simp only [World.size_alloc, size_setRow, dw_size]; omega)) _) | (refine Ext.tr ?_ (by assumption))))
  have hk' : (decide (0 ≤ v.key) && decide (v.key ≤ 3)) = true := hk
  simp (disch := first | omega | (simp only [World.size_alloc, size_setRow, dw_size]; done) | (simp only [World.size_alloc, size_setRow, dw_size]; omega) | (simp only [List.length_set, Array.length_toList]; omega)) [-Option.bind_some, hp_alloc_lt, hp_alloc_eq, hp_set_ne, hk']
  refine Ret.bind (spec_l2TextOk_c ht _) ?_
  rintro _ rfl
  cases hx : textOk v.text
  · have hv : verOk v = false := by simp [verOk, verWr, hx]
    simp (disch := first | omega | (simp only [World.size_alloc, size_setRow, dw_size]; done) | (simp only [World.size_alloc, size_setRow, dw_size]; omega) | (simp only [List.length_set, Array.length_toList]; omega)) [-Option.bind_some, hp_alloc_lt, hp_alloc_eq, hp_set_ne, hx, hv]
    (repeat (first | exact Ext.rfl | assumption | (refine Ext.al ?_ _) | (refine Ext.dw ?_) | (refine Ext.set ?_ (by first | omega | (simp only [World.size_alloc, size_setRow, dw_size]; omega)) _) | (refine Ext.tr ?_ (by assumption))))
  simp (disch := first | omega | (simp only [World.size_alloc, size_setRow, dw_size]; done) | (simp only [World.size_alloc, size_setRow, dw_size]; omega) | (simp only [List.length_set, Array.length_toList]; omega)) [-Option.bind_some, hp_alloc_lt, hp_alloc_eq, hp_set_ne, hx]
  refine Ret.bind (spec_l1TagOk_c v.tag _) ?_
  rintro ⟨_, w1⟩ ⟨rfl, hE⟩
  have hs := hE.size
  simp only [World.size_alloc] at hs
  cases hg : tagOk v.tag
  · have hv : verOk v = false := by simp [verOk, verWr, hg]
    simp (disch := first | omega | (simp only [World.size_alloc, size_setRow, dw_size]; done) | (simp only [World.size_alloc, size_setRow, dw_size]; omega) | (simp only [List.length_set, Array.length_toList]; omega)) [-Option.bind_some, hp_alloc_lt, hp_alloc_eq, hp_set_ne, hg, hv]
    (repeat (first | exact Ext.rfl | assumption | (refine Ext.al ?_ _) | (refine Ext.dw ?_) | (refine Ext.set ?_ (by first | omega | (simp only [World.size_alloc, size_setRow, dw_size]; omega)) _) | (refine Ext.tr ?_ (by assumption))))
  cases h0 : (v.tag.t == 0)
  case true =>
    have hv : verOk v = false := verOk_t0 h0
    simp (disch := first | omega | (simp only [World.size_alloc, size_setRow, dw_size]; done) | (simp only [World.size_alloc, size_setRow, dw_size]; omega) | (simp only [List.length_set, Array.length_toList]; omega)) [-Option.bind_some, hp_alloc_lt, hp_alloc_eq, hp_set_ne, hg, h0, hv, hE.blk]
    (repeat (first | exact Ext.rfl | assumption | (refine Ext.al ?_ _) | (refine Ext.dw ?_) | (refine Ext.set ?_ (by first | omega | (simp only [World.size_alloc, size_setRow, dw_size]; omega)) _) | (refine Ext.tr ?_ (by assumption))))
  cases hgt : (v.gone && !noText v.text)
  case true =>
    have hv : verOk v = false := by
      simp only [Bool.and_eq_true, Bool.not_eq_true'] at hgt
      simp [verOk, verWr, hgt.1, hgt.2]
    simp only [Bool.and_eq_true, Bool.not_eq_true'] at hgt
    have hgt2 := hgt.2
    unfold noText at hgt2
    simp (disch := first | omega | (simp only [World.size_alloc, size_setRow, dw_size]; done) | (simp only [World.size_alloc, size_setRow, dw_size]; omega) | (simp only [List.length_set, Array.length_toList]; omega)) [-Option.bind_some, hp_alloc_lt, hp_alloc_eq, hp_set_ne, hg, h0, hE.blk, hgt.1, hgt2, hv]
    (repeat (first | exact Ext.rfl | assumption | (refine Ext.al ?_ _) | (refine Ext.dw ?_) | (refine Ext.set ?_ (by first | omega | (simp only [World.size_alloc, size_setRow, dw_size]; omega)) _) | (refine Ext.tr ?_ (by assumption))))
  have hgt' : v.gone = false ∨ noText v.text = true := by
    cases h1 : v.gone
    · exact .inl rfl
    · right; simpa [h1] using hgt
  have hgn : (!v.gone || noText v.text) = true := by rcases hgt' with h | h <;> simp [h]
  have fin : ∀ w2, Ext w w2 → w.heap.size < w2.heap.size → rTags w2 (Value.slice aa v.past.length ca) v.past → pastOk v.past = true → ∀ e : Env, e 1 = pt w.heap.size 0 → e 3 = i64 0 →
      hp w2 w.heap.size = some (.cells #[i64 v.key, i64 v.tag.t, i64 v.tag.p, Value.slice aa v.past.length ca, .string v.text, .bool v.gone] 48 (0, 0)) →
      Ret (spec_l2Ok_l1 e w2) fun r => r.1 = .bool (verOk v) ∧ Ext w r.2 := by
    intro w2 hE2 hsz hr hp4 e h1 h3 hb
    have hlen : v.past.length = 4 := by
      unfold pastOk at hp4
      simp only [Bool.and_eq_true, beq_iff_eq] at hp4
      exact hp4.2
    refine Ret.mono (spec_l2Ok_l hlen 4 0 e w2 (by omega) h1 h3 hb hr) ?_
    rintro r ⟨h5, h6⟩
    refine ⟨?_, hE2.tr h6⟩
    rw [h5, List.drop_zero, ← latest_all hg h0]
    simp [verOk, verWr, hk, hx, hgn, hp4, hg]
  have hbx : hp w1 w.heap.size = some (.cells #[i64 v.key, i64 v.tag.t, i64 v.tag.p, Value.slice aa v.past.length ca, .string v.text, .bool v.gone] 48 (0, 0)) :=
    (hE.blk (by simp only [World.size_alloc]; omega)).trans (hp_alloc_eq rfl)
  rcases hgt' with h1 | h1
  all_goals
    try unfold noText at h1
    cases hgo : v.gone
    all_goals
      first
      | (rw [hgo] at h1; exact absurd h1 (by decide))
      | (simp (disch := first | omega | (simp only [World.size_alloc, size_setRow, dw_size]; done) | (simp only [World.size_alloc, size_setRow, dw_size]; omega) | (simp only [List.length_set, Array.length_toList]; omega)) [-Option.bind_some, hp_alloc_lt, hp_alloc_eq, hp_set_ne, hg, h0, hbx, h1, hgo]
         refine Ret.bind (spec_l1PastOk_c (ha'.mono (Ext.keep (by (repeat (first | exact Ext.rfl | assumption | (refine Ext.al ?_ _) | (refine Ext.dw ?_) | (refine Ext.set ?_ (by first | omega | (simp only [World.size_alloc, size_setRow, dw_size]; omega)) _) | (refine Ext.tr ?_ (by assumption)))))))) ?_
         rintro ⟨_, w2⟩ ⟨rfl, hE2⟩
         have hs2 : w1.heap.size ≤ w2.heap.size := hE2.size
         cases hp4 : pastOk v.past
         · have hv : verOk v = false := by simp [verOk, verWr, hp4]
           simp (disch := first | omega | (simp only [World.size_alloc, size_setRow, dw_size]; done) | (simp only [World.size_alloc, size_setRow, dw_size]; omega) | (simp only [List.length_set, Array.length_toList]; omega)) [-Option.bind_some, hp_alloc_lt, hp_alloc_eq, hp_set_ne, hp4, hv]
           (repeat (first | exact Ext.rfl | assumption | (refine Ext.al ?_ _) | (refine Ext.dw ?_) | (refine Ext.set ?_ (by first | omega | (simp only [World.size_alloc, size_setRow, dw_size]; omega)) _) | (refine Ext.tr ?_ (by assumption))))
         · simp (disch := first | omega | (simp only [World.size_alloc, size_setRow, dw_size]; done) | (simp only [World.size_alloc, size_setRow, dw_size]; omega) | (simp only [List.length_set, Array.length_toList]; omega)) [-Option.bind_some, hp_alloc_lt, hp_alloc_eq, hp_set_ne, hp4]
           exact fin w2 (by (repeat (first | exact Ext.rfl | assumption | (refine Ext.al ?_ _) | (refine Ext.dw ?_) | (refine Ext.set ?_ (by first | omega | (simp only [World.size_alloc, size_setRow, dw_size]; omega)) _) | (refine Ext.tr ?_ (by assumption))))) (by omega) (ha'.mono (Ext.keep (by (repeat (first | exact Ext.rfl | assumption | (refine Ext.al ?_ _) | (refine Ext.dw ?_) | (refine Ext.set ?_ (by first | omega | (simp only [World.size_alloc, size_setRow, dw_size]; omega)) _) | (refine Ext.tr ?_ (by assumption))))))) hp4 _ rfl rfl ((hE2.blk (hp_lt hbx)).trans hbx))
end Go.Proofs.Ythicfemhpnnaaaa.X
