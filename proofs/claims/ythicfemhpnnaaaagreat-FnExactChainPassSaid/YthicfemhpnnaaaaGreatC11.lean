/- A part of the proof: an evaluator of the model, its laws, and contracts of functions; no condition. -/
import Derived.Test.YthicfemhpnnaaaaGreatC9
set_option linter.unusedVariables false
set_option linter.unusedSimpArgs false
set_option maxRecDepth 100000
namespace Go.Proofs.YthicfemhpnnaaaaGreat.X
open Go Go.Ev Go.RowKit
theorem impl_keyOk_c (n : Int) (w : World) : Ret (EV P 119 #[i64 n] w) fun r => r = (.bool (keyOk n), w) := by
  refine Ret.enter plain mixed (impl_keyOk_fn _ _) (by kernel_rfl) (n := 1) (by kernel_rfl) rfl ?_
  simp (disch := first | omega | (simp only [World.size_alloc, size_setRow, dw_size]; done) | (simp only [World.size_alloc, size_setRow, dw_size]; omega) | (simp only [List.length_set, Array.length_toList]; omega)) [-Option.bind_some, hp_alloc_lt, hp_alloc_eq, hp_set_ne]
  refine Ret.bind (impl_within_c _ _ _ _) ?_
  rintro _ rfl
  simp (disch := first | omega | (simp only [World.size_alloc, size_setRow, dw_size]; done) | (simp only [World.size_alloc, size_setRow, dw_size]; omega) | (simp only [List.length_set, Array.length_toList]; omega)) [-Option.bind_some, hp_alloc_lt, hp_alloc_eq, hp_set_ne]
  rfl
theorem impl_textOk_l {s : ByteArray} (hs : s.size ≤ 140737488351232) : ∀ (d k : Nat) (e : Env) (w : World), k + d = s.size → e 0 = .string s → e 5 = i64 s.size → e 6 = i64 k →
    Ret (impl_textOk_l1 e w) fun r => r = (.bool ((s.toList.drop k).all byteOk && decide ((s.size : Int) ≤ 8)), w) := by
  intro d
  induction d with
  | zero =>
    intro k e w hd h0 h5 h6
    rw [impl_textOk_l1_eq]
    simp (disch := first | omega | (simp only [World.size_alloc, size_setRow, dw_size]; done) | (simp only [World.size_alloc, size_setRow, dw_size]; omega) | (simp only [List.length_set, Array.length_toList]; omega)) [-Option.bind_some, hp_alloc_lt, hp_alloc_eq, hp_set_ne, h0, h5, h6, show ¬ k < s.size by omega, show s.size ≤ k by omega]
    rw [List.drop_eq_nil_of_le (by rw [byte_list]; omega)]
    simp
  | succ d ih =>
    intro k e w hd h0 h5 h6
    rw [impl_textOk_l1_eq]
    have hlt : k < s.size := by omega
    obtain ⟨b, hb, hdx⟩ := drop_at (l := s.toList) (k := k) (by rw [byte_list]; omega)
    have hix := fun w => ix_str (P := P) (t := 9) (by kernel_rfl) s (i := k) (by omega) (b := b) (by simpa using hb) w
    have hby : b.toNat < 256 := UInt8.toNat_lt b
    rw [hdx]
    simp (disch := first | omega | (simp only [World.size_alloc, size_setRow, dw_size]; done) | (simp only [World.size_alloc, size_setRow, dw_size]; omega) | (simp only [List.length_set, Array.length_toList]; omega)) [-Option.bind_some, hp_alloc_lt, hp_alloc_eq, hp_set_ne, h0, h5, h6, hlt, hix]
    rw [w64 (by omega) (by omega)]
    refine Ret.bind (impl_within_c _ _ _ _) ?_
    rintro _ rfl
    cases hk : byteOk b
    · have hk' : (decide (33 ≤ (b.toNat : Int)) && decide ((b.toNat : Int) ≤ 126)) = false := hk
      simp (disch := first | omega | (simp only [World.size_alloc, size_setRow, dw_size]; done) | (simp only [World.size_alloc, size_setRow, dw_size]; omega) | (simp only [List.length_set, Array.length_toList]; omega)) [-Option.bind_some, hp_alloc_lt, hp_alloc_eq, hp_set_ne, hk', hk]
    · have hk' : (decide (33 ≤ (b.toNat : Int)) && decide ((b.toNat : Int) ≤ 126)) = true := hk
      simp (disch := first | omega | (simp only [World.size_alloc, size_setRow, dw_size]; done) | (simp only [World.size_alloc, size_setRow, dw_size]; omega) | (simp only [List.length_set, Array.length_toList]; omega)) [-Option.bind_some, hp_alloc_lt, hp_alloc_eq, hp_set_ne, hk', h6]
      refine Ret.mono (ih (k + 1) _ w (by omega) h0 h5 (congrArg i64 (w64 (by omega) (by omega)))) ?_
      rintro _ rfl
      simp [hk]
theorem impl_textOk_c {s : ByteArray} (hs : s.size ≤ 140737488351232) (w : World) : Ret (EV P 120 #[.string s] w) fun r => r = (.bool (textOk s), w) := by
  refine Ret.enter plain mixed (impl_textOk_fn _ _) (by kernel_rfl) (n := 1) (by kernel_rfl) rfl ?_
  simp (disch := first | omega | (simp only [World.size_alloc, size_setRow, dw_size]; done) | (simp only [World.size_alloc, size_setRow, dw_size]; omega) | (simp only [List.length_set, Array.length_toList]; omega)) [-Option.bind_some, hp_alloc_lt, hp_alloc_eq, hp_set_ne]
  exact impl_textOk_l hs s.size 0 _ w (by omega) rfl rfl rfl
theorem slices_IndexFunc_Tag_l {s f : Value} {xs : List Tag} {p : Tag → Bool} {w0 : World} (hf : ∀ x ∈ xs, ∀ w, Ext w0 w → Ret (clo P f #[x.v] w) fun r => r.1 = .bool (p x) ∧ Ext w r.2) :
    ∀ (d k : Nat) (e : Env) (w : World), k + d = xs.length → e 0 = s → e 1 = f → e 7 = i64 xs.length → e 8 = i64 k → rTags w0 s xs → Ext w0 w →
    Ret (slices_IndexFunc_Tag_l1 e w) fun r => ∃ i : Int, r.1 = i64 i ∧ decide (0 ≤ i) = (xs.drop k).any p ∧ Ext w0 r.2 := by
  intro d
  induction d with
  | zero =>
    intro k e w hd h0 h1 h7 h8 ha hE
    rw [slices_IndexFunc_Tag_l1_eq]
    simp (disch := first | omega | (simp only [World.size_alloc, size_setRow, dw_size]; done) | (simp only [World.size_alloc, size_setRow, dw_size]; omega) | (simp only [List.length_set, Array.length_toList]; omega)) [-Option.bind_some, hp_alloc_lt, hp_alloc_eq, hp_set_ne, h0, h1, h7, h8, show ¬ k < xs.length by omega, show xs.length ≤ k by omega]
    rw [List.drop_eq_nil_of_le (by omega)]
    exact ⟨by simp, hE⟩
  | succ d ih =>
    intro k e w hd h0 h1 h7 h8 ha hE
    obtain ⟨aa, ca, hs, hm⟩ := ha.len
    rw [slices_IndexFunc_Tag_l1_eq]
    have hlt : k < xs.length := by omega
    obtain ⟨x, hx, hdx⟩ := drop_at hlt
    obtain ⟨b1, o1, c1, hs1, hA0⟩ := ha.at hx
    have hA := hA0.mono (Ext.keep hE)
    have p0 := hA 0 _ rfl
    have p1 := hA 1 _ rfl
    simp only [Nat.add_zero] at p0
    rw [hdx]
    subst hs1
    simp (disch := first | omega | (simp only [World.size_alloc, size_setRow, dw_size]; done) | (simp only [World.size_alloc, size_setRow, dw_size]; omega) | (simp only [List.length_set, Array.length_toList]; omega)) [-Option.bind_some, hp_alloc_lt, hp_alloc_eq, hp_set_ne, h0, h1, h7, h8, hlt, ia_41, p0, p1]
    refine Ret.bind (hf x (List.mem_of_getElem? hx) _ hE) ?_
    rintro ⟨_, w1⟩ ⟨rfl, hE1⟩
    cases hp : p x
    · simp (disch := first | omega | (simp only [World.size_alloc, size_setRow, dw_size]; done) | (simp only [World.size_alloc, size_setRow, dw_size]; omega) | (simp only [List.length_set, Array.length_toList]; omega)) [-Option.bind_some, hp_alloc_lt, hp_alloc_eq, hp_set_ne, hp, h8]
      refine Ret.mono (ih (k + 1) _ w1 (by omega) h0 h1 h7 (congrArg i64 (w64 (by omega) (by omega))) ha (hE.tr hE1)) ?_
      rintro r ⟨i, h2, h3, h4⟩
      exact ⟨i, h2, by simpa [hp] using h3, h4⟩
    · simp (disch := first | omega | (simp only [World.size_alloc, size_setRow, dw_size]; done) | (simp only [World.size_alloc, size_setRow, dw_size]; omega) | (simp only [List.length_set, Array.length_toList]; omega)) [-Option.bind_some, hp_alloc_lt, hp_alloc_eq, hp_set_ne, hp]
      exact hE.tr hE1
theorem slices_ContainsFunc_Tag_c {s f : Value} {xs : List Tag} {p : Tag → Bool} {w : World} (ha : rTags w s xs) (hf : ∀ x ∈ xs, ∀ w', Ext w w' → Ret (clo P f #[x.v] w') fun r => r.1 = .bool (p x) ∧ Ext w' r.2) :
    Ret (EV P 93 #[s, f] w) fun r => r.1 = .bool (xs.any p) ∧ Ext w r.2 := by
  have ha' := ha
  obtain ⟨aa, ca, hs, hm⟩ := ha.len
  subst hs
  have hi : Ret (EV P 126 #[.slice aa xs.length ca, f] w) fun r => ∃ i : Int, r.1 = i64 i ∧ decide (0 ≤ i) = xs.any p ∧ Ext w r.2 := by
    refine Ret.enter plain mixed (slices_IndexFunc_Tag_fn _ _ _) (by kernel_rfl) (n := 2) (by kernel_rfl) rfl ?_
    simp (disch := first | omega | (simp only [World.size_alloc, size_setRow, dw_size]; done) | (simp only [World.size_alloc, size_setRow, dw_size]; omega) | (simp only [List.length_set, Array.length_toList]; omega)) [-Option.bind_some, hp_alloc_lt, hp_alloc_eq, hp_set_ne]
    exact slices_IndexFunc_Tag_l hf xs.length 0 _ w (by omega) rfl rfl rfl rfl ha' Ext.rfl
  refine Ret.enter plain mixed (slices_ContainsFunc_Tag_fn _ _ _) (by kernel_rfl) (n := 2) (by kernel_rfl) rfl ?_
  simp (disch := first | omega | (simp only [World.size_alloc, size_setRow, dw_size]; done) | (simp only [World.size_alloc, size_setRow, dw_size]; omega) | (simp only [List.length_set, Array.length_toList]; omega)) [-Option.bind_some, hp_alloc_lt, hp_alloc_eq, hp_set_ne]
  refine Ret.bind hi ?_
  rintro ⟨_, w1⟩ ⟨i, rfl, h2, hE⟩
  simp (disch := first | omega | (simp only [World.size_alloc, size_setRow, dw_size]; done) | (simp only [World.size_alloc, size_setRow, dw_size]; omega) | (simp only [List.length_set, Array.length_toList]; omega)) [-Option.bind_some, hp_alloc_lt, hp_alloc_eq, hp_set_ne, h2]
  exact hE
theorem impl_PastOk_1_c (x : Tag) (w : World) : Ret (EV P 94 #[x.v] w) fun r => r.1 = .bool (!tagOk x) ∧ Ext w r.2 := by
  refine Ret.enter plain mixed (impl_PastOk_1_fn _ _) (by kernel_rfl) (n := 1) (by kernel_rfl) rfl ?_
  simp (disch := first | omega | (simp only [World.size_alloc, size_setRow, dw_size]; done) | (simp only [World.size_alloc, size_setRow, dw_size]; omega) | (simp only [List.length_set, Array.length_toList]; omega)) [-Option.bind_some, hp_alloc_lt, hp_alloc_eq, hp_set_ne]
  refine Ret.bind (impl_TagOk_c x _) ?_
  rintro ⟨_, w1⟩ ⟨rfl, hE⟩
  simp (disch := first | omega | (simp only [World.size_alloc, size_setRow, dw_size]; done) | (simp only [World.size_alloc, size_setRow, dw_size]; omega) | (simp only [List.length_set, Array.length_toList]; omega)) [-Option.bind_some, hp_alloc_lt, hp_alloc_eq, hp_set_ne]
  (repeat (first | exact Ext.rfl | assumption | (refine Ext.al ?_ _) | (refine Ext.dw ?_) | (refine Ext.set ?_ (by first | omega | (simp only [World.size_alloc, size_setRow, dw_size]; omega)) _) | (refine Ext.tr ?_ (by assumption))))
theorem impl_PastOk_c {s : Value} {xs : List Tag} {w : World} (ha : rTags w s xs) : Ret (EV P 48 #[.agg #[s]] w) fun r => r.1 = .bool (pastOk xs) ∧ Ext w r.2 := by
  have ha' := ha
  obtain ⟨aa, ca, hs, hm⟩ := ha.len
  subst hs
  refine Ret.enter plain mixed (impl_PastOk_fn _ _) (by kernel_rfl) (n := 1) (by kernel_rfl) rfl ?_
  have hq : ((xs.length : Int) == 4) = (xs.length == 4) := by rw [Bool.eq_iff_iff]; simp only [beq_iff_eq]; omega
  cases h4 : (xs.length == 4)
  · simp (disch := first | omega | (simp only [World.size_alloc, size_setRow, dw_size]; done) | (simp only [World.size_alloc, size_setRow, dw_size]; omega) | (simp only [List.length_set, Array.length_toList]; omega)) [-Option.bind_some, hp_alloc_lt, hp_alloc_eq, hp_set_ne, hq, h4, pastOk]
    (repeat (first | exact Ext.rfl | assumption | (refine Ext.al ?_ _) | (refine Ext.dw ?_) | (refine Ext.set ?_ (by first | omega | (simp only [World.size_alloc, size_setRow, dw_size]; omega)) _) | (refine Ext.tr ?_ (by assumption))))
  · simp (disch := first | omega | (simp only [World.size_alloc, size_setRow, dw_size]; done) | (simp only [World.size_alloc, size_setRow, dw_size]; omega) | (simp only [List.length_set, Array.length_toList]; omega)) [-Option.bind_some, hp_alloc_lt, hp_alloc_eq, hp_set_ne, hq, h4]
    refine Ret.bind (slices_ContainsFunc_Tag_c (p := fun x => !tagOk x) (ha'.mono (Ext.keep (by (repeat (first | exact Ext.rfl | assumption | (refine Ext.al ?_ _) | (refine Ext.dw ?_) | (refine Ext.set ?_ (by first | omega | (simp only [World.size_alloc, size_setRow, dw_size]; omega)) _) | (refine Ext.tr ?_ (by assumption))))))) ?_) ?_
    · intro x _ w' _
      rw [clo_eq (P := P) (g := 94) (by kernel_rfl) [] [] [x.v] w']
      exact impl_PastOk_1_c x w'
    rintro ⟨_, w1⟩ ⟨rfl, hE⟩
    simp (disch := first | omega | (simp only [World.size_alloc, size_setRow, dw_size]; done) | (simp only [World.size_alloc, size_setRow, dw_size]; omega) | (simp only [List.length_set, Array.length_toList]; omega)) [-Option.bind_some, hp_alloc_lt, hp_alloc_eq, hp_set_ne]
    refine ⟨?_, by (repeat (first | exact Ext.rfl | assumption | (refine Ext.al ?_ _) | (refine Ext.dw ?_) | (refine Ext.set ?_ (by first | omega | (simp only [World.size_alloc, size_setRow, dw_size]; omega)) _) | (refine Ext.tr ?_ (by assumption))))⟩
    simp only [pastOk, h4, Bool.and_true]
    rw [Bool.eq_iff_iff]
    simp
theorem impl_Past_latest_l {s : Value} {xs : List Tag} : ∀ (d k : Nat) (e : Env) (w : World) (m : Int), k + d = xs.length → e 3 = i64 m → e 7 = s → e 8 = i64 xs.length → e 9 = i64 k → rTags w s xs →
    Ret (impl_Past_latest_l1 e w) fun r => r.1 = i64 (latest m (xs.drop k)) ∧ Ext w r.2 := by
  intro d
  induction d with
  | zero =>
    intro k e w m hd h3 h7 h8 h9 ha
    rw [impl_Past_latest_l1_eq]
    simp (disch := first | omega | (simp only [World.size_alloc, size_setRow, dw_size]; done) | (simp only [World.size_alloc, size_setRow, dw_size]; omega) | (simp only [List.length_set, Array.length_toList]; omega)) [-Option.bind_some, hp_alloc_lt, hp_alloc_eq, hp_set_ne, h3, h7, h8, h9, show ¬ k < xs.length by omega, show xs.length ≤ k by omega]
    rw [List.drop_eq_nil_of_le (by omega)]
    exact ⟨rfl, by (repeat (first | exact Ext.rfl | assumption | (refine Ext.al ?_ _) | (refine Ext.dw ?_) | (refine Ext.set ?_ (by first | omega | (simp only [World.size_alloc, size_setRow, dw_size]; omega)) _) | (refine Ext.tr ?_ (by assumption))))⟩
  | succ d ih =>
    intro k e w m hd h3 h7 h8 h9 ha
    obtain ⟨aa, ca, hs, hm⟩ := ha.len
    rw [impl_Past_latest_l1_eq]
    have hlt : k < xs.length := by omega
    obtain ⟨x, hx, hdx⟩ := drop_at hlt
    obtain ⟨b1, o1, c1, hs1, hA⟩ := ha.at hx
    have p0 := hA 0 _ rfl
    have p1 := hA 1 _ rfl
    simp only [Nat.add_zero] at p0
    rw [hdx]
    subst hs1
    simp (disch := first | omega | (simp only [World.size_alloc, size_setRow, dw_size]; done) | (simp only [World.size_alloc, size_setRow, dw_size]; omega) | (simp only [List.length_set, Array.length_toList]; omega)) [-Option.bind_some, hp_alloc_lt, hp_alloc_eq, hp_set_ne, h3, h7, h8, h9, hlt, ia_41, p0, p1, max_int]
    have hE : Ext w ((w.alloc (.cells #[i64 0, i64 0] 40)).setRow w.heap.size #[i64 x.t, i64 x.p]) := by (repeat (first | exact Ext.rfl | assumption | (refine Ext.al ?_ _) | (refine Ext.dw ?_) | (refine Ext.set ?_ (by first | omega | (simp only [World.size_alloc, size_setRow, dw_size]; omega)) _) | (refine Ext.tr ?_ (by assumption))))
    refine Ret.mono (ih (k + 1) _ _ (if m < x.t then x.t else m) (by omega) rfl h7 h8 (congrArg i64 (w64 (by omega) (by omega))) (ha.mono (Ext.keep hE))) ?_
    rintro r ⟨h4, h5⟩
    exact ⟨by rw [h4]; rfl, hE.tr h5⟩
theorem impl_Past_latest_c {s : Value} {xs : List Tag} {w : World} (ha : rTags w s xs) : Ret (EV P 87 #[.agg #[s]] w) fun r => r.1 = i64 (latest 0 xs) ∧ Ext w r.2 := by
  have ha' := ha
  obtain ⟨aa, ca, hs, hm⟩ := ha.len
  subst hs
  refine Ret.enter plain mixed (impl_Past_latest_fn _ _) (by kernel_rfl) (n := 1) (by kernel_rfl) rfl ?_
  simp (disch := first | omega | (simp only [World.size_alloc, size_setRow, dw_size]; done) | (simp only [World.size_alloc, size_setRow, dw_size]; omega) | (simp only [List.length_set, Array.length_toList]; omega)) [-Option.bind_some, hp_alloc_lt, hp_alloc_eq, hp_set_ne]
  refine Ret.mono (impl_Past_latest_l xs.length 0 _ _ 0 (by omega) rfl rfl rfl rfl (ha'.mono (Ext.keep (by (repeat (first | exact Ext.rfl | assumption | (refine Ext.al ?_ _) | (refine Ext.dw ?_) | (refine Ext.set ?_ (by first | omega | (simp only [World.size_alloc, size_setRow, dw_size]; omega)) _) | (refine Ext.tr ?_ (by assumption)))))))) ?_
  rintro r ⟨h1, h2⟩
  exact ⟨h1, (Ext.al Ext.rfl _).tr h2⟩
theorem slices_Equal_Tag_end (e : Env) (w : World) (h12 : e 12 = i64 0) (h13 : e 13 = i64 0) : Ret (slices_Equal_Tag_l1 e w) fun r => r = (.bool true, w) := by
  rw [slices_Equal_Tag_l1_eq]
  simp (disch := first | omega | (simp only [World.size_alloc, size_setRow, dw_size]; done) | (simp only [World.size_alloc, size_setRow, dw_size]; omega) | (simp only [List.length_set, Array.length_toList]; omega)) [-Option.bind_some, hp_alloc_lt, hp_alloc_eq, hp_set_ne, h12, h13]
theorem slices_Equal_Tag_nil {s : Value} {xs : List Tag} {w : World} (ha : rTags w s xs) : Ret (EV P 118 #[s, .slice none 0 0] w) fun r => r = (.bool (xs.length == 0), w) := by
  obtain ⟨aa, ca, hs, hm⟩ := ha.len
  subst hs
  refine Ret.enter plain mixed (slices_Equal_Tag_fn _ _ _) (by kernel_rfl) (n := 2) (by kernel_rfl) rfl ?_
  by_cases h : xs.length = 0
  · simp (disch := first | omega | (simp only [World.size_alloc, size_setRow, dw_size]; done) | (simp only [World.size_alloc, size_setRow, dw_size]; omega) | (simp only [List.length_set, Array.length_toList]; omega)) [-Option.bind_some, hp_alloc_lt, hp_alloc_eq, hp_set_ne, h]
    refine Ret.mono (slices_Equal_Tag_end _ w rfl rfl) ?_
    rintro _ rfl
    rfl
  · have hne : ((xs.length : Int) != 0) = true := by simp only [bne_iff_ne, ne_eq]; omega
    simp (disch := first | omega | (simp only [World.size_alloc, size_setRow, dw_size]; done) | (simp only [World.size_alloc, size_setRow, dw_size]; omega) | (simp only [List.length_set, Array.length_toList]; omega)) [-Option.bind_some, hp_alloc_lt, hp_alloc_eq, hp_set_ne, h, hne]
theorem impl_Ver_same_c {cs : List Value} {v : Ver} {w : World} (ha : rVer w cs v) : Ret (EV P 83 #[.agg cs.toArray, .agg #[i64 0, i64 0, i64 0, .slice none 0 0, .string ⟨#[]⟩, .bool false]] w) fun r => r.1 = .bool (verNone v) ∧ Ext w r.2 := by
  obtain ⟨s, rfl, ha, ht⟩ := ha
  have ha' := ha
  obtain ⟨aa, ca, hs, hm⟩ := ha.len
  subst hs
  refine Ret.enter plain mixed (impl_Ver_same_fn _ _ _) (by kernel_rfl) (n := 2) (by kernel_rfl) rfl ?_
  cases hk : (v.key == 0)
  · have : verNone v = false := by simp [verNone, hk]
    simp (disch := first | omega | (simp only [World.size_alloc, size_setRow, dw_size]; done) | (simp only [World.size_alloc, size_setRow, dw_size]; omega) | (simp only [List.length_set, Array.length_toList]; omega)) [-Option.bind_some, hp_alloc_lt, hp_alloc_eq, hp_set_ne, hk, this]
    (repeat (first | exact Ext.rfl | assumption | (refine Ext.al ?_ _) | (refine Ext.dw ?_) | (refine Ext.set ?_ (by first | omega | (simp only [World.size_alloc, size_setRow, dw_size]; omega)) _) | (refine Ext.tr ?_ (by assumption))))
  cases hz : ((v.tag.t == 0) && (v.tag.p == 0))
  · have : verNone v = false := by simp [verNone, tag_n hz]
    simp (disch := first | omega | (simp only [World.size_alloc, size_setRow, dw_size]; done) | (simp only [World.size_alloc, size_setRow, dw_size]; omega) | (simp only [List.length_set, Array.length_toList]; omega)) [-Option.bind_some, hp_alloc_lt, hp_alloc_eq, hp_set_ne, hk, hz, this]
    (repeat (first | exact Ext.rfl | assumption | (refine Ext.al ?_ _) | (refine Ext.dw ?_) | (refine Ext.set ?_ (by first | omega | (simp only [World.size_alloc, size_setRow, dw_size]; omega)) _) | (refine Ext.tr ?_ (by assumption))))
  simp (disch := first | omega | (simp only [World.size_alloc, size_setRow, dw_size]; done) | (simp only [World.size_alloc, size_setRow, dw_size]; omega) | (simp only [List.length_set, Array.length_toList]; omega)) [-Option.bind_some, hp_alloc_lt, hp_alloc_eq, hp_set_ne, hk, hz]
  refine Ret.bind (slices_Equal_Tag_nil (ha'.mono (Ext.keep (by (repeat (first | exact Ext.rfl | assumption | (refine Ext.al ?_ _) | (refine Ext.dw ?_) | (refine Ext.set ?_ (by first | omega | (simp only [World.size_alloc, size_setRow, dw_size]; omega)) _) | (refine Ext.tr ?_ (by assumption)))))))) ?_
  rintro _ rfl
  cases h0 : (v.past.length == 0)
  · have : verNone v = false := by simp [verNone, h0]
    simp (disch := first | omega | (simp only [World.size_alloc, size_setRow, dw_size]; done) | (simp only [World.size_alloc, size_setRow, dw_size]; omega) | (simp only [List.length_set, Array.length_toList]; omega)) [-Option.bind_some, hp_alloc_lt, hp_alloc_eq, hp_set_ne, h0, this]
    (repeat (first | exact Ext.rfl | assumption | (refine Ext.al ?_ _) | (refine Ext.dw ?_) | (refine Ext.set ?_ (by first | omega | (simp only [World.size_alloc, size_setRow, dw_size]; omega)) _) | (refine Ext.tr ?_ (by assumption))))
  cases hx : v.text.toList.isEmpty
  · have : verNone v = false := by simp [verNone, noText, hx]
    simp (disch := first | omega | (simp only [World.size_alloc, size_setRow, dw_size]; done) | (simp only [World.size_alloc, size_setRow, dw_size]; omega) | (simp only [List.length_set, Array.length_toList]; omega)) [-Option.bind_some, hp_alloc_lt, hp_alloc_eq, hp_set_ne, h0, hx, this]
    (repeat (first | exact Ext.rfl | assumption | (refine Ext.al ?_ _) | (refine Ext.dw ?_) | (refine Ext.set ?_ (by first | omega | (simp only [World.size_alloc, size_setRow, dw_size]; omega)) _) | (refine Ext.tr ?_ (by assumption))))
  cases hg : v.gone
  · have : verNone v = true := by simp only [beq_iff_eq] at hk h0; simp [verNone, noText, hk, hx, hg, tag_z hz, List.eq_nil_of_length_eq_zero h0]
    simp (disch := first | omega | (simp only [World.size_alloc, size_setRow, dw_size]; done) | (simp only [World.size_alloc, size_setRow, dw_size]; omega) | (simp only [List.length_set, Array.length_toList]; omega)) [-Option.bind_some, hp_alloc_lt, hp_alloc_eq, hp_set_ne, h0, hx, hg, this]
    (repeat (first | exact Ext.rfl | assumption | (refine Ext.al ?_ _) | (refine Ext.dw ?_) | (refine Ext.set ?_ (by first | omega | (simp only [World.size_alloc, size_setRow, dw_size]; omega)) _) | (refine Ext.tr ?_ (by assumption))))
  · have : verNone v = false := by simp [verNone, hg]
    simp (disch := first | omega | (simp only [World.size_alloc, size_setRow, dw_size]; done) | (simp only [World.size_alloc, size_setRow, dw_size]; omega) | (simp only [List.length_set, Array.length_toList]; omega)) [-Option.bind_some, hp_alloc_lt, hp_alloc_eq, hp_set_ne, h0, hx, hg, this]
    (repeat (first | exact Ext.rfl | assumption | (refine Ext.al ?_ _) | (refine Ext.dw ?_) | (refine Ext.set ?_ (by first | omega | (simp only [World.size_alloc, size_setRow, dw_size]; omega)) _) | (refine Ext.tr ?_ (by assumption))))
theorem impl_Ver_written_c {cs : List Value} {v : Ver} {w : World} (ha : rVer w cs v) : Ret (EV P 85 #[.agg cs.toArray] w) fun r => r.1 = .bool (verWr v) ∧ Ext w r.2 := by
  obtain ⟨s, rfl, ha, ht⟩ := ha
  have ha' := ha
  obtain ⟨aa, ca, hs, hm⟩ := ha.len
  subst hs
  refine Ret.enter plain mixed (impl_Ver_written_fn _ _) (by kernel_rfl) (n := 1) (by kernel_rfl) rfl ?_
  simp (disch := first | omega | (simp only [World.size_alloc, size_setRow, dw_size]; done) | (simp only [World.size_alloc, size_setRow, dw_size]; omega) | (simp only [List.length_set, Array.length_toList]; omega)) [-Option.bind_some, hp_alloc_lt, hp_alloc_eq, hp_set_ne]
  refine Ret.bind (impl_keyOk_c _ _) ?_
  rintro _ rfl
  cases hk : keyOk v.key
  · simp (disch := first | omega | (simp only [World.size_alloc, size_setRow, dw_size]; done) | (simp only [World.size_alloc, size_setRow, dw_size]; omega) | (simp only [List.length_set, Array.length_toList]; omega)) [-Option.bind_some, hp_alloc_lt, hp_alloc_eq, hp_set_ne, hk, verWr]
    (repeat (first | exact Ext.rfl | assumption | (refine Ext.al ?_ _) | (refine Ext.dw ?_) | (refine Ext.set ?_ (by first | omega | (simp only [World.size_alloc, size_setRow, dw_size]; omega)) _) | (refine Ext.tr ?_ (by assumption))))
  simp (disch := first | omega | (simp only [World.size_alloc, size_setRow, dw_size]; done) | (simp only [World.size_alloc, size_setRow, dw_size]; omega) | (simp only [List.length_set, Array.length_toList]; omega)) [-Option.bind_some, hp_alloc_lt, hp_alloc_eq, hp_set_ne, hk]
  refine Ret.bind (impl_textOk_c ht _) ?_
  rintro _ rfl
  cases hx : textOk v.text
  · simp (disch := first | omega | (simp only [World.size_alloc, size_setRow, dw_size]; done) | (simp only [World.size_alloc, size_setRow, dw_size]; omega) | (simp only [List.length_set, Array.length_toList]; omega)) [-Option.bind_some, hp_alloc_lt, hp_alloc_eq, hp_set_ne, hx, verWr]
    (repeat (first | exact Ext.rfl | assumption | (refine Ext.al ?_ _) | (refine Ext.dw ?_) | (refine Ext.set ?_ (by first | omega | (simp only [World.size_alloc, size_setRow, dw_size]; omega)) _) | (refine Ext.tr ?_ (by assumption))))
  have fin : ∀ w1, Ext w w1 → (v.gone = false ∨ v.text.toList.isEmpty = true) → Ret (EV P 48 #[.agg #[.slice aa v.past.length ca]] w1) fun r => r.1 = .bool (verWr v) ∧ Ext w r.2 := by
    intro w1 hE hg
    refine Ret.mono (impl_PastOk_c (ha'.mono (Ext.keep hE))) ?_
    rintro r ⟨h1, h2⟩
    have : (!v.gone || noText v.text) = true := by rcases hg with h | h <;> simp [h, noText]
    exact ⟨by rw [h1]; simp [verWr, hk, hx, this], hE.tr h2⟩
  cases hg : v.gone
  · simp (disch := first | omega | (simp only [World.size_alloc, size_setRow, dw_size]; done) | (simp only [World.size_alloc, size_setRow, dw_size]; omega) | (simp only [List.length_set, Array.length_toList]; omega)) [-Option.bind_some, hp_alloc_lt, hp_alloc_eq, hp_set_ne, hx, hg]
    refine Ret.bind (fin _ (by (repeat (first | exact Ext.rfl | assumption | (refine Ext.al ?_ _) | (refine Ext.dw ?_) | (refine Ext.set ?_ (by first | omega | (simp only [World.size_alloc, size_setRow, dw_size]; omega)) _) | (refine Ext.tr ?_ (by assumption))))) (.inl hg)) ?_
    rintro ⟨_, w1⟩ ⟨rfl, hE⟩
    simp (disch := first | omega | (simp only [World.size_alloc, size_setRow, dw_size]; done) | (simp only [World.size_alloc, size_setRow, dw_size]; omega) | (simp only [List.length_set, Array.length_toList]; omega)) [-Option.bind_some, hp_alloc_lt, hp_alloc_eq, hp_set_ne]
    exact hE
  · cases he : v.text.toList.isEmpty
    · have : verWr v = false := by simp [verWr, hg, noText, he]
      simp (disch := first | omega | (simp only [World.size_alloc, size_setRow, dw_size]; done) | (simp only [World.size_alloc, size_setRow, dw_size]; omega) | (simp only [List.length_set, Array.length_toList]; omega)) [-Option.bind_some, hp_alloc_lt, hp_alloc_eq, hp_set_ne, hx, hg, he, this]
      (repeat (first | exact Ext.rfl | assumption | (refine Ext.al ?_ _) | (refine Ext.dw ?_) | (refine Ext.set ?_ (by first | omega | (simp only [World.size_alloc, size_setRow, dw_size]; omega)) _) | (refine Ext.tr ?_ (by assumption))))
    · simp (disch := first | omega | (simp only [World.size_alloc, size_setRow, dw_size]; done) | (simp only [World.size_alloc, size_setRow, dw_size]; omega) | (simp only [List.length_set, Array.length_toList]; omega)) [-Option.bind_some, hp_alloc_lt, hp_alloc_eq, hp_set_ne, hx, hg, he]
      refine Ret.bind (fin _ (by (repeat (first | exact Ext.rfl | assumption | (refine Ext.al ?_ _) | (refine Ext.dw ?_) | (refine Ext.set ?_ (by first | omega | (simp only [World.size_alloc, size_setRow, dw_size]; omega)) _) | (refine Ext.tr ?_ (by assumption))))) (.inr he)) ?_
      rintro ⟨_, w1⟩ ⟨rfl, hE⟩
      simp (disch := first | omega | (simp only [World.size_alloc, size_setRow, dw_size]; done) | (simp only [World.size_alloc, size_setRow, dw_size]; omega) | (simp only [List.length_set, Array.length_toList]; omega)) [-Option.bind_some, hp_alloc_lt, hp_alloc_eq, hp_set_ne]
      exact hE
theorem impl_VerOk_c {cs : List Value} {v : Ver} {w : World} (ha : rVer w cs v) : Ret (EV P 41 #[.agg cs.toArray] w) fun r => r.1 = .bool (verOk v) ∧ Ext w r.2 := by
  have hav := ha
  obtain ⟨s, rfl, ha, ht⟩ := ha
  have ha' := ha
  obtain ⟨aa, ca, hs, hm⟩ := ha.len
  subst hs
  refine Ret.enter plain mixed (impl_VerOk_fn _ _) (by kernel_rfl) (n := 1) (by kernel_rfl) rfl ?_
  simp (disch := first | omega | (simp only [World.size_alloc, size_setRow, dw_size]; done) | (simp only [World.size_alloc, size_setRow, dw_size]; omega) | (simp only [List.length_set, Array.length_toList]; omega)) [-Option.bind_some, hp_alloc_lt, hp_alloc_eq, hp_set_ne]
  refine Ret.bind (impl_Ver_written_c (hav.mono (Ext.keep (by (repeat (first | exact Ext.rfl | assumption | (refine Ext.al ?_ _) | (refine Ext.dw ?_) | (refine Ext.set ?_ (by first | omega | (simp only [World.size_alloc, size_setRow, dw_size]; omega)) _) | (refine Ext.tr ?_ (by assumption)))))))) ?_
  rintro ⟨_, w1⟩ ⟨rfl, hE⟩
  have hE' : Ext w w1 := Ext.tr (by (repeat (first | exact Ext.rfl | assumption | (refine Ext.al ?_ _) | (refine Ext.dw ?_) | (refine Ext.set ?_ (by first | omega | (simp only [World.size_alloc, size_setRow, dw_size]; omega)) _) | (refine Ext.tr ?_ (by assumption))))) hE
  have hx1 : hp w1 w.heap.size = some (.cells #[i64 v.key, i64 v.tag.t, i64 v.tag.p, Value.slice aa v.past.length ca, .string v.text, .bool v.gone] 45 (0, 0)) := (hE.blk (by simp)).trans ((hp_dw _ _).trans (hp_alloc_eq rfl))
  cases hw : verWr v
  · simp (disch := first | omega | (simp only [World.size_alloc, size_setRow, dw_size]; done) | (simp only [World.size_alloc, size_setRow, dw_size]; omega) | (simp only [List.length_set, Array.length_toList]; omega)) [-Option.bind_some, hp_alloc_lt, hp_alloc_eq, hp_set_ne, hw, verOk]
    exact hE'
  simp (disch := first | omega | (simp only [World.size_alloc, size_setRow, dw_size]; done) | (simp only [World.size_alloc, size_setRow, dw_size]; omega) | (simp only [List.length_set, Array.length_toList]; omega)) [-Option.bind_some, hp_alloc_lt, hp_alloc_eq, hp_set_ne, hw, hx1]
  refine Ret.bind (impl_TagOk_c v.tag _) ?_
  rintro ⟨_, w2⟩ ⟨rfl, hE2⟩
  have hx2 := (hE2.blk (hp_lt hx1)).trans hx1
  cases hg : tagOk v.tag
  · simp (disch := first | omega | (simp only [World.size_alloc, size_setRow, dw_size]; done) | (simp only [World.size_alloc, size_setRow, dw_size]; omega) | (simp only [List.length_set, Array.length_toList]; omega)) [-Option.bind_some, hp_alloc_lt, hp_alloc_eq, hp_set_ne, hg, hx2, hx1, verOk]
    exact hE'.tr hE2
  simp (disch := first | omega | (simp only [World.size_alloc, size_setRow, dw_size]; done) | (simp only [World.size_alloc, size_setRow, dw_size]; omega) | (simp only [List.length_set, Array.length_toList]; omega)) [-Option.bind_some, hp_alloc_lt, hp_alloc_eq, hp_set_ne, hg, hx1, hx2]
  refine Ret.bind (impl_Past_latest_c (ha'.mono (Ext.keep (hE'.tr hE2)))) ?_
  rintro ⟨_, w3⟩ ⟨rfl, hE3⟩
  have hx3 := (hE3.blk (hp_lt hx2)).trans hx2
  simp (disch := first | omega | (simp only [World.size_alloc, size_setRow, dw_size]; done) | (simp only [World.size_alloc, size_setRow, dw_size]; omega) | (simp only [List.length_set, Array.length_toList]; omega)) [-Option.bind_some, hp_alloc_lt, hp_alloc_eq, hp_set_ne, hx3, hx2, hx1, verOk, hw, hg]
  exact (hE'.tr hE2).tr hE3
end Go.Proofs.YthicfemhpnnaaaaGreat.X
set_option linter.unusedVariables false
set_option linter.unusedSimpArgs false
set_option maxRecDepth 100000
namespace Go.Proofs.YthicfemhpnnaaaaGreat.X
open Go Go.Ev Go.RowKit
theorem impl_StoreOk_l {s : Value} {vs : List Ver} {b t : Nat} : ∀ (d k : Nat) (e : Env) (w : World), k + d = vs.length → e 1 = pt b 0 → e 6 = s → e 7 = i64 vs.length → e 8 = i64 k → hp w b = some (.cells #[s] t (0, 0)) → rVers w s vs →
    Ret (impl_StoreOk_l1 e w) fun r => r.1 = .bool (slots k (vs.drop k) && (vs.length == 4)) ∧ Ext w r.2 := by
  intro d
  induction d with
  | zero =>
    intro k e w hd h1 h6 h7 h8 hx ha
    obtain ⟨aa, ca, hs, hm⟩ := ha.len
    rw [impl_StoreOk_l1_eq]
    subst hs
    have hq : ((vs.length : Int) == 4) = (vs.length == 4) := by rw [Bool.eq_iff_iff]; simp only [beq_iff_eq]; omega
    simp (disch := first | omega | (simp only [World.size_alloc, size_setRow, dw_size]; done) | (simp only [World.size_alloc, size_setRow, dw_size]; omega) | (simp only [List.length_set, Array.length_toList]; omega)) [-Option.bind_some, hp_alloc_lt, hp_alloc_eq, hp_set_ne, h1, h6, h7, h8, hx, show ¬ k < vs.length by omega, show vs.length ≤ k by omega, hq]
    rw [List.drop_eq_nil_of_le (by omega)]
    exact ⟨by simp [slots], by (repeat (first | exact Ext.rfl | assumption | (refine Ext.al ?_ _) | (refine Ext.dw ?_) | (refine Ext.set ?_ (by first | omega | (simp only [World.size_alloc, size_setRow, dw_size]; omega)) _) | (refine Ext.tr ?_ (by assumption))))⟩
  | succ d ih =>
    intro k e w hd h1 h6 h7 h8 hx ha
    obtain ⟨aa, ca, hs, hm⟩ := ha.len
    rw [impl_StoreOk_l1_eq]
    have hlt : k < vs.length := by omega
    obtain ⟨v, hv, hdx⟩ := drop_at hlt
    obtain ⟨b1, o1, c1, cs, hs1, hA, hcs⟩ := ha.at hv
    have hcs' := hcs
    obtain ⟨sp, rfl, hsp, hts⟩ := hcs'
    obtain ⟨ap, cp, hsp', hpl⟩ := hsp.len
    subst hsp'
    have p0 := hA 0 _ rfl
    have p1 := hA 1 _ rfl
    have p2 := hA 2 _ rfl
    have p3 := hA 3 _ rfl
    have p4 := hA 4 _ rfl
    have p5 := hA 5 _ rfl
    simp only [Nat.add_zero] at p0
    have hsl : slots k (vs.drop k) = (slotOk k v && slots (k + 1) (vs.drop (k + 1))) := by rw [hdx]; rfl
    have next : ∀ w1, Ext w w1 → slotOk k v = true → ∀ e : Env, e 1 = pt b 0 → e 6 = s → e 7 = i64 vs.length → e 8 = i64 (k + 1 : Nat) → Ret (impl_StoreOk_l1 e w1) fun r => r.1 = .bool (slots k (vs.drop k) && (vs.length == 4)) ∧ Ext w r.2 := by
      intro w1 hE ho e h1 h6 h7 h8
      refine Ret.mono (ih (k + 1) e w1 (by omega) h1 h6 h7 h8 ((hE.blk (hp_lt hx)).trans hx) (ha.mono (Ext.keep hE))) ?_
      rintro r ⟨h4, h5⟩
      exact ⟨by rw [h4, hsl, ho, Bool.true_and], hE.tr h5⟩
    have cnt : i64 (IntKind.i64.wrap ((k : Int) + 1)) = i64 (k + 1 : Nat) := congrArg i64 (w64 (by omega) (by omega))
    subst hs1
    simp (disch := first | omega | (simp only [World.size_alloc, size_setRow, dw_size]; done) | (simp only [World.size_alloc, size_setRow, dw_size]; omega) | (simp only [List.length_set, Array.length_toList]; omega)) [-Option.bind_some, hp_alloc_lt, hp_alloc_eq, hp_set_ne, h1, h6, h7, h8, hlt, ia_32, p0, p1, p2, p3, p4, p5]
    refine Ret.bind (impl_Ver_same_c (cs := [i64 v.key, i64 v.tag.t, i64 v.tag.p, .slice ap v.past.length cp, .string v.text, .bool v.gone]) (hcs.mono (Ext.keep (by (repeat (first | exact Ext.rfl | assumption | (refine Ext.al ?_ _) | (refine Ext.dw ?_) | (refine Ext.set ?_ (by first | omega | (simp only [World.size_alloc, size_setRow, dw_size]; omega)) _) | (refine Ext.tr ?_ (by assumption)))))))) ?_
    rintro ⟨_, w1⟩ ⟨rfl, hE⟩
    have hE' : Ext w w1 := Ext.tr (by (repeat (first | exact Ext.rfl | assumption | (refine Ext.al ?_ _) | (refine Ext.dw ?_) | (refine Ext.set ?_ (by first | omega | (simp only [World.size_alloc, size_setRow, dw_size]; omega)) _) | (refine Ext.tr ?_ (by assumption))))) hE
    have hx1 : hp w1 w.heap.size = some (.cells #[i64 v.key, i64 v.tag.t, i64 v.tag.p, .slice ap v.past.length cp, .string v.text, .bool v.gone] 45 (0, 0)) := (hE.blk (by simp)).trans (by simp (disch := first | omega | (simp only [World.size_alloc, size_setRow, dw_size]; done) | (simp only [World.size_alloc, size_setRow, dw_size]; omega) | (simp only [List.length_set, Array.length_toList]; omega)) [-Option.bind_some, hp_alloc_lt, hp_alloc_eq, hp_set_ne])
    cases hn : verNone v
    case true =>
      simp (disch := first | omega | (simp only [World.size_alloc, size_setRow, dw_size]; done) | (simp only [World.size_alloc, size_setRow, dw_size]; omega) | (simp only [List.length_set, Array.length_toList]; omega)) [-Option.bind_some, hp_alloc_lt, hp_alloc_eq, hp_set_ne, hn, h8]
      exact next w1 hE' (by simp [slotOk, hn]) _ h1 h6 h7 cnt
    simp (disch := first | omega | (simp only [World.size_alloc, size_setRow, dw_size]; done) | (simp only [World.size_alloc, size_setRow, dw_size]; omega) | (simp only [List.length_set, Array.length_toList]; omega)) [-Option.bind_some, hp_alloc_lt, hp_alloc_eq, hp_set_ne, hn, hx1]
    refine Ret.bind (impl_VerOk_c (cs := [i64 v.key, i64 v.tag.t, i64 v.tag.p, .slice ap v.past.length cp, .string v.text, .bool v.gone]) (hcs.mono (Ext.keep hE'))) ?_
    rintro ⟨_, w2⟩ ⟨rfl, hE2⟩
    have hx2 := (hE2.blk (hp_lt hx1)).trans hx1
    have hE3 := hE'.tr hE2
    cases hvo : verOk v
    · simp (disch := first | omega | (simp only [World.size_alloc, size_setRow, dw_size]; done) | (simp only [World.size_alloc, size_setRow, dw_size]; omega) | (simp only [List.length_set, Array.length_toList]; omega)) [-Option.bind_some, hp_alloc_lt, hp_alloc_eq, hp_set_ne, hvo, hsl, slotOk, hn]
      exact hE3
    cases hk : (v.key != (k : Int))
    case true =>
      simp (disch := first | omega | (simp only [World.size_alloc, size_setRow, dw_size]; done) | (simp only [World.size_alloc, size_setRow, dw_size]; omega) | (simp only [List.length_set, Array.length_toList]; omega)) [-Option.bind_some, hp_alloc_lt, hp_alloc_eq, hp_set_ne, hvo, hx2, hk, hsl, slotOk, hn]
      simp only [bne_iff_ne, ne_eq] at hk
      exact ⟨fun h => (hk h).elim, hE3⟩
    simp (disch := first | omega | (simp only [World.size_alloc, size_setRow, dw_size]; done) | (simp only [World.size_alloc, size_setRow, dw_size]; omega) | (simp only [List.length_set, Array.length_toList]; omega)) [-Option.bind_some, hp_alloc_lt, hp_alloc_eq, hp_set_ne, hvo, hx2, hk, h8]
    simp only [bne_eq_false_iff_eq] at hk
    exact next w2 hE3 (by simp [slotOk, hvo, hk]) _ h1 h6 h7 cnt
theorem impl_StoreOk_c {s : Value} {vs : List Ver} {w : World} (ha : rVers w s vs) : Ret (EV P 38 #[.agg #[s]] w) fun r => r.1 = .bool (storeOk vs) ∧ Ext w r.2 := by
  have ha' := ha
  obtain ⟨aa, ca, hs, hm⟩ := ha.len
  subst hs
  refine Ret.enter plain mixed (impl_StoreOk_fn _ _) (by kernel_rfl) (n := 1) (by kernel_rfl) rfl ?_
  simp (disch := first | omega | (simp only [World.size_alloc, size_setRow, dw_size]; done) | (simp only [World.size_alloc, size_setRow, dw_size]; omega) | (simp only [List.length_set, Array.length_toList]; omega)) [-Option.bind_some, hp_alloc_lt, hp_alloc_eq, hp_set_ne]
  refine Ret.mono (impl_StoreOk_l vs.length 0 _ _ (by omega) rfl rfl rfl rfl (hp_alloc_eq rfl) (ha'.mono (Ext.keep (by (repeat (first | exact Ext.rfl | assumption | (refine Ext.al ?_ _) | (refine Ext.dw ?_) | (refine Ext.set ?_ (by first | omega | (simp only [World.size_alloc, size_setRow, dw_size]; omega)) _) | (refine Ext.tr ?_ (by assumption)))))))) ?_
  rintro r ⟨h1, h2⟩
  exact ⟨h1, (Ext.al Ext.rfl _).tr h2⟩
theorem slices_IndexFunc_Ver_l {s f : Value} {xs : List Ver} {p : Ver → Bool} {w0 : World} (hf : ∀ x ∈ xs, ∀ cs w, Ext w0 w → rVer w cs x → Ret (clo P f #[.agg cs.toArray] w) fun r => r.1 = .bool (p x) ∧ Ext w r.2) :
    ∀ (d k : Nat) (e : Env) (w : World), k + d = xs.length → e 0 = s → e 1 = f → e 7 = i64 xs.length → e 8 = i64 k → rVers w0 s xs → Ext w0 w →
    Ret (slices_IndexFunc_Ver_l1 e w) fun r => ∃ i : Int, r.1 = i64 i ∧ decide (0 ≤ i) = (xs.drop k).any p ∧ Ext w0 r.2 := by
  intro d
  induction d with
  | zero =>
    intro k e w hd h0 h1 h7 h8 ha hE
    rw [slices_IndexFunc_Ver_l1_eq]
    simp (disch := first | omega | (simp only [World.size_alloc, size_setRow, dw_size]; done) | (simp only [World.size_alloc, size_setRow, dw_size]; omega) | (simp only [List.length_set, Array.length_toList]; omega)) [-Option.bind_some, hp_alloc_lt, hp_alloc_eq, hp_set_ne, h0, h1, h7, h8, show ¬ k < xs.length by omega, show xs.length ≤ k by omega]
    rw [List.drop_eq_nil_of_le (by omega)]
    exact ⟨by simp, hE⟩
  | succ d ih =>
    intro k e w hd h0 h1 h7 h8 ha hE
    obtain ⟨aa, ca, hs, hm⟩ := ha.len
    rw [slices_IndexFunc_Ver_l1_eq]
    have hlt : k < xs.length := by omega
    obtain ⟨x, hx, hdx⟩ := drop_at hlt
    obtain ⟨b1, o1, c1, cs, hs1, hA0, hcs0⟩ := ha.at hx
    have hcs := hcs0.mono (Ext.keep hE)
    have hla := At.ld (P := P) (t := 45) (by kernel_rfl) (by rw [hcs.length]; kernel_rfl) (hA0.mono (Ext.keep hE))
    rw [hdx]
    subst hs1
    simp (disch := first | omega | (simp only [World.size_alloc, size_setRow, dw_size]; done) | (simp only [World.size_alloc, size_setRow, dw_size]; omega) | (simp only [List.length_set, Array.length_toList]; omega)) [-Option.bind_some, hp_alloc_lt, hp_alloc_eq, hp_set_ne, h0, h1, h7, h8, hlt, ia_32, hla, -ld_45]
    refine Ret.bind (hf x (List.mem_of_getElem? hx) cs _ hE hcs) ?_
    rintro ⟨_, w1⟩ ⟨rfl, hE1⟩
    cases hp : p x
    · simp (disch := first | omega | (simp only [World.size_alloc, size_setRow, dw_size]; done) | (simp only [World.size_alloc, size_setRow, dw_size]; omega) | (simp only [List.length_set, Array.length_toList]; omega)) [-Option.bind_some, hp_alloc_lt, hp_alloc_eq, hp_set_ne, hp, h8]
      refine Ret.mono (ih (k + 1) _ w1 (by omega) h0 h1 h7 (congrArg i64 (w64 (by omega) (by omega))) ha (hE.tr hE1)) ?_
      rintro r ⟨i, h2, h3, h4⟩
      exact ⟨i, h2, by simpa [hp] using h3, h4⟩
    · simp (disch := first | omega | (simp only [World.size_alloc, size_setRow, dw_size]; done) | (simp only [World.size_alloc, size_setRow, dw_size]; omega) | (simp only [List.length_set, Array.length_toList]; omega)) [-Option.bind_some, hp_alloc_lt, hp_alloc_eq, hp_set_ne, hp]
      exact hE.tr hE1
theorem slices_ContainsFunc_Ver_c {s f : Value} {xs : List Ver} {p : Ver → Bool} {w : World} (ha : rVers w s xs) (hf : ∀ x ∈ xs, ∀ cs w', Ext w w' → rVer w' cs x → Ret (clo P f #[.agg cs.toArray] w') fun r => r.1 = .bool (p x) ∧ Ext w' r.2) :
    Ret (EV P 39 #[s, f] w) fun r => r.1 = .bool (xs.any p) ∧ Ext w r.2 := by
  have ha' := ha
  obtain ⟨aa, ca, hs, hm⟩ := ha.len
  subst hs
  have hi : Ret (EV P 84 #[.slice aa xs.length ca, f] w) fun r => ∃ i : Int, r.1 = i64 i ∧ decide (0 ≤ i) = xs.any p ∧ Ext w r.2 := by
    refine Ret.enter plain mixed (slices_IndexFunc_Ver_fn _ _ _) (by kernel_rfl) (n := 2) (by kernel_rfl) rfl ?_
    simp (disch := first | omega | (simp only [World.size_alloc, size_setRow, dw_size]; done) | (simp only [World.size_alloc, size_setRow, dw_size]; omega) | (simp only [List.length_set, Array.length_toList]; omega)) [-Option.bind_some, hp_alloc_lt, hp_alloc_eq, hp_set_ne]
    exact slices_IndexFunc_Ver_l hf xs.length 0 _ w (by omega) rfl rfl rfl rfl ha' Ext.rfl
  refine Ret.enter plain mixed (slices_ContainsFunc_Ver_fn _ _ _) (by kernel_rfl) (n := 2) (by kernel_rfl) rfl ?_
  simp (disch := first | omega | (simp only [World.size_alloc, size_setRow, dw_size]; done) | (simp only [World.size_alloc, size_setRow, dw_size]; omega) | (simp only [List.length_set, Array.length_toList]; omega)) [-Option.bind_some, hp_alloc_lt, hp_alloc_eq, hp_set_ne]
  refine Ret.bind hi ?_
  rintro ⟨_, w1⟩ ⟨i, rfl, h2, hE⟩
  simp (disch := first | omega | (simp only [World.size_alloc, size_setRow, dw_size]; done) | (simp only [World.size_alloc, size_setRow, dw_size]; omega) | (simp only [List.length_set, Array.length_toList]; omega)) [-Option.bind_some, hp_alloc_lt, hp_alloc_eq, hp_set_ne, h2]
  exact hE
end Go.Proofs.YthicfemhpnnaaaaGreat.X
