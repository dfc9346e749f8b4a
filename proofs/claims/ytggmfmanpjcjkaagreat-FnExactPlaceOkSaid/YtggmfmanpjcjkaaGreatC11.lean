/- A part of the proof: an evaluator of the model, its laws, and contracts of functions; no condition. -/
import Derived.Test.YtggmfmanpjcjkaaGreatC8
set_option linter.unusedVariables false
set_option linter.unusedSimpArgs false
set_option maxRecDepth 100000
namespace Go.Proofs.YtggmfmanpjcjkaaGreat.X
open Go Go.Ev Go.RowKit
theorem spec_l2StoreOk_l {s : Value} {vs : List Ver} {b t : Nat} : ∀ (d k : Nat) (e : Env) (w : World), k + d = vs.length → e 1 = pt b 0 → e 3 = i64 k → hp w b = some (.cells #[s] t (0, 0)) → rVers w s vs →
    Ret (spec_l2StoreOk_l1 e w) fun r => r.1 = .bool (slots k (vs.drop k) && (vs.length == 4)) ∧ Ext w r.2 := by
  intro d
  induction d with
  | zero =>
    intro k e w hd h1 h3 hx ha
    obtain ⟨aa, ca, hs, hm⟩ := ha.len
    rw [spec_l2StoreOk_l1_eq]
    subst hs
    have hq : ((vs.length : Int) == 4) = (vs.length == 4) := by rw [Bool.eq_iff_iff]; simp only [beq_iff_eq]; omega
    simp (disch := first | omega | (simp only [World.size_alloc, size_setRow, dw_size]; done) | (simp only [World.size_alloc, size_setRow, dw_size]; omega) | (simp only [List.length_set, Array.length_toList]; omega)) [-Option.bind_some, hp_alloc_lt, hp_alloc_eq, hp_set_ne, h1, h3, hx, show ¬ k < vs.length by omega, show vs.length ≤ k by omega, hq]
    rw [List.drop_eq_nil_of_le (by omega)]
    exact ⟨by simp [slots], by (repeat (first | exact Ext.rfl | assumption | (refine Ext.al ?_ _) | (refine Ext.dw ?_) | (refine Ext.set ?_ (by first | omega | (simp only [World.size_alloc, size_setRow, dw_size]; omega)) _) | (refine Ext.tr ?_ (by assumption))))⟩
  | succ d ih =>
    intro k e w hd h1 h3 hx ha
    obtain ⟨aa, ca, hs, hm⟩ := ha.len
    rw [spec_l2StoreOk_l1_eq]
    have hlt : k < vs.length := by omega
    obtain ⟨v, hv, hdx⟩ := drop_at hlt
    obtain ⟨b1, o1, c1, cs, hs1, hA, hcs⟩ := ha.at hv
    have hla := At.ld (P := P) (t := 69) (by kernel_rfl) (by rw [hcs.length]; kernel_rfl) hA
    have hcs' := hcs
    obtain ⟨sp, rfl, hsp, hts⟩ := hcs'
    obtain ⟨ap, cp, hsp', hpl⟩ := hsp.len
    subst hsp'
    have p0 := hA 0 _ rfl
    have p1 := hA 1 _ rfl
    have p2 := hA 2 _ rfl
    have p3 := hA 3 _ rfl
    have p4 := hA 4 _ rfl
    have p5 := hA 5 _ rfl
    simp only [Nat.add_zero] at p0
    have hsl : slots k (vs.drop k) = (slotOk k v && slots (k + 1) (vs.drop (k + 1))) := by rw [hdx]; rfl
    have next : ∀ w1, Ext w w1 → slotOk k v = true → ∀ e : Env, e 1 = pt b 0 → e 3 = i64 (k + 1 : Nat) → Ret (spec_l2StoreOk_l1 e w1) fun r => r.1 = .bool (slots k (vs.drop k) && (vs.length == 4)) ∧ Ext w r.2 := by
      intro w1 hE ho e h1 h3
      refine Ret.mono (ih (k + 1) e w1 (by omega) h1 h3 ((hE.blk (hp_lt hx)).trans hx) (ha.mono (Ext.keep hE))) ?_
      rintro r ⟨h4, h5⟩
      exact ⟨by rw [h4, hsl, ho, Bool.true_and], hE.tr h5⟩
    have cnt : i64 (IntKind.i64.wrap ((k : Int) + 1)) = i64 (k + 1 : Nat) := congrArg i64 (w64 (by omega) (by omega))
    subst hs1
    cases hz : ((v.tag.t == 0) && (v.tag.p == 0))
    · have hso := slotOk_n (i := k) (tag_n hz)
      simp (disch := first | omega | (simp only [World.size_alloc, size_setRow, dw_size]; done) | (simp only [World.size_alloc, size_setRow, dw_size]; omega) | (simp only [List.length_set, Array.length_toList]; omega)) [-Option.bind_some, hp_alloc_lt, hp_alloc_eq, hp_set_ne, h1, h3, hx, hlt, ia_47, p0, p1, p2, p3, p4, p5, hla, hz, -ld_69]
      refine Ret.bind (spec_l2Ok_c hcs) ?_
      rintro ⟨_, w1⟩ ⟨rfl, hE⟩
      have hbl := hp_lt hx
      have hb1 := hA.lt
      cases hvo : verOk v
      · simp (disch := first | omega | (simp only [World.size_alloc, size_setRow, dw_size]; done) | (simp only [World.size_alloc, size_setRow, dw_size]; omega) | (simp only [List.length_set, Array.length_toList]; omega)) [-Option.bind_some, hp_alloc_lt, hp_alloc_eq, hp_set_ne, hvo, hsl, hso]
        (repeat (first | exact Ext.rfl | assumption | (refine Ext.al ?_ _) | (refine Ext.dw ?_) | (refine Ext.set ?_ (by first | omega | (simp only [World.size_alloc, size_setRow, dw_size]; omega)) _) | (refine Ext.tr ?_ (by assumption))))
      cases hk : (v.key != (k : Int))
      case true =>
        simp (disch := first | omega | (simp only [World.size_alloc, size_setRow, dw_size]; done) | (simp only [World.size_alloc, size_setRow, dw_size]; omega) | (simp only [List.length_set, Array.length_toList]; omega)) [-Option.bind_some, hp_alloc_lt, hp_alloc_eq, hp_set_ne, hvo, h1, h3, hx, hE.blk, hlt, ia_47, p0, p1, p2, p3, p4, p5, hk, hsl, hso]
        simp only [bne_iff_ne, ne_eq] at hk
        exact ⟨fun h => (hk h).elim, by (repeat (first | exact Ext.rfl | assumption | (refine Ext.al ?_ _) | (refine Ext.dw ?_) | (refine Ext.set ?_ (by first | omega | (simp only [World.size_alloc, size_setRow, dw_size]; omega)) _) | (refine Ext.tr ?_ (by assumption))))⟩
      simp (disch := first | omega | (simp only [World.size_alloc, size_setRow, dw_size]; done) | (simp only [World.size_alloc, size_setRow, dw_size]; omega) | (simp only [List.length_set, Array.length_toList]; omega)) [-Option.bind_some, hp_alloc_lt, hp_alloc_eq, hp_set_ne, hvo, h1, h3, hx, hE.blk, hlt, ia_47, p0, p1, p2, p3, p4, p5, hk, hz]
      simp only [bne_eq_false_iff_eq] at hk
      exact next w1 hE (by rw [hso, hvo, hk]; simp) _ h1 cnt
    · have hso := slotOk_z (i := k) (tag_z hz)
      have htz := tag_z hz
      cases hk : (v.key != 0)
      case true =>
        have : verNone v = false := by simp only [bne_iff_ne, ne_eq] at hk; simp [verNone, hk]
        simp (disch := first | omega | (simp only [World.size_alloc, size_setRow, dw_size]; done) | (simp only [World.size_alloc, size_setRow, dw_size]; omega) | (simp only [List.length_set, Array.length_toList]; omega)) [-Option.bind_some, hp_alloc_lt, hp_alloc_eq, hp_set_ne, h1, h3, hx, hlt, ia_47, p0, p1, p2, p3, p4, p5, hla, hz, -ld_69, hk, hsl, hso, this]
        (repeat (first | exact Ext.rfl | assumption | (refine Ext.al ?_ _) | (refine Ext.dw ?_) | (refine Ext.set ?_ (by first | omega | (simp only [World.size_alloc, size_setRow, dw_size]; omega)) _) | (refine Ext.tr ?_ (by assumption))))
      cases hx4 : v.text.toList.isEmpty
      case false =>
        have : verNone v = false := by simp [verNone, noText, hx4]
        simp (disch := first | omega | (simp only [World.size_alloc, size_setRow, dw_size]; done) | (simp only [World.size_alloc, size_setRow, dw_size]; omega) | (simp only [List.length_set, Array.length_toList]; omega)) [-Option.bind_some, hp_alloc_lt, hp_alloc_eq, hp_set_ne, h1, h3, hx, hlt, ia_47, p0, p1, p2, p3, p4, p5, hla, hz, -ld_69, hk, hsl, hso, this, hx4]
        (repeat (first | exact Ext.rfl | assumption | (refine Ext.al ?_ _) | (refine Ext.dw ?_) | (refine Ext.set ?_ (by first | omega | (simp only [World.size_alloc, size_setRow, dw_size]; omega)) _) | (refine Ext.tr ?_ (by assumption))))
      cases hg : v.gone
      case true =>
        have : verNone v = false := by simp [verNone, hg]
        simp (disch := first | omega | (simp only [World.size_alloc, size_setRow, dw_size]; done) | (simp only [World.size_alloc, size_setRow, dw_size]; omega) | (simp only [List.length_set, Array.length_toList]; omega)) [-Option.bind_some, hp_alloc_lt, hp_alloc_eq, hp_set_ne, h1, h3, hx, hlt, ia_47, p0, p1, p2, p3, p4, p5, hla, hz, -ld_69, hk, hsl, hso, this, hx4, hg]
        (repeat (first | exact Ext.rfl | assumption | (refine Ext.al ?_ _) | (refine Ext.dw ?_) | (refine Ext.set ?_ (by first | omega | (simp only [World.size_alloc, size_setRow, dw_size]; omega)) _) | (refine Ext.tr ?_ (by assumption))))
      by_cases hp : v.past.length = 0
      · have : verNone v = true := by simp only [bne_eq_false_iff_eq] at hk; simp [verNone, noText, hk, htz, hx4, hg, List.eq_nil_of_length_eq_zero hp]
        simp (disch := first | omega | (simp only [World.size_alloc, size_setRow, dw_size]; done) | (simp only [World.size_alloc, size_setRow, dw_size]; omega) | (simp only [List.length_set, Array.length_toList]; omega)) [-Option.bind_some, hp_alloc_lt, hp_alloc_eq, hp_set_ne, h1, h3, hx, hlt, ia_47, p0, p1, p2, p3, p4, p5, hla, hz, -ld_69, hk, hx4, hg, hp]
        exact next w Ext.rfl (by rw [hso, this]) _ h1 cnt
      · have : verNone v = false := by simp [verNone, hp]
        have h0 : 0 < v.past.length := by omega
        simp (disch := first | omega | (simp only [World.size_alloc, size_setRow, dw_size]; done) | (simp only [World.size_alloc, size_setRow, dw_size]; omega) | (simp only [List.length_set, Array.length_toList]; omega)) [-Option.bind_some, hp_alloc_lt, hp_alloc_eq, hp_set_ne, h1, h3, hx, hlt, ia_47, p0, p1, p2, p3, p4, p5, hla, hz, -ld_69, hk, hx4, hg, h0, hsl, hso, this]
        (repeat (first | exact Ext.rfl | assumption | (refine Ext.al ?_ _) | (refine Ext.dw ?_) | (refine Ext.set ?_ (by first | omega | (simp only [World.size_alloc, size_setRow, dw_size]; omega)) _) | (refine Ext.tr ?_ (by assumption))))
theorem spec_l2StoreOk_c {s : Value} {vs : List Ver} {w : World} (ha : rVers w s vs) : Ret (EV P 110 #[.agg #[s]] w) fun r => r.1 = .bool (storeOk vs) ∧ Ext w r.2 := by
  have ha' := ha
  obtain ⟨aa, ca, hs, hm⟩ := ha.len
  subst hs
  refine Ret.enter plain mixed (spec_l2StoreOk_fn _ _) (by kernel_rfl) (n := 1) (by kernel_rfl) rfl ?_
  simp (disch := first | omega | (simp only [World.size_alloc, size_setRow, dw_size]; done) | (simp only [World.size_alloc, size_setRow, dw_size]; omega) | (simp only [List.length_set, Array.length_toList]; omega)) [-Option.bind_some, hp_alloc_lt, hp_alloc_eq, hp_set_ne]
  refine Ret.mono (spec_l2StoreOk_l vs.length 0 _ _ (by omega) rfl rfl (hp_alloc_eq rfl) (ha'.mono (Ext.keep (by (repeat (first | exact Ext.rfl | assumption | (refine Ext.al ?_ _) | (refine Ext.dw ?_) | (refine Ext.set ?_ (by first | omega | (simp only [World.size_alloc, size_setRow, dw_size]; omega)) _) | (refine Ext.tr ?_ (by assumption)))))))) ?_
  rintro r ⟨h1, h2⟩
  exact ⟨h1, (Ext.al Ext.rfl _).tr h2⟩
theorem storeOk_len {vs : List Ver} (h : storeOk vs = true) : vs.length = 4 := by
  simp only [storeOk, Bool.and_eq_true, beq_iff_eq] at h
  exact h.2
theorem slots_get : ∀ (vs : List Ver) (i k : Nat) (v : Ver), slots i vs = true → vs[k]? = some v → slotOk (i + k) v = true
  | v :: vs, i, 0, u, h, hu => by
    simp only [List.getElem?_cons_zero, Option.some.injEq] at hu
    subst hu
    simp only [slots, Bool.and_eq_true] at h
    exact h.1
  | v :: vs, i, k + 1, u, h, hu => by
    simp only [slots, Bool.and_eq_true] at h
    have := slots_get vs (i + 1) k u h.2 (by simpa using hu)
    rwa [show i + (k + 1) = i + 1 + k by omega]
  | [], i, k, u, h, hu => by simp at hu
end Go.Proofs.YtggmfmanpjcjkaaGreat.X
set_option linter.unusedVariables false
set_option linter.unusedSimpArgs false
set_option maxRecDepth 100000
namespace Go.Proofs.YtggmfmanpjcjkaaGreat.X
open Go Go.Ev Go.RowKit
theorem impl_keyOk_c (n : Int) (w : World) : Ret (EV P 65 #[i64 n] w) fun r => r = (.bool (keyOk n), w) := by
  refine Ret.enter plain mixed (impl_keyOk_fn _ _) (by kernel_rfl) (n := 1) (by kernel_rfl) rfl ?_
  simp (disch := first | omega | (simp only [World.size_alloc, size_setRow, dw_size]; done) | (simp only [World.size_alloc, size_setRow, dw_size]; omega) | (simp only [List.length_set, Array.length_toList]; omega)) [-Option.bind_some, hp_alloc_lt, hp_alloc_eq, hp_set_ne]
  refine Ret.bind (impl_within_c _ _ _ _) ?_
  rintro _ rfl
  simp (disch := first | omega | (simp only [World.size_alloc, size_setRow, dw_size]; done) | (simp only [World.size_alloc, size_setRow, dw_size]; omega) | (simp only [List.length_set, Array.length_toList]; omega)) [-Option.bind_some, hp_alloc_lt, hp_alloc_eq, hp_set_ne]
  rfl
theorem impl_textOk_l {s : ByteArray} (hs : s.size ≤ 140737488351232) : ∀ (d k : Nat) (e : Env) (w : World), k + d = s.size → e 0 = .string s → e 5 = i64 s.size → e 6 = i64 k →
    Ret (impl_textOk_l1 e w) fun r => r = (.bool ((s.toList.drop k).all byteOk && decide ((s.size : Int) ≤ 8)), w) := by
  intro d
  induction d with
  | zero =>
    intro k e w hd h0 h5 h6
    rw [impl_textOk_l1_eq]
    simp (disch := first | omega | (simp only [World.size_alloc, size_setRow, dw_size]; done) | (simp only [World.size_alloc, size_setRow, dw_size]; omega) | (simp only [List.length_set, Array.length_toList]; omega)) [-Option.bind_some, hp_alloc_lt, hp_alloc_eq, hp_set_ne, h0, h5, h6, show ¬ k < s.size by omega, show s.size ≤ k by omega]
    rw [List.drop_eq_nil_of_le (by rw [byte_list]; omega)]
    simp
  | succ d ih =>
    intro k e w hd h0 h5 h6
    rw [impl_textOk_l1_eq]
    have hlt : k < s.size := by omega
    obtain ⟨b, hb, hdx⟩ := drop_at (l := s.toList) (k := k) (by rw [byte_list]; omega)
    have hix := fun w => ix_str (P := P) (t := 9) (by kernel_rfl) s (i := k) (by omega) (b := b) (by simpa using hb) w
    have hby : b.toNat < 256 := UInt8.toNat_lt b
    rw [hdx]
    simp (disch := first | omega | (simp only [World.size_alloc, size_setRow, dw_size]; done) | (simp only [World.size_alloc, size_setRow, dw_size]; omega) | (simp only [List.length_set, Array.length_toList]; omega)) [-Option.bind_some, hp_alloc_lt, hp_alloc_eq, hp_set_ne, h0, h5, h6, hlt, hix]
    rw [w64 (by omega) (by omega)]
    refine Ret.bind (impl_within_c _ _ _ _) ?_
    rintro _ rfl
    cases hk : byteOk b
    · have hk' : (decide (33 ≤ (b.toNat : Int)) && decide ((b.toNat : Int) ≤ 126)) = false := hk
      simp (disch := first | omega | (simp only [World.size_alloc, size_setRow, dw_size]; done) | (simp only [World.size_alloc, size_setRow, dw_size]; omega) | (simp only [List.length_set, Array.length_toList]; omega)) [-Option.bind_some, hp_alloc_lt, hp_alloc_eq, hp_set_ne, hk', hk]
    · have hk' : (decide (33 ≤ (b.toNat : Int)) && decide ((b.toNat : Int) ≤ 126)) = true := hk
      simp (disch := first | omega | (simp only [World.size_alloc, size_setRow, dw_size]; done) | (simp only [World.size_alloc, size_setRow, dw_size]; omega) | (simp only [List.length_set, Array.length_toList]; omega)) [-Option.bind_some, hp_alloc_lt, hp_alloc_eq, hp_set_ne, hk', h6]
      refine Ret.mono (ih (k + 1) _ w (by omega) h0 h5 (congrArg i64 (w64 (by omega) (by omega)))) ?_
      rintro _ rfl
      simp [hk]
theorem impl_textOk_c {s : ByteArray} (hs : s.size ≤ 140737488351232) (w : World) : Ret (EV P 146 #[.string s] w) fun r => r = (.bool (textOk s), w) := by
  refine Ret.enter plain mixed (impl_textOk_fn _ _) (by kernel_rfl) (n := 1) (by kernel_rfl) rfl ?_
  simp (disch := first | omega | (simp only [World.size_alloc, size_setRow, dw_size]; done) | (simp only [World.size_alloc, size_setRow, dw_size]; omega) | (simp only [List.length_set, Array.length_toList]; omega)) [-Option.bind_some, hp_alloc_lt, hp_alloc_eq, hp_set_ne]
  exact impl_textOk_l hs s.size 0 _ w (by omega) rfl rfl rfl
theorem slices_IndexFunc_Tag_l {s f : Value} {xs : List Tag} {p : Tag → Bool} {w0 : World} (hf : ∀ x ∈ xs, ∀ w, Ext w0 w → Ret (clo P f #[x.v] w) fun r => r.1 = .bool (p x) ∧ Ext w r.2) :
    ∀ (d k : Nat) (e : Env) (w : World), k + d = xs.length → e 0 = s → e 1 = f → e 7 = i64 xs.length → e 8 = i64 k → rTags w0 s xs → Ext w0 w →
    Ret (slices_IndexFunc_Tag_l1 e w) fun r => ∃ i : Int, r.1 = i64 i ∧ decide (0 ≤ i) = (xs.drop k).any p ∧ Ext w0 r.2 := by
  intro d
  induction d with
  | zero =>
    intro k e w hd h0 h1 h7 h8 ha hE
    rw [slices_IndexFunc_Tag_l1_eq]
    simp (disch := first | omega | (simp only [World.size_alloc, size_setRow, dw_size]; done) | (simp only [World.size_alloc, size_setRow, dw_size]; omega) | (simp only [List.length_set, Array.length_toList]; omega)) [-Option.bind_some, hp_alloc_lt, hp_alloc_eq, hp_set_ne, h0, h1, h7, h8, show ¬ k < xs.length by omega, show xs.length ≤ k by omega]
    rw [List.drop_eq_nil_of_le (by omega)]
    exact ⟨by simp, hE⟩
  | succ d ih =>
    intro k e w hd h0 h1 h7 h8 ha hE
    obtain ⟨aa, ca, hs, hm⟩ := ha.len
    rw [slices_IndexFunc_Tag_l1_eq]
    have hlt : k < xs.length := by omega
    obtain ⟨x, hx, hdx⟩ := drop_at hlt
    obtain ⟨b1, o1, c1, hs1, hA0⟩ := ha.at hx
    have hA := hA0.mono (Ext.keep hE)
    have p0 := hA 0 _ rfl
    have p1 := hA 1 _ rfl
    simp only [Nat.add_zero] at p0
    rw [hdx]
    subst hs1
    simp (disch := first | omega | (simp only [World.size_alloc, size_setRow, dw_size]; done) | (simp only [World.size_alloc, size_setRow, dw_size]; omega) | (simp only [List.length_set, Array.length_toList]; omega)) [-Option.bind_some, hp_alloc_lt, hp_alloc_eq, hp_set_ne, h0, h1, h7, h8, hlt, ia_60, p0, p1]
    refine Ret.bind (hf x (List.mem_of_getElem? hx) _ hE) ?_
    rintro ⟨_, w1⟩ ⟨rfl, hE1⟩
    cases hp : p x
    · simp (disch := first | omega | (simp only [World.size_alloc, size_setRow, dw_size]; done) | (simp only [World.size_alloc, size_setRow, dw_size]; omega) | (simp only [List.length_set, Array.length_toList]; omega)) [-Option.bind_some, hp_alloc_lt, hp_alloc_eq, hp_set_ne, hp, h8]
      refine Ret.mono (ih (k + 1) _ w1 (by omega) h0 h1 h7 (congrArg i64 (w64 (by omega) (by omega))) ha (hE.tr hE1)) ?_
      rintro r ⟨i, h2, h3, h4⟩
      exact ⟨i, h2, by simpa [hp] using h3, h4⟩
    · simp (disch := first | omega | (simp only [World.size_alloc, size_setRow, dw_size]; done) | (simp only [World.size_alloc, size_setRow, dw_size]; omega) | (simp only [List.length_set, Array.length_toList]; omega)) [-Option.bind_some, hp_alloc_lt, hp_alloc_eq, hp_set_ne, hp]
      exact hE.tr hE1
theorem slices_ContainsFunc_Tag_c {s f : Value} {xs : List Tag} {p : Tag → Bool} {w : World} (ha : rTags w s xs) (hf : ∀ x ∈ xs, ∀ w', Ext w w' → Ret (clo P f #[x.v] w') fun r => r.1 = .bool (p x) ∧ Ext w' r.2) :
    Ret (EV P 102 #[s, f] w) fun r => r.1 = .bool (xs.any p) ∧ Ext w r.2 := by
  have ha' := ha
  obtain ⟨aa, ca, hs, hm⟩ := ha.len
  subst hs
  have hi : Ret (EV P 130 #[.slice aa xs.length ca, f] w) fun r => ∃ i : Int, r.1 = i64 i ∧ decide (0 ≤ i) = xs.any p ∧ Ext w r.2 := by
    refine Ret.enter plain mixed (slices_IndexFunc_Tag_fn _ _ _) (by kernel_rfl) (n := 2) (by kernel_rfl) rfl ?_
    simp (disch := first | omega | (simp only [World.size_alloc, size_setRow, dw_size]; done) | (simp only [World.size_alloc, size_setRow, dw_size]; omega) | (simp only [List.length_set, Array.length_toList]; omega)) [-Option.bind_some, hp_alloc_lt, hp_alloc_eq, hp_set_ne]
    exact slices_IndexFunc_Tag_l hf xs.length 0 _ w (by omega) rfl rfl rfl rfl ha' Ext.rfl
  refine Ret.enter plain mixed (slices_ContainsFunc_Tag_fn _ _ _) (by kernel_rfl) (n := 2) (by kernel_rfl) rfl ?_
  simp (disch := first | omega | (simp only [World.size_alloc, size_setRow, dw_size]; done) | (simp only [World.size_alloc, size_setRow, dw_size]; omega) | (simp only [List.length_set, Array.length_toList]; omega)) [-Option.bind_some, hp_alloc_lt, hp_alloc_eq, hp_set_ne]
  refine Ret.bind hi ?_
  rintro ⟨_, w1⟩ ⟨i, rfl, h2, hE⟩
  simp (disch := first | omega | (simp only [World.size_alloc, size_setRow, dw_size]; done) | (simp only [World.size_alloc, size_setRow, dw_size]; omega) | (simp only [List.length_set, Array.length_toList]; omega)) [-Option.bind_some, hp_alloc_lt, hp_alloc_eq, hp_set_ne, h2]
  exact hE
theorem impl_PastOk_1_c (x : Tag) (w : World) : Ret (EV P 103 #[x.v] w) fun r => r.1 = .bool (!tagOk x) ∧ Ext w r.2 := by
  refine Ret.enter plain mixed (impl_PastOk_1_fn _ _) (by kernel_rfl) (n := 1) (by kernel_rfl) rfl ?_
  simp (disch := first | omega | (simp only [World.size_alloc, size_setRow, dw_size]; done) | (simp only [World.size_alloc, size_setRow, dw_size]; omega) | (simp only [List.length_set, Array.length_toList]; omega)) [-Option.bind_some, hp_alloc_lt, hp_alloc_eq, hp_set_ne]
  refine Ret.bind (impl_TagOk_c x _) ?_
  rintro ⟨_, w1⟩ ⟨rfl, hE⟩
  simp (disch := first | omega | (simp only [World.size_alloc, size_setRow, dw_size]; done) | (simp only [World.size_alloc, size_setRow, dw_size]; omega) | (simp only [List.length_set, Array.length_toList]; omega)) [-Option.bind_some, hp_alloc_lt, hp_alloc_eq, hp_set_ne]
  (repeat (first | exact Ext.rfl | assumption | (refine Ext.al ?_ _) | (refine Ext.dw ?_) | (refine Ext.set ?_ (by first | omega | (simp only [World.size_alloc, size_setRow, dw_size]; omega)) _) | (refine Ext.tr ?_ (by assumption))))
theorem impl_PastOk_c {s : Value} {xs : List Tag} {w : World} (ha : rTags w s xs) : Ret (EV P 70 #[.agg #[s]] w) fun r => r.1 = .bool (pastOk xs) ∧ Ext w r.2 := by
  have ha' := ha
  obtain ⟨aa, ca, hs, hm⟩ := ha.len
  subst hs
  refine Ret.enter plain mixed (impl_PastOk_fn _ _) (by kernel_rfl) (n := 1) (by kernel_rfl) rfl ?_
  have hq : ((xs.length : Int) == 4) = (xs.length == 4) := by rw [Bool.eq_iff_iff]; simp only [beq_iff_eq]; omega
  cases h4 : (xs.length == 4)
  · simp (disch := first | omega | (simp only [World.size_alloc, size_setRow, dw_size]; done) | (simp only [World.size_alloc, size_setRow, dw_size]; omega) | (simp only [List.length_set, Array.length_toList]; omega)) [-Option.bind_some, hp_alloc_lt, hp_alloc_eq, hp_set_ne, hq, h4, pastOk]
    (repeat (first | exact Ext.rfl | assumption | (refine Ext.al ?_ _) | (refine Ext.dw ?_) | (refine Ext.set ?_ (by first | omega | (simp only [World.size_alloc, size_setRow, dw_size]; omega)) _) | (refine Ext.tr ?_ (by assumption))))
  · simp (disch := first | omega | (simp only [World.size_alloc, size_setRow, dw_size]; done) | (simp only [World.size_alloc, size_setRow, dw_size]; omega) | (simp only [List.length_set, Array.length_toList]; omega)) [-Option.bind_some, hp_alloc_lt, hp_alloc_eq, hp_set_ne, hq, h4]
    refine Ret.bind (slices_ContainsFunc_Tag_c (p := fun x => !tagOk x) (ha'.mono (Ext.keep (by (repeat (first | exact Ext.rfl | assumption | (refine Ext.al ?_ _) | (refine Ext.dw ?_) | (refine Ext.set ?_ (by first | omega | (simp only [World.size_alloc, size_setRow, dw_size]; omega)) _) | (refine Ext.tr ?_ (by assumption))))))) ?_) ?_
    · intro x _ w' _
      rw [clo_eq (P := P) (g := 103) (by kernel_rfl) [] [] [x.v] w']
      exact impl_PastOk_1_c x w'
    rintro ⟨_, w1⟩ ⟨rfl, hE⟩
    simp (disch := first | omega | (simp only [World.size_alloc, size_setRow, dw_size]; done) | (simp only [World.size_alloc, size_setRow, dw_size]; omega) | (simp only [List.length_set, Array.length_toList]; omega)) [-Option.bind_some, hp_alloc_lt, hp_alloc_eq, hp_set_ne]
    refine ⟨?_, by (repeat (first | exact Ext.rfl | assumption | (refine Ext.al ?_ _) | (refine Ext.dw ?_) | (refine Ext.set ?_ (by first | omega | (simp only [World.size_alloc, size_setRow, dw_size]; omega)) _) | (refine Ext.tr ?_ (by assumption))))⟩
    simp only [pastOk, h4, Bool.and_true]
    rw [Bool.eq_iff_iff]
    simp
theorem impl_Past_latest_l {s : Value} {xs : List Tag} : ∀ (d k : Nat) (e : Env) (w : World) (m : Int), k + d = xs.length → e 3 = i64 m → e 7 = s → e 8 = i64 xs.length → e 9 = i64 k → rTags w s xs →
    Ret (impl_Past_latest_l1 e w) fun r => r.1 = i64 (latest m (xs.drop k)) ∧ Ext w r.2 := by
  intro d
  induction d with
  | zero =>
    intro k e w m hd h3 h7 h8 h9 ha
    rw [impl_Past_latest_l1_eq]
    simp (disch := first | omega | (simp only [World.size_alloc, size_setRow, dw_size]; done) | (simp only [World.size_alloc, size_setRow, dw_size]; omega) | (simp only [List.length_set, Array.length_toList]; omega)) [-Option.bind_some, hp_alloc_lt, hp_alloc_eq, hp_set_ne, h3, h7, h8, h9, show ¬ k < xs.length by omega, show xs.length ≤ k by omega]
    rw [List.drop_eq_nil_of_le (by omega)]
    exact ⟨rfl, by (repeat (first | exact Ext.rfl | assumption | (refine Ext.al ?_ _) | (refine Ext.dw ?_) | (refine Ext.set ?_ (by first | omega | (simp only [World.size_alloc, size_setRow, dw_size]; omega)) _) | (refine Ext.tr ?_ (by assumption))))⟩
  | succ d ih =>
    intro k e w m hd h3 h7 h8 h9 ha
    obtain ⟨aa, ca, hs, hm⟩ := ha.len
    rw [impl_Past_latest_l1_eq]
    have hlt : k < xs.length := by omega
    obtain ⟨x, hx, hdx⟩ := drop_at hlt
    obtain ⟨b1, o1, c1, hs1, hA⟩ := ha.at hx
    have p0 := hA 0 _ rfl
    have p1 := hA 1 _ rfl
    simp only [Nat.add_zero] at p0
    rw [hdx]
    subst hs1
    simp (disch := first | omega | (simp only [World.size_alloc, size_setRow, dw_size]; done) | (simp only [World.size_alloc, size_setRow, dw_size]; omega) | (simp only [List.length_set, Array.length_toList]; omega)) [-Option.bind_some, hp_alloc_lt, hp_alloc_eq, hp_set_ne, h3, h7, h8, h9, hlt, ia_60, p0, p1, max_int]
    have hE : Ext w ((w.alloc (.cells #[i64 0, i64 0] 64)).setRow w.heap.size #[i64 x.t, i64 x.p]) := by (repeat (first | exact Ext.rfl | assumption | (refine Ext.al ?_ _) | (refine Ext.dw ?_) | (refine Ext.set ?_ (by first | omega | (simp only [World.size_alloc, size_setRow, dw_size]; omega)) _) | (refine Ext.tr ?_ (by assumption))))
    refine Ret.mono (ih (k + 1) _ _ (if m < x.t then x.t else m) (by omega) rfl h7 h8 (congrArg i64 (w64 (by omega) (by omega))) (ha.mono (Ext.keep hE))) ?_
    rintro r ⟨h4, h5⟩
    exact ⟨by rw [h4]; rfl, hE.tr h5⟩
theorem impl_Past_latest_c {s : Value} {xs : List Tag} {w : World} (ha : rTags w s xs) : Ret (EV P 120 #[.agg #[s]] w) fun r => r.1 = i64 (latest 0 xs) ∧ Ext w r.2 := by
  have ha' := ha
  obtain ⟨aa, ca, hs, hm⟩ := ha.len
  subst hs
  refine Ret.enter plain mixed (impl_Past_latest_fn _ _) (by kernel_rfl) (n := 1) (by kernel_rfl) rfl ?_
  simp (disch := first | omega | (simp only [World.size_alloc, size_setRow, dw_size]; done) | (simp only [World.size_alloc, size_setRow, dw_size]; omega) | (simp only [List.length_set, Array.length_toList]; omega)) [-Option.bind_some, hp_alloc_lt, hp_alloc_eq, hp_set_ne]
  refine Ret.mono (impl_Past_latest_l xs.length 0 _ _ 0 (by omega) rfl rfl rfl rfl (ha'.mono (Ext.keep (by (repeat (first | exact Ext.rfl | assumption | (refine Ext.al ?_ _) | (refine Ext.dw ?_) | (refine Ext.set ?_ (by first | omega | (simp only [World.size_alloc, size_setRow, dw_size]; omega)) _) | (refine Ext.tr ?_ (by assumption)))))))) ?_
  rintro r ⟨h1, h2⟩
  exact ⟨h1, (Ext.al Ext.rfl _).tr h2⟩
theorem impl_Past_under_l {s u : Value} {xs ys : List Tag} {c t' : Nat} (hy4 : ys.length = xs.length) : ∀ (d k : Nat) (e : Env) (w : World), k + d = xs.length → e 3 = pt c 0 → e 8 = s → e 9 = i64 xs.length → e 10 = i64 k →
    hp w c = some (.cells #[u] t' (0, 0)) → rTags w s xs → rTags w u ys →
    Ret (impl_Past_under_l1 e w) fun r => r.1 = .bool (under (xs.drop k) (ys.drop k)) ∧ Ext w r.2 := by
  intro d
  induction d with
  | zero =>
    intro k e w hd h3 h8 h9 h10 hy ha hb
    rw [impl_Past_under_l1_eq]
    simp (disch := first | omega | (simp only [World.size_alloc, size_setRow, dw_size]; done) | (simp only [World.size_alloc, size_setRow, dw_size]; omega) | (simp only [List.length_set, Array.length_toList]; omega)) [-Option.bind_some, hp_alloc_lt, hp_alloc_eq, hp_set_ne, h3, h8, h9, h10, show ¬ k < xs.length by omega, show xs.length ≤ k by omega]
    rw [List.drop_eq_nil_of_le (by omega)]
    exact ⟨rfl, by (repeat (first | exact Ext.rfl | assumption | (refine Ext.al ?_ _) | (refine Ext.dw ?_) | (refine Ext.set ?_ (by first | omega | (simp only [World.size_alloc, size_setRow, dw_size]; omega)) _) | (refine Ext.tr ?_ (by assumption))))⟩
  | succ d ih =>
    intro k e w hd h3 h8 h9 h10 hy ha hb
    rw [impl_Past_under_l1_eq]
    obtain ⟨_, _, _, hm⟩ := ha.len
    have hlt : k < xs.length := by omega
    have hlt' : k < ys.length := by omega
    obtain ⟨x, hxk, hdx⟩ := drop_at hlt
    obtain ⟨y, hyk, hdy⟩ := drop_at hlt'
    obtain ⟨b1, o1, c1, hs1, hA⟩ := ha.at hxk
    obtain ⟨b2, o2, c2, hs2, hB⟩ := hb.at hyk
    have p0 := hA 0 _ rfl
    have p1 := hA 1 _ rfl
    have q0 := hB 0 _ rfl
    have q1 := hB 1 _ rfl
    have hb2 := hB.lt
    have hcl := hp_lt hy
    simp only [Nat.add_zero] at p0 q0
    subst hs1
    subst hs2
    simp (disch := first | omega | (simp only [World.size_alloc, size_setRow, dw_size]; done) | (simp only [World.size_alloc, size_setRow, dw_size]; omega) | (simp only [List.length_set, Array.length_toList]; omega)) [-Option.bind_some, hp_alloc_lt, hp_alloc_eq, hp_set_ne, h3, h8, h9, h10, hy, hlt, hlt', ia_60, p0, p1, q0, q1]
    refine Ret.bind (impl_TagLess_c y x _) ?_
    rintro ⟨_, w1⟩ ⟨rfl, hE⟩
    have hE' : Ext w w1 := Ext.tr (by (repeat (first | exact Ext.rfl | assumption | (refine Ext.al ?_ _) | (refine Ext.dw ?_) | (refine Ext.set ?_ (by first | omega | (simp only [World.size_alloc, size_setRow, dw_size]; omega)) _) | (refine Ext.tr ?_ (by assumption))))) hE
    cases hl : tagLess y x
    · simp (disch := first | omega | (simp only [World.size_alloc, size_setRow, dw_size]; done) | (simp only [World.size_alloc, size_setRow, dw_size]; omega) | (simp only [List.length_set, Array.length_toList]; omega)) [-Option.bind_some, hp_alloc_lt, hp_alloc_eq, hp_set_ne, hl, h10]
      refine Ret.mono (ih (k + 1) _ w1 (by omega) h3 h8 h9 (congrArg i64 (w64 (by omega) (by omega))) ((hE'.blk hcl).trans hy) (ha.mono (Ext.keep hE')) (hb.mono (Ext.keep hE'))) ?_
      rintro r ⟨h6, h7⟩
      exact ⟨by rw [h6, hdx, hdy]; simp [under, hl], hE'.tr h7⟩
    · simp (disch := first | omega | (simp only [World.size_alloc, size_setRow, dw_size]; done) | (simp only [World.size_alloc, size_setRow, dw_size]; omega) | (simp only [List.length_set, Array.length_toList]; omega)) [-Option.bind_some, hp_alloc_lt, hp_alloc_eq, hp_set_ne, hl]
      exact ⟨by rw [hdx, hdy]; simp [under, hl], hE'⟩
theorem impl_Past_under_c {s u : Value} {xs ys : List Tag} (hy4 : ys.length = xs.length) {w : World} (ha : rTags w s xs) (hb : rTags w u ys) : Ret (EV P 51 #[.agg #[s], .agg #[u]] w) fun r => r.1 = .bool (under xs ys) ∧ Ext w r.2 := by
  have ha' := ha
  have hb' := hb
  obtain ⟨aa, ca, hs, hm⟩ := ha.len
  obtain ⟨ab, cb, hu, _⟩ := hb.len
  subst hs
  subst hu
  refine Ret.enter plain mixed (impl_Past_under_fn _ _ _) (by kernel_rfl) (n := 2) (by kernel_rfl) rfl ?_
  simp (disch := first | omega | (simp only [World.size_alloc, size_setRow, dw_size]; done) | (simp only [World.size_alloc, size_setRow, dw_size]; omega) | (simp only [List.length_set, Array.length_toList]; omega)) [-Option.bind_some, hp_alloc_lt, hp_alloc_eq, hp_set_ne]
  refine Ret.mono (impl_Past_under_l (c := w.heap.size + 1) hy4 xs.length 0 _ _ (by omega) rfl rfl rfl rfl (hp_alloc_eq (by simp)) (ha'.mono (Ext.keep (by (repeat (first | exact Ext.rfl | assumption | (refine Ext.al ?_ _) | (refine Ext.dw ?_) | (refine Ext.set ?_ (by first | omega | (simp only [World.size_alloc, size_setRow, dw_size]; omega)) _) | (refine Ext.tr ?_ (by assumption))))))) (hb'.mono (Ext.keep (by (repeat (first | exact Ext.rfl | assumption | (refine Ext.al ?_ _) | (refine Ext.dw ?_) | (refine Ext.set ?_ (by first | omega | (simp only [World.size_alloc, size_setRow, dw_size]; omega)) _) | (refine Ext.tr ?_ (by assumption)))))))) ?_
  rintro r ⟨h1, h2⟩
  exact ⟨h1, (Ext.al (Ext.al Ext.rfl _) _).tr h2⟩
theorem slices_Equal_Tag_end (e : Env) (w : World) (h12 : e 12 = i64 0) (h13 : e 13 = i64 0) : Ret (slices_Equal_Tag_l1 e w) fun r => r = (.bool true, w) := by
  rw [slices_Equal_Tag_l1_eq]
  simp (disch := first | omega | (simp only [World.size_alloc, size_setRow, dw_size]; done) | (simp only [World.size_alloc, size_setRow, dw_size]; omega) | (simp only [List.length_set, Array.length_toList]; omega)) [-Option.bind_some, hp_alloc_lt, hp_alloc_eq, hp_set_ne, h12, h13]
theorem slices_Equal_Tag_nil {s : Value} {xs : List Tag} {w : World} (ha : rTags w s xs) : Ret (EV P 101 #[s, .slice none 0 0] w) fun r => r = (.bool (xs.length == 0), w) := by
  obtain ⟨aa, ca, hs, hm⟩ := ha.len
  subst hs
  refine Ret.enter plain mixed (slices_Equal_Tag_fn _ _ _) (by kernel_rfl) (n := 2) (by kernel_rfl) rfl ?_
  by_cases h : xs.length = 0
  · simp (disch := first | omega | (simp only [World.size_alloc, size_setRow, dw_size]; done) | (simp only [World.size_alloc, size_setRow, dw_size]; omega) | (simp only [List.length_set, Array.length_toList]; omega)) [-Option.bind_some, hp_alloc_lt, hp_alloc_eq, hp_set_ne, h]
    refine Ret.mono (slices_Equal_Tag_end _ w rfl rfl) ?_
    rintro _ rfl
    rfl
  · have hne : ((xs.length : Int) != 0) = true := by simp only [bne_iff_ne, ne_eq]; omega
    simp (disch := first | omega | (simp only [World.size_alloc, size_setRow, dw_size]; done) | (simp only [World.size_alloc, size_setRow, dw_size]; omega) | (simp only [List.length_set, Array.length_toList]; omega)) [-Option.bind_some, hp_alloc_lt, hp_alloc_eq, hp_set_ne, h, hne]
theorem impl_Ver_same_c {cs : List Value} {v : Ver} {w : World} (ha : rVer w cs v) : Ret (EV P 68 #[.agg cs.toArray, .agg #[i64 0, i64 0, i64 0, .slice none 0 0, .string ⟨#[]⟩, .bool false]] w) fun r => r.1 = .bool (verNone v) ∧ Ext w r.2 := by
  obtain ⟨s, rfl, ha, ht⟩ := ha
  have ha' := ha
  obtain ⟨aa, ca, hs, hm⟩ := ha.len
  subst hs
  refine Ret.enter plain mixed (impl_Ver_same_fn _ _ _) (by kernel_rfl) (n := 2) (by kernel_rfl) rfl ?_
  cases hk : (v.key == 0)
  · have : verNone v = false := by simp [verNone, hk]
    simp (disch := first | omega | (simp only [World.size_alloc, size_setRow, dw_size]; done) | (simp only [World.size_alloc, size_setRow, dw_size]; omega) | (simp only [List.length_set, Array.length_toList]; omega)) [-Option.bind_some, hp_alloc_lt, hp_alloc_eq, hp_set_ne, hk, this]
    (repeat (first | exact Ext.rfl | assumption | (refine Ext.al ?_ _) | (refine Ext.dw ?_) | (refine Ext.set ?_ (by first | omega | (simp only [World.size_alloc, size_setRow, dw_size]; omega)) _) | (refine Ext.tr ?_ (by assumption))))
  cases hz : ((v.tag.t == 0) && (v.tag.p == 0))
  · have : verNone v = false := by simp [verNone, tag_n hz]
    simp (disch := first | omega | (simp only [World.size_alloc, size_setRow, dw_size]; done) | (simp only [World.size_alloc, size_setRow, dw_size]; omega) | (simp only [List.length_set, Array.length_toList]; omega)) [-Option.bind_some, hp_alloc_lt, hp_alloc_eq, hp_set_ne, hk, hz, this]
    (repeat (first | exact Ext.rfl | assumption | (refine Ext.al ?_ _) | (refine Ext.dw ?_) | (refine Ext.set ?_ (by first | omega | (simp only [World.size_alloc, size_setRow, dw_size]; omega)) _) | (refine Ext.tr ?_ (by assumption))))
  simp (disch := first | omega | (simp only [World.size_alloc, size_setRow, dw_size]; done) | (simp only [World.size_alloc, size_setRow, dw_size]; omega) | (simp only [List.length_set, Array.length_toList]; omega)) [-Option.bind_some, hp_alloc_lt, hp_alloc_eq, hp_set_ne, hk, hz]
  refine Ret.bind (slices_Equal_Tag_nil (ha'.mono (Ext.keep (by (repeat (first | exact Ext.rfl | assumption | (refine Ext.al ?_ _) | (refine Ext.dw ?_) | (refine Ext.set ?_ (by first | omega | (simp only [World.size_alloc, size_setRow, dw_size]; omega)) _) | (refine Ext.tr ?_ (by assumption)))))))) ?_
  rintro _ rfl
  cases h0 : (v.past.length == 0)
  · have : verNone v = false := by simp [verNone, h0]
    simp (disch := first | omega | (simp only [World.size_alloc, size_setRow, dw_size]; done) | (simp only [World.size_alloc, size_setRow, dw_size]; omega) | (simp only [List.length_set, Array.length_toList]; omega)) [-Option.bind_some, hp_alloc_lt, hp_alloc_eq, hp_set_ne, h0, this]
    (repeat (first | exact Ext.rfl | assumption | (refine Ext.al ?_ _) | (refine Ext.dw ?_) | (refine Ext.set ?_ (by first | omega | (simp only [World.size_alloc, size_setRow, dw_size]; omega)) _) | (refine Ext.tr ?_ (by assumption))))
  cases hx : v.text.toList.isEmpty
  · have : verNone v = false := by simp [verNone, noText, hx]
    simp (disch := first | omega | (simp only [World.size_alloc, size_setRow, dw_size]; done) | (simp only [World.size_alloc, size_setRow, dw_size]; omega) | (simp only [List.length_set, Array.length_toList]; omega)) [-Option.bind_some, hp_alloc_lt, hp_alloc_eq, hp_set_ne, h0, hx, this]
    (repeat (first | exact Ext.rfl | assumption | (refine Ext.al ?_ _) | (refine Ext.dw ?_) | (refine Ext.set ?_ (by first | omega | (simp only [World.size_alloc, size_setRow, dw_size]; omega)) _) | (refine Ext.tr ?_ (by assumption))))
  cases hg : v.gone
  · have : verNone v = true := by simp only [beq_iff_eq] at hk h0; simp [verNone, noText, hk, hx, hg, tag_z hz, List.eq_nil_of_length_eq_zero h0]
    simp (disch := first | omega | (simp only [World.size_alloc, size_setRow, dw_size]; done) | (simp only [World.size_alloc, size_setRow, dw_size]; omega) | (simp only [List.length_set, Array.length_toList]; omega)) [-Option.bind_some, hp_alloc_lt, hp_alloc_eq, hp_set_ne, h0, hx, hg, this]
    (repeat (first | exact Ext.rfl | assumption | (refine Ext.al ?_ _) | (refine Ext.dw ?_) | (refine Ext.set ?_ (by first | omega | (simp only [World.size_alloc, size_setRow, dw_size]; omega)) _) | (refine Ext.tr ?_ (by assumption))))
  · have : verNone v = false := by simp [verNone, hg]
    simp (disch := first | omega | (simp only [World.size_alloc, size_setRow, dw_size]; done) | (simp only [World.size_alloc, size_setRow, dw_size]; omega) | (simp only [List.length_set, Array.length_toList]; omega)) [-Option.bind_some, hp_alloc_lt, hp_alloc_eq, hp_set_ne, h0, hx, hg, this]
    (repeat (first | exact Ext.rfl | assumption | (refine Ext.al ?_ _) | (refine Ext.dw ?_) | (refine Ext.set ?_ (by first | omega | (simp only [World.size_alloc, size_setRow, dw_size]; omega)) _) | (refine Ext.tr ?_ (by assumption))))
theorem impl_Ver_written_c {cs : List Value} {v : Ver} {w : World} (ha : rVer w cs v) : Ret (EV P 119 #[.agg cs.toArray] w) fun r => r.1 = .bool (verWr v) ∧ Ext w r.2 := by
  obtain ⟨s, rfl, ha, ht⟩ := ha
  have ha' := ha
  obtain ⟨aa, ca, hs, hm⟩ := ha.len
  subst hs
  refine Ret.enter plain mixed (impl_Ver_written_fn _ _) (by kernel_rfl) (n := 1) (by kernel_rfl) rfl ?_
  simp (disch := first | omega | (simp only [World.size_alloc, size_setRow, dw_size]; done) | (simp only [World.size_alloc, size_setRow, dw_size]; omega) | (simp only [List.length_set, Array.length_toList]; omega)) [-Option.bind_some, hp_alloc_lt, hp_alloc_eq, hp_set_ne]
  refine Ret.bind (impl_keyOk_c _ _) ?_
  rintro _ rfl
  cases hk : keyOk v.key
  · simp (disch := first | omega | (simp only [World.size_alloc, size_setRow, dw_size]; done) | (simp only [World.size_alloc, size_setRow, dw_size]; omega) | (simp only [List.length_set, Array.length_toList]; omega)) [-Option.bind_some, hp_alloc_lt, hp_alloc_eq, hp_set_ne, hk, verWr]
    (repeat (first | exact Ext.rfl | assumption | (refine Ext.al ?_ _) | (refine Ext.dw ?_) | (refine Ext.set ?_ (by first | omega | (simp only [World.size_alloc, size_setRow, dw_size]; omega)) _) | (refine Ext.tr ?_ (by assumption))))
  simp (disch := first | omega | (simp only [World.size_alloc, size_setRow, dw_size]; done) | (simp only [World.size_alloc, size_setRow, dw_size]; omega) | (simp only [List.length_set, Array.length_toList]; omega)) [-Option.bind_some, hp_alloc_lt, hp_alloc_eq, hp_set_ne, hk]
  refine Ret.bind (impl_textOk_c ht _) ?_
  rintro _ rfl
  cases hx : textOk v.text
  · simp (disch := first | omega | (simp only [World.size_alloc, size_setRow, dw_size]; done) | (simp only [World.size_alloc, size_setRow, dw_size]; omega) | (simp only [List.length_set, Array.length_toList]; omega)) [-Option.bind_some, hp_alloc_lt, hp_alloc_eq, hp_set_ne, hx, verWr]
    (repeat (first | exact Ext.rfl | assumption | (refine Ext.al ?_ _) | (refine Ext.dw ?_) | (refine Ext.set ?_ (by first | omega | (simp only [World.size_alloc, size_setRow, dw_size]; omega)) _) | (refine Ext.tr ?_ (by assumption))))
  have fin : ∀ w1, Ext w w1 → (v.gone = false ∨ v.text.toList.isEmpty = true) → Ret (EV P 70 #[.agg #[.slice aa v.past.length ca]] w1) fun r => r.1 = .bool (verWr v) ∧ Ext w r.2 := by
    intro w1 hE hg
    refine Ret.mono (impl_PastOk_c (ha'.mono (Ext.keep hE))) ?_
    rintro r ⟨h1, h2⟩
    have : (!v.gone || noText v.text) = true := by rcases hg with h | h <;> simp [h, noText]
    exact ⟨by rw [h1]; simp [verWr, hk, hx, this], hE.tr h2⟩
  cases hg : v.gone
  · simp (disch := first | omega | (simp only [World.size_alloc, size_setRow, dw_size]; done) | (simp only [World.size_alloc, size_setRow, dw_size]; omega) | (simp only [List.length_set, Array.length_toList]; omega)) [-Option.bind_some, hp_alloc_lt, hp_alloc_eq, hp_set_ne, hx, hg]
    refine Ret.bind (fin _ (by (repeat (first | exact Ext.rfl | assumption | (refine Ext.al ?_ _) | (refine Ext.dw ?_) | (refine Ext.set ?_ (by first | omega | (simp only [World.size_alloc, size_setRow, dw_size]; omega)) _) | (refine Ext.tr ?_ (by assumption))))) (.inl hg)) ?_
    rintro ⟨_, w1⟩ ⟨rfl, hE⟩
    simp (disch := first | omega | (simp only [World.size_alloc, size_setRow, dw_size]; done) | (simp only [World.size_alloc, size_setRow, dw_size]; omega) | (simp only [List.length_set, Array.length_toList]; omega)) [-Option.bind_some, hp_alloc_lt, hp_alloc_eq, hp_set_ne]
    exact hE
  · cases he : v.text.toList.isEmpty
    · have : verWr v = false := by simp [verWr, hg, noText, he]
      simp (disch := first | omega | (simp only [World.size_alloc, size_setRow, dw_size]; done) | (simp only [World.size_alloc, size_setRow, dw_size]; omega) | (simp only [List.length_set, Array.length_toList]; omega)) [-Option.bind_some, hp_alloc_lt, hp_alloc_eq, hp_set_ne, hx, hg, he, this]
      (repeat (first | exact Ext.rfl | assumption | (refine Ext.al ?_ _) | (refine Ext.dw ?_) | (refine Ext.set ?_ (by first | omega | (simp only [World.size_alloc, size_setRow, dw_size]; omega)) _) | (refine Ext.tr ?_ (by assumption))))
    · simp (disch := first | omega | (simp only [World.size_alloc, size_setRow, dw_size]; done) | (simp only [World.size_alloc, size_setRow, dw_size]; omega) | (simp only [List.length_set, Array.length_toList]; omega)) [-Option.bind_some, hp_alloc_lt, hp_alloc_eq, hp_set_ne, hx, hg, he]
      refine Ret.bind (fin _ (by (repeat (first | exact Ext.rfl | assumption | (refine Ext.al ?_ _) | (refine Ext.dw ?_) | (refine Ext.set ?_ (by first | omega | (simp only [World.size_alloc, size_setRow, dw_size]; omega)) _) | (refine Ext.tr ?_ (by assumption))))) (.inr he)) ?_
      rintro ⟨_, w1⟩ ⟨rfl, hE⟩
      simp (disch := first | omega | (simp only [World.size_alloc, size_setRow, dw_size]; done) | (simp only [World.size_alloc, size_setRow, dw_size]; omega) | (simp only [List.length_set, Array.length_toList]; omega)) [-Option.bind_some, hp_alloc_lt, hp_alloc_eq, hp_set_ne]
      exact hE
theorem impl_VerOk_c {cs : List Value} {v : Ver} {w : World} (ha : rVer w cs v) : Ret (EV P 89 #[.agg cs.toArray] w) fun r => r.1 = .bool (verOk v) ∧ Ext w r.2 := by
  have hav := ha
  obtain ⟨s, rfl, ha, ht⟩ := ha
  have ha' := ha
  obtain ⟨aa, ca, hs, hm⟩ := ha.len
  subst hs
  refine Ret.enter plain mixed (impl_VerOk_fn _ _) (by kernel_rfl) (n := 1) (by kernel_rfl) rfl ?_
  simp (disch := first | omega | (simp only [World.size_alloc, size_setRow, dw_size]; done) | (simp only [World.size_alloc, size_setRow, dw_size]; omega) | (simp only [List.length_set, Array.length_toList]; omega)) [-Option.bind_some, hp_alloc_lt, hp_alloc_eq, hp_set_ne]
  refine Ret.bind (impl_Ver_written_c (hav.mono (Ext.keep (by (repeat (first | exact Ext.rfl | assumption | (refine Ext.al ?_ _) | (refine Ext.dw ?_) | (refine Ext.set ?_ (by first | omega | (simp only [World.size_alloc, size_setRow, dw_size]; omega)) _) | (refine Ext.tr ?_ (by assumption)))))))) ?_
  rintro ⟨_, w1⟩ ⟨rfl, hE⟩
  have hE' : Ext w w1 := Ext.tr (by (repeat (first | exact Ext.rfl | assumption | (refine Ext.al ?_ _) | (refine Ext.dw ?_) | (refine Ext.set ?_ (by first | omega | (simp only [World.size_alloc, size_setRow, dw_size]; omega)) _) | (refine Ext.tr ?_ (by assumption))))) hE
  have hx1 : hp w1 w.heap.size = some (.cells #[i64 v.key, i64 v.tag.t, i64 v.tag.p, Value.slice aa v.past.length ca, .string v.text, .bool v.gone] 69 (0, 0)) := (hE.blk (by simp)).trans ((hp_dw _ _).trans (hp_alloc_eq rfl))
  cases hw : verWr v
  · simp (disch := first | omega | (simp only [World.size_alloc, size_setRow, dw_size]; done) | (simp only [World.size_alloc, size_setRow, dw_size]; omega) | (simp only [List.length_set, Array.length_toList]; omega)) [-Option.bind_some, hp_alloc_lt, hp_alloc_eq, hp_set_ne, hw, verOk]
    exact hE'
  simp (disch := first | omega | (simp only [World.size_alloc, size_setRow, dw_size]; done) | (simp only [World.size_alloc, size_setRow, dw_size]; omega) | (simp only [List.length_set, Array.length_toList]; omega)) [-Option.bind_some, hp_alloc_lt, hp_alloc_eq, hp_set_ne, hw, hx1]
  refine Ret.bind (impl_TagOk_c v.tag _) ?_
  rintro ⟨_, w2⟩ ⟨rfl, hE2⟩
  have hx2 := (hE2.blk (hp_lt hx1)).trans hx1
  cases hg : tagOk v.tag
  · simp (disch := first | omega | (simp only [World.size_alloc, size_setRow, dw_size]; done) | (simp only [World.size_alloc, size_setRow, dw_size]; omega) | (simp only [List.length_set, Array.length_toList]; omega)) [-Option.bind_some, hp_alloc_lt, hp_alloc_eq, hp_set_ne, hg, hx2, hx1, verOk]
    exact hE'.tr hE2
  simp (disch := first | omega | (simp only [World.size_alloc, size_setRow, dw_size]; done) | (simp only [World.size_alloc, size_setRow, dw_size]; omega) | (simp only [List.length_set, Array.length_toList]; omega)) [-Option.bind_some, hp_alloc_lt, hp_alloc_eq, hp_set_ne, hg, hx1, hx2]
  refine Ret.bind (impl_Past_latest_c (ha'.mono (Ext.keep (hE'.tr hE2)))) ?_
  rintro ⟨_, w3⟩ ⟨rfl, hE3⟩
  have hx3 := (hE3.blk (hp_lt hx2)).trans hx2
  simp (disch := first | omega | (simp only [World.size_alloc, size_setRow, dw_size]; done) | (simp only [World.size_alloc, size_setRow, dw_size]; omega) | (simp only [List.length_set, Array.length_toList]; omega)) [-Option.bind_some, hp_alloc_lt, hp_alloc_eq, hp_set_ne, hx3, hx2, hx1, verOk, hw, hg]
  exact (hE'.tr hE2).tr hE3
end Go.Proofs.YtggmfmanpjcjkaaGreat.X
set_option linter.unusedVariables false
set_option linter.unusedSimpArgs false
set_option maxRecDepth 100000
namespace Go.Proofs.YtggmfmanpjcjkaaGreat.X
open Go Go.Ev Go.RowKit
theorem impl_PastNone_c (w : World) : Ret (EV P 58 #[] w) fun r => ∃ g, r.1 = .agg #[.slice (some ⟨g, 0, none⟩) 4 4] ∧ w.heap.size ≤ g ∧ hp r.2 g = some (.cells #[i64 0, i64 0, i64 0, i64 0, i64 0, i64 0, i64 0, i64 0] 64 (0, 0)) ∧ Ext w r.2 := by
  refine Ret.enter plain mixed (impl_PastNone_fn _) (by kernel_rfl) (n := 0) (by kernel_rfl) rfl ?_
  have hmk := fun w => ms_eq (P := P) el_60 (z := [i64 0, i64 0]) (by kernel_rfl) rfl (by omega) (l := 4) (c := 4) (by omega) (by omega) (by omega) (by omega) w
  simp only [show (4 : Int).toNat = 4 from rfl, zrep, List.append_nil, List.cons_append, List.nil_append] at hmk
  simp (disch := first | omega | (simp only [World.size_alloc, size_setRow, dw_size]; done) | (simp only [World.size_alloc, size_setRow, dw_size]; omega) | (simp only [List.length_set, Array.length_toList]; omega)) [-Option.bind_some, hp_alloc_lt, hp_alloc_eq, hp_set_ne, hmk]
  (repeat (first | exact Ext.rfl | assumption | (refine Ext.al ?_ _) | (refine Ext.dw ?_) | (refine Ext.set ?_ (by first | omega | (simp only [World.size_alloc, size_setRow, dw_size]; omega)) _) | (refine Ext.tr ?_ (by assumption))))
theorem impl_StoreOk_l {s : Value} {vs : List Ver} {b t : Nat} : ∀ (d k : Nat) (e : Env) (w : World), k + d = vs.length → e 1 = pt b 0 → e 6 = s → e 7 = i64 vs.length → e 8 = i64 k → hp w b = some (.cells #[s] t (0, 0)) → rVers w s vs →
    Ret (impl_StoreOk_l1 e w) fun r => r.1 = .bool (slots k (vs.drop k) && (vs.length == 4)) ∧ Ext w r.2 := by
  intro d
  induction d with
  | zero =>
    intro k e w hd h1 h6 h7 h8 hx ha
    obtain ⟨aa, ca, hs, hm⟩ := ha.len
    rw [impl_StoreOk_l1_eq]
    subst hs
    have hq : ((vs.length : Int) == 4) = (vs.length == 4) := by rw [Bool.eq_iff_iff]; simp only [beq_iff_eq]; omega
    simp (disch := first | omega | (simp only [World.size_alloc, size_setRow, dw_size]; done) | (simp only [World.size_alloc, size_setRow, dw_size]; omega) | (simp only [List.length_set, Array.length_toList]; omega)) [-Option.bind_some, hp_alloc_lt, hp_alloc_eq, hp_set_ne, h1, h6, h7, h8, hx, show ¬ k < vs.length by omega, show vs.length ≤ k by omega, hq]
    rw [List.drop_eq_nil_of_le (by omega)]
    exact ⟨by simp [slots], by (repeat (first | exact Ext.rfl | assumption | (refine Ext.al ?_ _) | (refine Ext.dw ?_) | (refine Ext.set ?_ (by first | omega | (simp only [World.size_alloc, size_setRow, dw_size]; omega)) _) | (refine Ext.tr ?_ (by assumption))))⟩
  | succ d ih =>
    intro k e w hd h1 h6 h7 h8 hx ha
    obtain ⟨aa, ca, hs, hm⟩ := ha.len
    rw [impl_StoreOk_l1_eq]
    have hlt : k < vs.length := by omega
    obtain ⟨v, hv, hdx⟩ := drop_at hlt
    obtain ⟨b1, o1, c1, cs, hs1, hA, hcs⟩ := ha.at hv
    have hcs' := hcs
    obtain ⟨sp, rfl, hsp, hts⟩ := hcs'
    obtain ⟨ap, cp, hsp', hpl⟩ := hsp.len
    subst hsp'
    have p0 := hA 0 _ rfl
    have p1 := hA 1 _ rfl
    have p2 := hA 2 _ rfl
    have p3 := hA 3 _ rfl
    have p4 := hA 4 _ rfl
    have p5 := hA 5 _ rfl
    simp only [Nat.add_zero] at p0
    have hsl : slots k (vs.drop k) = (slotOk k v && slots (k + 1) (vs.drop (k + 1))) := by rw [hdx]; rfl
    have next : ∀ w1, Ext w w1 → slotOk k v = true → ∀ e : Env, e 1 = pt b 0 → e 6 = s → e 7 = i64 vs.length → e 8 = i64 (k + 1 : Nat) → Ret (impl_StoreOk_l1 e w1) fun r => r.1 = .bool (slots k (vs.drop k) && (vs.length == 4)) ∧ Ext w r.2 := by
      intro w1 hE ho e h1 h6 h7 h8
      refine Ret.mono (ih (k + 1) e w1 (by omega) h1 h6 h7 h8 ((hE.blk (hp_lt hx)).trans hx) (ha.mono (Ext.keep hE))) ?_
      rintro r ⟨h4, h5⟩
      exact ⟨by rw [h4, hsl, ho, Bool.true_and], hE.tr h5⟩
    have cnt : i64 (IntKind.i64.wrap ((k : Int) + 1)) = i64 (k + 1 : Nat) := congrArg i64 (w64 (by omega) (by omega))
    subst hs1
    simp (disch := first | omega | (simp only [World.size_alloc, size_setRow, dw_size]; done) | (simp only [World.size_alloc, size_setRow, dw_size]; omega) | (simp only [List.length_set, Array.length_toList]; omega)) [-Option.bind_some, hp_alloc_lt, hp_alloc_eq, hp_set_ne, h1, h6, h7, h8, hlt, ia_47, p0, p1, p2, p3, p4, p5]
    refine Ret.bind (impl_Ver_same_c (cs := [i64 v.key, i64 v.tag.t, i64 v.tag.p, .slice ap v.past.length cp, .string v.text, .bool v.gone]) (hcs.mono (Ext.keep (by (repeat (first | exact Ext.rfl | assumption | (refine Ext.al ?_ _) | (refine Ext.dw ?_) | (refine Ext.set ?_ (by first | omega | (simp only [World.size_alloc, size_setRow, dw_size]; omega)) _) | (refine Ext.tr ?_ (by assumption)))))))) ?_
    rintro ⟨_, w1⟩ ⟨rfl, hE⟩
    have hE' : Ext w w1 := Ext.tr (by (repeat (first | exact Ext.rfl | assumption | (refine Ext.al ?_ _) | (refine Ext.dw ?_) | (refine Ext.set ?_ (by first | omega | (simp only [World.size_alloc, size_setRow, dw_size]; omega)) _) | (refine Ext.tr ?_ (by assumption))))) hE
    have hx1 : hp w1 w.heap.size = some (.cells #[i64 v.key, i64 v.tag.t, i64 v.tag.p, .slice ap v.past.length cp, .string v.text, .bool v.gone] 69 (0, 0)) := (hE.blk (by simp)).trans (by simp (disch := first | omega | (simp only [World.size_alloc, size_setRow, dw_size]; done) | (simp only [World.size_alloc, size_setRow, dw_size]; omega) | (simp only [List.length_set, Array.length_toList]; omega)) [-Option.bind_some, hp_alloc_lt, hp_alloc_eq, hp_set_ne])
    cases hn : verNone v
    case true =>
      simp (disch := first | omega | (simp only [World.size_alloc, size_setRow, dw_size]; done) | (simp only [World.size_alloc, size_setRow, dw_size]; omega) | (simp only [List.length_set, Array.length_toList]; omega)) [-Option.bind_some, hp_alloc_lt, hp_alloc_eq, hp_set_ne, hn, h8]
      exact next w1 hE' (by simp [slotOk, hn]) _ h1 h6 h7 cnt
    simp (disch := first | omega | (simp only [World.size_alloc, size_setRow, dw_size]; done) | (simp only [World.size_alloc, size_setRow, dw_size]; omega) | (simp only [List.length_set, Array.length_toList]; omega)) [-Option.bind_some, hp_alloc_lt, hp_alloc_eq, hp_set_ne, hn, hx1]
    refine Ret.bind (impl_VerOk_c (cs := [i64 v.key, i64 v.tag.t, i64 v.tag.p, .slice ap v.past.length cp, .string v.text, .bool v.gone]) (hcs.mono (Ext.keep hE'))) ?_
    rintro ⟨_, w2⟩ ⟨rfl, hE2⟩
    have hx2 := (hE2.blk (hp_lt hx1)).trans hx1
    have hE3 := hE'.tr hE2
    cases hvo : verOk v
    · simp (disch := first | omega | (simp only [World.size_alloc, size_setRow, dw_size]; done) | (simp only [World.size_alloc, size_setRow, dw_size]; omega) | (simp only [List.length_set, Array.length_toList]; omega)) [-Option.bind_some, hp_alloc_lt, hp_alloc_eq, hp_set_ne, hvo, hsl, slotOk, hn]
      exact hE3
    cases hk : (v.key != (k : Int))
    case true =>
      simp (disch := first | omega | (simp only [World.size_alloc, size_setRow, dw_size]; done) | (simp only [World.size_alloc, size_setRow, dw_size]; omega) | (simp only [List.length_set, Array.length_toList]; omega)) [-Option.bind_some, hp_alloc_lt, hp_alloc_eq, hp_set_ne, hvo, hx2, hk, hsl, slotOk, hn]
      simp only [bne_iff_ne, ne_eq] at hk
      exact ⟨fun h => (hk h).elim, hE3⟩
    simp (disch := first | omega | (simp only [World.size_alloc, size_setRow, dw_size]; done) | (simp only [World.size_alloc, size_setRow, dw_size]; omega) | (simp only [List.length_set, Array.length_toList]; omega)) [-Option.bind_some, hp_alloc_lt, hp_alloc_eq, hp_set_ne, hvo, hx2, hk, h8]
    simp only [bne_eq_false_iff_eq] at hk
    exact next w2 hE3 (by simp [slotOk, hvo, hk]) _ h1 h6 h7 cnt
theorem impl_StoreOk_c {s : Value} {vs : List Ver} {w : World} (ha : rVers w s vs) : Ret (EV P 86 #[.agg #[s]] w) fun r => r.1 = .bool (storeOk vs) ∧ Ext w r.2 := by
  have ha' := ha
  obtain ⟨aa, ca, hs, hm⟩ := ha.len
  subst hs
  refine Ret.enter plain mixed (impl_StoreOk_fn _ _) (by kernel_rfl) (n := 1) (by kernel_rfl) rfl ?_
  simp (disch := first | omega | (simp only [World.size_alloc, size_setRow, dw_size]; done) | (simp only [World.size_alloc, size_setRow, dw_size]; omega) | (simp only [List.length_set, Array.length_toList]; omega)) [-Option.bind_some, hp_alloc_lt, hp_alloc_eq, hp_set_ne]
  refine Ret.mono (impl_StoreOk_l vs.length 0 _ _ (by omega) rfl rfl rfl rfl (hp_alloc_eq rfl) (ha'.mono (Ext.keep (by (repeat (first | exact Ext.rfl | assumption | (refine Ext.al ?_ _) | (refine Ext.dw ?_) | (refine Ext.set ?_ (by first | omega | (simp only [World.size_alloc, size_setRow, dw_size]; omega)) _) | (refine Ext.tr ?_ (by assumption)))))))) ?_
  rintro r ⟨h1, h2⟩
  exact ⟨h1, (Ext.al Ext.rfl _).tr h2⟩
theorem impl_Store_tags_l {s : Value} {vs : List Ver} {b2 b3 g : Nat} {w0 : World} (h4 : vs.length = 4) (h02 : w0.heap.size ≤ b2) (h03 : w0.heap.size ≤ b3) (h0g : w0.heap.size ≤ g) (h23 : b2 ≠ b3) (hg2 : g ≠ b2) (hg3 : g ≠ b3) :
    ∀ (d k : Nat) (e : Env) (w : World) (cur : Array Value) (c0 : Value), k + d = vs.length → e 2 = pt b2 0 → e 3 = pt b3 0 → e 8 = s → e 9 = i64 4 → e 10 = i64 k →
    hp w b2 = some (.cells #[c0] 62 (0, 0)) → hp w b3 = some (.cells #[.slice (some ⟨g, 0, none⟩) 4 4] 62 (0, 0)) → hp w g = some (.cells cur 64 (0, 0)) → cur.size = 8 → cur.toList.take (k * 2) = tagCs (tagsOf (vs.take k)) →
    rVers w0 s vs → Ext w0 w →
    Ret (impl_Store_tags_l1 e w) fun r => r.1 = .agg #[.slice (some ⟨g, 0, none⟩) 4 4] ∧ (∃ c : Array Value, hp r.2 g = some (.cells c 64 (0, 0)) ∧ c.toList = tagCs (tagsOf vs)) ∧ Ext w0 r.2 := by
  intro d
  induction d with
  | zero =>
    intro k e w cur c0 hd h2 h3 h8 h9 h10 hx2 hx3 hg hc ht ha hE
    obtain rfl : k = 4 := by omega
    rw [impl_Store_tags_l1_eq]
    simp (disch := first | omega | (simp only [World.size_alloc, size_setRow, dw_size]; done) | (simp only [World.size_alloc, size_setRow, dw_size]; omega) | (simp only [List.length_set, Array.length_toList]; omega)) [-Option.bind_some, hp_alloc_lt, hp_alloc_eq, hp_set_ne, h2, h3, h8, h9, h10, hx2, hx3]
    rw [List.take_of_length_le (by simp; omega), List.take_of_length_le (by omega)] at ht
    exact ⟨⟨cur, hg, ht⟩, by (repeat (first | exact Ext.rfl | assumption | (refine Ext.al ?_ _) | (refine Ext.dw ?_) | (refine Ext.set ?_ (by first | omega | (simp only [World.size_alloc, size_setRow, dw_size]; omega)) _) | (refine Ext.tr ?_ (by assumption))))⟩
  | succ d ih =>
    intro k e w cur c0 hd h2 h3 h8 h9 h10 hx2 hx3 hg hc ht ha hE
    rw [impl_Store_tags_l1_eq]
    have hlt : k < vs.length := by omega
    have hlt4 : k < 4 := by omega
    obtain ⟨v, hv, hdx⟩ := drop_at hlt
    obtain ⟨b1, o1, c1, cs, hs1, hA0, hcs⟩ := ha.at hv
    have hA := hA0.mono (Ext.keep hE)
    obtain ⟨sp, rfl, hsp, hts⟩ := hcs
    obtain ⟨ap, cp, hsp', hpl⟩ := hsp.len
    subst hsp'
    have p0 := hA 0 _ rfl
    have p1 := hA 1 _ rfl
    have p2 := hA 2 _ rfl
    have p3 := hA 3 _ rfl
    have p4 := hA 4 _ rfl
    have p5 := hA 5 _ rfl
    simp only [Nat.add_zero] at p0
    have l2 := hp_lt hx2
    have l3 := hp_lt hx3
    have lg := hp_lt hg
    have hkk : k * 2 + 2 ≤ cur.size := by omega
    have hpt := row_put (cur := cur) (vs := tagC v.tag) (n := 4) (m := 2) hc hlt4 rfl
    subst hs1
    simp (disch := first | omega | (simp only [World.size_alloc, size_setRow, dw_size]; done) | (simp only [World.size_alloc, size_setRow, dw_size]; omega) | (simp only [List.length_set, Array.length_toList]; omega)) [-Option.bind_some, hp_alloc_lt, hp_alloc_eq, hp_set_ne, h2, h3, h8, h9, h10, hlt, hlt4, show (k : Int) < 4 by omega, ia_47, ia_60, p0, p1, p2, p3, p4, p5, hx3, hg, hkk]
    refine Ret.mono (ih (k + 1) _ _ _ c0 (by omega) h2 h3 h8 h9 (congrArg i64 (w64 (by omega) (by omega))) (by simp (disch := first | omega | (simp only [World.size_alloc, size_setRow, dw_size]; done) | (simp only [World.size_alloc, size_setRow, dw_size]; omega) | (simp only [List.length_set, Array.length_toList]; omega)) [-Option.bind_some, hp_alloc_lt, hp_alloc_eq, hp_set_ne, hx2]) (by simp (disch := first | omega | (simp only [World.size_alloc, size_setRow, dw_size]; done) | (simp only [World.size_alloc, size_setRow, dw_size]; omega) | (simp only [List.length_set, Array.length_toList]; omega)) [-Option.bind_some, hp_alloc_lt, hp_alloc_eq, hp_set_ne, hx3]) (by rw [hp_set_eq, hp_set_ne (by omega), hp_alloc_lt lg, hg]; rfl) (by simpa using hpt.1)
      ?_ ha (by (repeat (first | exact Ext.rfl | assumption | (refine Ext.al ?_ _) | (refine Ext.dw ?_) | (refine Ext.set ?_ (by first | omega | (simp only [World.size_alloc, size_setRow, dw_size]; omega)) _) | (refine Ext.tr ?_ (by assumption)))))) fun _ h => h
    rw [take_at hv]
    have : tagsOf (vs.take k ++ [v]) = tagsOf (vs.take k) ++ [v.tag] := by simp [tagsOf]
    rw [this, tagCs_app, ← ht]
    simpa [tagCs] using hpt.2
theorem impl_Store_tags_c {s : Value} {vs : List Ver} (h4 : vs.length = 4) {w : World} (ha : rVers w s vs) : Ret (EV P 49 #[.agg #[s]] w) fun r => ∃ s', r.1 = .agg #[s'] ∧ fTags 64 w.heap.size r.2 s' (tagsOf vs) ∧ Ext w r.2 := by
  have ha' := ha
  obtain ⟨aa, ca, hs, hm⟩ := ha.len
  subst hs
  refine Ret.enter plain mixed (impl_Store_tags_fn _ _) (by kernel_rfl) (n := 1) (by kernel_rfl) rfl ?_
  simp (disch := first | omega | (simp only [World.size_alloc, size_setRow, dw_size]; done) | (simp only [World.size_alloc, size_setRow, dw_size]; omega) | (simp only [List.length_set, Array.length_toList]; omega)) [-Option.bind_some, hp_alloc_lt, hp_alloc_eq, hp_set_ne]
  refine Ret.bind (impl_PastNone_c _) ?_
  rintro ⟨_, w1⟩ ⟨g, rfl, hg0, hg, hE⟩
  have hsz := hE.size
  have hgl := hp_lt hg
  simp only [World.size_alloc] at hsz hg0 hgl
  have hx1 := (hE.blk (b := w.heap.size) (by simp only [World.size_alloc]; omega)).trans ((hp_alloc_lt (by simp)).trans (hp_alloc_eq rfl))
  have hx2 := (hE.blk (b := w.heap.size + 1) (by simp)).trans (hp_alloc_eq (by simp))
  simp (disch := first | omega | (simp only [World.size_alloc, size_setRow, dw_size]; done) | (simp only [World.size_alloc, size_setRow, dw_size]; omega) | (simp only [List.length_set, Array.length_toList]; omega)) [-Option.bind_some, hp_alloc_lt, hp_alloc_eq, hp_set_ne, hx1, hE.blk]
  refine Ret.mono (impl_Store_tags_l (s := .slice aa vs.length ca) (vs := vs) (b2 := w.heap.size + 1) (b3 := w1.heap.size) (g := g) (w0 := w) h4 (by omega) (by omega) (by omega) (by omega) (by omega) (by omega) vs.length 0 _ _ _ _ (by omega) rfl rfl rfl (congrArg i64 (show (vs.length : Int) = 4 by omega)) rfl
    ((hp_set_ne (by omega)).trans ((hp_alloc_lt (by omega)).trans hx2)) (by rw [hp_set_eq, hp_alloc_eq rfl]; rfl) ((hp_set_ne (by omega)).trans ((hp_alloc_lt (by omega)).trans hg)) rfl rfl ha' (by (repeat (first | exact Ext.rfl | assumption | (refine Ext.al ?_ _) | (refine Ext.dw ?_) | (refine Ext.set ?_ (by first | omega | (simp only [World.size_alloc, size_setRow, dw_size]; omega)) _) | (refine Ext.tr ?_ (by assumption)))))) ?_
  rintro ⟨_, w2⟩ ⟨rfl, ⟨c, hc, hl⟩, hE2⟩
  have hsz : c.size = (tagsOf vs).length * 2 := by rw [← tagCs_length, ← hl]; simp
  have htl : (tagsOf vs).length = 4 := by simp [tagsOf, h4]
  refine ⟨_, rfl, ⟨⟨by rw [tagCs_length], by omega, .inr ⟨g, 4, c, by rw [htl], by omega, hc, by omega, by omega, by omega, ?_⟩⟩, by omega⟩, hE2⟩
  rw [hl, ← tagCs_length, List.take_length]
theorem slices_IndexFunc_Ver_l {s f : Value} {xs : List Ver} {p : Ver → Bool} {w0 : World} (hf : ∀ x ∈ xs, ∀ cs w, Ext w0 w → rVer w cs x → Ret (clo P f #[.agg cs.toArray] w) fun r => r.1 = .bool (p x) ∧ Ext w r.2) :
    ∀ (d k : Nat) (e : Env) (w : World), k + d = xs.length → e 0 = s → e 1 = f → e 7 = i64 xs.length → e 8 = i64 k → rVers w0 s xs → Ext w0 w →
    Ret (slices_IndexFunc_Ver_l1 e w) fun r => ∃ i : Int, r.1 = i64 i ∧ decide (0 ≤ i) = (xs.drop k).any p ∧ Ext w0 r.2 := by
  intro d
  induction d with
  | zero =>
    intro k e w hd h0 h1 h7 h8 ha hE
    rw [slices_IndexFunc_Ver_l1_eq]
    simp (disch := first | omega | (simp only [World.size_alloc, size_setRow, dw_size]; done) | (simp only [World.size_alloc, size_setRow, dw_size]; omega) | (simp only [List.length_set, Array.length_toList]; omega)) [-Option.bind_some, hp_alloc_lt, hp_alloc_eq, hp_set_ne, h0, h1, h7, h8, show ¬ k < xs.length by omega, show xs.length ≤ k by omega]
    rw [List.drop_eq_nil_of_le (by omega)]
    exact ⟨by simp, hE⟩
  | succ d ih =>
    intro k e w hd h0 h1 h7 h8 ha hE
    obtain ⟨aa, ca, hs, hm⟩ := ha.len
    rw [slices_IndexFunc_Ver_l1_eq]
    have hlt : k < xs.length := by omega
    obtain ⟨x, hx, hdx⟩ := drop_at hlt
    obtain ⟨b1, o1, c1, cs, hs1, hA0, hcs0⟩ := ha.at hx
    have hcs := hcs0.mono (Ext.keep hE)
    have hla := At.ld (P := P) (t := 69) (by kernel_rfl) (by rw [hcs.length]; kernel_rfl) (hA0.mono (Ext.keep hE))
    rw [hdx]
    subst hs1
    simp (disch := first | omega | (simp only [World.size_alloc, size_setRow, dw_size]; done) | (simp only [World.size_alloc, size_setRow, dw_size]; omega) | (simp only [List.length_set, Array.length_toList]; omega)) [-Option.bind_some, hp_alloc_lt, hp_alloc_eq, hp_set_ne, h0, h1, h7, h8, hlt, ia_47, hla, -ld_69]
    refine Ret.bind (hf x (List.mem_of_getElem? hx) cs _ hE hcs) ?_
    rintro ⟨_, w1⟩ ⟨rfl, hE1⟩
    cases hp : p x
    · simp (disch := first | omega | (simp only [World.size_alloc, size_setRow, dw_size]; done) | (simp only [World.size_alloc, size_setRow, dw_size]; omega) | (simp only [List.length_set, Array.length_toList]; omega)) [-Option.bind_some, hp_alloc_lt, hp_alloc_eq, hp_set_ne, hp, h8]
      refine Ret.mono (ih (k + 1) _ w1 (by omega) h0 h1 h7 (congrArg i64 (w64 (by omega) (by omega))) ha (hE.tr hE1)) ?_
      rintro r ⟨i, h2, h3, h4⟩
      exact ⟨i, h2, by simpa [hp] using h3, h4⟩
    · simp (disch := first | omega | (simp only [World.size_alloc, size_setRow, dw_size]; done) | (simp only [World.size_alloc, size_setRow, dw_size]; omega) | (simp only [List.length_set, Array.length_toList]; omega)) [-Option.bind_some, hp_alloc_lt, hp_alloc_eq, hp_set_ne, hp]
      exact hE.tr hE1
theorem slices_ContainsFunc_Ver_c {s f : Value} {xs : List Ver} {p : Ver → Bool} {w : World} (ha : rVers w s xs) (hf : ∀ x ∈ xs, ∀ cs w', Ext w w' → rVer w' cs x → Ret (clo P f #[.agg cs.toArray] w') fun r => r.1 = .bool (p x) ∧ Ext w' r.2) :
    Ret (EV P 87 #[s, f] w) fun r => r.1 = .bool (xs.any p) ∧ Ext w r.2 := by
  have ha' := ha
  obtain ⟨aa, ca, hs, hm⟩ := ha.len
  subst hs
  have hi : Ret (EV P 118 #[.slice aa xs.length ca, f] w) fun r => ∃ i : Int, r.1 = i64 i ∧ decide (0 ≤ i) = xs.any p ∧ Ext w r.2 := by
    refine Ret.enter plain mixed (slices_IndexFunc_Ver_fn _ _ _) (by kernel_rfl) (n := 2) (by kernel_rfl) rfl ?_
    simp (disch := first | omega | (simp only [World.size_alloc, size_setRow, dw_size]; done) | (simp only [World.size_alloc, size_setRow, dw_size]; omega) | (simp only [List.length_set, Array.length_toList]; omega)) [-Option.bind_some, hp_alloc_lt, hp_alloc_eq, hp_set_ne]
    exact slices_IndexFunc_Ver_l hf xs.length 0 _ w (by omega) rfl rfl rfl rfl ha' Ext.rfl
  refine Ret.enter plain mixed (slices_ContainsFunc_Ver_fn _ _ _) (by kernel_rfl) (n := 2) (by kernel_rfl) rfl ?_
  simp (disch := first | omega | (simp only [World.size_alloc, size_setRow, dw_size]; done) | (simp only [World.size_alloc, size_setRow, dw_size]; omega) | (simp only [List.length_set, Array.length_toList]; omega)) [-Option.bind_some, hp_alloc_lt, hp_alloc_eq, hp_set_ne]
  refine Ret.bind hi ?_
  rintro ⟨_, w1⟩ ⟨i, rfl, h2, hE⟩
  simp (disch := first | omega | (simp only [World.size_alloc, size_setRow, dw_size]; done) | (simp only [World.size_alloc, size_setRow, dw_size]; omega) | (simp only [List.length_set, Array.length_toList]; omega)) [-Option.bind_some, hp_alloc_lt, hp_alloc_eq, hp_set_ne, h2]
  exact hE
end Go.Proofs.YtggmfmanpjcjkaaGreat.X
