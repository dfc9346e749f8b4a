/- A part of the proof: an evaluator of the model, its laws, and contracts of functions; no condition. -/
import Derived.Test.YthicfemhpnnaaaaC3
import Derived.Test.YthicfemhpnnaaaaC7
set_option linter.unusedVariables false
set_option linter.unusedSimpArgs false
set_option maxRecDepth 100000
namespace Go.Proofs.Ythicfemhpnnaaaa.X
open Go Go.Ev Go.RowKit
theorem spec_l2StoreOk_l {s : Value} {vs : List Ver} {b t : Nat} : ∀ (d k : Nat) (e : Env) (w : World), k + d = vs.length → e 1 = pt b 0 → e 3 = i64 k → hp w b = some (.cells #[s] t (0, 0)) → rVers w s vs →
    Ret (spec_l2StoreOk_l1 e w) fun r => r.1 = .bool (slots k (vs.drop k) && (vs.length == 4)) ∧ Ext w r.2 := by
  intro d
  induction d with
  | zero =>
    intro k e w hd h1 h3 hx ha
    obtain ⟨aa, ca, hs, hm⟩ := ha.len
    rw [spec_l2StoreOk_l1_eq]
    subst hs
    have hq : ((vs.length : Int) == 4) = (vs.length == 4) := by rw [Bool.eq_iff_iff]; simp only [beq_iff_eq]; omega
    simp (disch := first | omega | (simp only [World.size_alloc, size_setRow, dw_size]; done) | (simp only [World.size_alloc, size_setRow, dw_size]; omega) | (simp only [List.length_set, Array.length_toList]; omega)) [-Option.bind_some, hp_alloc_lt, hp_alloc_eq, hp_set_ne, h1, h3, hx, show ¬ k < vs.length by omega, show vs.length ≤ k by omega, hq]
    rw [List.drop_eq_nil_of_le (by omega)]
    exact ⟨by simp [slots], by (repeat (first | exact Ext.rfl | assumption | (refine Ext.al ?_ _) | (refine Ext.dw ?_) | (refine Ext.set ?_ (by first | omega | (simp only [World.size_alloc, size_setRow, dw_size]; omega)) _) | (refine Ext.tr ?_ (by assumption))))⟩
  | succ d ih =>
    intro k e w hd h1 h3 hx ha
    obtain ⟨aa, ca, hs, hm⟩ := ha.len
    rw [spec_l2StoreOk_l1_eq]
    have hlt : k < vs.length := by omega
    obtain ⟨v, hv, hdx⟩ := drop_at hlt
    obtain ⟨b1, o1, c1, cs, hs1, hA, hcs⟩ := ha.at hv
    have hla := At.ld (P := P) (t := 48) (by kernel_rfl) (by rw [hcs.length]; kernel_rfl) hA
    have hcs' := hcs
    obtain ⟨sp, rfl, hsp, hts⟩ := hcs'
    obtain ⟨ap, cp, hsp', hpl⟩ := hsp.len
    subst hsp'
    have p0 := hA 0 _ rfl
    have p1 := hA 1 _ rfl
    have p2 := hA 2 _ rfl
    have p3 := hA 3 _ rfl
    have p4 := hA 4 _ rfl
    have p5 := hA 5 _ rfl
    simp only [Nat.add_zero] at p0
    have hsl : slots k (vs.drop k) = (slotOk k v && slots (k + 1) (vs.drop (k + 1))) := by rw [hdx]; rfl
    have next : ∀ w1, Ext w w1 → slotOk k v = true → ∀ e : Env, e 1 = pt b 0 → e 3 = i64 (k + 1 : Nat) → Ret (spec_l2StoreOk_l1 e w1) fun r => r.1 = .bool (slots k (vs.drop k) && (vs.length == 4)) ∧ Ext w r.2 := by
      intro w1 hE ho e h1 h3
      refine Ret.mono (ih (k + 1) e w1 (by omega) h1 h3 ((hE.blk (hp_lt hx)).trans hx) (ha.mono (Ext.keep hE))) ?_
      rintro r ⟨h4, h5⟩
      exact ⟨by rw [h4, hsl, ho, Bool.true_and], hE.tr h5⟩
    have cnt : i64 (IntKind.i64.wrap ((k : Int) + 1)) = i64 (k + 1 : Nat) := congrArg i64 (w64 (by omega) (by omega))
    subst hs1
    cases hz : ((v.tag.t == 0) && (v.tag.p == 0))
    · have hso := slotOk_n (i := k) (tag_n hz)
      simp (disch := first | omega | (simp only [World.size_alloc, size_setRow, dw_size]; done) | (simp only [World.size_alloc, size_setRow, dw_size]; omega) | (simp only [List.length_set, Array.length_toList]; omega)) [-Option.bind_some, hp_alloc_lt, hp_alloc_eq, hp_set_ne, h1, h3, hx, hlt, ia_55, p0, p1, p2, p3, p4, p5, hla, hz, -ld_48]
      refine Ret.bind (spec_l2Ok_c hcs) ?_
      rintro ⟨_, w1⟩ ⟨rfl, hE⟩
      have hbl := hp_lt hx
      have hb1 := hA.lt
      cases hvo : verOk v
      · simp (disch := first | omega | (simp only [World.size_alloc, size_setRow, dw_size]; done) | (simp only [World.size_alloc, size_setRow, dw_size]; omega) | (simp only [List.length_set, Array.length_toList]; omega)) [-Option.bind_some, hp_alloc_lt, hp_alloc_eq, hp_set_ne, hvo, hsl, hso]
        (repeat (first | exact Ext.rfl | assumption | (refine Ext.al ?_ _) | (refine Ext.dw ?_) | (refine Ext.set ?_ (by first | omega | (simp only [World.size_alloc, size_setRow, dw_size]; omega)) _) | (refine Ext.tr ?_ (by assumption))))
      cases hk : (v.key != (k : Int))
      case true =>
        simp (disch := first | omega | (simp only [World.size_alloc, size_setRow, dw_size]; done) | (simp only [World.size_alloc, size_setRow, dw_size]; omega) | (simp only [List.length_set, Array.length_toList]; omega)) [-Option.bind_some, hp_alloc_lt, hp_alloc_eq, hp_set_ne, hvo, h1, h3, hx, hE.blk, hlt, ia_55, p0, p1, p2, p3, p4, p5, hk, hsl, hso]
        simp only [bne_iff_ne, ne_eq] at hk
        exact ⟨fun h => (hk h).elim, by (repeat (first | exact Ext.rfl | assumption | (refine Ext.al ?_ _) | (refine Ext.dw ?_) | (refine Ext.set ?_ (by first | omega | (simp only [World.size_alloc, size_setRow, dw_size]; omega)) _) | (refine Ext.tr ?_ (by assumption))))⟩
      simp (disch := first | omega | (simp only [World.size_alloc, size_setRow, dw_size]; done) | (simp only [World.size_alloc, size_setRow, dw_size]; omega) | (simp only [List.length_set, Array.length_toList]; omega)) [-Option.bind_some, hp_alloc_lt, hp_alloc_eq, hp_set_ne, hvo, h1, h3, hx, hE.blk, hlt, ia_55, p0, p1, p2, p3, p4, p5, hk, hz]
      simp only [bne_eq_false_iff_eq] at hk
      exact next w1 hE (by rw [hso, hvo, hk]; simp) _ h1 cnt
    · have hso := slotOk_z (i := k) (tag_z hz)
      have htz := tag_z hz
      cases hk : (v.key != 0)
      case true =>
        have : verNone v = false := by simp only [bne_iff_ne, ne_eq] at hk; simp [verNone, hk]
        simp (disch := first | omega | (simp only [World.size_alloc, size_setRow, dw_size]; done) | (simp only [World.size_alloc, size_setRow, dw_size]; omega) | (simp only [List.length_set, Array.length_toList]; omega)) [-Option.bind_some, hp_alloc_lt, hp_alloc_eq, hp_set_ne, h1, h3, hx, hlt, ia_55, p0, p1, p2, p3, p4, p5, hla, hz, -ld_48, hk, hsl, hso, this]
        (repeat (first | exact Ext.rfl | assumption | (refine Ext.al ?_ _) | (refine Ext.dw ?_) | (refine Ext.set ?_ (by first | omega | (simp only [World.size_alloc, size_setRow, dw_size]; omega)) _) | (refine Ext.tr ?_ (by assumption))))
      cases hx4 : v.text.toList.isEmpty
      case false =>
        have : verNone v = false := by simp [verNone, noText, hx4]
        simp (disch := first | omega | (simp only [World.size_alloc, size_setRow, dw_size]; done) | (simp only [World.size_alloc, size_setRow, dw_size]; omega) | (simp only [List.length_set, Array.length_toList]; omega)) [-Option.bind_some, hp_alloc_lt, hp_alloc_eq, hp_set_ne, h1, h3, hx, hlt, ia_55, p0, p1, p2, p3, p4, p5, hla, hz, -ld_48, hk, hsl, hso, this, hx4]
        (repeat (first | exact Ext.rfl | assumption | (refine Ext.al ?_ _) | (refine Ext.dw ?_) | (refine Ext.set ?_ (by first | omega | (simp only [World.size_alloc, size_setRow, dw_size]; omega)) _) | (refine Ext.tr ?_ (by assumption))))
      cases hg : v.gone
      case true =>
        have : verNone v = false := by simp [verNone, hg]
        simp (disch := first | omega | (simp only [World.size_alloc, size_setRow, dw_size]; done) | (simp only [World.size_alloc, size_setRow, dw_size]; omega) | (simp only [List.length_set, Array.length_toList]; omega)) [-Option.bind_some, hp_alloc_lt, hp_alloc_eq, hp_set_ne, h1, h3, hx, hlt, ia_55, p0, p1, p2, p3, p4, p5, hla, hz, -ld_48, hk, hsl, hso, this, hx4, hg]
        (repeat (first | exact Ext.rfl | assumption | (refine Ext.al ?_ _) | (refine Ext.dw ?_) | (refine Ext.set ?_ (by first | omega | (simp only [World.size_alloc, size_setRow, dw_size]; omega)) _) | (refine Ext.tr ?_ (by assumption))))
      by_cases hp : v.past.length = 0
      · have : verNone v = true := by simp only [bne_eq_false_iff_eq] at hk; simp [verNone, noText, hk, htz, hx4, hg, List.eq_nil_of_length_eq_zero hp]
        simp (disch := first | omega | (simp only [World.size_alloc, size_setRow, dw_size]; done) | (simp only [World.size_alloc, size_setRow, dw_size]; omega) | (simp only [List.length_set, Array.length_toList]; omega)) [-Option.bind_some, hp_alloc_lt, hp_alloc_eq, hp_set_ne, h1, h3, hx, hlt, ia_55, p0, p1, p2, p3, p4, p5, hla, hz, -ld_48, hk, hx4, hg, hp]
        exact next w Ext.rfl (by rw [hso, this]) _ h1 cnt
      · have : verNone v = false := by simp [verNone, hp]
        have h0 : 0 < v.past.length := by omega
        simp (disch := first | omega | (simp only [World.size_alloc, size_setRow, dw_size]; done) | (simp only [World.size_alloc, size_setRow, dw_size]; omega) | (simp only [List.length_set, Array.length_toList]; omega)) [-Option.bind_some, hp_alloc_lt, hp_alloc_eq, hp_set_ne, h1, h3, hx, hlt, ia_55, p0, p1, p2, p3, p4, p5, hla, hz, -ld_48, hk, hx4, hg, h0, hsl, hso, this]
        (repeat (first | exact Ext.rfl | assumption | (refine Ext.al ?_ _) | (refine Ext.dw ?_) | (refine Ext.set ?_ (by first | omega | (simp only [World.size_alloc, size_setRow, dw_size]; omega)) _) | (refine Ext.tr ?_ (by assumption))))
theorem spec_l2StoreOk_c {s : Value} {vs : List Ver} {w : World} (ha : rVers w s vs) : Ret (EV P 103 #[.agg #[s]] w) fun r => r.1 = .bool (storeOk vs) ∧ Ext w r.2 := by
  have ha' := ha
  obtain ⟨aa, ca, hs, hm⟩ := ha.len
  subst hs
  refine Ret.enter plain mixed (spec_l2StoreOk_fn _ _) (by kernel_rfl) (n := 1) (by kernel_rfl) rfl ?_
  simp (disch := first | omega | (simp only [World.size_alloc, size_setRow, dw_size]; done) | (simp only [World.size_alloc, size_setRow, dw_size]; omega) | (simp only [List.length_set, Array.length_toList]; omega)) [-Option.bind_some, hp_alloc_lt, hp_alloc_eq, hp_set_ne]
  refine Ret.mono (spec_l2StoreOk_l vs.length 0 _ _ (by omega) rfl rfl (hp_alloc_eq rfl) (ha'.mono (Ext.keep (by (repeat (first | exact Ext.rfl | assumption | (refine Ext.al ?_ _) | (refine Ext.dw ?_) | (refine Ext.set ?_ (by first | omega | (simp only [World.size_alloc, size_setRow, dw_size]; omega)) _) | (refine Ext.tr ?_ (by assumption)))))))) ?_
  rintro r ⟨h1, h2⟩
  exact ⟨h1, (Ext.al Ext.rfl _).tr h2⟩
theorem storeOk_len {vs : List Ver} (h : storeOk vs = true) : vs.length = 4 := by
  simp only [storeOk, Bool.and_eq_true, beq_iff_eq] at h
  exact h.2
theorem slots_get : ∀ (vs : List Ver) (i k : Nat) (v : Ver), slots i vs = true → vs[k]? = some v → slotOk (i + k) v = true
  | v :: vs, i, 0, u, h, hu => by
    simp only [List.getElem?_cons_zero, Option.some.injEq] at hu
    subst hu
    simp only [slots, Bool.and_eq_true] at h
    exact h.1
  | v :: vs, i, k + 1, u, h, hu => by
    simp only [slots, Bool.and_eq_true] at h
    have := slots_get vs (i + 1) k u h.2 (by simpa using hu)
    rwa [show i + (k + 1) = i + 1 + k by omega]
  | [], i, k, u, h, hu => by simp at hu
end Go.Proofs.Ythicfemhpnnaaaa.X
