/- A part of the proof: an evaluator of the model, its laws, and contracts of functions; no condition. -/
import Derived.Test.YthicfemhpnnaaaaC10
set_option linter.unusedVariables false
set_option linter.unusedSimpArgs false
set_option maxRecDepth 100000
namespace Go.Proofs.Ythicfemhpnnaaaa.X
open Go Go.Ev Go.RowKit
theorem impl_PastNone_c (w : World) : Ret (EV P 21 #[] w) fun r => ∃ g, r.1 = .agg #[.slice (some ⟨g, 0, none⟩) 4 4] ∧ w.heap.size ≤ g ∧ hp r.2 g = some (.cells #[i64 0, i64 0, i64 0, i64 0, i64 0, i64 0, i64 0, i64 0] 46 (0, 0)) ∧ Ext w r.2 := by
  refine Ret.enter plain mixed (impl_PastNone_fn _) (by kernel_rfl) (n := 0) (by kernel_rfl) rfl ?_
  have hmk := fun w => ms_eq (P := P) el_33 (z := [i64 0, i64 0]) (by kernel_rfl) rfl (by omega) (l := 4) (c := 4) (by omega) (by omega) (by omega) (by omega) w
  simp only [show (4 : Int).toNat = 4 from rfl, zrep, List.append_nil, List.cons_append, List.nil_append] at hmk
  simp (disch := first | omega | (simp only [World.size_alloc, size_setRow, dw_size]; done) | (simp only [World.size_alloc, size_setRow, dw_size]; omega) | (simp only [List.length_set, Array.length_toList]; omega)) [-Option.bind_some, hp_alloc_lt, hp_alloc_eq, hp_set_ne, hmk]
  (repeat (first | exact Ext.rfl | assumption | (refine Ext.al ?_ _) | (refine Ext.dw ?_) | (refine Ext.set ?_ (by first | omega | (simp only [World.size_alloc, size_setRow, dw_size]; omega)) _) | (refine Ext.tr ?_ (by assumption))))
theorem impl_StoreOk_l {s : Value} {vs : List Ver} {b t : Nat} : ∀ (d k : Nat) (e : Env) (w : World), k + d = vs.length → e 1 = pt b 0 → e 6 = s → e 7 = i64 vs.length → e 8 = i64 k → hp w b = some (.cells #[s] t (0, 0)) → rVers w s vs →
    Ret (impl_StoreOk_l1 e w) fun r => r.1 = .bool (slots k (vs.drop k) && (vs.length == 4)) ∧ Ext w r.2 := by
  intro d
  induction d with
  | zero =>
    intro k e w hd h1 h6 h7 h8 hx ha
    obtain ⟨aa, ca, hs, hm⟩ := ha.len
    rw [impl_StoreOk_l1_eq]
    subst hs
    have hq : ((vs.length : Int) == 4) = (vs.length == 4) := by rw [Bool.eq_iff_iff]; simp only [beq_iff_eq]; omega
    simp (disch := first | omega | (simp only [World.size_alloc, size_setRow, dw_size]; done) | (simp only [World.size_alloc, size_setRow, dw_size]; omega) | (simp only [List.length_set, Array.length_toList]; omega)) [-Option.bind_some, hp_alloc_lt, hp_alloc_eq, hp_set_ne, h1, h6, h7, h8, hx, show ¬ k < vs.length by omega, show vs.length ≤ k by omega, hq]
    rw [List.drop_eq_nil_of_le (by omega)]
    exact ⟨by simp [slots], by (repeat (first | exact Ext.rfl | assumption | (refine Ext.al ?_ _) | (refine Ext.dw ?_) | (refine Ext.set ?_ (by first | omega | (simp only [World.size_alloc, size_setRow, dw_size]; omega)) _) | (refine Ext.tr ?_ (by assumption))))⟩
  | succ d ih =>
    intro k e w hd h1 h6 h7 h8 hx ha
    obtain ⟨aa, ca, hs, hm⟩ := ha.len
    rw [impl_StoreOk_l1_eq]
    have hlt : k < vs.length := by omega
    obtain ⟨v, hv, hdx⟩ := drop_at hlt
    obtain ⟨b1, o1, c1, cs, hs1, hA, hcs⟩ := ha.at hv
    have hcs' := hcs
    obtain ⟨sp, rfl, hsp, hts⟩ := hcs'
    obtain ⟨ap, cp, hsp', hpl⟩ := hsp.len
    subst hsp'
    have p0 := hA 0 _ rfl
    have p1 := hA 1 _ rfl
    have p2 := hA 2 _ rfl
    have p3 := hA 3 _ rfl
    have p4 := hA 4 _ rfl
    have p5 := hA 5 _ rfl
    simp only [Nat.add_zero] at p0
    have hsl : slots k (vs.drop k) = (slotOk k v && slots (k + 1) (vs.drop (k + 1))) := by rw [hdx]; rfl
    have next : ∀ w1, Ext w w1 → slotOk k v = true → ∀ e : Env, e 1 = pt b 0 → e 6 = s → e 7 = i64 vs.length → e 8 = i64 (k + 1 : Nat) → Ret (impl_StoreOk_l1 e w1) fun r => r.1 = .bool (slots k (vs.drop k) && (vs.length == 4)) ∧ Ext w r.2 := by
      intro w1 hE ho e h1 h6 h7 h8
      refine Ret.mono (ih (k + 1) e w1 (by omega) h1 h6 h7 h8 ((hE.blk (hp_lt hx)).trans hx) (ha.mono (Ext.keep hE))) ?_
      rintro r ⟨h4, h5⟩
      exact ⟨by rw [h4, hsl, ho, Bool.true_and], hE.tr h5⟩
    have cnt : i64 (IntKind.i64.wrap ((k : Int) + 1)) = i64 (k + 1 : Nat) := congrArg i64 (w64 (by omega) (by omega))
    subst hs1
    simp (disch := first | omega | (simp only [World.size_alloc, size_setRow, dw_size]; done) | (simp only [World.size_alloc, size_setRow, dw_size]; omega) | (simp only [List.length_set, Array.length_toList]; omega)) [-Option.bind_some, hp_alloc_lt, hp_alloc_eq, hp_set_ne, h1, h6, h7, h8, hlt, ia_55, p0, p1, p2, p3, p4, p5]
    refine Ret.bind (impl_Ver_same_c (cs := [i64 v.key, i64 v.tag.t, i64 v.tag.p, .slice ap v.past.length cp, .string v.text, .bool v.gone]) (hcs.mono (Ext.keep (by (repeat (first | exact Ext.rfl | assumption | (refine Ext.al ?_ _) | (refine Ext.dw ?_) | (refine Ext.set ?_ (by first | omega | (simp only [World.size_alloc, size_setRow, dw_size]; omega)) _) | (refine Ext.tr ?_ (by assumption)))))))) ?_
    rintro ⟨_, w1⟩ ⟨rfl, hE⟩
    have hE' : Ext w w1 := Ext.tr (by (repeat (first | exact Ext.rfl | assumption | (refine Ext.al ?_ _) | (refine Ext.dw ?_) | (refine Ext.set ?_ (by first | omega | (simp only [World.size_alloc, size_setRow, dw_size]; omega)) _) | (refine Ext.tr ?_ (by assumption))))) hE
    have hx1 : hp w1 w.heap.size = some (.cells #[i64 v.key, i64 v.tag.t, i64 v.tag.p, .slice ap v.past.length cp, .string v.text, .bool v.gone] 48 (0, 0)) := (hE.blk (by simp)).trans (by simp (disch := first | omega | (simp only [World.size_alloc, size_setRow, dw_size]; done) | (simp only [World.size_alloc, size_setRow, dw_size]; omega) | (simp only [List.length_set, Array.length_toList]; omega)) [-Option.bind_some, hp_alloc_lt, hp_alloc_eq, hp_set_ne])
    cases hn : verNone v
    case true =>
      simp (disch := first | omega | (simp only [World.size_alloc, size_setRow, dw_size]; done) | (simp only [World.size_alloc, size_setRow, dw_size]; omega) | (simp only [List.length_set, Array.length_toList]; omega)) [-Option.bind_some, hp_alloc_lt, hp_alloc_eq, hp_set_ne, hn, h8]
      exact next w1 hE' (by simp [slotOk, hn]) _ h1 h6 h7 cnt
    simp (disch := first | omega | (simp only [World.size_alloc, size_setRow, dw_size]; done) | (simp only [World.size_alloc, size_setRow, dw_size]; omega) | (simp only [List.length_set, Array.length_toList]; omega)) [-Option.bind_some, hp_alloc_lt, hp_alloc_eq, hp_set_ne, hn, hx1]
    refine Ret.bind (impl_VerOk_c (cs := [i64 v.key, i64 v.tag.t, i64 v.tag.p, .slice ap v.past.length cp, .string v.text, .bool v.gone]) (hcs.mono (Ext.keep hE'))) ?_
    rintro ⟨_, w2⟩ ⟨rfl, hE2⟩
    have hx2 := (hE2.blk (hp_lt hx1)).trans hx1
    have hE3 := hE'.tr hE2
    cases hvo : verOk v
    · simp (disch := first | omega | (simp only [World.size_alloc, size_setRow, dw_size]; done) | (simp only [World.size_alloc, size_setRow, dw_size]; omega) | (simp only [List.length_set, Array.length_toList]; omega)) [-Option.bind_some, hp_alloc_lt, hp_alloc_eq, hp_set_ne, hvo, hsl, slotOk, hn]
      exact hE3
    cases hk : (v.key != (k : Int))
    case true =>
      simp (disch := first | omega | (simp only [World.size_alloc, size_setRow, dw_size]; done) | (simp only [World.size_alloc, size_setRow, dw_size]; omega) | (simp only [List.length_set, Array.length_toList]; omega)) [-Option.bind_some, hp_alloc_lt, hp_alloc_eq, hp_set_ne, hvo, hx2, hk, hsl, slotOk, hn]
      simp only [bne_iff_ne, ne_eq] at hk
      exact ⟨fun h => (hk h).elim, hE3⟩
    simp (disch := first | omega | (simp only [World.size_alloc, size_setRow, dw_size]; done) | (simp only [World.size_alloc, size_setRow, dw_size]; omega) | (simp only [List.length_set, Array.length_toList]; omega)) [-Option.bind_some, hp_alloc_lt, hp_alloc_eq, hp_set_ne, hvo, hx2, hk, h8]
    simp only [bne_eq_false_iff_eq] at hk
    exact next w2 hE3 (by simp [slotOk, hvo, hk]) _ h1 h6 h7 cnt
theorem impl_StoreOk_c {s : Value} {vs : List Ver} {w : World} (ha : rVers w s vs) : Ret (EV P 55 #[.agg #[s]] w) fun r => r.1 = .bool (storeOk vs) ∧ Ext w r.2 := by
  have ha' := ha
  obtain ⟨aa, ca, hs, hm⟩ := ha.len
  subst hs
  refine Ret.enter plain mixed (impl_StoreOk_fn _ _) (by kernel_rfl) (n := 1) (by kernel_rfl) rfl ?_
  simp (disch := first | omega | (simp only [World.size_alloc, size_setRow, dw_size]; done) | (simp only [World.size_alloc, size_setRow, dw_size]; omega) | (simp only [List.length_set, Array.length_toList]; omega)) [-Option.bind_some, hp_alloc_lt, hp_alloc_eq, hp_set_ne]
  refine Ret.mono (impl_StoreOk_l vs.length 0 _ _ (by omega) rfl rfl rfl rfl (hp_alloc_eq rfl) (ha'.mono (Ext.keep (by (repeat (first | exact Ext.rfl | assumption | (refine Ext.al ?_ _) | (refine Ext.dw ?_) | (refine Ext.set ?_ (by first | omega | (simp only [World.size_alloc, size_setRow, dw_size]; omega)) _) | (refine Ext.tr ?_ (by assumption)))))))) ?_
  rintro r ⟨h1, h2⟩
  exact ⟨h1, (Ext.al Ext.rfl _).tr h2⟩
theorem impl_Store_tags_l {s : Value} {vs : List Ver} {b2 b3 g : Nat} {w0 : World} (h4 : vs.length = 4) (h02 : w0.heap.size ≤ b2) (h03 : w0.heap.size ≤ b3) (h0g : w0.heap.size ≤ g) (h23 : b2 ≠ b3) (hg2 : g ≠ b2) (hg3 : g ≠ b3) :
    ∀ (d k : Nat) (e : Env) (w : World) (cur : Array Value) (c0 : Value), k + d = vs.length → e 2 = pt b2 0 → e 3 = pt b3 0 → e 8 = s → e 9 = i64 4 → e 10 = i64 k →
    hp w b2 = some (.cells #[c0] 35 (0, 0)) → hp w b3 = some (.cells #[.slice (some ⟨g, 0, none⟩) 4 4] 35 (0, 0)) → hp w g = some (.cells cur 46 (0, 0)) → cur.size = 8 → cur.toList.take (k * 2) = tagCs (tagsOf (vs.take k)) →
    rVers w0 s vs → Ext w0 w →
    Ret (impl_Store_tags_l1 e w) fun r => r.1 = .agg #[.slice (some ⟨g, 0, none⟩) 4 4] ∧ (∃ c : Array Value, hp r.2 g = some (.cells c 46 (0, 0)) ∧ c.toList = tagCs (tagsOf vs)) ∧ Ext w0 r.2 := by
  intro d
  induction d with
  | zero =>
    intro k e w cur c0 hd h2 h3 h8 h9 h10 hx2 hx3 hg hc ht ha hE
    obtain rfl : k = 4 := by omega
    rw [impl_Store_tags_l1_eq]
    simp (disch := first | omega | (simp only [World.size_alloc, size_setRow, dw_size]; done) | (simp only [World.size_alloc, size_setRow, dw_size]; omega) | (simp only [List.length_set, Array.length_toList]; omega)) [-Option.bind_some, hp_alloc_lt, hp_alloc_eq, hp_set_ne, h2, h3, h8, h9, h10, hx2, hx3]
    rw [List.take_of_length_le (by simp; omega), List.take_of_length_le (by omega)] at ht
    exact ⟨⟨cur, hg, ht⟩, by (repeat (first | exact Ext.rfl | assumption | (refine Ext.al ?_ _) | (refine Ext.dw ?_) | (refine Ext.set ?_ (by first | omega | (simp only [World.size_alloc, size_setRow, dw_size]; omega)) _) | (refine Ext.tr ?_ (by assumption))))⟩
  | succ d ih =>
    intro k e w cur c0 hd h2 h3 h8 h9 h10 hx2 hx3 hg hc ht ha hE
    rw [impl_Store_tags_l1_eq]
    have hlt : k < vs.length := by omega
    have hlt4 : k < 4 := by omega
    obtain ⟨v, hv, hdx⟩ := drop_at hlt
    obtain ⟨b1, o1, c1, cs, hs1, hA0, hcs⟩ := ha.at hv
    have hA := hA0.mono (Ext.keep hE)
    obtain ⟨sp, rfl, hsp, hts⟩ := hcs
    obtain ⟨ap, cp, hsp', hpl⟩ := hsp.len
    subst hsp'
    have p0 := hA 0 _ rfl
    have p1 := hA 1 _ rfl
    have p2 := hA 2 _ rfl
    have p3 := hA 3 _ rfl
    have p4 := hA 4 _ rfl
    have p5 := hA 5 _ rfl
    simp only [Nat.add_zero] at p0
    have l2 := hp_lt hx2
    have l3 := hp_lt hx3
    have lg := hp_lt hg
    have hkk : k * 2 + 2 ≤ cur.size := by omega
    have hpt := row_put (cur := cur) (vs := tagC v.tag) (n := 4) (m := 2) hc hlt4 rfl
    subst hs1
    simp (disch := first | omega | (simp only [World.size_alloc, size_setRow, dw_size]; done) | (simp only [World.size_alloc, size_setRow, dw_size]; omega) | (simp only [List.length_set, Array.length_toList]; omega)) [-Option.bind_some, hp_alloc_lt, hp_alloc_eq, hp_set_ne, h2, h3, h8, h9, h10, hlt, hlt4, show (k : Int) < 4 by omega, ia_55, ia_33, p0, p1, p2, p3, p4, p5, hx3, hg, hkk]
    refine Ret.mono (ih (k + 1) _ _ _ c0 (by omega) h2 h3 h8 h9 (congrArg i64 (w64 (by omega) (by omega))) (by simp (disch := first | omega | (simp only [World.size_alloc, size_setRow, dw_size]; done) | (simp only [World.size_alloc, size_setRow, dw_size]; omega) | (simp only [List.length_set, Array.length_toList]; omega)) [-Option.bind_some, hp_alloc_lt, hp_alloc_eq, hp_set_ne, hx2]) (by simp (disch := first | omega | (simp only [World.size_alloc, size_setRow, dw_size]; done) | (simp only [World.size_alloc, size_setRow, dw_size]; omega) | (simp only [List.length_set, Array.length_toList]; omega)) [-Option.bind_some, hp_alloc_lt, hp_alloc_eq, hp_set_ne, hx3]) (by rw [hp_set_eq, hp_set_ne (by omega), hp_alloc_lt lg, hg]; rfl) (by simpa using hpt.1)
      ?_ ha (by (repeat (first | exact Ext.rfl | assumption | (refine Ext.al ?_ _) | (refine Ext.dw ?_) | (refine Ext.set ?_ (by first | omega | (simp only [World.size_alloc, size_setRow, dw_size]; omega)) _) | (refine Ext.tr ?_ (by assumption)))))) fun _ h => h
    rw [take_at hv]
    have : tagsOf (vs.take k ++ [v]) = tagsOf (vs.take k) ++ [v.tag] := by simp [tagsOf]
    rw [this, tagCs_app, ← ht]
    simpa [tagCs] using hpt.2
theorem impl_Store_tags_c {s : Value} {vs : List Ver} (h4 : vs.length = 4) {w : World} (ha : rVers w s vs) : Ret (EV P 61 #[.agg #[s]] w) fun r => ∃ s', r.1 = .agg #[s'] ∧ fTags 46 w.heap.size r.2 s' (tagsOf vs) ∧ Ext w r.2 := by
  have ha' := ha
  obtain ⟨aa, ca, hs, hm⟩ := ha.len
  subst hs
  refine Ret.enter plain mixed (impl_Store_tags_fn _ _) (by kernel_rfl) (n := 1) (by kernel_rfl) rfl ?_
  simp (disch := first | omega | (simp only [World.size_alloc, size_setRow, dw_size]; done) | (simp only [World.size_alloc, size_setRow, dw_size]; omega) | (simp only [List.length_set, Array.length_toList]; omega)) [-Option.bind_some, hp_alloc_lt, hp_alloc_eq, hp_set_ne]
  refine Ret.bind (impl_PastNone_c _) ?_
  rintro ⟨_, w1⟩ ⟨g, rfl, hg0, hg, hE⟩
  have hsz := hE.size
  have hgl := hp_lt hg
  simp only [World.size_alloc] at hsz hg0 hgl
  have hx1 := (hE.blk (b := w.heap.size) (by simp only [World.size_alloc]; omega)).trans ((hp_alloc_lt (by simp)).trans (hp_alloc_eq rfl))
  have hx2 := (hE.blk (b := w.heap.size + 1) (by simp)).trans (hp_alloc_eq (by simp))
  simp (disch := first | omega | (simp only [World.size_alloc, size_setRow, dw_size]; done) | (simp only [World.size_alloc, size_setRow, dw_size]; omega) | (simp only [List.length_set, Array.length_toList]; omega)) [-Option.bind_some, hp_alloc_lt, hp_alloc_eq, hp_set_ne, hx1, hE.blk]
  refine Ret.mono (impl_Store_tags_l (s := .slice aa vs.length ca) (vs := vs) (b2 := w.heap.size + 1) (b3 := w1.heap.size) (g := g) (w0 := w) h4 (by omega) (by omega) (by omega) (by omega) (by omega) (by omega) vs.length 0 _ _ _ _ (by omega) rfl rfl rfl (congrArg i64 (show (vs.length : Int) = 4 by omega)) rfl
    ((hp_set_ne (by omega)).trans ((hp_alloc_lt (by omega)).trans hx2)) (by rw [hp_set_eq, hp_alloc_eq rfl]; rfl) ((hp_set_ne (by omega)).trans ((hp_alloc_lt (by omega)).trans hg)) rfl rfl ha' (by (repeat (first | exact Ext.rfl | assumption | (refine Ext.al ?_ _) | (refine Ext.dw ?_) | (refine Ext.set ?_ (by first | omega | (simp only [World.size_alloc, size_setRow, dw_size]; omega)) _) | (refine Ext.tr ?_ (by assumption)))))) ?_
  rintro ⟨_, w2⟩ ⟨rfl, ⟨c, hc, hl⟩, hE2⟩
  have hsz : c.size = (tagsOf vs).length * 2 := by rw [← tagCs_length, ← hl]; simp
  have htl : (tagsOf vs).length = 4 := by simp [tagsOf, h4]
  refine ⟨_, rfl, ⟨⟨by rw [tagCs_length], by omega, .inr ⟨g, 4, c, by rw [htl], by omega, hc, by omega, by omega, by omega, ?_⟩⟩, by omega⟩, hE2⟩
  rw [hl, ← tagCs_length, List.take_length]
theorem slices_IndexFunc_Ver_l {s f : Value} {xs : List Ver} {p : Ver → Bool} {w0 : World} (hf : ∀ x ∈ xs, ∀ cs w, Ext w0 w → rVer w cs x → Ret (clo P f #[.agg cs.toArray] w) fun r => r.1 = .bool (p x) ∧ Ext w r.2) :
    ∀ (d k : Nat) (e : Env) (w : World), k + d = xs.length → e 0 = s → e 1 = f → e 7 = i64 xs.length → e 8 = i64 k → rVers w0 s xs → Ext w0 w →
    Ret (slices_IndexFunc_Ver_l1 e w) fun r => ∃ i : Int, r.1 = i64 i ∧ decide (0 ≤ i) = (xs.drop k).any p ∧ Ext w0 r.2 := by
  intro d
  induction d with
  | zero =>
    intro k e w hd h0 h1 h7 h8 ha hE
    rw [slices_IndexFunc_Ver_l1_eq]
    simp (disch := first | omega | (simp only [World.size_alloc, size_setRow, dw_size]; done) | (simp only [World.size_alloc, size_setRow, dw_size]; omega) | (simp only [List.length_set, Array.length_toList]; omega)) [-Option.bind_some, hp_alloc_lt, hp_alloc_eq, hp_set_ne, h0, h1, h7, h8, show ¬ k < xs.length by omega, show xs.length ≤ k by omega]
    rw [List.drop_eq_nil_of_le (by omega)]
    exact ⟨by simp, hE⟩
  | succ d ih =>
    intro k e w hd h0 h1 h7 h8 ha hE
    obtain ⟨aa, ca, hs, hm⟩ := ha.len
    rw [slices_IndexFunc_Ver_l1_eq]
    have hlt : k < xs.length := by omega
    obtain ⟨x, hx, hdx⟩ := drop_at hlt
    obtain ⟨b1, o1, c1, cs, hs1, hA0, hcs0⟩ := ha.at hx
    have hcs := hcs0.mono (Ext.keep hE)
    have hla := At.ld (P := P) (t := 48) (by kernel_rfl) (by rw [hcs.length]; kernel_rfl) (hA0.mono (Ext.keep hE))
    rw [hdx]
    subst hs1
    simp (disch := first | omega | (simp only [World.size_alloc, size_setRow, dw_size]; done) | (simp only [World.size_alloc, size_setRow, dw_size]; omega) | (simp only [List.length_set, Array.length_toList]; omega)) [-Option.bind_some, hp_alloc_lt, hp_alloc_eq, hp_set_ne, h0, h1, h7, h8, hlt, ia_55, hla, -ld_48]
    refine Ret.bind (hf x (List.mem_of_getElem? hx) cs _ hE hcs) ?_
    rintro ⟨_, w1⟩ ⟨rfl, hE1⟩
    cases hp : p x
    · simp (disch := first | omega | (simp only [World.size_alloc, size_setRow, dw_size]; done) | (simp only [World.size_alloc, size_setRow, dw_size]; omega) | (simp only [List.length_set, Array.length_toList]; omega)) [-Option.bind_some, hp_alloc_lt, hp_alloc_eq, hp_set_ne, hp, h8]
      refine Ret.mono (ih (k + 1) _ w1 (by omega) h0 h1 h7 (congrArg i64 (w64 (by omega) (by omega))) ha (hE.tr hE1)) ?_
      rintro r ⟨i, h2, h3, h4⟩
      exact ⟨i, h2, by simpa [hp] using h3, h4⟩
    · simp (disch := first | omega | (simp only [World.size_alloc, size_setRow, dw_size]; done) | (simp only [World.size_alloc, size_setRow, dw_size]; omega) | (simp only [List.length_set, Array.length_toList]; omega)) [-Option.bind_some, hp_alloc_lt, hp_alloc_eq, hp_set_ne, hp]
      exact hE.tr hE1
theorem slices_ContainsFunc_Ver_c {s f : Value} {xs : List Ver} {p : Ver → Bool} {w : World} (ha : rVers w s xs) (hf : ∀ x ∈ xs, ∀ cs w', Ext w w' → rVer w' cs x → Ret (clo P f #[.agg cs.toArray] w') fun r => r.1 = .bool (p x) ∧ Ext w' r.2) :
    Ret (EV P 56 #[s, f] w) fun r => r.1 = .bool (xs.any p) ∧ Ext w r.2 := by
  have ha' := ha
  obtain ⟨aa, ca, hs, hm⟩ := ha.len
  subst hs
  have hi : Ret (EV P 100 #[.slice aa xs.length ca, f] w) fun r => ∃ i : Int, r.1 = i64 i ∧ decide (0 ≤ i) = xs.any p ∧ Ext w r.2 := by
    refine Ret.enter plain mixed (slices_IndexFunc_Ver_fn _ _ _) (by kernel_rfl) (n := 2) (by kernel_rfl) rfl ?_
    simp (disch := first | omega | (simp only [World.size_alloc, size_setRow, dw_size]; done) | (simp only [World.size_alloc, size_setRow, dw_size]; omega) | (simp only [List.length_set, Array.length_toList]; omega)) [-Option.bind_some, hp_alloc_lt, hp_alloc_eq, hp_set_ne]
    exact slices_IndexFunc_Ver_l hf xs.length 0 _ w (by omega) rfl rfl rfl rfl ha' Ext.rfl
  refine Ret.enter plain mixed (slices_ContainsFunc_Ver_fn _ _ _) (by kernel_rfl) (n := 2) (by kernel_rfl) rfl ?_
  simp (disch := first | omega | (simp only [World.size_alloc, size_setRow, dw_size]; done) | (simp only [World.size_alloc, size_setRow, dw_size]; omega) | (simp only [List.length_set, Array.length_toList]; omega)) [-Option.bind_some, hp_alloc_lt, hp_alloc_eq, hp_set_ne]
  refine Ret.bind hi ?_
  rintro ⟨_, w1⟩ ⟨i, rfl, h2, hE⟩
  simp (disch := first | omega | (simp only [World.size_alloc, size_setRow, dw_size]; done) | (simp only [World.size_alloc, size_setRow, dw_size]; omega) | (simp only [List.length_set, Array.length_toList]; omega)) [-Option.bind_some, hp_alloc_lt, hp_alloc_eq, hp_set_ne, h2]
  exact hE
end Go.Proofs.Ythicfemhpnnaaaa.X
