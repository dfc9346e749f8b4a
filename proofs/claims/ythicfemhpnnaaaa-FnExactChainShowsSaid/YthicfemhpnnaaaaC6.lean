/- A part of the proof: an evaluator of the model, its laws, and contracts of functions; no condition. -/
import Derived.Test.YthicfemhpnnaaaaC4
set_option linter.unusedVariables false
set_option linter.unusedSimpArgs false
set_option maxRecDepth 100000
namespace Go.Proofs.Ythicfemhpnnaaaa.X
open Go Go.Ev Go.RowKit
theorem laws_toVer_c {cs : List Value} {v : Ver} {w : World} (ha : rVer w cs v) : Ret (EV P 154 #[.agg cs.toArray] w) fun r => ∃ ds, r.1 = .agg ds.toArray ∧ fVer 46 w.heap.size r.2 ds v ∧ Ext w r.2 := by
  obtain ⟨s, rfl, ha, ht⟩ := ha
  obtain ⟨aa, ca, hs, hm⟩ := ha.len
  subst hs
  refine Ret.enter plain mixed (laws_toVer_fn _ _) (by kernel_rfl) (n := 1) (by kernel_rfl) rfl ?_
  simp (disch := first | omega | (simp only [World.size_alloc, size_setRow, dw_size]; done) | (simp only [World.size_alloc, size_setRow, dw_size]; omega) | (simp only [List.length_set, Array.length_toList]; omega)) [-Option.bind_some, hp_alloc_lt, hp_alloc_eq, hp_set_ne]
  refine Ret.bind (laws_toTag_c v.tag _) ?_
  rintro ⟨_, w1⟩ ⟨rfl, hE⟩
  have hs := hE.size
  simp only [World.size_alloc, size_setRow] at hs
  have e2 : hp w1 (w.heap.size + 1 + 1) = _ := hE.blk (by simp only [World.size_alloc, size_setRow]; omega)
  simp (disch := first | omega | (simp only [World.size_alloc, size_setRow, dw_size]; done) | (simp only [World.size_alloc, size_setRow, dw_size]; omega) | (simp only [List.length_set, Array.length_toList]; omega)) [-Option.bind_some, hp_alloc_lt, hp_alloc_eq, hp_set_ne, hE.blk]
  refine Ret.bind (laws_toPast_c (ha.mono (Ext.keep (by (repeat (first | exact Ext.rfl | assumption | (refine Ext.al ?_ _) | (refine Ext.dw ?_) | (refine Ext.set ?_ (by first | omega | (simp only [World.size_alloc, size_setRow, dw_size]; omega)) _) | (refine Ext.tr ?_ (by assumption)))))))) ?_
  rintro ⟨_, w2⟩ ⟨s', rfl, hf, hE2⟩
  obtain ⟨ab, cb, hs', hm'⟩ := hf.r.len
  subst hs'
  have hs2 := hE2.size
  simp only [World.size_alloc, size_setRow] at hs2 hf
  simp (disch := first | omega | (simp only [World.size_alloc, size_setRow, dw_size]; done) | (simp only [World.size_alloc, size_setRow, dw_size]; omega) | (simp only [List.length_set, Array.length_toList]; omega)) [-Option.bind_some, hp_alloc_lt, hp_alloc_eq, hp_set_ne, hE2.blk, hE.blk]
  refine ⟨⟨_, rfl, ⟨(hf.1.keep fun g hg => ?_).from (by omega), hf.2⟩, ht⟩, by (repeat (first | exact Ext.rfl | assumption | (refine Ext.al ?_ _) | (refine Ext.dw ?_) | (refine Ext.set ?_ (by first | omega | (simp only [World.size_alloc, size_setRow, dw_size]; omega)) _) | (refine Ext.tr ?_ (by assumption))))⟩
  have := hf.1.lt hg
  repeat rw [hp_set_ne (by omega)]
theorem flat_len {css : List (List Value)} {m : Nat} (h : ∀ c ∈ css, c.length = m) : css.flatten.length = css.length * m := by
  induction css with
  | nil => simp
  | cons c css ih =>
    simp only [List.flatten_cons, List.length_append, List.length_cons, ih (fun c hc => h c (List.mem_cons_of_mem _ hc)), h c List.mem_cons_self, Nat.succ_mul]
    omega
theorem laws_toVerS_l {s : Value} {vs : List Ver} {g : Nat} {w0 : World} : ∀ (d k : Nat) (e : Env) (w : World) (cur : Array Value) (css : List (List Value)), k + d = vs.length → e 0 = s → e 3 = .slice (some ⟨g, 0, none⟩) vs.length vs.length → e 4 = i64 k →
    rVers w0 s vs → Ext w0 w → w0.heap.size ≤ g → hp w g = some (.cells cur 48 (0, 0)) → cur.size = vs.length * 6 → cur.toList.take (k * 6) = css.flatten →
    All2 (fVer 46 (g + 1) w) css (vs.take k) → (css.flatMap pastB).Nodup →
    Ret (laws_toVerS_l1 e w) fun r => r.1 = .slice (some ⟨g, 0, none⟩) vs.length vs.length ∧ (∃ (c : Array Value) (css : List (List Value)), hp r.2 g = some (.cells c 48 (0, 0)) ∧ c.toList = css.flatten ∧
      All2 (fVer 46 (g + 1) r.2) css vs ∧ (css.flatMap pastB).Nodup) ∧ Ext w0 r.2 := by
  intro d
  induction d with
  | zero =>
    intro k e w cur css hd h0 h3 h4 ha hE hB hg hc ht hl hn
    obtain ⟨aa, ca, hs, hm⟩ := ha.len
    rw [laws_toVerS_l1_eq]
    subst hs
    simp (disch := first | omega | (simp only [World.size_alloc, size_setRow, dw_size]; done) | (simp only [World.size_alloc, size_setRow, dw_size]; omega) | (simp only [List.length_set, Array.length_toList]; omega)) [-Option.bind_some, hp_alloc_lt, hp_alloc_eq, hp_set_ne, h0, h3, h4, show ¬ k < vs.length by omega, show vs.length ≤ k by omega]
    rw [List.take_of_length_le (by simp; omega)] at ht
    rw [List.take_of_length_le (by omega)] at hl
    exact ⟨⟨cur, hg, css, ht, hl, hn⟩, by (repeat (first | exact Ext.rfl | assumption | (refine Ext.al ?_ _) | (refine Ext.dw ?_) | (refine Ext.set ?_ (by first | omega | (simp only [World.size_alloc, size_setRow, dw_size]; omega)) _) | (refine Ext.tr ?_ (by assumption))))⟩
  | succ d ih =>
    intro k e w cur css hd h0 h3 h4 ha hE hB hg hc ht hl hn
    rw [laws_toVerS_l1_eq]
    have hlt : k < vs.length := by omega
    obtain ⟨x, hx, hdx⟩ := drop_at hlt
    obtain ⟨_, _, _, hm⟩ := ha.len
    obtain ⟨b1, o1, c1, cs, hs1, hA0, hcs0⟩ := ha.at hx
    have hcs := hcs0.mono (Ext.keep hE)
    have hla := At.ld (P := P) (t := 146) (by kernel_rfl) (by rw [hcs.length]; kernel_rfl) (hA0.mono (Ext.keep hE))
    have hgl := hp_lt hg
    subst hs1
    simp (disch := first | omega | (simp only [World.size_alloc, size_setRow, dw_size]; done) | (simp only [World.size_alloc, size_setRow, dw_size]; omega) | (simp only [List.length_set, Array.length_toList]; omega)) [-Option.bind_some, hp_alloc_lt, hp_alloc_eq, hp_set_ne, h0, h3, h4, hlt, ia_109, hla, -ld_146]
    refine Ret.bind (laws_toVer_c hcs) ?_
    rintro ⟨_, w1⟩ ⟨ds, rfl, hds, hE1⟩
    have hg1 := (hE1.blk hgl).trans hg
    have hs1 := hE1.size
    have hkk : k * 6 + 6 ≤ cur.size := by omega
    have hdl : ds.length = 6 := hds.length
    have hone : ds.all Value.oneCell' = true := by
      obtain ⟨s', rfl, hf, _⟩ := hds
      obtain ⟨ab, cb, hs', _⟩ := hf.r.len
      subst hs'
      rfl
    have hpt := row_put (cur := cur) (vs := ds) (m := 6) hc hlt hdl
    simp (disch := first | omega | (simp only [World.size_alloc, size_setRow, dw_size]; done) | (simp only [World.size_alloc, size_setRow, dw_size]; omega) | (simp only [List.length_set, Array.length_toList]; omega)) [-Option.bind_some, hp_alloc_lt, hp_alloc_eq, hp_set_ne, ia_55, hlt, hg1, hkk, hdl, hone]
    have keep1 : ∀ b, b < w.heap.size → b ≠ g → hp (w1.setRow g (List.take (k * 6) cur.toList ++ (ds ++ List.drop (k * 6 + 6) cur.toList)).toArray) b = hp w b := fun b hb hne => (hp_set_ne hne).trans (hE1.blk hb)
    refine Ret.mono (ih (k + 1) _ _ _ (css ++ [ds]) (by omega) h0 h3 (congrArg i64 (w64 (by omega) (by omega))) ha (by (repeat (first | exact Ext.rfl | assumption | (refine Ext.al ?_ _) | (refine Ext.dw ?_) | (refine Ext.set ?_ (by first | omega | (simp only [World.size_alloc, size_setRow, dw_size]; omega)) _) | (refine Ext.tr ?_ (by assumption))))) hB (by rw [hp_set_eq, hg1]; rfl) (by simpa [hdl] using hpt.1)
      (by rw [List.flatten_append, ← ht]; simpa [hdl] using hpt.2) ?_ ?_) fun _ ⟨h1, ⟨c, css, h2, h3, h4, h5⟩, h6⟩ => ⟨h1, ⟨c, h2, css, h3, h4, h5⟩, h6⟩
    · rw [take_at hx]
      refine All2.app (hl.imp fun a b h => h.keep fun b hb => keep1 b (h.lt b hb).2 (by have := (h.lt b hb).1; omega)) ?_
      obtain ⟨s', rfl, hf, hts⟩ := hds
      refine ⟨s', rfl, ⟨(hf.1.keep fun b hb => hp_set_ne ?_).from (by omega), hf.2⟩, hts⟩
      have := (hf.1.lt hb).1
      omega
    · rw [List.flatMap_append, List.nodup_append]
      refine ⟨hn, ?_, ?_⟩
      · obtain ⟨s', rfl, hf, hts⟩ := hds
        simp only [List.flatMap_cons, List.flatMap_nil, List.append_nil, pastB]
        cases blkOf s' <;> simp
      · intro a ha b hb
        obtain ⟨c, hc, hac⟩ := List.mem_flatMap.1 ha
        obtain ⟨v, _, hv⟩ := hl.mem hc
        have h1 := (hv.lt a hac).2
        simp only [List.flatMap_cons, List.flatMap_nil, List.append_nil] at hb
        have h2 := (hds.lt b hb).1
        omega
theorem laws_toVerS_c {s : Value} {vs : List Ver} {w : World} (ha : rVers w s vs) : Ret (EV P 141 #[s] w) fun r => fVers 46 48 w.heap.size r.2 r.1 vs ∧ Ext w r.2 := by
  have ha' := ha
  obtain ⟨aa, ca, hs, hm⟩ := ha.len
  subst hs
  refine Ret.enter plain mixed (laws_toVerS_fn _ _) (by kernel_rfl) (n := 1) (by kernel_rfl) rfl ?_
  have hmk := ms_eq (P := P) el_55 (z := [i64 0, i64 0, i64 0, .slice none 0 0, .string ⟨#[]⟩, .bool false]) (by kernel_rfl) rfl (by omega) (l := vs.length) (c := vs.length) (by omega) (by omega) (by omega) (by omega) w
  simp only [Int.toNat_natCast] at hmk
  simp (disch := first | omega | (simp only [World.size_alloc, size_setRow, dw_size]; done) | (simp only [World.size_alloc, size_setRow, dw_size]; omega) | (simp only [List.length_set, Array.length_toList]; omega)) [-Option.bind_some, hp_alloc_lt, hp_alloc_eq, hp_set_ne, hmk]
  refine Ret.mono (laws_toVerS_l (s := .slice aa vs.length ca) (vs := vs) (g := w.heap.size) (w0 := w) vs.length 0 _ _ _ [] (by omega) rfl rfl rfl ha' (by (repeat (first | exact Ext.rfl | assumption | (refine Ext.al ?_ _) | (refine Ext.dw ?_) | (refine Ext.set ?_ (by first | omega | (simp only [World.size_alloc, size_setRow, dw_size]; omega)) _) | (refine Ext.tr ?_ (by assumption))))) (by omega) (hp_alloc_eq rfl) (by simp [zrep_len]) (by simp) trivial (by simp)) ?_
  rintro ⟨_, w1⟩ ⟨rfl, ⟨c, css, hc, hl, hA, hn⟩, hE⟩
  have hcl : css.length = vs.length := hA.length
  have hfl : css.flatten.length = vs.length * 6 := by rw [← hcl]; exact flat_len fun c hc => by obtain ⟨v, _, hv⟩ := hA.mem hc; exact hv.length
  have hsz : c.size = vs.length * 6 := by rw [← hfl, ← hl]; simp
  refine ⟨⟨css, ⟨hfl, by omega, .inr ⟨w.heap.size, vs.length, c, rfl, by omega, hc, by omega, by omega, by omega, by rw [hl, ← hfl, List.take_length]⟩⟩, ?_, hm, ?_⟩, hE⟩
  · exact hA.imp fun a b ⟨s', h1, h2, h3⟩ => ⟨s', h1, ⟨h2.1.from (by omega), h2.2⟩, h3⟩
  · simp only [versB, blkOf, Option.toList, List.cons_append, List.nil_append, List.nodup_cons]
    refine ⟨fun h => ?_, hn⟩
    obtain ⟨c, hc, hac⟩ := List.mem_flatMap.1 h
    obtain ⟨v, _, hv⟩ := hA.mem hc
    have := (hv.lt _ hac).1
    omega
theorem laws_toStore_c {s : Value} {vs : List Ver} {w : World} (ha : rVers w s vs) : Ret (EV P 140 #[.agg #[s]] w) fun r => ∃ s', r.1 = .agg #[s'] ∧ fVers 46 48 w.heap.size r.2 s' vs ∧ Ext w r.2 := by
  obtain ⟨aa, ca, hs, hm⟩ := ha.len
  subst hs
  refine Ret.enter plain mixed (laws_toStore_fn _ _) (by kernel_rfl) (n := 1) (by kernel_rfl) rfl ?_
  simp (disch := first | omega | (simp only [World.size_alloc, size_setRow, dw_size]; done) | (simp only [World.size_alloc, size_setRow, dw_size]; omega) | (simp only [List.length_set, Array.length_toList]; omega)) [-Option.bind_some, hp_alloc_lt, hp_alloc_eq, hp_set_ne]
  refine Ret.bind (laws_toVerS_c (ha.mono (Ext.keep (by (repeat (first | exact Ext.rfl | assumption | (refine Ext.al ?_ _) | (refine Ext.dw ?_) | (refine Ext.set ?_ (by first | omega | (simp only [World.size_alloc, size_setRow, dw_size]; omega)) _) | (refine Ext.tr ?_ (by assumption)))))))) ?_
  rintro ⟨s', w1⟩ ⟨hf, hE⟩
  obtain ⟨ab, cb, hs', hm'⟩ := hf.r.len
  subst hs'
  have hs := hE.size
  simp only [World.size_alloc] at hs hf
  simp (disch := first | omega | (simp only [World.size_alloc, size_setRow, dw_size]; done) | (simp only [World.size_alloc, size_setRow, dw_size]; omega) | (simp only [List.length_set, Array.length_toList]; omega)) [-Option.bind_some, hp_alloc_lt, hp_alloc_eq, hp_set_ne, hE.blk]
  refine ⟨?_, by (repeat (first | exact Ext.rfl | assumption | (refine Ext.al ?_ _) | (refine Ext.dw ?_) | (refine Ext.set ?_ (by first | omega | (simp only [World.size_alloc, size_setRow, dw_size]; omega)) _) | (refine Ext.tr ?_ (by assumption))))⟩
  refine (hf.keep fun g hg _ => ?_).from (by omega)
  rw [hp_set_ne (by omega), hp_set_ne (by omega)]
end Go.Proofs.Ythicfemhpnnaaaa.X
