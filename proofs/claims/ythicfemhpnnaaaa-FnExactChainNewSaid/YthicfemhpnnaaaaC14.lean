/- A part of the proof: an evaluator of the model, its laws, and contracts of functions; no condition. -/
import Derived.Test.YthicfemhpnnaaaaC13
set_option linter.unusedVariables false
set_option linter.unusedSimpArgs false
set_option maxRecDepth 100000
namespace Go.Proofs.Ythicfemhpnnaaaa.X
open Go Go.Ev Go.RowKit
theorem laws_markVerS_l {s : Value} {vs : List Ver} {B T : Nat} {w0 : World} {k0 : Int} (hT : T ≤ w0.heap.size) (h0k : 0 ≤ k0) (hk : k0 + 5 * vs.length + 2 * pastSum vs ≤ 100000000000000) : ∀ (d j : Nat) (e : Env) (w : World), j + d = vs.length → e 0 = s → e 1 = i64 (mAt k0 vs j) → e 5 = i64 j →
    fVT 46 48 B T w s ((mVers mText k0 vs).take j ++ vs.drop j) → Zon B T w0 w →
    Ret (laws_markVerS_l1 e w) fun r => r.1 = i64 (mAt k0 vs vs.length) ∧ fVT 46 48 B T r.2 s (mVers mText k0 vs) ∧ Zon B T w0 r.2 := by
  intro d
  induction d with
  | zero =>
    intro j e w hd h0 h1 h5 hf hb
    obtain ⟨aa, ca, hs, hm⟩ := hf.f.r.len
    have hl : ((mVers mText k0 vs).take j ++ vs.drop j).length = vs.length := by simp [mVers_length]; omega
    rw [hl] at hs hm
    rw [laws_markVerS_l1_eq]
    subst hs
    obtain rfl : j = vs.length := by omega
    simp (disch := first | omega | (simp only [World.size_alloc, size_setRow, dw_size]; done) | (simp only [World.size_alloc, size_setRow, dw_size]; omega) | (simp only [List.length_set, Array.length_toList]; omega)) [-Option.bind_some, hp_alloc_lt, hp_alloc_eq, hp_set_ne, h0, h1, h5]
    rw [List.take_of_length_le (by rw [mVers_length]; omega), List.drop_eq_nil_of_le (by omega), List.append_nil] at hf
    exact ⟨hf, hb⟩
  | succ d ih =>
    intro j e w hd h0 h1 h5 hf hb
    have hlt : j < vs.length := by omega
    obtain ⟨v, hv, hdx⟩ := drop_at hlt
    have hl : ((mVers mText k0 vs).take j ++ vs.drop j).length = vs.length := by simp [mVers_length]; omega
    have hLj : ((mVers mText k0 vs).take j ++ vs.drop j)[j]? = some v := by
      rw [List.getElem?_append_right (by simp only [List.length_take, mVers_length]; omega), List.length_take, mVers_length, show j - min j vs.length = 0 by omega, hdx]; rfl
    have hma := mAt_le vs k0 j (by omega)
    have hma1 := mAt_le vs k0 (j + 1) (by omega)
    have hsu := mAt_succ vs k0 j hv
    obtain ⟨css, ho, hA, hm, hnd, hTT⟩ := hf
    have hBT := fVers.lt ho hA
    have hc6 : ∀ c ∈ css, c.length = 6 := fun c hc => by obtain ⟨u, _, hu⟩ := hA.mem hc; exact hu.length
    have hcl : css.length = vs.length := by rw [hA.length, hl]
    obtain ⟨cs, hcs, hcv⟩ := hA.get hLj
    have hcv' := hcv
    obtain ⟨sp, rfl, hfp, htx⟩ := hcv
    obtain ⟨ap, cp, hsp, hpl⟩ := hfp.r.len
    rw [hl] at ho hm
    obtain ⟨hfl, hn, ho⟩ := ho
    rcases ho with ⟨_, h⟩ | ⟨g, cap, cur, hs, hg, hh, hc, hcm, hsz, ht⟩
    · omega
    have hin : RowIn cur.toList css := RowIn.of hc6 (by rw [hcl]; exact ht)
    have hgl := hp_lt hh
    have hgT : g < T := hTT g (by simp [versB, hs, blkOf])
    have hgn : ∀ b ∈ css.flatMap pastB, b ≠ g := by
      intro b hb e
      subst hs
      subst e
      simp only [versB, blkOf, Option.toList, List.cons_append, List.nil_append, List.nodup_cons] at hnd
      exact hnd.1 hb
    have hpb : ∀ b ∈ (blkOf sp).toList, b ≠ g ∧ B ≤ b ∧ b < T ∧ b < w.heap.size := fun b hb =>
      have h1 : b ∈ css.flatMap pastB := List.mem_flatMap.2 ⟨_, List.mem_of_getElem? hcs, hb⟩
      have h2 := hBT b (List.mem_append_right _ h1)
      ⟨hgn b h1, h2.1, hTT b (List.mem_append_right _ h1), h2.2⟩
    have hroom : j * 6 + 6 ≤ cur.size := by omega
    have q3 : cur.toList[j * 6 + 3]? = some sp := hin j _ hcs 3 sp rfl
    rw [laws_markVerS_l1_eq]
    have hwr : ∀ x : Int, 0 ≤ x → x ≤ 9000000000000000000 → IntKind.i64.wrap x = x := fun x h0 h1 => w64 (by omega) (by omega)
    generalize hkj : mAt k0 vs j = k at *
    have hkn : nxt k v = k + 1 + 1 + 1 + 2 * v.past.length + 1 + 1 := rfl
    have n3 : ∀ a b c, nth (((cur.toList.set (j * 6) a).set (j * 6 + 1) b).set (j * 6 + 2) c) (j * 6 + 3) = some sp := fun a b c => by
      rw [← nth_eq, List.getElem?_set_ne (by omega), List.getElem?_set_ne (by omega), List.getElem?_set_ne (by omega)]
      exact q3
    subst hs
    subst hsp
    simp (disch := first | omega | (simp only [World.size_alloc, size_setRow, dw_size]; done) | (simp only [World.size_alloc, size_setRow, dw_size]; omega) | (simp only [List.length_set, Array.length_toList]; omega)) [-Option.bind_some, hp_alloc_lt, hp_alloc_eq, hp_set_ne, h0, h1, h5, hlt, ia_55, hh, splice_lt, -splice_eq, hwr, n3, show j * 6 + 1 ≤ cur.size by omega, show j * 6 + 1 + 1 ≤ cur.size by omega, show j * 6 + 2 ≤ cur.size by omega, show j * 6 + 2 + 1 ≤ cur.size by omega, show j * 6 + 3 ≤ cur.size by omega]
    have hne : ∀ b ∈ (blkOf (Value.slice ap v.past.length cp)).toList, b ≠ g := fun b hb => (hpb b hb).1
    refine Ret.bind (laws_markTagS_c (k := k + 1 + 1 + 1) (ts := v.past) (B := B) (by omega) (by omega) (hfp.keep fun b hb => (hp_set_ne (hne b hb)).trans ((hp_set_ne (hne b hb)).trans (hp_set_ne (hne b hb))))) ?_
    rintro ⟨_, w1⟩ ⟨rfl, hf1, hB1⟩
    have hg1 : hp w1 g = some (.cells (((cur.toList.set (j * 6) (i64 k)).set (j * 6 + 1) (i64 (k + 1))).set (j * 6 + 2) (i64 (k + 1 + 1))).toArray 48 (0, 0)) :=
      (hB1.blk g (by simpa using hgl) (fun e => hne g (Option.mem_toList.2 e) rfl)).trans (by rw [hp_set_eq, hp_set_eq, hp_set_eq, hh]; rfl)
    simp (disch := first | omega | (simp only [World.size_alloc, size_setRow, dw_size]; done) | (simp only [World.size_alloc, size_setRow, dw_size]; omega) | (simp only [List.length_set, Array.length_toList]; omega)) [-Option.bind_some, hp_alloc_lt, hp_alloc_eq, hp_set_ne]
    have hmt := mText_c (k := k + 1 + 1 + 1 + 2 * v.past.length) (by omega) (by omega)
    refine Ret.bind (hmt.2 w1) ?_
    rintro ⟨_, w2⟩ ⟨rfl, hE2⟩
    have hg2 := (hE2.blk (hp_lt hg1)).trans hg1
    simp (disch := first | omega | (simp only [World.size_alloc, size_setRow, dw_size]; done) | (simp only [World.size_alloc, size_setRow, dw_size]; omega) | (simp only [List.length_set, Array.length_toList]; omega)) [-Option.bind_some, hp_alloc_lt, hp_alloc_eq, hp_set_ne, hg2, splice_lt, -splice_eq, hwr, bo_rem, show j * 6 + 4 + 1 ≤ cur.size by omega, show j * 6 + 5 ≤ cur.size by omega, show j * 6 + 5 + 1 ≤ cur.size by omega, show j * 6 + 6 ≤ cur.size by omega]
    refine Ret.mono (ih (j + 1) _ _ (by omega) h0 (congrArg i64 hsu.symm) (congrArg i64 (show (j : Int) + 1 = ((j + 1 : Nat) : Int) by omega)) ?_ ?_) fun _ h => h
    · have hput := mVers_put (f := mText) (k := k0) hv
      rw [hkj] at hput
      rw [← hput]
      have hjc : j < css.length := by omega
      let new : List Value := [i64 k, i64 (k + 1), i64 (k + 1 + 1), .slice ap v.past.length cp, .string (mText (k + 1 + 1 + 1 + 2 * v.past.length)), .bool ((k + 1 + 1 + 1 + 2 * v.past.length + 1).tmod 3 == 0)]
      have hset : css.set j [i64 v.key, i64 v.tag.t, i64 v.tag.p, .slice ap v.past.length cp, .string v.text, .bool v.gone] = css := by
        apply List.ext_getElem?
        intro i
        rw [List.getElem?_set]
        split
        · rename_i hij; subst hij; first | exact hcs.symm | rw [if_pos hjc, hcs]
        · rfl
      have r0 := RowIn.put (r := 0) (hset ▸ hin) hc6 hjc rfl (by omega) (by simp; omega) (i64 k)
      have r1 := RowIn.put (r := 1) r0 hc6 hjc rfl (by omega) (by simp; omega) (i64 (k + 1))
      have r2 := RowIn.put (r := 2) r1 hc6 hjc rfl (by omega) (by simp; omega) (i64 (k + 1 + 1))
      have r4 := RowIn.put (r := 4) r2 hc6 hjc rfl (by omega) (by simp; omega) (.string (mText (k + 1 + 1 + 1 + 2 * v.past.length)))
      have r5 := RowIn.put (r := 5) r4 hc6 hjc rfl (by omega) (by simp; omega) (.bool ((k + 1 + 1 + 1 + 2 * v.past.length + 1).tmod 3 == 0))
      have hc6' : ∀ c ∈ css.set j new, c.length = 6 := fun c hcc => by
        rcases List.mem_or_eq_of_mem_set hcc with h | h
        · exact hc6 c h
        · rw [h]; rfl
      have hlen : (((mVers mText k0 vs).take j ++ vs.drop j).set j (mVer mText k v)).length = vs.length := by rw [List.length_set, hl]
      have hkeep : ∀ b, b ≠ g → b < w.heap.size → b ∉ (blkOf (Value.slice ap v.past.length cp)).toList → ∀ c4 c5, hp ((w2.setRow g c4).setRow g c5) b = hp w b := fun b h1 h2 h3 c4 c5 =>
        (hp_set_ne h1).trans ((hp_set_ne h1).trans ((hE2.blk (by have := hB1.size; simp only [size_setRow] at this; omega)).trans ((hB1.blk b (by simpa using h2) (fun e => h3 (Option.mem_toList.2 e))).trans ((hp_set_ne h1).trans ((hp_set_ne h1).trans (hp_set_ne h1))))))
      refine ⟨css.set j new, ⟨?_, by rw [hlen]; omega, .inr ⟨g, cap, _, by rw [hlen], hg, by rw [hp_set_eq, hp_set_eq, hg2]; rfl, by rw [hlen]; exact hc, hcm, by simpa using hsz, ?_⟩⟩, ?_, by rw [hlen]; exact hm, ?_, ?_⟩
      · rw [flat_len hc6', List.length_set, hcl, hlen]
      · have := RowIn.take r5 hc6' (by simp only [List.length_set, Array.length_toList]; omega)
        rw [List.length_set, hcl] at this
        rw [hlen]
        exact this
      · refine All2.set j hA (fun i a b hi ha hb' hR => hR.keep fun x hx => hkeep x (hgn x (List.mem_flatMap.2 ⟨a, List.mem_of_getElem? ha, hx⟩)) (hR.lt x hx).2 (fun hx2 => ?_) _ _) ⟨_, rfl, (hf1.keep fun b hb => ?_), ?_⟩
        · have hnf : (css.flatMap pastB).Nodup := (List.nodup_append.1 hnd).2.1
          exact flat_apart hnf ha hcs hi x hx hx2
        · have := hne b (by simpa [blkOf] using hb)
          exact (hp_set_ne this).trans ((hp_set_ne this).trans (hE2.blk (hf1.lt b hb).2))
        · have := hmt.1
          simp only [mVer]
          omega
      · rw [versB_set (ds := new) hcs rfl]
        exact hnd
      · rw [versB_set (ds := new) hcs rfl]
        exact hTT
    · exact ((((((hb.tr (Zon.set hg hgT w _)).tr (Zon.set hg hgT _ _)).tr (Zon.set hg hgT _ _)).tr (Zon.but hB1 fun x hx => ⟨(hpb x (Option.mem_toList.2 hx)).2.1, (hpb x (Option.mem_toList.2 hx)).2.2.1⟩)).tr (Zon.of hE2 _ _)).tr (Zon.set hg hgT _ _)).tr (Zon.set hg hgT _ _)
theorem mAt_zero (k : Int) (vs : List Ver) : mAt k vs 0 = k := by cases vs <;> rfl
theorem mAt_end : ∀ (vs : List Ver) (k : Int), mAt k vs vs.length = k + 5 * vs.length + 2 * pastSum vs
  | [], k => by simp [mAt, pastSum]
  | v :: vs, k => by
    have := mAt_end vs (nxt k v)
    rw [List.length_cons, show mAt k (v :: vs) (vs.length + 1) = mAt (nxt k v) vs vs.length from rfl, this, show pastSum (v :: vs) = v.past.length + pastSum vs from rfl]
    unfold nxt
    omega
theorem laws_markVerS_c {s : Value} {vs : List Ver} {B T : Nat} {k : Int} (h0k : 0 ≤ k) (hk : k + 5 * vs.length + 2 * pastSum vs ≤ 100000000000000) {w : World} (hT : T ≤ w.heap.size) (hf : fVT 46 48 B T w s vs) :
    Ret (EV P 96 #[s, i64 k] w) fun r => r.1 = i64 (k + 5 * vs.length + 2 * pastSum vs) ∧ fVT 46 48 B T r.2 s (mVers mText k vs) ∧ Zon B T w r.2 := by
  obtain ⟨aa, ca, hs, hm⟩ := hf.f.r.len
  subst hs
  refine Ret.enter plain mixed (laws_markVerS_fn _ _ _) (by kernel_rfl) (n := 2) (by kernel_rfl) rfl ?_
  simp (disch := first | omega | (simp only [World.size_alloc, size_setRow, dw_size]; done) | (simp only [World.size_alloc, size_setRow, dw_size]; omega) | (simp only [List.length_set, Array.length_toList]; omega)) [-Option.bind_some, hp_alloc_lt, hp_alloc_eq, hp_set_ne]
  rw [← mAt_end]
  exact laws_markVerS_l hT h0k hk vs.length 0 _ w (by omega) rfl (congrArg i64 (mAt_zero k vs).symm) rfl (by simpa using hf) (Zon.of Ext.rfl _ _)
end Go.Proofs.Ythicfemhpnnaaaa.X
