/- A part of the proof: an evaluator of the model, its laws, and contracts of functions; no condition. -/
import Derived.Test.YthicfemhpnnaaaaC3
import Derived.Test.YthicfemhpnnaaaaC7
set_option linter.unusedVariables false
set_option linter.unusedSimpArgs false
set_option maxRecDepth 100000
namespace Go.Proofs.Ythicfemhpnnaaaa.X
open Go Go.Ev Go.RowKit
theorem spec_l2Tags_l {s : Value} {vs : List Ver} {b1 b2 b3 t1 B : Nat} {w0 : World} (hb1 : b1 < B) (hb2 : b2 < B) (hb3 : b3 < B) (h0b2 : w0.heap.size ≤ b2) (h0b3 : w0.heap.size ≤ b3) (h21 : b2 ≠ b1) (h31 : b3 ≠ b1) (h32 : b3 ≠ b2) : ∀ (d k : Nat) (e : Env) (w : World) (sv c0 : Value), k + d = vs.length → e 1 = pt b1 0 → e 2 = pt b2 0 → e 3 = pt b3 0 → e 4 = i64 k →
    hp w b1 = some (.cells #[s] t1 (0, 0)) → hp w b2 = some (.cells #[c0] 35 (0, 0)) → hp w b3 = some (.cells #[sv] 35 (0, 0)) → rVers w0 s vs → Ext w0 w → B ≤ w.heap.size →
    fTags 46 B w sv (tagsOf (vs.take k)) →
    Ret (spec_l2Tags_l1 e w) fun r => ∃ s', r.1 = .agg #[s'] ∧ fTags 46 B r.2 s' (tagsOf vs) ∧ Ext w0 r.2 := by
  intro d
  induction d with
  | zero =>
    intro k e w sv c0 hd h1 h2 h3 h4 hx1 hx2 hx3 ha hE hBw hf
    obtain ⟨aa, ca, hs, hm⟩ := ha.len
    rw [spec_l2Tags_l1_eq]
    subst hs
    obtain ⟨ab, cb, hsv, _⟩ := hf.r.len
    subst hsv
    simp (disch := first | omega | (simp only [World.size_alloc, size_setRow, dw_size]; done) | (simp only [World.size_alloc, size_setRow, dw_size]; omega) | (simp only [List.length_set, Array.length_toList]; omega)) [-Option.bind_some, hp_alloc_lt, hp_alloc_eq, hp_set_ne, h1, h2, h3, h4, hx1, hx2, hx3, show ¬ k < vs.length by omega, show vs.length ≤ k by omega]
    rw [List.take_of_length_le (by omega)] at hf ⊢
    refine ⟨hf.keep fun b hb => hp_set_ne ?_, by (repeat (first | exact Ext.rfl | assumption | (refine Ext.al ?_ _) | (refine Ext.dw ?_) | (refine Ext.set ?_ (by first | omega | (simp only [World.size_alloc, size_setRow, dw_size]; omega)) _) | (refine Ext.tr ?_ (by assumption))))⟩
    have := (hf.lt b hb).1
    omega
  | succ d ih =>
    intro k e w sv c0 hd h1 h2 h3 h4 hx1 hx2 hx3 ha hE hBw hf
    rw [spec_l2Tags_l1_eq]
    have hlt : k < vs.length := by omega
    obtain ⟨v, hv, hdx⟩ := drop_at hlt
    obtain ⟨_, _, _, hm⟩ := ha.len
    obtain ⟨bb, oo, cc, cs, hs1, hA0, hcs0⟩ := ha.at hv
    have hA := hA0.mono (Ext.keep hE)
    obtain ⟨sp, rfl, _, _⟩ := hcs0
    have p1 := hA 1 _ rfl
    have p2 := hA 2 _ rfl
    have hbl := hp_lt hx3
    have hbb : bb < w.heap.size := hA.lt
    subst hs1
    obtain ⟨ab, cb, hsv, hfl⟩ := hf.r.len
    subst hsv
    have htl : (tagsOf (vs.take k)).length = k := by simp [tagsOf]; omega
    simp (disch := first | omega | (simp only [World.size_alloc, size_setRow, dw_size]; done) | (simp only [World.size_alloc, size_setRow, dw_size]; omega) | (simp only [List.length_set, Array.length_toList]; omega)) [-Option.bind_some, hp_alloc_lt, hp_alloc_eq, hp_set_ne, h1, h2, h3, h4, hx1, hx2, hx3, hlt, ia_55, p1, p2]
    refine Ret.bind (app_tag (x := v.tag) el_33 (by kernel_rfl) (hf.keep fun b hb => (hp_alloc_lt (by simp only [dw_size]; exact (hf.lt b hb).2)).trans (hp_dw w b)) (by simp only [World.size_alloc, dw_size]; omega) ?_ (by omega)) ?_
    · intro j u hj
      rw [hp_alloc_eq (by simp only [dw_size]), cellO_some, ← nth_eq, Nat.zero_add]
      exact hj
    rintro ⟨s', w1⟩ ⟨hf1, hBut⟩
    have hk1 : ∀ b, b < B → hp w1 b = hp w b := fun b hb => (hBut.blk b (by simp only [World.size_alloc, dw_size]; omega) (fun e => absurd (hf.lt b (Option.mem_toList.2 e)).1 (by omega))).trans ((hp_alloc_lt (by simp only [dw_size]; omega)).trans (hp_dw w b))
    have hE1 : Ext w0 w1 := Ext.but (b := (dw w).alloc _) (by (repeat (first | exact Ext.rfl | assumption | (refine Ext.al ?_ _) | (refine Ext.dw ?_) | (refine Ext.set ?_ (by first | omega | (simp only [World.size_alloc, size_setRow, dw_size]; omega)) _) | (refine Ext.tr ?_ (by assumption))))) hBut fun x hx => by have := (hf.lt x (Option.mem_toList.2 hx)).1; omega
    have hsz : w.heap.size < w1.heap.size := by have := hBut.size; simp only [World.size_alloc, dw_size] at this; omega
    obtain ⟨ac, c3, hsv, hfl1⟩ := hf1.r.len
    subst hsv
    simp (disch := first | omega | (simp only [World.size_alloc, size_setRow, dw_size]; done) | (simp only [World.size_alloc, size_setRow, dw_size]; omega) | (simp only [List.length_set, Array.length_toList]; omega)) [-Option.bind_some, hp_alloc_lt, hp_alloc_eq, hp_set_ne, hk1, hx3]
    refine Ret.mono (ih (k + 1) _ _ _ c0 (by omega) h1 h2 h3 (congrArg i64 (w64 (by omega) (by omega))) ((hp_set_ne (by omega)).trans ((hk1 _ hb1).trans hx1)) ((hp_set_ne (by omega)).trans ((hk1 _ hb2).trans hx2)) (by rw [hp_set_eq, hk1 _ hb3, hx3]; rfl) ha (by (repeat (first | exact Ext.rfl | assumption | (refine Ext.al ?_ _) | (refine Ext.dw ?_) | (refine Ext.set ?_ (by first | omega | (simp only [World.size_alloc, size_setRow, dw_size]; omega)) _) | (refine Ext.tr ?_ (by assumption))))) (by simp; omega) ?_) fun _ h => h
    rw [take_at hv]
    have : tagsOf (vs.take k ++ [v]) = tagsOf (vs.take k) ++ [v.tag] := by simp [tagsOf]
    rw [this]
    have hf2 : ∀ cs, fTags 46 B (w1.setRow b3 cs) _ (tagsOf (vs.take k) ++ [v.tag]) := fun cs => hf1.keep fun b hb => hp_set_ne (by have := (hf1.lt b hb).1; omega)
    simpa using hf2 _
theorem spec_l2Tags_c {s : Value} {vs : List Ver} {w : World} (ha : rVers w s vs) : Ret (EV P 130 #[.agg #[s]] w) fun r => ∃ s', r.1 = .agg #[s'] ∧ fTags 46 w.heap.size r.2 s' (tagsOf vs) ∧ Ext w r.2 := by
  have ha' := ha
  obtain ⟨aa, ca, hs, hm⟩ := ha.len
  subst hs
  refine Ret.enter plain mixed (spec_l2Tags_fn _ _) (by kernel_rfl) (n := 1) (by kernel_rfl) rfl ?_
  simp (disch := first | omega | (simp only [World.size_alloc, size_setRow, dw_size]; done) | (simp only [World.size_alloc, size_setRow, dw_size]; omega) | (simp only [List.length_set, Array.length_toList]; omega)) [-Option.bind_some, hp_alloc_lt, hp_alloc_eq, hp_set_ne]
  refine Ret.mono (spec_l2Tags_l (s := .slice aa vs.length ca) (vs := vs) (b1 := w.heap.size) (b2 := w.heap.size + 1) (b3 := w.heap.size + 2) (B := w.heap.size + 3) (w0 := w) (t1 := 57) (by omega) (by omega) (by omega) (by omega) (by omega) (by omega) (by omega) (by omega) vs.length 0 _ _ _ _ (by omega) rfl rfl rfl rfl
    (by simp (disch := first | omega | (simp only [World.size_alloc, size_setRow, dw_size]; done) | (simp only [World.size_alloc, size_setRow, dw_size]; omega) | (simp only [List.length_set, Array.length_toList]; omega)) [-Option.bind_some, hp_alloc_lt, hp_alloc_eq, hp_set_ne]; first | done | rfl) (by simp (disch := first | omega | (simp only [World.size_alloc, size_setRow, dw_size]; done) | (simp only [World.size_alloc, size_setRow, dw_size]; omega) | (simp only [List.length_set, Array.length_toList]; omega)) [-Option.bind_some, hp_alloc_lt, hp_alloc_eq, hp_set_ne]; first | done | rfl) (by simp (disch := first | omega | (simp only [World.size_alloc, size_setRow, dw_size]; done) | (simp only [World.size_alloc, size_setRow, dw_size]; omega) | (simp only [List.length_set, Array.length_toList]; omega)) [-Option.bind_some, hp_alloc_lt, hp_alloc_eq, hp_set_ne]; first | done | rfl) ha' (by (repeat (first | exact Ext.rfl | assumption | (refine Ext.al ?_ _) | (refine Ext.dw ?_) | (refine Ext.set ?_ (by first | omega | (simp only [World.size_alloc, size_setRow, dw_size]; omega)) _) | (refine Ext.tr ?_ (by assumption))))) (by simp) ⟨Own.nil _ _ _ _, by simp [tagsOf]⟩) ?_
  rintro ⟨_, w1⟩ ⟨s', rfl, hf, hE⟩
  exact ⟨s', rfl, hf.from (by omega), hE⟩
end Go.Proofs.Ythicfemhpnnaaaa.X
