/- A part of the proof: an evaluator of the model, its laws, and contracts of functions; no condition. -/
import Derived.Test.YthicfemhpnnaaaaC5
import Derived.Test.YthicfemhpnnaaaaC6
import Derived.Test.YthicfemhpnnaaaaC11
set_option linter.unusedVariables false
set_option linter.unusedSimpArgs false
set_option maxRecDepth 100000
namespace Go.Proofs.Ythicfemhpnnaaaa.X
open Go Go.Ev Go.RowKit
theorem laws_markTagS_l {s : Value} {ts : List Tag} {B : Nat} {w0 : World} {k0 : Int} (h0k : 0 ≤ k0) (hk : k0 + 2 * ts.length ≤ 9000000000000000000) : ∀ (d j : Nat) (e : Env) (w : World), j + d = ts.length → e 0 = s → e 1 = i64 (k0 + 2 * j) → e 5 = i64 j →
    fTags 46 B w s ((mTags k0 ts).take j ++ ts.drop j) → But w0 w (blkOf s) →
    Ret (laws_markTagS_l1 e w) fun r => r.1 = i64 (k0 + 2 * ts.length) ∧ fTags 46 B r.2 s (mTags k0 ts) ∧ But w0 r.2 (blkOf s) := by
  intro d
  induction d with
  | zero =>
    intro j e w hd h0 h1 h5 hf hb
    obtain ⟨aa, ca, hs, hm⟩ := hf.r.len
    have hl : ((mTags k0 ts).take j ++ ts.drop j).length = ts.length := by simp [mTags_length]; omega
    rw [hl] at hs hm
    rw [laws_markTagS_l1_eq]
    subst hs
    simp (disch := first | omega | (simp only [World.size_alloc, size_setRow, dw_size]; done) | (simp only [World.size_alloc, size_setRow, dw_size]; omega) | (simp only [List.length_set, Array.length_toList]; omega)) [-Option.bind_some, hp_alloc_lt, hp_alloc_eq, hp_set_ne, h0, h1, h5, show ¬ j < ts.length by omega, show ts.length ≤ j by omega]
    obtain rfl : j = ts.length := by omega
    rw [List.take_of_length_le (by rw [mTags_length]; omega), List.drop_eq_nil_of_le (by omega), List.append_nil] at hf
    exact ⟨rfl, hf, hb⟩
  | succ d ih =>
    intro j e w hd h0 h1 h5 hf hb
    have hl : ((mTags k0 ts).take j ++ ts.drop j).length = ts.length := by simp [mTags_length]; omega
    have hlt : j < ts.length := by omega
    have hm := hf.2
    obtain ⟨g, cap, cur, hs, hg, hgl, hh, hle, hput⟩ := hf.put (j := j) (by omega)
    rw [hl] at hs hle hm
    rw [laws_markTagS_l1_eq]
    subst hs
    have j1 : j * 2 < cur.size := by omega
    have j2 : j * 2 + 1 < cur.size := by omega
    have j3 : j * 2 + 1 ≤ cur.size := by omega
    have j4 : j * 2 + 1 + 1 ≤ cur.size := by omega
    have j5 : j * 2 + 2 ≤ cur.size := by omega
    have wr1 : IntKind.i64.wrap (k0 + 2 * (j : Int) + 1) = k0 + 2 * j + 1 := w64 (by omega) (by omega)
    have wr2 : IntKind.i64.wrap (k0 + 2 * (j : Int) + 1 + 1) = k0 + 2 * j + 1 + 1 := w64 (by omega) (by omega)
    simp (disch := first | omega | (simp only [World.size_alloc, size_setRow, dw_size]; done) | (simp only [World.size_alloc, size_setRow, dw_size]; omega) | (simp only [List.length_set, Array.length_toList]; omega)) [-Option.bind_some, hp_alloc_lt, hp_alloc_eq, hp_set_ne, h0, h1, h5, hlt, ia_33, hh, j1, j2, j3, j4, j5, wr1, wr2, splice_one, splice_set, -splice_eq]
    refine Ret.mono (ih (j + 1) _ _ (by omega) h0 (congrArg i64 (show k0 + 2 * (j : Int) + 1 + 1 = k0 + 2 * ((j + 1 : Nat) : Int) by omega)) (congrArg i64 (w64 (by omega) (by omega))) ?_ ?_) fun _ h => h
    · rw [← mTags_put hlt]
      refine hput ⟨k0 + 2 * j, k0 + 2 * j + 1⟩ _ ?_
      simp (disch := first | omega | (simp only [World.size_alloc, size_setRow, dw_size]; done) | (simp only [World.size_alloc, size_setRow, dw_size]; omega) | (simp only [List.length_set, Array.length_toList]; omega)) [-Option.bind_some, hp_alloc_lt, hp_alloc_eq, hp_set_ne, hh]
    · exact (hb.tr (But.set _ _ _)).tr (But.set _ _ _)
theorem laws_markTagS_c {s : Value} {ts : List Tag} {B : Nat} {k : Int} (h0k : 0 ≤ k) (hk : k + 2 * ts.length ≤ 9000000000000000000) {w : World} (hf : fTags 46 B w s ts) :
    Ret (EV P 87 #[s, i64 k] w) fun r => r.1 = i64 (k + 2 * ts.length) ∧ fTags 46 B r.2 s (mTags k ts) ∧ But w r.2 (blkOf s) := by
  obtain ⟨aa, ca, hs, hm⟩ := hf.r.len
  subst hs
  refine Ret.enter plain mixed (laws_markTagS_fn _ _ _) (by kernel_rfl) (n := 2) (by kernel_rfl) rfl ?_
  simp (disch := first | omega | (simp only [World.size_alloc, size_setRow, dw_size]; done) | (simp only [World.size_alloc, size_setRow, dw_size]; omega) | (simp only [List.length_set, Array.length_toList]; omega)) [-Option.bind_some, hp_alloc_lt, hp_alloc_eq, hp_set_ne]
  exact laws_markTagS_l h0k hk ts.length 0 _ w (by omega) rfl (congrArg i64 (by omega)) rfl (by simpa using hf) (But.of Ext.rfl _)
theorem laws_markPast_c {s : Value} {ts : List Tag} {B : Nat} {k : Int} (h0k : 0 ≤ k) (hk : k + 2 * ts.length ≤ 9000000000000000000) {w : World} (hf : fTags 46 B w s ts) :
    Ret (EV P 36 #[.agg #[s], i64 k] w) fun r => r.1 = i64 (k + 2 * ts.length) ∧ fTags 46 B r.2 s (mTags k ts) ∧ But w r.2 (blkOf s) := by
  have hf' := hf
  obtain ⟨aa, ca, hs, hm⟩ := hf.r.len
  subst hs
  refine Ret.enter plain mixed (laws_markPast_fn _ _ _) (by kernel_rfl) (n := 2) (by kernel_rfl) rfl ?_
  simp (disch := first | omega | (simp only [World.size_alloc, size_setRow, dw_size]; done) | (simp only [World.size_alloc, size_setRow, dw_size]; omega) | (simp only [List.length_set, Array.length_toList]; omega)) [-Option.bind_some, hp_alloc_lt, hp_alloc_eq, hp_set_ne]
  refine Ret.bind (laws_markTagS_c h0k hk (hf'.keep fun b hb => hp_alloc_lt (hf'.lt b hb).2)) ?_
  rintro ⟨_, w1⟩ ⟨rfl, h1, h2⟩
  simp (disch := first | omega | (simp only [World.size_alloc, size_setRow, dw_size]; done) | (simp only [World.size_alloc, size_setRow, dw_size]; omega) | (simp only [List.length_set, Array.length_toList]; omega)) [-Option.bind_some, hp_alloc_lt, hp_alloc_eq, hp_set_ne]
  exact ⟨h1, (But.of (Ext.al Ext.rfl _) _).tr h2⟩
theorem laws_heldTagS_l {s : Value} {ts : List Tag} {k0 : Int} {w : World} (h0k : 0 ≤ k0) (hk : k0 + 2 * ts.length ≤ 9000000000000000000) (hf : rTags w s (mTags k0 ts)) : ∀ (d j : Nat) (e : Env), j + d = ts.length → e 0 = s → e 1 = i64 (k0 + 2 * j) → e 5 = i64 j →
    Ret (laws_heldTagS_l1 e w) fun r => r = (i64 (k0 + 2 * ts.length), w) := by
  have hl : (mTags k0 ts).length = ts.length := mTags_length _ _
  intro d
  induction d with
  | zero =>
    intro j e hd h0 h1 h5
    obtain ⟨aa, ca, hs, hm⟩ := hf.len
    rw [hl] at hs hm
    rw [laws_heldTagS_l1_eq]
    subst hs
    obtain rfl : j = ts.length := by omega
    simp (disch := first | omega | (simp only [World.size_alloc, size_setRow, dw_size]; done) | (simp only [World.size_alloc, size_setRow, dw_size]; omega) | (simp only [List.length_set, Array.length_toList]; omega)) [-Option.bind_some, hp_alloc_lt, hp_alloc_eq, hp_set_ne, h0, h1, h5]
  | succ d ih =>
    intro j e hd h0 h1 h5
    have hlt : j < ts.length := by omega
    obtain ⟨b1, o1, c1, hs, hA⟩ := hf.at (mTags_get ts k0 j hlt)
    obtain ⟨_, _, _, hm⟩ := hf.len
    rw [hl] at hs hm
    rw [laws_heldTagS_l1_eq]
    have p0 := hA 0 _ rfl
    have p1 := hA 1 _ rfl
    simp only [Nat.add_zero] at p0
    subst hs
    have wr1 : IntKind.i64.wrap (k0 + 2 * (j : Int) + 1) = k0 + 2 * j + 1 := w64 (by omega) (by omega)
    have wr2 : IntKind.i64.wrap (k0 + 2 * (j : Int) + 1 + 1) = k0 + 2 * j + 1 + 1 := w64 (by omega) (by omega)
    simp (disch := first | omega | (simp only [World.size_alloc, size_setRow, dw_size]; done) | (simp only [World.size_alloc, size_setRow, dw_size]; omega) | (simp only [List.length_set, Array.length_toList]; omega)) [-Option.bind_some, hp_alloc_lt, hp_alloc_eq, hp_set_ne, h0, h1, h5, hlt, ia_33, p0, p1, wr1, wr2, bne_self_eq_false]
    exact ih (j + 1) _ (by omega) h0 (congrArg i64 (show k0 + 2 * (j : Int) + 1 + 1 = k0 + 2 * ((j + 1 : Nat) : Int) by omega)) (congrArg i64 (w64 (by omega) (by omega)))
theorem laws_heldTagS_c {s : Value} {ts : List Tag} {k : Int} {w : World} (h0k : 0 ≤ k) (hk : k + 2 * ts.length ≤ 9000000000000000000) (hf : rTags w s (mTags k ts)) :
    Ret (EV P 88 #[s, i64 k] w) fun r => r = (i64 (k + 2 * ts.length), w) := by
  refine Ret.enter plain mixed (laws_heldTagS_fn _ _ _) (by kernel_rfl) (n := 2) (by kernel_rfl) rfl ?_
  simp (disch := first | omega | (simp only [World.size_alloc, size_setRow, dw_size]; done) | (simp only [World.size_alloc, size_setRow, dw_size]; omega) | (simp only [List.length_set, Array.length_toList]; omega)) [-Option.bind_some, hp_alloc_lt, hp_alloc_eq, hp_set_ne]
  exact laws_heldTagS_l h0k hk hf ts.length 0 _ (by omega) rfl (congrArg i64 (by omega)) rfl
theorem laws_heldPast_c {s : Value} {ts : List Tag} {k : Int} {w : World} (h0k : 0 ≤ k) (hk : k + 2 * ts.length ≤ 9000000000000000000) (hf : rTags w s (mTags k ts)) :
    Ret (EV P 37 #[.agg #[s], i64 k] w) fun r => r.1 = i64 (k + 2 * ts.length) ∧ Ext w r.2 := by
  have hf' := hf
  obtain ⟨aa, ca, hs, hm⟩ := hf.len
  subst hs
  refine Ret.enter plain mixed (laws_heldPast_fn _ _ _) (by kernel_rfl) (n := 2) (by kernel_rfl) rfl ?_
  simp (disch := first | omega | (simp only [World.size_alloc, size_setRow, dw_size]; done) | (simp only [World.size_alloc, size_setRow, dw_size]; omega) | (simp only [List.length_set, Array.length_toList]; omega)) [-Option.bind_some, hp_alloc_lt, hp_alloc_eq, hp_set_ne]
  refine Ret.bind (laws_heldTagS_c h0k hk (hf'.mono (Ext.keep (by (repeat (first | exact Ext.rfl | assumption | (refine Ext.al ?_ _) | (refine Ext.dw ?_) | (refine Ext.set ?_ (by first | omega | (simp only [World.size_alloc, size_setRow, dw_size]; omega)) _) | (refine Ext.tr ?_ (by assumption)))))))) ?_
  rintro _ rfl
  simp (disch := first | omega | (simp only [World.size_alloc, size_setRow, dw_size]; done) | (simp only [World.size_alloc, size_setRow, dw_size]; omega) | (simp only [List.length_set, Array.length_toList]; omega)) [-Option.bind_some, hp_alloc_lt, hp_alloc_eq, hp_set_ne, show ¬ k + 2 * (ts.length : Int) < 0 by omega]
  (repeat (first | exact Ext.rfl | assumption | (refine Ext.al ?_ _) | (refine Ext.dw ?_) | (refine Ext.set ?_ (by first | omega | (simp only [World.size_alloc, size_setRow, dw_size]; omega)) _) | (refine Ext.tr ?_ (by assumption))))
end Go.Proofs.Ythicfemhpnnaaaa.X
