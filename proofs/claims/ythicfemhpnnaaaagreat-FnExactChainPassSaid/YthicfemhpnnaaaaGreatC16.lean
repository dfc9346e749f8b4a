/- A part of the proof: an evaluator of the model, its laws, and contracts of functions; no condition. -/
import Derived.Test.YthicfemhpnnaaaaGreatC9
import Derived.Test.YthicfemhpnnaaaaGreatC11
set_option linter.unusedVariables false
set_option linter.unusedSimpArgs false
set_option maxRecDepth 100000
namespace Go.Proofs.YthicfemhpnnaaaaGreat.X
open Go Go.Ev Go.RowKit
theorem bytesOf_one (x : Int) : (bytesOf [x]).size = 1 := rfl
theorem cv_one (x : Int) (w : World) : cv P 22 9 (.slice (some ⟨w.heap.size, 0, none⟩) 1 1) (w.alloc (.cells #[.int .u8 x] 5)) = some (.string (bytesOf [x]), w.alloc (.cells #[.int .u8 x] 5)) :=
  cv_bytes (e := 5) (ns := [x]) (by kernel_rfl) (by kernel_rfl) (by kernel_rfl) (fun j v hv => by
    rw [hp_alloc_eq rfl, cellO_some, ← nth_eq, Nat.zero_add]
    exact hv)
theorem laws_markText_l : ∀ (n : Nat) (acc : ByteArray), acc.size + n ≤ 4611686018427387904 → ∃ s : ByteArray, s.size ≤ acc.size + n + 1 ∧ ∀ (e : Env) (w : World), e 0 = i64 n → e 3 = .string acc → Ret (laws_markText_l1 e w) fun r => r.1 = .string s ∧ Ext w r.2 := by
  intro n
  induction n using Nat.strongRecOn with
  | _ n ih =>
    intro acc hsz
    by_cases h0 : n = 0
    · subst h0
      have hadd : ∀ x y w, bo P .add 9 x y (.string ⟨#[109]⟩) (.string acc) w = some (.string (⟨#[109]⟩ ++ acc), w) := fun x y w => bo_add_str _ _ _ (by rw [show (⟨#[109]⟩ : ByteArray).size = 1 from rfl]; omega) w
      refine ⟨⟨#[109]⟩ ++ acc, by rw [ByteArray.size_append, show (⟨#[109]⟩ : ByteArray).size = 1 from rfl]; omega, fun e w he0 he3 => ?_⟩
      rw [laws_markText_l1_eq]
      simp (disch := first | omega | (simp only [World.size_alloc, size_setRow, dw_size]; done) | (simp only [World.size_alloc, size_setRow, dw_size]; omega) | (simp only [List.length_set, Array.length_toList]; omega)) [-Option.bind_some, hp_alloc_lt, hp_alloc_eq, hp_set_ne, he0, he3, hadd]
      (repeat (first | exact Ext.rfl | assumption | (refine Ext.al ?_ _) | (refine Ext.dw ?_) | (refine Ext.set ?_ (by first | omega | (simp only [World.size_alloc, size_setRow, dw_size]; omega)) _) | (refine Ext.tr ?_ (by assumption))))
    · let x := IntKind.wrap .u8 (IntKind.wrap .i64 (48 + (n : Int).tmod 10))
      have hq : (bytesOf [x] ++ acc).size = acc.size + 1 := by rw [ByteArray.size_append, bytesOf_one]; omega
      obtain ⟨s, hs, hr⟩ := ih (n / 10) (by omega) (bytesOf [x] ++ acc) (by rw [hq]; omega)
      refine ⟨s, by rw [hq] at hs; omega, fun e w he0 he3 => ?_⟩
      have hadd : ∀ x y z w, bo P .add 9 x y (.string (bytesOf [z])) (.string acc) w = some (.string (bytesOf [z] ++ acc), w) := fun x y z w => bo_add_str _ _ _ (by rw [bytesOf_one]; omega) w
      have hdiv : (n : Int).tdiv 10 = ((n / 10 : Nat) : Int) := by rw [Int.tdiv_eq_ediv_of_nonneg (by omega)]; omega
      rw [laws_markText_l1_eq]
      simp (disch := first | omega | (simp only [World.size_alloc, size_setRow, dw_size]; done) | (simp only [World.size_alloc, size_setRow, dw_size]; omega) | (simp only [List.length_set, Array.length_toList]; omega)) [-Option.bind_some, hp_alloc_lt, hp_alloc_eq, hp_set_ne, he0, he3, hadd, show 0 < n by omega, show (0 : Int) < n by omega, bo_rem, bo_quo, cv_one, hdiv]
      have hw : IntKind.i64.wrap ((n / 10 : Nat) : Int) = ((n / 10 : Nat) : Int) := w64 (by omega) (by omega)
      refine Ret.mono (hr _ _ (congrArg i64 hw) rfl) ?_
      rintro r ⟨h1, h2⟩
      exact ⟨h1, (Ext.al Ext.rfl _).tr h2⟩
theorem laws_markText_c (k : Int) (h0 : 0 ≤ k) : ∃ s : ByteArray, (k ≤ 4611686018427387904 → s.size ≤ k.toNat + 2) ∧ (k ≤ 4611686018427387904 → ∀ w : World, Ret (EV P 133 #[i64 k] w) fun r => r.1 = .string s ∧ Ext w r.2) := by
  by_cases hb : k ≤ 4611686018427387904
  · obtain ⟨n, rfl⟩ := Int.eq_ofNat_of_zero_le h0
    by_cases hn : n = 0
    · subst hn
      refine ⟨⟨#[109, 48]⟩, fun _ => by simp [show (⟨#[109, 48]⟩ : ByteArray).size = 2 from rfl], fun _ w => ?_⟩
      refine Ret.enter plain mixed (laws_markText_fn _ _) (by kernel_rfl) (n := 1) (by kernel_rfl) rfl ?_
      simp (disch := first | omega | (simp only [World.size_alloc, size_setRow, dw_size]; done) | (simp only [World.size_alloc, size_setRow, dw_size]; omega) | (simp only [List.length_set, Array.length_toList]; omega)) [-Option.bind_some, hp_alloc_lt, hp_alloc_eq, hp_set_ne]
      (repeat (first | exact Ext.rfl | assumption | (refine Ext.al ?_ _) | (refine Ext.dw ?_) | (refine Ext.set ?_ (by first | omega | (simp only [World.size_alloc, size_setRow, dw_size]; omega)) _) | (refine Ext.tr ?_ (by assumption))))
    · obtain ⟨s, hs, hr⟩ := laws_markText_l n ⟨#[]⟩ (by rw [show (⟨#[]⟩ : ByteArray).size = 0 from rfl]; omega)
      refine ⟨s, fun _ => by rw [show (⟨#[]⟩ : ByteArray).size = 0 from rfl] at hs; simp; omega, fun _ w => ?_⟩
      refine Ret.enter plain mixed (laws_markText_fn _ _) (by kernel_rfl) (n := 1) (by kernel_rfl) rfl ?_
      simp (disch := first | omega | (simp only [World.size_alloc, size_setRow, dw_size]; done) | (simp only [World.size_alloc, size_setRow, dw_size]; omega) | (simp only [List.length_set, Array.length_toList]; omega)) [-Option.bind_some, hp_alloc_lt, hp_alloc_eq, hp_set_ne, show ¬ (n : Int) ≤ 0 by omega, hn]
      exact hr _ w rfl rfl
  · exact ⟨⟨#[]⟩, fun h => absurd h hb, fun h => absurd h hb⟩
noncomputable def mText (k : Int) : ByteArray := if h : 0 ≤ k then Classical.choose (laws_markText_c k h) else ⟨#[]⟩
theorem mText_c {k : Int} (h0 : 0 ≤ k) (hb : k ≤ 4611686018427387904) : (mText k).size ≤ k.toNat + 2 ∧ ∀ w : World, Ret (EV P 133 #[i64 k] w) fun r => r.1 = .string (mText k) ∧ Ext w r.2 := by
  unfold mText
  rw [dif_pos h0]
  have := Classical.choose_spec (laws_markText_c k h0)
  exact ⟨this.1 hb, this.2 hb⟩
end Go.Proofs.YthicfemhpnnaaaaGreat.X
set_option linter.unusedVariables false
set_option linter.unusedSimpArgs false
set_option maxRecDepth 100000
namespace Go.Proofs.YthicfemhpnnaaaaGreat.X
open Go Go.Ev Go.RowKit
theorem slices_Clone_Tag_c {s : Value} {xs : List Tag} {w : World} (ha : rTags w s xs) : Ret (EV P 125 #[s] w) fun r => fTags 40 w.heap.size r.2 r.1 xs ∧ Ext w r.2 := by
  have ha' := ha
  obtain ⟨⟨aa, ca, hs, hn, hA⟩, hm⟩ := ha
  subst hs
  refine Ret.enter plain mixed (slices_Clone_Tag_fn _ _) (by kernel_rfl) (n := 1) (by kernel_rfl) rfl ?_
  have hnil := bo_eql_nil (P := P) el_41
  cases aa with
  | none =>
    have hx : xs = [] := by
      rcases hA with h | ⟨b, o, h, _⟩
      · have := congrArg List.length h
        rw [tagCs_length] at this
        exact List.eq_nil_of_length_eq_zero (by simp only [List.length_nil] at this; omega)
      · cases h
    subst hx
    simp (disch := first | omega | (simp only [World.size_alloc, size_setRow, dw_size]; done) | (simp only [World.size_alloc, size_setRow, dw_size]; omega) | (simp only [List.length_set, Array.length_toList]; omega)) [-Option.bind_some, hp_alloc_lt, hp_alloc_eq, hp_set_ne, hnil]
    exact ⟨⟨Own.nil _ _ _ _, by simp⟩, by (repeat (first | exact Ext.rfl | assumption | (refine Ext.al ?_ _) | (refine Ext.dw ?_) | (refine Ext.set ?_ (by first | omega | (simp only [World.size_alloc, size_setRow, dw_size]; omega)) _) | (refine Ext.tr ?_ (by assumption))))⟩
  | some a =>
    simp (disch := first | omega | (simp only [World.size_alloc, size_setRow, dw_size]; done) | (simp only [World.size_alloc, size_setRow, dw_size]; omega) | (simp only [List.length_set, Array.length_toList]; omega)) [-Option.bind_some, hp_alloc_lt, hp_alloc_eq, hp_set_ne, hnil]
    have hown : Own (w.alloc (.cells #[] 40)) w.heap.size 40 2 (.slice (some ⟨w.heap.size, 0, none⟩) 0 0) 0 [] :=
      ⟨rfl, by omega, .inr ⟨w.heap.size, 0, #[], rfl, by omega, hp_alloc_eq rfl, by omega, by omega, by simp, by simp⟩⟩
    by_cases h0 : xs.length = 0
    · have hx : xs = [] := List.eq_nil_of_length_eq_zero h0
      subst hx
      simp (disch := first | omega | (simp only [World.size_alloc, size_setRow, dw_size]; done) | (simp only [World.size_alloc, size_setRow, dw_size]; omega) | (simp only [List.length_set, Array.length_toList]; omega)) [-Option.bind_some, hp_alloc_lt, hp_alloc_eq, hp_set_ne, app_none (P := P) (ty := 41) el_41]
      exact ⟨⟨hown, by simp⟩, by (repeat (first | exact Ext.rfl | assumption | (refine Ext.al ?_ _) | (refine Ext.dw ?_) | (refine Ext.set ?_ (by first | omega | (simp only [World.size_alloc, size_setRow, dw_size]; omega)) _) | (refine Ext.tr ?_ (by assumption))))⟩
    · obtain ⟨b, o, hab, hA2⟩ : ∃ b o, some a = some ⟨b, o, none⟩ ∧ At w b o (tagCs xs) := by
        rcases hA with h | h
        · have := congrArg List.length h
          rw [tagCs_length] at this
          simp at this
          omega
        · exact h
      cases hab
      refine Ret.bind (app_own (P := P) el_41 (z := [i64 0, i64 0]) (by kernel_rfl) rfl (by omega) hown (by simp) (hA2.mono fun b hb => hp_alloc_lt hb) (tagCs_length xs) ?_ (by omega) (by omega) (by omega)) ?_
      · rw [List.all_eq_true]
        intro v hv
        simp only [tagCs, List.mem_flatten, List.mem_map] at hv
        obtain ⟨l, ⟨t, _, rfl⟩, hv⟩ := hv
        simp only [List.mem_cons, List.not_mem_nil, or_false] at hv
        rcases hv with rfl | rfl <;> rfl
      rintro ⟨s', w1⟩ ⟨h1, h2, _⟩
      try dsimp only at *
      simp only [Nat.zero_add, List.nil_append] at h1
      simp (disch := first | omega | (simp only [World.size_alloc, size_setRow, dw_size]; done) | (simp only [World.size_alloc, size_setRow, dw_size]; omega) | (simp only [List.length_set, Array.length_toList]; omega)) [-Option.bind_some, hp_alloc_lt, hp_alloc_eq, hp_set_ne]
      exact ⟨⟨h1, hm⟩, Ext.but (b := w.alloc _) (by (repeat (first | exact Ext.rfl | assumption | (refine Ext.al ?_ _) | (refine Ext.dw ?_) | (refine Ext.set ?_ (by first | omega | (simp only [World.size_alloc, size_setRow, dw_size]; omega)) _) | (refine Ext.tr ?_ (by assumption))))) h2 fun x hx => by simp only [blkOf, Option.some.injEq] at hx; omega⟩
theorem slices_Clip_Tag_c {B : Nat} {s : Value} {xs : List Tag} {w : World} (hf : fTags 40 B w s xs) : Ret (EV P 124 #[s] w) fun r => r.2 = w ∧ fTags 40 B w r.1 xs := by
  obtain ⟨⟨hl, hn, ho⟩, hm⟩ := hf
  refine Ret.enter plain mixed (slices_Clip_Tag_fn _ _) (by kernel_rfl) (n := 1) (by kernel_rfl) rfl ?_
  rcases ho with ⟨rfl, h0⟩ | ⟨g, cap, cur, rfl, hg, hh, hc, hcm, hsz, ht⟩
  · simp (disch := first | omega | (simp only [World.size_alloc, size_setRow, dw_size]; done) | (simp only [World.size_alloc, size_setRow, dw_size]; omega) | (simp only [List.length_set, Array.length_toList]; omega)) [-Option.bind_some, hp_alloc_lt, hp_alloc_eq, hp_set_ne, sl_hm (P := P) el_41]
    have hx : xs = [] := List.eq_nil_of_length_eq_zero h0
    subst hx
    exact ⟨Own.nil _ _ _ _, by simp⟩
  · simp (disch := first | omega | (simp only [World.size_alloc, size_setRow, dw_size]; done) | (simp only [World.size_alloc, size_setRow, dw_size]; omega) | (simp only [List.length_set, Array.length_toList]; omega)) [-Option.bind_some, hp_alloc_lt, hp_alloc_eq, hp_set_ne, sl_hm (P := P) el_41]
    exact ⟨⟨hl, hn, .inr ⟨g, xs.length, cur, rfl, hg, hh, by omega, by omega, by omega, ht⟩⟩, hm⟩
theorem impl_Past_copied_c {s : Value} {xs : List Tag} {w : World} (ha : rTags w s xs) : Ret (EV P 92 #[.agg #[s]] w) fun r => ∃ s', r.1 = .agg #[s'] ∧ fTags 40 w.heap.size r.2 s' xs ∧ Ext w r.2 := by
  have ha' := ha
  obtain ⟨aa, ca, hs, hm⟩ := ha.len
  subst hs
  refine Ret.enter plain mixed (impl_Past_copied_fn _ _) (by kernel_rfl) (n := 1) (by kernel_rfl) rfl ?_
  simp (disch := first | omega | (simp only [World.size_alloc, size_setRow, dw_size]; done) | (simp only [World.size_alloc, size_setRow, dw_size]; omega) | (simp only [List.length_set, Array.length_toList]; omega)) [-Option.bind_some, hp_alloc_lt, hp_alloc_eq, hp_set_ne]
  refine Ret.bind (slices_Clone_Tag_c (ha'.mono (Ext.keep (by (repeat (first | exact Ext.rfl | assumption | (refine Ext.al ?_ _) | (refine Ext.dw ?_) | (refine Ext.set ?_ (by first | omega | (simp only [World.size_alloc, size_setRow, dw_size]; omega)) _) | (refine Ext.tr ?_ (by assumption)))))))) ?_
  rintro ⟨s1, w1⟩ ⟨hf, hE⟩
  try dsimp only at *
  have z1 := hE.size
  simp only [World.size_alloc] at z1 hf
  refine Ret.bind (slices_Clip_Tag_c hf) ?_
  rintro ⟨s2, w2⟩ ⟨rfl, hf2⟩
  try dsimp only at *
  obtain ⟨a2, c2, hs2, _⟩ := hf2.r.len
  subst hs2
  have X2 := (hE.blk (b := w.heap.size + 1) (by simp)).trans (hp_alloc_eq (by simp))
  simp (disch := first | omega | (simp only [World.size_alloc, size_setRow, dw_size]; done) | (simp only [World.size_alloc, size_setRow, dw_size]; omega) | (simp only [List.length_set, Array.length_toList]; omega)) [-Option.bind_some, hp_alloc_lt, hp_alloc_eq, hp_set_ne, X2]
  refine ⟨(hf2.keep fun b hb => ?_).from (by omega), by (repeat (first | exact Ext.rfl | assumption | (refine Ext.al ?_ _) | (refine Ext.dw ?_) | (refine Ext.set ?_ (by first | omega | (simp only [World.size_alloc, size_setRow, dw_size]; omega)) _) | (refine Ext.tr ?_ (by assumption))))⟩
  have := (hf2.lt b hb).1
  exact hp_set_ne (by omega)
end Go.Proofs.YthicfemhpnnaaaaGreat.X
