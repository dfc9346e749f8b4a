/- A part of the proof: an evaluator of the model, its laws, and contracts of functions; no condition. -/
import Derived.Test.YtcafhepclddcaaaEvS
import Derived.Test.YtcafhepclddcaaaEvT
import Derived.Test.YtcafhepclddcaaaEvF0
import Derived.Test.YtcafhepclddcaaaEvF1
import Derived.Test.YtcafhepclddcaaaEvF2
import Derived.Test.YtcafhepclddcaaaEvF3
set_option linter.unusedVariables false
set_option linter.unusedSimpArgs false
set_option maxRecDepth 100000
namespace Go.Proofs.Ytcafhepclddcaaa.X
open Go Go.Ev Go.RowKit
theorem spec_l1In_c (n a b : Int) (w : World) : Ret (EV P 54 #[i64 n, i64 a, i64 b] w) fun r => r = (.bool (decide (a ≤ n) && decide (n ≤ b)), w) := by
  refine Ret.enter plain mixed (spec_l1In_fn _ _ _ _) (by kernel_rfl) (n := 3) (by kernel_rfl) rfl ?_
  cases h : decide (a ≤ n) <;> simp (disch := first | omega | (simp only [World.size_alloc, size_setRow, dw_size]; done) | (simp only [World.size_alloc, size_setRow, dw_size]; omega) | (simp only [List.length_set, Array.length_toList]; omega)) [-Option.bind_some, hp_alloc_lt, hp_alloc_eq, hp_set_ne, h]
theorem impl_within_c (n a b : Int) (w : World) : Ret (EV P 56 #[i64 n, i64 a, i64 b] w) fun r => r = (.bool (decide (a ≤ n) && decide (n ≤ b)), w) := by
  refine Ret.enter plain mixed (impl_within_fn _ _ _ _) (by kernel_rfl) (n := 3) (by kernel_rfl) rfl ?_
  cases h : decide (a ≤ n) <;> simp (disch := first | omega | (simp only [World.size_alloc, size_setRow, dw_size]; done) | (simp only [World.size_alloc, size_setRow, dw_size]; omega) | (simp only [List.length_set, Array.length_toList]; omega)) [-Option.bind_some, hp_alloc_lt, hp_alloc_eq, hp_set_ne, h]
end Go.Proofs.Ytcafhepclddcaaa.X
set_option linter.unusedVariables false
set_option linter.unusedSimpArgs false
set_option maxRecDepth 100000
namespace Go.Proofs.Ytcafhepclddcaaa.X
open Go Go.Ev Go.RowKit
theorem bytesOf_one (x : Int) : (bytesOf [x]).size = 1 := rfl
theorem cv_one (x : Int) (w : World) : cv P 140 9 (.slice (some ⟨w.heap.size, 0, none⟩) 1 1) (w.alloc (.cells #[.int .u8 x] 5)) = some (.string (bytesOf [x]), w.alloc (.cells #[.int .u8 x] 5)) :=
  cv_bytes (e := 5) (ns := [x]) (by kernel_rfl) (by kernel_rfl) (by kernel_rfl) (fun j v hv => by
    rw [hp_alloc_eq rfl, cellO_some, ← nth_eq, Nat.zero_add]
    exact hv)
theorem laws_markText_l : ∀ (n : Nat) (acc : ByteArray), acc.size + n ≤ 4611686018427387904 → ∃ s : ByteArray, s.size ≤ acc.size + n + 1 ∧ ∀ (e : Env) (w : World), e 0 = i64 n → e 3 = .string acc → Ret (laws_markText_l1 e w) fun r => r.1 = .string s ∧ Ext w r.2 := by
  intro n
  induction n using Nat.strongRecOn with
  | _ n ih =>
    intro acc hsz
    by_cases h0 : n = 0
    · subst h0
      have hadd : ∀ x y w, bo P .add 9 x y (.string ⟨#[109]⟩) (.string acc) w = some (.string (⟨#[109]⟩ ++ acc), w) := fun x y w => bo_add_str _ _ _ (by rw [show (⟨#[109]⟩ : ByteArray).size = 1 from rfl]; omega) w
      refine ⟨⟨#[109]⟩ ++ acc, by rw [ByteArray.size_append, show (⟨#[109]⟩ : ByteArray).size = 1 from rfl]; omega, fun e w he0 he3 => ?_⟩
      rw [laws_markText_l1_eq]
      simp (disch := first | omega | (simp only [World.size_alloc, size_setRow, dw_size]; done) | (simp only [World.size_alloc, size_setRow, dw_size]; omega) | (simp only [List.length_set, Array.length_toList]; omega)) [-Option.bind_some, hp_alloc_lt, hp_alloc_eq, hp_set_ne, he0, he3, hadd]
      (repeat (first | exact Ext.rfl | assumption | (refine Ext.al ?_ _) | (refine Ext.dw ?_) | (refine Ext.set ?_ (by first | omega | (simp only [World.size_alloc, size_setRow, dw_size]; omega)) _) | (refine Ext.tr ?_ (by assumption))))
    · let x := IntKind.wrap .u8 (IntKind.wrap .i64 (48 + (n : Int).tmod 10))
      have hq : (bytesOf [x] ++ acc).size = acc.size + 1 := by rw [ByteArray.size_append, bytesOf_one]; omega
      obtain ⟨s, hs, hr⟩ := ih (n / 10) (by omega) (bytesOf [x] ++ acc) (by rw [hq]; omega)
      refine ⟨s, by rw [hq] at hs; omega, fun e w he0 he3 => ?_⟩
      have hadd : ∀ x y z w, bo P .add 9 x y (.string (bytesOf [z])) (.string acc) w = some (.string (bytesOf [z] ++ acc), w) := fun x y z w => bo_add_str _ _ _ (by rw [bytesOf_one]; omega) w
      have hdiv : (n : Int).tdiv 10 = ((n / 10 : Nat) : Int) := by rw [Int.tdiv_eq_ediv_of_nonneg (by omega)]; omega
      rw [laws_markText_l1_eq]
      simp (disch := first | omega | (simp only [World.size_alloc, size_setRow, dw_size]; done) | (simp only [World.size_alloc, size_setRow, dw_size]; omega) | (simp only [List.length_set, Array.length_toList]; omega)) [-Option.bind_some, hp_alloc_lt, hp_alloc_eq, hp_set_ne, he0, he3, hadd, show 0 < n by omega, show (0 : Int) < n by omega, bo_rem, bo_quo, cv_one, hdiv]
      have hw : IntKind.i64.wrap ((n / 10 : Nat) : Int) = ((n / 10 : Nat) : Int) := w64 (by omega) (by omega)
      refine Ret.mono (hr _ _ (congrArg i64 hw) rfl) ?_
      rintro r ⟨h1, h2⟩
      exact ⟨h1, (Ext.al Ext.rfl _).tr h2⟩
theorem laws_markText_c (k : Int) (h0 : 0 ≤ k) : ∃ s : ByteArray, (k ≤ 4611686018427387904 → s.size ≤ k.toNat + 2) ∧ (k ≤ 4611686018427387904 → ∀ w : World, Ret (EV P 107 #[i64 k] w) fun r => r.1 = .string s ∧ Ext w r.2) := by
  by_cases hb : k ≤ 4611686018427387904
  · obtain ⟨n, rfl⟩ := Int.eq_ofNat_of_zero_le h0
    by_cases hn : n = 0
    · subst hn
      refine ⟨⟨#[109, 48]⟩, fun _ => by simp [show (⟨#[109, 48]⟩ : ByteArray).size = 2 from rfl], fun _ w => ?_⟩
      refine Ret.enter plain mixed (laws_markText_fn _ _) (by kernel_rfl) (n := 1) (by kernel_rfl) rfl ?_
      simp (disch := first | omega | (simp only [World.size_alloc, size_setRow, dw_size]; done) | (simp only [World.size_alloc, size_setRow, dw_size]; omega) | (simp only [List.length_set, Array.length_toList]; omega)) [-Option.bind_some, hp_alloc_lt, hp_alloc_eq, hp_set_ne]
      (repeat (first | exact Ext.rfl | assumption | (refine Ext.al ?_ _) | (refine Ext.dw ?_) | (refine Ext.set ?_ (by first | omega | (simp only [World.size_alloc, size_setRow, dw_size]; omega)) _) | (refine Ext.tr ?_ (by assumption))))
    · obtain ⟨s, hs, hr⟩ := laws_markText_l n ⟨#[]⟩ (by rw [show (⟨#[]⟩ : ByteArray).size = 0 from rfl]; omega)
      refine ⟨s, fun _ => by rw [show (⟨#[]⟩ : ByteArray).size = 0 from rfl] at hs; simp; omega, fun _ w => ?_⟩
      refine Ret.enter plain mixed (laws_markText_fn _ _) (by kernel_rfl) (n := 1) (by kernel_rfl) rfl ?_
      simp (disch := first | omega | (simp only [World.size_alloc, size_setRow, dw_size]; done) | (simp only [World.size_alloc, size_setRow, dw_size]; omega) | (simp only [List.length_set, Array.length_toList]; omega)) [-Option.bind_some, hp_alloc_lt, hp_alloc_eq, hp_set_ne, show ¬ (n : Int) ≤ 0 by omega, hn]
      exact hr _ w rfl rfl
  · exact ⟨⟨#[]⟩, fun h => absurd h hb, fun h => absurd h hb⟩
noncomputable def mText (k : Int) : ByteArray := if h : 0 ≤ k then Classical.choose (laws_markText_c k h) else ⟨#[]⟩
theorem mText_c {k : Int} (h0 : 0 ≤ k) (hb : k ≤ 4611686018427387904) : (mText k).size ≤ k.toNat + 2 ∧ ∀ w : World, Ret (EV P 107 #[i64 k] w) fun r => r.1 = .string (mText k) ∧ Ext w r.2 := by
  unfold mText
  rw [dif_pos h0]
  have := Classical.choose_spec (laws_markText_c k h0)
  exact ⟨this.1 hb, this.2 hb⟩
end Go.Proofs.Ytcafhepclddcaaa.X
