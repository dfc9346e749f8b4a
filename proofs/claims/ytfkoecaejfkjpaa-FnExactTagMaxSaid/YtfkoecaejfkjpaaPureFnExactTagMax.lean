/- The pure law behind FnExactTagMax, over the functions that were printed of the program: for every two tags the program's TagMax and the reference's TagMax say the same. No condition beyond the form's own: each string and each slice that is handed in takes at most 2^47 - 4096 bytes. -/
import Derived.Test.YtfkoecaejfkjpaaPFnExactTagMaxx2
set_option linter.unusedVariables false
set_option linter.unusedSimpArgs false
namespace Go.Proofs.Ytfkoecaejfkjpaa.PureFnExactTagMax
open Go.RowKit Go.Proofs.Ytfkoecaejfkjpaa.PFnExactTagMax Go.Proofs.YtfkoecaejfkjpaaV.PrintWords Go.Proofs.YtfkoecaejfkjpaaV.PrintLast Go.Proofs.YtfkoecaejfkjpaaV.PrintMore

theorem cmp_eq (a b : Int) : cmp_Compare_int.f a b = some (if a < b then -1 else if a > b then 1 else 0) := by
  unfold cmp_Compare_int.f cmp_isNaN_int.f
  simp only [Option.bind_some, bne_self_eq_false, Bool.false_eq_true, if_false]
  split
  · rfl
  · split <;> rfl

theorem or2_eq (k : Nat) (a b : Int) : cmp_Or_int.f (k + 3) [a, b] = some (if a = 0 then b else a) := by
  have h0 : ∀ x : Int, rd [x, b] 0 = x := fun x => rfl
  have h1 : ∀ x : Int, rd [x, b] 1 = b := fun x => rfl
  have w0 : wrap64 (0 + 1) = 1 := by decide +kernel
  have w1 : wrap64 (1 + 1) = 2 := by decide +kernel
  simp only [cmp_Or_int.f, cmp_Or_int.l0, h0, h1, w0, w1, List.length_cons, List.length_nil]
  simp only [show ((0 : Int) < ((0 + 1 + 1 : Nat) : Int)) from by decide, show ((1 : Int) < ((0 + 1 + 1 : Nat) : Int)) from by decide, show ¬ ((2 : Int) < ((0 + 1 + 1 : Nat) : Int)) from by decide, show ((0 : Int) ≤ 0) from by decide, show ((0 : Int) ≤ 1) from by decide, if_true, if_false]
  split
  · split <;> simp_all
  · rfl

def tagLess (a b c d : Int) : Bool := decide (a < c) || (decide (a = c) && decide (b < d))

theorem implLess_eq (k : Nat) (a b c d : Int) : impl_TagLess.f (k + 3) a b c d = some (tagLess a b c d) := by
  unfold impl_TagLess.f impl_Tag_compare.f tagLess
  simp only [cmp_eq, Option.bind_some, or2_eq, Option.some.injEq]
  by_cases h1 : a < c
  · simp [h1]
  · by_cases h2 : a > c
    · have h3 : a ≠ c := by omega
      simp [h1, h2, h3]
    · have h3 : a = c := by omega
      subst h3
      by_cases h4 : b < d
      · simp [h4]
      · by_cases h5 : b > d <;> simp [h4, h5]

def tagMax (a b c d : Int) : Int × Int := if tagLess a b c d = true then (c, d) else (a, b)

theorem max_eq (a b c d : Int) : spec_TagMax.f a b c d = some (tagMax a b c d) := by
  have h : spec_l1Less.f a b c d = some (tagLess a b c d) := by
    unfold spec_l1Less.f tagLess
    by_cases h : a < c
    · simp [h]
    · by_cases h2 : a = c <;> simp [h, h2]
  unfold spec_TagMax.f spec_l1Max.f tagMax
  rw [h]
  simp only [Option.bind_some]
  split <;> rfl

theorem implMax_eq (k : Nat) (a b c d : Int) : impl_TagMax.f (k + 3) a b c d = some (tagMax a b c d) := by
  unfold impl_TagMax.f tagMax
  rw [implLess_eq]
  simp only [Option.bind_some]
  split <;> rfl

theorem eqTag_refl (a b : Int) : laws_eqTag.f a b a b = some true := by
  simp [laws_eqTag.f]

theorem FnExactTagMax : laws_FnExactTagMax.Pure := by
  intro a b c d _ _ _ _
  refine ⟨3, ?_⟩
  unfold laws_FnExactTagMax.f laws_toTag.f
  simp only [Option.bind_some, max_eq, implMax_eq 0, eqTag_refl, if_true]

end Go.Proofs.Ytfkoecaejfkjpaa.PureFnExactTagMax
namespace Go.Proofs.Ytfkoecaejfkjpaa.Pure
theorem FnExactTagMax : Go.Proofs.Ytfkoecaejfkjpaa.PFnExactTagMax.laws_FnExactTagMax.Pure := Go.Proofs.Ytfkoecaejfkjpaa.PureFnExactTagMax.FnExactTagMax
end Go.Proofs.Ytfkoecaejfkjpaa.Pure
