/- The pure law behind FnExactTagLess, over the functions that were printed of the program: for every two tags the program's TagLess and the reference's TagLess say the same. No condition beyond the form's own: each string and each slice that is handed in takes at most 2^47 - 4096 bytes. -/
import Derived.Test.YtfkoecaejfkjpaaPFnExactTagLessx2
set_option linter.unusedVariables false
set_option linter.unusedSimpArgs false
namespace Go.Proofs.Ytfkoecaejfkjpaa.PureFnExactTagLess
open Go.RowKit Go.Proofs.Ytfkoecaejfkjpaa.PFnExactTagLess Go.Proofs.YtfkoecaejfkjpaaV.PrintWords Go.Proofs.YtfkoecaejfkjpaaV.PrintLast Go.Proofs.YtfkoecaejfkjpaaV.PrintMore

theorem cmp_eq (a b : Int) : cmp_Compare_int.f a b = some (if a < b then -1 else if a > b then 1 else 0) := by
  unfold cmp_Compare_int.f cmp_isNaN_int.f
  simp only [Option.bind_some, bne_self_eq_false, Bool.false_eq_true, if_false]
  split
  · rfl
  · split <;> rfl

theorem or2_eq (k : Nat) (a b : Int) : cmp_Or_int.f (k + 3) [a, b] = some (if a = 0 then b else a) := by
  have h0 : ∀ x : Int, rd [x, b] 0 = x := fun x => rfl
  have h1 : ∀ x : Int, rd [x, b] 1 = b := fun x => rfl
  have w0 : wrap64 (0 + 1) = 1 := by decide +kernel
  have w1 : wrap64 (1 + 1) = 2 := by decide +kernel
  simp only [cmp_Or_int.f, cmp_Or_int.l0, h0, h1, w0, w1, List.length_cons, List.length_nil]
  simp only [show ((0 : Int) < ((0 + 1 + 1 : Nat) : Int)) from by decide, show ((1 : Int) < ((0 + 1 + 1 : Nat) : Int)) from by decide, show ¬ ((2 : Int) < ((0 + 1 + 1 : Nat) : Int)) from by decide, show ((0 : Int) ≤ 0) from by decide, show ((0 : Int) ≤ 1) from by decide, if_true, if_false]
  split
  · split <;> simp_all
  · rfl

def tagLess (a b c d : Int) : Bool := decide (a < c) || (decide (a = c) && decide (b < d))

theorem less_eq (a b c d : Int) : spec_TagLess.f a b c d = some (tagLess a b c d) := by
  unfold spec_TagLess.f spec_l1Less.f tagLess
  by_cases h : a < c
  · simp [h]
  · by_cases h2 : a = c <;> simp [h, h2]

theorem implLess_eq (k : Nat) (a b c d : Int) : impl_TagLess.f (k + 3) a b c d = some (tagLess a b c d) := by
  unfold impl_TagLess.f impl_Tag_compare.f tagLess
  simp only [cmp_eq, Option.bind_some, or2_eq, Option.some.injEq]
  by_cases h1 : a < c
  · simp [h1]
  · by_cases h2 : a > c
    · have h3 : a ≠ c := by omega
      simp [h1, h2, h3]
    · have h3 : a = c := by omega
      subst h3
      by_cases h4 : b < d
      · simp [h4]
      · by_cases h5 : b > d <;> simp [h4, h5]

theorem FnExactTagLess : laws_FnExactTagLess.Pure := by
  intro a b c d _ _ _ _
  refine ⟨3, ?_⟩
  unfold laws_FnExactTagLess.f laws_toTag.f
  simp only [Option.bind_some, less_eq, implLess_eq 0, bne_self_eq_false, Bool.false_eq_true, if_false]

end Go.Proofs.Ytfkoecaejfkjpaa.PureFnExactTagLess
namespace Go.Proofs.Ytfkoecaejfkjpaa.Pure
theorem FnExactTagLess : Go.Proofs.Ytfkoecaejfkjpaa.PFnExactTagLess.laws_FnExactTagLess.Pure := Go.Proofs.Ytfkoecaejfkjpaa.PureFnExactTagLess.FnExactTagLess
end Go.Proofs.Ytfkoecaejfkjpaa.Pure
