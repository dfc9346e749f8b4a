/- The pure law behind FnExactTagOk, over the functions that were printed of the program: for every tag the program's TagOk and the reference's TagOk say the same. No condition beyond the form's own: each string and each slice that is handed in takes at most 2^47 - 4096 bytes. -/
import Derived.Test.YtfkoecaejfkjpaaPFnExactTagOkx2
set_option linter.unusedVariables false
set_option linter.unusedSimpArgs false
namespace Go.Proofs.Ytfkoecaejfkjpaa.PureFnExactTagOk
open Go.RowKit Go.Proofs.Ytfkoecaejfkjpaa.PFnExactTagOk Go.Proofs.YtfkoecaejfkjpaaW.PrintWords Go.Proofs.YtfkoecaejfkjpaaW.PrintLast Go.Proofs.YtfkoecaejfkjpaaW.PrintMore

theorem within_eq (a b c : Int) : impl_within.f a b c = some (decide (b ≤ a) && decide (a ≤ c)) := by
  unfold impl_within.f
  split <;> simp_all <;> omega

theorem in_eq (a b c : Int) : spec_l1In.f a b c = some (decide (b ≤ a) && decide (a ≤ c)) := by
  unfold spec_l1In.f
  split <;> simp_all <;> omega

def tagOk (a b : Int) : Bool := (a == 0 && b == 0) || (decide (1 ≤ a) && decide (a ≤ 999) && decide (0 ≤ b) && decide (b ≤ 2))

theorem tagOk_eq (a b : Int) : impl_TagOk.f a b = some (tagOk a b) := by
  unfold impl_TagOk.f impl_placeOk.f tagOk
  simp only [within_eq, Option.bind_some]
  split
  · rename_i h; rw [h]; rfl
  · rename_i h; rw [Bool.not_eq_true] at h; rw [h, Bool.false_or]
    split <;> simp_all <;> omega

theorem l1TagOk_eq (a b : Int) : spec_l1TagOk.f a b = some (tagOk a b) := by
  unfold spec_l1TagOk.f tagOk
  simp only [in_eq, Option.bind_some]
  split
  · rename_i h; rw [h]; rfl
  · rename_i h; rw [Bool.not_eq_true] at h; rw [h, Bool.false_or]
    split <;> simp_all <;> omega

theorem specTagOk_eq (a b : Int) : spec_TagOk.f a b = some (tagOk a b) := by
  unfold spec_TagOk.f
  rw [l1TagOk_eq]
  rfl

theorem FnExactTagOk : laws_FnExactTagOk.Pure := by
  intro a b _ _
  unfold laws_FnExactTagOk.f laws_toTag.f
  simp only [Option.bind_some, tagOk_eq, specTagOk_eq, bne_self_eq_false, Bool.false_eq_true, if_false]

end Go.Proofs.Ytfkoecaejfkjpaa.PureFnExactTagOk
namespace Go.Proofs.Ytfkoecaejfkjpaa.Pure
theorem FnExactTagOk : Go.Proofs.Ytfkoecaejfkjpaa.PFnExactTagOk.laws_FnExactTagOk.Pure := Go.Proofs.Ytfkoecaejfkjpaa.PureFnExactTagOk.FnExactTagOk
end Go.Proofs.Ytfkoecaejfkjpaa.Pure
