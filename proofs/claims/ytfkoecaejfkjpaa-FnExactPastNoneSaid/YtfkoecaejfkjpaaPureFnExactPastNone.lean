/- The pure law behind FnExactPastNone, over the functions that were printed of the program: the program's PastNone and the reference's PastNone say the same, and neither keeps what it handed out. No condition beyond the form's own: each string and each slice that is handed in takes at most 2^47 - 4096 bytes. -/
import Derived.Test.YtfkoecaejfkjpaaPFnExactPastNonex2
set_option linter.unusedVariables false
set_option linter.unusedSimpArgs false
namespace Go.Proofs.Ytfkoecaejfkjpaa.PureFnExactPastNone
open Go.RowKit Go.Proofs.Ytfkoecaejfkjpaa.PFnExactPastNone Go.Proofs.YtfkoecaejfkjpaaV.PrintWords Go.Proofs.YtfkoecaejfkjpaaV.PrintLast Go.Proofs.YtfkoecaejfkjpaaV.PrintMore

theorem FnExactPastNone : laws_FnExactPastNone.Pure := ⟨6, by decide +kernel⟩

end Go.Proofs.Ytfkoecaejfkjpaa.PureFnExactPastNone
namespace Go.Proofs.Ytfkoecaejfkjpaa.Pure
theorem FnExactPastNone : Go.Proofs.Ytfkoecaejfkjpaa.PFnExactPastNone.laws_FnExactPastNone.Pure := Go.Proofs.Ytfkoecaejfkjpaa.PureFnExactPastNone.FnExactPastNone
end Go.Proofs.Ytfkoecaejfkjpaa.Pure
