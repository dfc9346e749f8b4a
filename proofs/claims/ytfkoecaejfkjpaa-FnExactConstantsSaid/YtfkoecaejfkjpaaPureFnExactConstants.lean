/- The pure law behind FnExactConstants, over the functions that were printed of the program: the program's constants are the reference's. No condition beyond the form's own: each string and each slice that is handed in takes at most 2^47 - 4096 bytes. -/
import Derived.Test.YtfkoecaejfkjpaaPFnExactConstantsx1
set_option linter.unusedVariables false
set_option linter.unusedSimpArgs false
namespace Go.Proofs.Ytfkoecaejfkjpaa.PureFnExactConstants
open Go.RowKit Go.Proofs.Ytfkoecaejfkjpaa.PFnExactConstants Go.Proofs.YtfkoecaejfkjpaaV.PrintWords Go.Proofs.YtfkoecaejfkjpaaV.PrintLast Go.Proofs.YtfkoecaejfkjpaaV.PrintMore

theorem FnExactConstants : laws_FnExactConstants.Pure := rfl

end Go.Proofs.Ytfkoecaejfkjpaa.PureFnExactConstants
namespace Go.Proofs.Ytfkoecaejfkjpaa.Pure
theorem FnExactConstants : Go.Proofs.Ytfkoecaejfkjpaa.PFnExactConstants.laws_FnExactConstants.Pure := Go.Proofs.Ytfkoecaejfkjpaa.PureFnExactConstants.FnExactConstants
end Go.Proofs.Ytfkoecaejfkjpaa.Pure
