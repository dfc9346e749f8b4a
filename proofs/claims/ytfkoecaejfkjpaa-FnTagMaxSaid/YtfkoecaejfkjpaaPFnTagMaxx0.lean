-- Written by pp.py (in wip/): a program of this session over the kit's print; checked by Lean alone.
import Derived.Test.YtfkoecaejfkjpaaProg
import Derived.Below
import Derived.Deep.Draws
import Derived.Deep.AppendLies
import Derived.Maps.AppendAt
import Derived.OwnWalk
import Derived.Laws.BytesArg
import Derived.Laws.MakeOwn
import Derived.Laws.OwnMore
import Derived.Deep.OwnRows
import Derived.Tactics
import Derived.Lib.ConvBytes
import Derived.Laws.Slices
import Derived.WalkKit
import Derived.KernelRfl
import Derived.RowKit3
import Derived.Deep.LoopGhost
import Derived.Deep.QuietTactic
import Derived.BigQuiet
import Derived.WideLaws
import Derived.Deep.DeepCutAuto
import Derived.Deep.CutBlock
import Derived.Deep.RegionHeld3
import Derived.Laws.Rows
import Derived.Lib.AppendStr
import Derived.ArgAppend
import Derived.Laws.IdiomCopy
import Derived.OrdersHeld
import Derived.Laws.BitsLemmas
import Derived.RowKit
import Derived.Test.YtfkoecaejfkjpaaVRd
import Derived.Test.YtfkoecaejfkjpaaVWords
import Derived.Test.YtfkoecaejfkjpaaVLast
import Derived.Test.YtfkoecaejfkjpaaVTab
import Derived.Test.YtfkoecaejfkjpaaVFour
import Derived.Test.YtfkoecaejfkjpaaVQPut
import Derived.Test.YtfkoecaejfkjpaaVApart
import Derived.Test.YtfkoecaejfkjpaaVArr
import Derived.Test.YtfkoecaejfkjpaaVZeros
import Derived.Test.YtfkoecaejfkjpaaVFoot
import Derived.Test.YtfkoecaejfkjpaaVKept
import Derived.Test.YtfkoecaejfkjpaaVShare
import Derived.Test.YtfkoecaejfkjpaaVN
import Derived.Test.YtfkoecaejfkjpaaVFootNe
import Derived.Test.YtfkoecaejfkjpaaVAt
import Derived.Test.YtfkoecaejfkjpaaVEqStruct
import Derived.Test.YtfkoecaejfkjpaaVRepsOne
import Derived.Test.YtfkoecaejfkjpaaVInv
import Derived.Test.YtfkoecaejfkjpaaVInvWords
import Derived.Test.YtfkoecaejfkjpaaVGuard
import Derived.Test.YtfkoecaejfkjpaaVNEv
import Derived.Test.YtfkoecaejfkjpaaVMore
import Derived.Test.YtfkoecaejfkjpaaVClip
namespace Go.Proofs.Ytfkoecaejfkjpaa.PFnTagMax
open Go.RowKit Go.Proofs.YtfkoecaejfkjpaaV.PrintWords Go.Proofs.YtfkoecaejfkjpaaV.PrintLast Go.Proofs.YtfkoecaejfkjpaaV.PrintMore
attribute [local go_sem] max2_int min2_int max_two min_two max_three min_three max_four min_four   -- for this text's walks alone
set_option linter.unusedVariables false
set_option linter.unusedSimpArgs false



def errW : Option Int → Value
  | none => .nilIface
  | some c => .iface 0 (.int .i64 c)
theorem errW_none : errW none = .nilIface := rfl
theorem errW_some (c : Int) : errW (some c) = .iface 0 (.int .i64 c) := rfl

theorem info3 : (Try.prog.info? 3).map (fun i => (i.zero, i.size, i.bytes)) = some (some (.int .i64 0), 1, 8) := by kernel_rfl
theorem info5 : (Try.prog.info? 5).map (fun i => (i.zero, i.size, i.bytes)) = some (some (.int .u8 0), 1, 1) := by kernel_rfl
-- the values' own types


end Go.Proofs.Ytfkoecaejfkjpaa.PFnTagMax
