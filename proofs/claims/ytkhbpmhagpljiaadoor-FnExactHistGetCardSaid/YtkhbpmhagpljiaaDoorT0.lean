/- A part of the proof: an evaluator of the model, its laws, and contracts of functions; no condition. -/
import Derived.Test.YtkhbpmhagpljiaaDoorEvLd
import Derived.Test.YtkhbpmhagpljiaaDoorEvR
import Derived.Test.YtkhbpmhagpljiaaDoorEvV
import Derived.Test.YtkhbpmhagpljiaaDoorEvU
import Derived.Test.YtkhbpmhagpljiaaDoorEvO
import Derived.Test.YtkhbpmhagpljiaaDoorC18
set_option linter.unusedVariables false
set_option linter.unusedSimpArgs false
set_option maxRecDepth 100000
set_option maxHeartbeats 1000000
namespace Go.Proofs.YtkhbpmhagpljiaaDoor.X
open Go Go.Ev Go.RowKit
abbrev tab32 : List Int := [0, 1, 28, 2, 29, 14, 24, 3, 30, 22, 20, 15, 25, 17, 4, 8, 31, 27, 13, 23, 21, 19, 16, 7, 26, 12, 18, 6, 11, 5, 10, 9]
abbrev tab64 : List Int := [0, 1, 56, 2, 57, 49, 28, 3, 61, 58, 42, 50, 38, 29, 17, 4, 62, 47, 59, 36, 45, 43, 51, 22, 53, 39, 33, 30, 24, 18, 12, 5, 63, 55, 48, 27, 60, 41, 37, 16, 46, 35, 44, 21, 52, 32, 23, 11, 54, 26, 40, 15, 34, 20, 31, 10, 25, 14, 19, 9, 13, 8, 7, 6]
abbrev tab10 : List Int := [1, 10, 100, 1000, 10000, 100000, 1000000, 10000000, 100000000, 1000000000, 10000000000, 100000000000, 1000000000000, 10000000000000, 100000000000000, 1000000000000000, 10000000000000000, 100000000000000000, 1000000000000000000, 10000000000000000000]
/-- The tables that the program's text lays. -/
structure Glob (W : World) : Prop where
  t32 : At W 4 0 (tab32.map fun x => Value.int .u8 x)
  t64 : At W 5 0 (tab64.map fun x => Value.int .u8 x)
  t10 : At W 1 0 (tab10.map fun x => Value.int .u64 x)
theorem Glob.ext {w w' : World} (h : Glob w) (k : Ext w w') : Glob w' := ⟨h.t32.mono fun b hb => k.blk hb, h.t64.mono fun b hb => k.blk hb, h.t10.mono fun b hb => k.blk hb⟩
end Go.Proofs.YtkhbpmhagpljiaaDoor.X
