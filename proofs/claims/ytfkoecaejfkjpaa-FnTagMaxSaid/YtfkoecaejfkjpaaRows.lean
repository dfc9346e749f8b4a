/-
  No cell of these rows narrows 'for every input' (looked for: loops, veiled, ifaces, maps, wideKeys, modest, calm, conditions, laid).
  DERIVED. THE GIVEN ROWS OF THIS SEAT. 12 by the template 'for every input the law returns true; each argument reads behind the call as it read before'; 0 by the template 'total and deterministic' (their statements: YtfkoecaejfkjpaaTotals.lean).
  GIVEN WITH THE SEED: the statements are not yours to turn. If you find one false, say at which input.
  Laid BY PROGRAM, IN A SANDBOX (cutbox-rows.mjs): the forced cells as the released guide's own fill.sh prints them over the translation 9b5063069725a4cd… (all of the seat's roots in one cut). By AI agents, Wed Nov 11 2026. No macro, syntax, notation, axiom, sorry.
-/
import Derived.Test.YtfkoecaejfkjpaaChecked
import GoSem.Claim
import GoSem.ClaimJoined
import GoSem.ClaimMapViews
import Derived.JoinedTies
import Derived.KernelRfl
namespace Go.Proofs.Ytfkoecaejfkjpaa
/- THE CELL 'sum', in the pinned program and in every row, IS THE sha256 OF THE DUMP (.gsa) THAT YtfkoecaejfkjpaaProg.lean LOADS. Nothing in Lean hashes anything: it is a label: what it is worth is what the hold of that sum in a sandbox is worth. -/
noncomputable def Try.pinned : Pinned := { name := "ytfkoecaejfkjpaa", sum := "9b5063069725a4cd48feee97f4b09720be896c9956679c0df8037f174af5ccea", checked := Try.checked }
namespace Rows
def none {H : Type} : Left H := { results := [], args := [] }

/-- 'laws.FnExactConstants': WHATEVER THE INPUT: true; the input reads as it did. -/
def fnExactConstantsSpec : ChangeSpec := { name := "fnExactConstants", fn := fun _ => fun
  | [] => { results := [.lit (.bool true)], args := [] }
  | _ => none }
def fnExactConstantsRow : OpenClaim := { program := "ytfkoecaejfkjpaa", sum := "9b5063069725a4cd48feee97f4b09720be896c9956679c0df8037f174af5ccea", func := "loop.example/confluence/laws.FnExactConstants", spec := "fnExactConstants", apart := false }
def FnExactConstantsSaid : Prop := fnExactConstantsRow.holds Try.pinned (OpenSpec.ofChange fnExactConstantsSpec)

/-- ITS FALSE NEIGHBOUR: 'it returns false'. Refute it at one input. -/
def fnExactConstantsWrong : ChangeSpec := { name := "fnExactConstants", fn := fun _ => fun
  | [] => { results := [.lit (.bool false)], args := [] }
  | _ => none }
def FnExactConstantsWrongFalsely : Prop := fnExactConstantsRow.holds Try.pinned (OpenSpec.ofChange fnExactConstantsWrong)

/-- 'laws.FnExactTagOk': WHATEVER THE INPUT: true; the input reads as it did. -/
def fnExactTagOkSpec : ChangeSpec := { name := "fnExactTagOk", fn := fun _ => fun
  | [d] => { results := [.lit (.bool true)], args := [d] }
  | _ => none }
def fnExactTagOkRow : OpenClaim := { program := "ytfkoecaejfkjpaa", sum := "9b5063069725a4cd48feee97f4b09720be896c9956679c0df8037f174af5ccea", func := "loop.example/confluence/laws.FnExactTagOk", spec := "fnExactTagOk", apart := false }
def FnExactTagOkSaid : Prop := fnExactTagOkRow.holds Try.pinned (OpenSpec.ofChange fnExactTagOkSpec)

/-- ITS FALSE NEIGHBOUR: 'it returns false'. Refute it at one input. -/
def fnExactTagOkWrong : ChangeSpec := { name := "fnExactTagOk", fn := fun _ => fun
  | [d] => { results := [.lit (.bool false)], args := [d] }
  | _ => none }
def FnExactTagOkWrongFalsely : Prop := fnExactTagOkRow.holds Try.pinned (OpenSpec.ofChange fnExactTagOkWrong)

/-- 'laws.FnExactTagLess': WHATEVER THE INPUT: true; the input reads as it did. -/
def fnExactTagLessSpec : ChangeSpec := { name := "fnExactTagLess", fn := fun _ => fun
  | [d1, d2] => { results := [.lit (.bool true)], args := [d1, d2] }
  | _ => none }
def fnExactTagLessRow : OpenClaim := { program := "ytfkoecaejfkjpaa", sum := "9b5063069725a4cd48feee97f4b09720be896c9956679c0df8037f174af5ccea", func := "loop.example/confluence/laws.FnExactTagLess", spec := "fnExactTagLess", apart := false }
def FnExactTagLessSaid : Prop := fnExactTagLessRow.holds Try.pinned (OpenSpec.ofChange fnExactTagLessSpec)

/-- ITS FALSE NEIGHBOUR: 'it returns false'. Refute it at one input. -/
def fnExactTagLessWrong : ChangeSpec := { name := "fnExactTagLess", fn := fun _ => fun
  | [d1, d2] => { results := [.lit (.bool false)], args := [d1, d2] }
  | _ => none }
def FnExactTagLessWrongFalsely : Prop := fnExactTagLessRow.holds Try.pinned (OpenSpec.ofChange fnExactTagLessWrong)

/-- 'laws.FnExactPastNone': WHATEVER THE INPUT: true; the input reads as it did. -/
def fnExactPastNoneSpec : ChangeSpec := { name := "fnExactPastNone", fn := fun _ => fun
  | [] => { results := [.lit (.bool true)], args := [] }
  | _ => none }
def fnExactPastNoneRow : OpenClaim := { program := "ytfkoecaejfkjpaa", sum := "9b5063069725a4cd48feee97f4b09720be896c9956679c0df8037f174af5ccea", func := "loop.example/confluence/laws.FnExactPastNone", spec := "fnExactPastNone", apart := false }
def FnExactPastNoneSaid : Prop := fnExactPastNoneRow.holds Try.pinned (OpenSpec.ofChange fnExactPastNoneSpec)

/-- ITS FALSE NEIGHBOUR: 'it returns false'. Refute it at one input. -/
def fnExactPastNoneWrong : ChangeSpec := { name := "fnExactPastNone", fn := fun _ => fun
  | [] => { results := [.lit (.bool false)], args := [] }
  | _ => none }
def FnExactPastNoneWrongFalsely : Prop := fnExactPastNoneRow.holds Try.pinned (OpenSpec.ofChange fnExactPastNoneWrong)

/-- 'laws.FnExactTagMax': WHATEVER THE INPUT: true; the input reads as it did. -/
def fnExactTagMaxSpec : ChangeSpec := { name := "fnExactTagMax", fn := fun _ => fun
  | [d1, d2] => { results := [.lit (.bool true)], args := [d1, d2] }
  | _ => none }
def fnExactTagMaxRow : OpenClaim := { program := "ytfkoecaejfkjpaa", sum := "9b5063069725a4cd48feee97f4b09720be896c9956679c0df8037f174af5ccea", func := "loop.example/confluence/laws.FnExactTagMax", spec := "fnExactTagMax", apart := false }
def FnExactTagMaxSaid : Prop := fnExactTagMaxRow.holds Try.pinned (OpenSpec.ofChange fnExactTagMaxSpec)

/-- ITS FALSE NEIGHBOUR: 'it returns false'. Refute it at one input. -/
def fnExactTagMaxWrong : ChangeSpec := { name := "fnExactTagMax", fn := fun _ => fun
  | [d1, d2] => { results := [.lit (.bool false)], args := [d1, d2] }
  | _ => none }
def FnExactTagMaxWrongFalsely : Prop := fnExactTagMaxRow.holds Try.pinned (OpenSpec.ofChange fnExactTagMaxWrong)

/-- 'laws.FnTagLess': WHATEVER THE INPUT: true; the input reads as it did. -/
def fnTagLessSpec : ChangeSpec := { name := "fnTagLess", fn := fun _ => fun
  | [d1, d2] => { results := [.lit (.bool true)], args := [d1, d2] }
  | _ => none }
def fnTagLessRow : OpenClaim := { program := "ytfkoecaejfkjpaa", sum := "9b5063069725a4cd48feee97f4b09720be896c9956679c0df8037f174af5ccea", func := "loop.example/confluence/laws.FnTagLess", spec := "fnTagLess", apart := false }
def FnTagLessSaid : Prop := fnTagLessRow.holds Try.pinned (OpenSpec.ofChange fnTagLessSpec)

/-- ITS FALSE NEIGHBOUR: 'it returns false'. Refute it at one input. -/
def fnTagLessWrong : ChangeSpec := { name := "fnTagLess", fn := fun _ => fun
  | [d1, d2] => { results := [.lit (.bool false)], args := [d1, d2] }
  | _ => none }
def FnTagLessWrongFalsely : Prop := fnTagLessRow.holds Try.pinned (OpenSpec.ofChange fnTagLessWrong)

/-- 'laws.FnExactRingOk': WHATEVER THE INPUT: true; the input reads as it did. -/
def fnExactRingOkSpec : ChangeSpec := { name := "fnExactRingOk", fn := fun _ => fun
  | [d] => { results := [.lit (.bool true)], args := [d] }
  | _ => none }
def fnExactRingOkRow : OpenClaim := { program := "ytfkoecaejfkjpaa", sum := "9b5063069725a4cd48feee97f4b09720be896c9956679c0df8037f174af5ccea", func := "loop.example/confluence/laws.FnExactRingOk", spec := "fnExactRingOk", apart := false }
def FnExactRingOkSaid : Prop := fnExactRingOkRow.holds Try.pinned (OpenSpec.ofChange fnExactRingOkSpec)

/-- ITS FALSE NEIGHBOUR: 'it returns false'. Refute it at one input. -/
def fnExactRingOkWrong : ChangeSpec := { name := "fnExactRingOk", fn := fun _ => fun
  | [d] => { results := [.lit (.bool false)], args := [d] }
  | _ => none }
def FnExactRingOkWrongFalsely : Prop := fnExactRingOkRow.holds Try.pinned (OpenSpec.ofChange fnExactRingOkWrong)

/-- 'laws.FnExactPastOk': WHATEVER THE INPUT: true; the input reads as it did. -/
def fnExactPastOkSpec : ChangeSpec := { name := "fnExactPastOk", fn := fun _ => fun
  | [d] => { results := [.lit (.bool true)], args := [d] }
  | _ => none }
def fnExactPastOkRow : OpenClaim := { program := "ytfkoecaejfkjpaa", sum := "9b5063069725a4cd48feee97f4b09720be896c9956679c0df8037f174af5ccea", func := "loop.example/confluence/laws.FnExactPastOk", spec := "fnExactPastOk", unfollowed := true, recurses := true, apart := false }
def FnExactPastOkSaid : Prop := fnExactPastOkRow.holds Try.pinned (OpenSpec.ofChange fnExactPastOkSpec)

/-- ITS FALSE NEIGHBOUR: 'it returns false'. Refute it at one input. -/
def fnExactPastOkWrong : ChangeSpec := { name := "fnExactPastOk", fn := fun _ => fun
  | [d] => { results := [.lit (.bool false)], args := [d] }
  | _ => none }
def FnExactPastOkWrongFalsely : Prop := fnExactPastOkRow.holds Try.pinned (OpenSpec.ofChange fnExactPastOkWrong)

/-- 'laws.FnTagMax': WHATEVER THE INPUT: true; the input reads as it did. -/
def fnTagMaxSpec : ChangeSpec := { name := "fnTagMax", fn := fun _ => fun
  | [d] => { results := [.lit (.bool true)], args := [d] }
  | _ => none }
def fnTagMaxRow : OpenClaim := { program := "ytfkoecaejfkjpaa", sum := "9b5063069725a4cd48feee97f4b09720be896c9956679c0df8037f174af5ccea", func := "loop.example/confluence/laws.FnTagMax", spec := "fnTagMax", apart := false }
def FnTagMaxSaid : Prop := fnTagMaxRow.holds Try.pinned (OpenSpec.ofChange fnTagMaxSpec)

/-- ITS FALSE NEIGHBOUR: 'it returns false'. Refute it at one input. -/
def fnTagMaxWrong : ChangeSpec := { name := "fnTagMax", fn := fun _ => fun
  | [d] => { results := [.lit (.bool false)], args := [d] }
  | _ => none }
def FnTagMaxWrongFalsely : Prop := fnTagMaxRow.holds Try.pinned (OpenSpec.ofChange fnTagMaxWrong)

/-- 'laws.FnExactPastWithin': WHATEVER THE INPUT: true; the input reads as it did. -/
def fnExactPastWithinSpec : ChangeSpec := { name := "fnExactPastWithin", fn := fun _ => fun
  | [d1, d2] => { results := [.lit (.bool true)], args := [d1, d2] }
  | _ => none }
def fnExactPastWithinRow : OpenClaim := { program := "ytfkoecaejfkjpaa", sum := "9b5063069725a4cd48feee97f4b09720be896c9956679c0df8037f174af5ccea", func := "loop.example/confluence/laws.FnExactPastWithin", spec := "fnExactPastWithin", unfollowed := true, recurses := true, apart := false }
def FnExactPastWithinSaid : Prop := fnExactPastWithinRow.holds Try.pinned (OpenSpec.ofChange fnExactPastWithinSpec)

/-- ITS FALSE NEIGHBOUR: 'it returns false'. Refute it at one input. -/
def fnExactPastWithinWrong : ChangeSpec := { name := "fnExactPastWithin", fn := fun _ => fun
  | [d1, d2] => { results := [.lit (.bool false)], args := [d1, d2] }
  | _ => none }
def FnExactPastWithinWrongFalsely : Prop := fnExactPastWithinRow.holds Try.pinned (OpenSpec.ofChange fnExactPastWithinWrong)

/-- 'laws.FnExactStoreNew': WHATEVER THE INPUT: true; the input reads as it did. -/
def fnExactStoreNewSpec : ChangeSpec := { name := "fnExactStoreNew", fn := fun _ => fun
  | [] => { results := [.lit (.bool true)], args := [] }
  | _ => none }
def fnExactStoreNewRow : OpenClaim := { program := "ytfkoecaejfkjpaa", sum := "9b5063069725a4cd48feee97f4b09720be896c9956679c0df8037f174af5ccea", func := "loop.example/confluence/laws.FnExactStoreNew", spec := "fnExactStoreNew", apart := false }
def FnExactStoreNewSaid : Prop := fnExactStoreNewRow.holds Try.pinned (OpenSpec.ofChange fnExactStoreNewSpec)

/-- ITS FALSE NEIGHBOUR: 'it returns false'. Refute it at one input. -/
def fnExactStoreNewWrong : ChangeSpec := { name := "fnExactStoreNew", fn := fun _ => fun
  | [] => { results := [.lit (.bool false)], args := [] }
  | _ => none }
def FnExactStoreNewWrongFalsely : Prop := fnExactStoreNewRow.holds Try.pinned (OpenSpec.ofChange fnExactStoreNewWrong)

/-- 'laws.FnExactVerOk': WHATEVER THE INPUT: true; the input reads as it did. -/
def fnExactVerOkSpec : ChangeSpec := { name := "fnExactVerOk", fn := fun _ => fun
  | [d] => { results := [.lit (.bool true)], args := [d] }
  | _ => none }
def fnExactVerOkRow : OpenClaim := { program := "ytfkoecaejfkjpaa", sum := "9b5063069725a4cd48feee97f4b09720be896c9956679c0df8037f174af5ccea", func := "loop.example/confluence/laws.FnExactVerOk", spec := "fnExactVerOk", unfollowed := true, recurses := true, apart := false }
def FnExactVerOkSaid : Prop := fnExactVerOkRow.holds Try.pinned (OpenSpec.ofChange fnExactVerOkSpec)

/-- ITS FALSE NEIGHBOUR: 'it returns false'. Refute it at one input. -/
def fnExactVerOkWrong : ChangeSpec := { name := "fnExactVerOk", fn := fun _ => fun
  | [d] => { results := [.lit (.bool false)], args := [d] }
  | _ => none }
def FnExactVerOkWrongFalsely : Prop := fnExactVerOkRow.holds Try.pinned (OpenSpec.ofChange fnExactVerOkWrong)

/- THE SECOND FORM. 'bulk': how many values and letters a reading holds, each counted each time it is reached (what is shared counts as often as it is met; a slice's spare places count too). A statement '..UptoSaid' is the law's where the arguments, and the package variables that the reading takes, are together of bulk at most 1048576: NARROWER than '..Said'. Prove '..Said' where nothing that the law and all that it calls make is longer than what came in: it says more and counts as full. Else prove '..UptoSaid'. A law counts once. -/
mutual
def uptoBulk {H : Type} : DataW H → Nat
  | .lit (.string bytes) => bytes.length + 1
  | .lit _ => 1
  | .nil => 1
  | .ptr d => uptoBulk d + 1
  | .slice elems spare => uptoBulkAll elems + uptoBulkAll spare + 1
  | .agg parts => uptoBulkAll parts + 1
  | .iface _ d => uptoBulk d + 1
  | .map entries => uptoBulkEntries entries + 1
  | .held _ => 1
def uptoBulkAll {H : Type} : List (DataW H) → Nat
  | [] => 0
  | d :: r => uptoBulk d + uptoBulkAll r
def uptoBulkEntries {H : Type} : List (Lit × DataW H) → Nat
  | [] => 0
  | x :: r => uptoBulkEntry x + uptoBulkEntries r
def uptoBulkEntry {H : Type} : Lit × DataW H → Nat
  | (.string bytes, d) => bytes.length + uptoBulk d + 1
  | (_, d) => uptoBulk d + 1
 end
def uptoSmall : (H : Type) → List (DataW H) → Bool := fun _ ds => decide (uptoBulkAll ds ≤ 1048576)
def OpenSpec.upto (s : _root_.Go.ChangeSpec) : _root_.Go.OpenSpec := { _root_.Go.OpenSpec.ofChange s with cond := some uptoSmall }

/-- 'laws.FnExactConstants', WHERE WHAT IT READS IS OF BULK AT MOST 1048576: true; the input reads as it did. -/
def fnExactConstantsUptoRow : OpenClaim := { program := "ytfkoecaejfkjpaa", sum := "9b5063069725a4cd48feee97f4b09720be896c9956679c0df8037f174af5ccea", func := "loop.example/confluence/laws.FnExactConstants", spec := "fnExactConstants", apart := false, narrowed := true }
def FnExactConstantsUptoSaid : Prop := fnExactConstantsUptoRow.holds Try.pinned (OpenSpec.upto fnExactConstantsSpec)

/-- 'laws.FnExactTagOk', WHERE WHAT IT READS IS OF BULK AT MOST 1048576: true; the input reads as it did. -/
def fnExactTagOkUptoRow : OpenClaim := { program := "ytfkoecaejfkjpaa", sum := "9b5063069725a4cd48feee97f4b09720be896c9956679c0df8037f174af5ccea", func := "loop.example/confluence/laws.FnExactTagOk", spec := "fnExactTagOk", apart := false, narrowed := true }
def FnExactTagOkUptoSaid : Prop := fnExactTagOkUptoRow.holds Try.pinned (OpenSpec.upto fnExactTagOkSpec)

/-- 'laws.FnExactTagLess', WHERE WHAT IT READS IS OF BULK AT MOST 1048576: true; the input reads as it did. -/
def fnExactTagLessUptoRow : OpenClaim := { program := "ytfkoecaejfkjpaa", sum := "9b5063069725a4cd48feee97f4b09720be896c9956679c0df8037f174af5ccea", func := "loop.example/confluence/laws.FnExactTagLess", spec := "fnExactTagLess", apart := false, narrowed := true }
def FnExactTagLessUptoSaid : Prop := fnExactTagLessUptoRow.holds Try.pinned (OpenSpec.upto fnExactTagLessSpec)

/-- 'laws.FnExactPastNone', WHERE WHAT IT READS IS OF BULK AT MOST 1048576: true; the input reads as it did. -/
def fnExactPastNoneUptoRow : OpenClaim := { program := "ytfkoecaejfkjpaa", sum := "9b5063069725a4cd48feee97f4b09720be896c9956679c0df8037f174af5ccea", func := "loop.example/confluence/laws.FnExactPastNone", spec := "fnExactPastNone", apart := false, narrowed := true }
def FnExactPastNoneUptoSaid : Prop := fnExactPastNoneUptoRow.holds Try.pinned (OpenSpec.upto fnExactPastNoneSpec)

/-- 'laws.FnExactTagMax', WHERE WHAT IT READS IS OF BULK AT MOST 1048576: true; the input reads as it did. -/
def fnExactTagMaxUptoRow : OpenClaim := { program := "ytfkoecaejfkjpaa", sum := "9b5063069725a4cd48feee97f4b09720be896c9956679c0df8037f174af5ccea", func := "loop.example/confluence/laws.FnExactTagMax", spec := "fnExactTagMax", apart := false, narrowed := true }
def FnExactTagMaxUptoSaid : Prop := fnExactTagMaxUptoRow.holds Try.pinned (OpenSpec.upto fnExactTagMaxSpec)

/-- 'laws.FnTagLess', WHERE WHAT IT READS IS OF BULK AT MOST 1048576: true; the input reads as it did. -/
def fnTagLessUptoRow : OpenClaim := { program := "ytfkoecaejfkjpaa", sum := "9b5063069725a4cd48feee97f4b09720be896c9956679c0df8037f174af5ccea", func := "loop.example/confluence/laws.FnTagLess", spec := "fnTagLess", apart := false, narrowed := true }
def FnTagLessUptoSaid : Prop := fnTagLessUptoRow.holds Try.pinned (OpenSpec.upto fnTagLessSpec)

/-- 'laws.FnExactRingOk', WHERE WHAT IT READS IS OF BULK AT MOST 1048576: true; the input reads as it did. -/
def fnExactRingOkUptoRow : OpenClaim := { program := "ytfkoecaejfkjpaa", sum := "9b5063069725a4cd48feee97f4b09720be896c9956679c0df8037f174af5ccea", func := "loop.example/confluence/laws.FnExactRingOk", spec := "fnExactRingOk", apart := false, narrowed := true }
def FnExactRingOkUptoSaid : Prop := fnExactRingOkUptoRow.holds Try.pinned (OpenSpec.upto fnExactRingOkSpec)

/-- 'laws.FnExactPastOk', WHERE WHAT IT READS IS OF BULK AT MOST 1048576: true; the input reads as it did. -/
def fnExactPastOkUptoRow : OpenClaim := { program := "ytfkoecaejfkjpaa", sum := "9b5063069725a4cd48feee97f4b09720be896c9956679c0df8037f174af5ccea", func := "loop.example/confluence/laws.FnExactPastOk", spec := "fnExactPastOk", unfollowed := true, recurses := true, apart := false, narrowed := true }
def FnExactPastOkUptoSaid : Prop := fnExactPastOkUptoRow.holds Try.pinned (OpenSpec.upto fnExactPastOkSpec)

/-- 'laws.FnTagMax', WHERE WHAT IT READS IS OF BULK AT MOST 1048576: true; the input reads as it did. -/
def fnTagMaxUptoRow : OpenClaim := { program := "ytfkoecaejfkjpaa", sum := "9b5063069725a4cd48feee97f4b09720be896c9956679c0df8037f174af5ccea", func := "loop.example/confluence/laws.FnTagMax", spec := "fnTagMax", apart := false, narrowed := true }
def FnTagMaxUptoSaid : Prop := fnTagMaxUptoRow.holds Try.pinned (OpenSpec.upto fnTagMaxSpec)

/-- 'laws.FnExactPastWithin', WHERE WHAT IT READS IS OF BULK AT MOST 1048576: true; the input reads as it did. -/
def fnExactPastWithinUptoRow : OpenClaim := { program := "ytfkoecaejfkjpaa", sum := "9b5063069725a4cd48feee97f4b09720be896c9956679c0df8037f174af5ccea", func := "loop.example/confluence/laws.FnExactPastWithin", spec := "fnExactPastWithin", unfollowed := true, recurses := true, apart := false, narrowed := true }
def FnExactPastWithinUptoSaid : Prop := fnExactPastWithinUptoRow.holds Try.pinned (OpenSpec.upto fnExactPastWithinSpec)

/-- 'laws.FnExactStoreNew', WHERE WHAT IT READS IS OF BULK AT MOST 1048576: true; the input reads as it did. -/
def fnExactStoreNewUptoRow : OpenClaim := { program := "ytfkoecaejfkjpaa", sum := "9b5063069725a4cd48feee97f4b09720be896c9956679c0df8037f174af5ccea", func := "loop.example/confluence/laws.FnExactStoreNew", spec := "fnExactStoreNew", apart := false, narrowed := true }
def FnExactStoreNewUptoSaid : Prop := fnExactStoreNewUptoRow.holds Try.pinned (OpenSpec.upto fnExactStoreNewSpec)

/-- 'laws.FnExactVerOk', WHERE WHAT IT READS IS OF BULK AT MOST 1048576: true; the input reads as it did. -/
def fnExactVerOkUptoRow : OpenClaim := { program := "ytfkoecaejfkjpaa", sum := "9b5063069725a4cd48feee97f4b09720be896c9956679c0df8037f174af5ccea", func := "loop.example/confluence/laws.FnExactVerOk", spec := "fnExactVerOk", unfollowed := true, recurses := true, apart := false, narrowed := true }
def FnExactVerOkUptoSaid : Prop := fnExactVerOkUptoRow.holds Try.pinned (OpenSpec.upto fnExactVerOkSpec)

end Rows
end Go.Proofs.Ytfkoecaejfkjpaa
