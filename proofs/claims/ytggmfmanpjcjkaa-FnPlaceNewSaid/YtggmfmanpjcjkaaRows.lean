/-
  No cell of these rows narrows 'for every input' (looked for: loops, veiled, ifaces, maps, wideKeys, modest, calm, conditions, laid).
  DERIVED. THE GIVEN ROWS OF THIS SEAT. 4 by the template 'for every input the law returns true; each argument reads behind the call as it read before'; 0 by the template 'total and deterministic' (their statements: YtggmfmanpjcjkaaTotals.lean).
  GIVEN WITH THE SEED: the statements are not yours to turn. If you find one false, say at which input.
  Laid BY PROGRAM, IN A SANDBOX (cutbox-rows.mjs): the forced cells as the released guide's own fill.sh prints them over the translation 40fa4af6af33da25… (all of the seat's roots in one cut). By AI agents, Wed Nov 11 2026. No macro, syntax, notation, axiom, sorry.
-/
import Derived.Test.YtggmfmanpjcjkaaChecked
import GoSem.Claim
import GoSem.ClaimJoined
import GoSem.ClaimMapViews
import Derived.JoinedTies
import Derived.KernelRfl
namespace Go.Proofs.Ytggmfmanpjcjkaa
/- THE CELL 'sum', in the pinned program and in every row, IS THE sha256 OF THE DUMP (.gsa) THAT YtggmfmanpjcjkaaProg.lean LOADS. Nothing in Lean hashes anything: it is a label: what it is worth is what the hold of that sum in a sandbox is worth. -/
noncomputable def Try.pinned : Pinned := { name := "ytggmfmanpjcjkaa", sum := "40fa4af6af33da25b85b20c5c20a6d8cc768682c10fb870c60a0a8ca6b6887d5", checked := Try.checked }
namespace Rows
def none {H : Type} : Left H := { results := [], args := [] }

/-- 'laws.FnExactStoreNew': WHATEVER THE INPUT: true; the input reads as it did. -/
def fnExactStoreNewSpec : ChangeSpec := { name := "fnExactStoreNew", fn := fun _ => fun
  | [] => { results := [.lit (.bool true)], args := [] }
  | _ => none }
def fnExactStoreNewRow : OpenClaim := { program := "ytggmfmanpjcjkaa", sum := "40fa4af6af33da25b85b20c5c20a6d8cc768682c10fb870c60a0a8ca6b6887d5", func := "loop.example/confluence/laws.FnExactStoreNew", spec := "fnExactStoreNew", apart := false }
def FnExactStoreNewSaid : Prop := fnExactStoreNewRow.holds Try.pinned (OpenSpec.ofChange fnExactStoreNewSpec)

/-- ITS FALSE NEIGHBOUR: 'it returns false'. Refute it at one input. -/
def fnExactStoreNewWrong : ChangeSpec := { name := "fnExactStoreNew", fn := fun _ => fun
  | [] => { results := [.lit (.bool false)], args := [] }
  | _ => none }
def FnExactStoreNewWrongFalsely : Prop := fnExactStoreNewRow.holds Try.pinned (OpenSpec.ofChange fnExactStoreNewWrong)

/-- 'laws.FnExactPlaceNew': WHATEVER THE INPUT: true; the input reads as it did. -/
def fnExactPlaceNewSpec : ChangeSpec := { name := "fnExactPlaceNew", fn := fun _ => fun
  | [d1, d2] => { results := [.lit (.bool true)], args := [d1, d2] }
  | _ => none }
def fnExactPlaceNewRow : OpenClaim := { program := "ytggmfmanpjcjkaa", sum := "40fa4af6af33da25b85b20c5c20a6d8cc768682c10fb870c60a0a8ca6b6887d5", func := "loop.example/confluence/laws.FnExactPlaceNew", spec := "fnExactPlaceNew", apart := false }
def FnExactPlaceNewSaid : Prop := fnExactPlaceNewRow.holds Try.pinned (OpenSpec.ofChange fnExactPlaceNewSpec)

/-- ITS FALSE NEIGHBOUR: 'it returns false'. Refute it at one input. -/
def fnExactPlaceNewWrong : ChangeSpec := { name := "fnExactPlaceNew", fn := fun _ => fun
  | [d1, d2] => { results := [.lit (.bool false)], args := [d1, d2] }
  | _ => none }
def FnExactPlaceNewWrongFalsely : Prop := fnExactPlaceNewRow.holds Try.pinned (OpenSpec.ofChange fnExactPlaceNewWrong)

/-- 'laws.FnPlaceNew': WHATEVER THE INPUT: true; the input reads as it did. -/
def fnPlaceNewSpec : ChangeSpec := { name := "fnPlaceNew", fn := fun _ => fun
  | [d] => { results := [.lit (.bool true)], args := [d] }
  | _ => none }
def fnPlaceNewRow : OpenClaim := { program := "ytggmfmanpjcjkaa", sum := "40fa4af6af33da25b85b20c5c20a6d8cc768682c10fb870c60a0a8ca6b6887d5", func := "loop.example/confluence/laws.FnPlaceNew", spec := "fnPlaceNew", unfollowed := true, recurses := true, apart := false }
def FnPlaceNewSaid : Prop := fnPlaceNewRow.holds Try.pinned (OpenSpec.ofChange fnPlaceNewSpec)

/-- ITS FALSE NEIGHBOUR: 'it returns false'. Refute it at one input. -/
def fnPlaceNewWrong : ChangeSpec := { name := "fnPlaceNew", fn := fun _ => fun
  | [d] => { results := [.lit (.bool false)], args := [d] }
  | _ => none }
def FnPlaceNewWrongFalsely : Prop := fnPlaceNewRow.holds Try.pinned (OpenSpec.ofChange fnPlaceNewWrong)

/-- 'laws.FnExactWorldNew': WHATEVER THE INPUT: true; the input reads as it did. -/
def fnExactWorldNewSpec : ChangeSpec := { name := "fnExactWorldNew", fn := fun _ => fun
  | [d1, d2] => { results := [.lit (.bool true)], args := [d1, d2] }
  | _ => none }
def fnExactWorldNewRow : OpenClaim := { program := "ytggmfmanpjcjkaa", sum := "40fa4af6af33da25b85b20c5c20a6d8cc768682c10fb870c60a0a8ca6b6887d5", func := "loop.example/confluence/laws.FnExactWorldNew", spec := "fnExactWorldNew", apart := false }
def FnExactWorldNewSaid : Prop := fnExactWorldNewRow.holds Try.pinned (OpenSpec.ofChange fnExactWorldNewSpec)

/-- ITS FALSE NEIGHBOUR: 'it returns false'. Refute it at one input. -/
def fnExactWorldNewWrong : ChangeSpec := { name := "fnExactWorldNew", fn := fun _ => fun
  | [d1, d2] => { results := [.lit (.bool false)], args := [d1, d2] }
  | _ => none }
def FnExactWorldNewWrongFalsely : Prop := fnExactWorldNewRow.holds Try.pinned (OpenSpec.ofChange fnExactWorldNewWrong)

/- THE SECOND FORM. 'bulk': how many values and letters a reading holds, each counted each time it is reached (what is shared counts as often as it is met; a slice's spare places count too). A statement '..UptoSaid' is the law's where the arguments, and the package variables that the reading takes, are together of bulk at most 1048576: NARROWER than '..Said'. Prove '..Said' where nothing that the law and all that it calls make is longer than what came in: it says more and counts as full. Else prove '..UptoSaid'. A law counts once. -/
mutual
def uptoBulk {H : Type} : DataW H → Nat
  | .lit (.string bytes) => bytes.length + 1
  | .lit _ => 1
  | .nil => 1
  | .ptr d => uptoBulk d + 1
  | .slice elems spare => uptoBulkAll elems + uptoBulkAll spare + 1
  | .agg parts => uptoBulkAll parts + 1
  | .iface _ d => uptoBulk d + 1
  | .map entries => uptoBulkEntries entries + 1
  | .held _ => 1
def uptoBulkAll {H : Type} : List (DataW H) → Nat
  | [] => 0
  | d :: r => uptoBulk d + uptoBulkAll r
def uptoBulkEntries {H : Type} : List (Lit × DataW H) → Nat
  | [] => 0
  | x :: r => uptoBulkEntry x + uptoBulkEntries r
def uptoBulkEntry {H : Type} : Lit × DataW H → Nat
  | (.string bytes, d) => bytes.length + uptoBulk d + 1
  | (_, d) => uptoBulk d + 1
 end
def uptoSmall : (H : Type) → List (DataW H) → Bool := fun _ ds => decide (uptoBulkAll ds ≤ 1048576)
def OpenSpec.upto (s : _root_.Go.ChangeSpec) : _root_.Go.OpenSpec := { _root_.Go.OpenSpec.ofChange s with cond := some uptoSmall }

/-- 'laws.FnExactStoreNew', WHERE WHAT IT READS IS OF BULK AT MOST 1048576: true; the input reads as it did. -/
def fnExactStoreNewUptoRow : OpenClaim := { program := "ytggmfmanpjcjkaa", sum := "40fa4af6af33da25b85b20c5c20a6d8cc768682c10fb870c60a0a8ca6b6887d5", func := "loop.example/confluence/laws.FnExactStoreNew", spec := "fnExactStoreNew", apart := false, narrowed := true }
def FnExactStoreNewUptoSaid : Prop := fnExactStoreNewUptoRow.holds Try.pinned (OpenSpec.upto fnExactStoreNewSpec)

/-- 'laws.FnExactPlaceNew', WHERE WHAT IT READS IS OF BULK AT MOST 1048576: true; the input reads as it did. -/
def fnExactPlaceNewUptoRow : OpenClaim := { program := "ytggmfmanpjcjkaa", sum := "40fa4af6af33da25b85b20c5c20a6d8cc768682c10fb870c60a0a8ca6b6887d5", func := "loop.example/confluence/laws.FnExactPlaceNew", spec := "fnExactPlaceNew", apart := false, narrowed := true }
def FnExactPlaceNewUptoSaid : Prop := fnExactPlaceNewUptoRow.holds Try.pinned (OpenSpec.upto fnExactPlaceNewSpec)

/-- 'laws.FnPlaceNew', WHERE WHAT IT READS IS OF BULK AT MOST 1048576: true; the input reads as it did. -/
def fnPlaceNewUptoRow : OpenClaim := { program := "ytggmfmanpjcjkaa", sum := "40fa4af6af33da25b85b20c5c20a6d8cc768682c10fb870c60a0a8ca6b6887d5", func := "loop.example/confluence/laws.FnPlaceNew", spec := "fnPlaceNew", unfollowed := true, recurses := true, apart := false, narrowed := true }
def FnPlaceNewUptoSaid : Prop := fnPlaceNewUptoRow.holds Try.pinned (OpenSpec.upto fnPlaceNewSpec)

/-- 'laws.FnExactWorldNew', WHERE WHAT IT READS IS OF BULK AT MOST 1048576: true; the input reads as it did. -/
def fnExactWorldNewUptoRow : OpenClaim := { program := "ytggmfmanpjcjkaa", sum := "40fa4af6af33da25b85b20c5c20a6d8cc768682c10fb870c60a0a8ca6b6887d5", func := "loop.example/confluence/laws.FnExactWorldNew", spec := "fnExactWorldNew", apart := false, narrowed := true }
def FnExactWorldNewUptoSaid : Prop := fnExactWorldNewUptoRow.holds Try.pinned (OpenSpec.upto fnExactWorldNewSpec)

end Rows
end Go.Proofs.Ytggmfmanpjcjkaa
