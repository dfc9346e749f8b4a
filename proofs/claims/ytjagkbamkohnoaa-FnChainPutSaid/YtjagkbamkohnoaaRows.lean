/-
  No cell of these rows narrows 'for every input' (looked for: loops, veiled, ifaces, maps, wideKeys, modest, calm, conditions, laid).
  DERIVED. THE GIVEN ROWS OF THIS SEAT. 5 by the template 'for every input the law returns true; each argument reads behind the call as it read before'; 0 by the template 'total and deterministic' (their statements: YtjagkbamkohnoaaTotals.lean).
  GIVEN WITH THE SEED: the statements are not yours to turn. If you find one false, say at which input.
  Laid BY PROGRAM, IN A SANDBOX (cutbox-rows.mjs): the forced cells as the released guide's own fill.sh prints them over the translation 5829b976324cd823… (all of the seat's roots in one cut). By AI agents, Wed Nov 11 2026. No macro, syntax, notation, axiom, sorry.
-/
import Derived.Test.YtjagkbamkohnoaaChecked
import GoSem.Claim
import GoSem.ClaimJoined
import GoSem.ClaimMapViews
import Derived.JoinedTies
import Derived.KernelRfl
namespace Go.Proofs.Ytjagkbamkohnoaa
/- THE CELL 'sum', in the pinned program and in every row, IS THE sha256 OF THE DUMP (.gsa) THAT YtjagkbamkohnoaaProg.lean LOADS. Nothing in Lean hashes anything: it is a label: what it is worth is what the hold of that sum in a sandbox is worth. -/
noncomputable def Try.pinned : Pinned := { name := "ytjagkbamkohnoaa", sum := "5829b976324cd8230adc4b93ffcf7008124f5571fe450131250ae0331ba98469", checked := Try.checked }
namespace Rows
def none {H : Type} : Left H := { results := [], args := [] }

/-- 'laws.FnChainPut': WHATEVER THE INPUT: true; the input reads as it did. -/
def fnChainPutSpec : ChangeSpec := { name := "fnChainPut", fn := fun _ => fun
  | [d] => { results := [.lit (.bool true)], args := [d] }
  | _ => none }
def fnChainPutRow : OpenClaim := { program := "ytjagkbamkohnoaa", sum := "5829b976324cd8230adc4b93ffcf7008124f5571fe450131250ae0331ba98469", func := "loop.example/confluence/laws.FnChainPut", spec := "fnChainPut", unfollowed := true, recurses := true, apart := false }
def FnChainPutSaid : Prop := fnChainPutRow.holds Try.pinned (OpenSpec.ofChange fnChainPutSpec)

/-- ITS FALSE NEIGHBOUR: 'it returns false'. Refute it at one input. -/
def fnChainPutWrong : ChangeSpec := { name := "fnChainPut", fn := fun _ => fun
  | [d] => { results := [.lit (.bool false)], args := [d] }
  | _ => none }
def FnChainPutWrongFalsely : Prop := fnChainPutRow.holds Try.pinned (OpenSpec.ofChange fnChainPutWrong)

/-- 'laws.FnChainDrain': WHATEVER THE INPUT: true; the input reads as it did. -/
def fnChainDrainSpec : ChangeSpec := { name := "fnChainDrain", fn := fun _ => fun
  | [d] => { results := [.lit (.bool true)], args := [d] }
  | _ => none }
def fnChainDrainRow : OpenClaim := { program := "ytjagkbamkohnoaa", sum := "5829b976324cd8230adc4b93ffcf7008124f5571fe450131250ae0331ba98469", func := "loop.example/confluence/laws.FnChainDrain", spec := "fnChainDrain", unfollowed := true, recurses := true, apart := false }
def FnChainDrainSaid : Prop := fnChainDrainRow.holds Try.pinned (OpenSpec.ofChange fnChainDrainSpec)

/-- ITS FALSE NEIGHBOUR: 'it returns false'. Refute it at one input. -/
def fnChainDrainWrong : ChangeSpec := { name := "fnChainDrain", fn := fun _ => fun
  | [d] => { results := [.lit (.bool false)], args := [d] }
  | _ => none }
def FnChainDrainWrongFalsely : Prop := fnChainDrainRow.holds Try.pinned (OpenSpec.ofChange fnChainDrainWrong)

/-- 'laws.FnStoreAdd': WHATEVER THE INPUT: true; the input reads as it did. -/
def fnStoreAddSpec : ChangeSpec := { name := "fnStoreAdd", fn := fun _ => fun
  | [d1, d2] => { results := [.lit (.bool true)], args := [d1, d2] }
  | _ => none }
def fnStoreAddRow : OpenClaim := { program := "ytjagkbamkohnoaa", sum := "5829b976324cd8230adc4b93ffcf7008124f5571fe450131250ae0331ba98469", func := "loop.example/confluence/laws.FnStoreAdd", spec := "fnStoreAdd", unfollowed := true, recurses := true, apart := false }
def FnStoreAddSaid : Prop := fnStoreAddRow.holds Try.pinned (OpenSpec.ofChange fnStoreAddSpec)

/-- ITS FALSE NEIGHBOUR: 'it returns false'. Refute it at one input. -/
def fnStoreAddWrong : ChangeSpec := { name := "fnStoreAdd", fn := fun _ => fun
  | [d1, d2] => { results := [.lit (.bool false)], args := [d1, d2] }
  | _ => none }
def FnStoreAddWrongFalsely : Prop := fnStoreAddRow.holds Try.pinned (OpenSpec.ofChange fnStoreAddWrong)

/-- 'laws.FnStoreJoin': WHATEVER THE INPUT: true; the input reads as it did. -/
def fnStoreJoinSpec : ChangeSpec := { name := "fnStoreJoin", fn := fun _ => fun
  | [d] => { results := [.lit (.bool true)], args := [d] }
  | _ => none }
def fnStoreJoinRow : OpenClaim := { program := "ytjagkbamkohnoaa", sum := "5829b976324cd8230adc4b93ffcf7008124f5571fe450131250ae0331ba98469", func := "loop.example/confluence/laws.FnStoreJoin", spec := "fnStoreJoin", unfollowed := true, recurses := true, apart := false }
def FnStoreJoinSaid : Prop := fnStoreJoinRow.holds Try.pinned (OpenSpec.ofChange fnStoreJoinSpec)

/-- ITS FALSE NEIGHBOUR: 'it returns false'. Refute it at one input. -/
def fnStoreJoinWrong : ChangeSpec := { name := "fnStoreJoin", fn := fun _ => fun
  | [d] => { results := [.lit (.bool false)], args := [d] }
  | _ => none }
def FnStoreJoinWrongFalsely : Prop := fnStoreJoinRow.holds Try.pinned (OpenSpec.ofChange fnStoreJoinWrong)

/-- 'laws.FnPastJoin': WHATEVER THE INPUT: true; the input reads as it did. -/
def fnPastJoinSpec : ChangeSpec := { name := "fnPastJoin", fn := fun _ => fun
  | [d] => { results := [.lit (.bool true)], args := [d] }
  | _ => none }
def fnPastJoinRow : OpenClaim := { program := "ytjagkbamkohnoaa", sum := "5829b976324cd8230adc4b93ffcf7008124f5571fe450131250ae0331ba98469", func := "loop.example/confluence/laws.FnPastJoin", spec := "fnPastJoin", unfollowed := true, recurses := true, apart := false }
def FnPastJoinSaid : Prop := fnPastJoinRow.holds Try.pinned (OpenSpec.ofChange fnPastJoinSpec)

/-- ITS FALSE NEIGHBOUR: 'it returns false'. Refute it at one input. -/
def fnPastJoinWrong : ChangeSpec := { name := "fnPastJoin", fn := fun _ => fun
  | [d] => { results := [.lit (.bool false)], args := [d] }
  | _ => none }
def FnPastJoinWrongFalsely : Prop := fnPastJoinRow.holds Try.pinned (OpenSpec.ofChange fnPastJoinWrong)

/- THE SECOND FORM. 'bulk': how many values and letters a reading holds, each counted each time it is reached (what is shared counts as often as it is met; a slice's spare places count too). A statement '..UptoSaid' is the law's where the arguments, and the package variables that the reading takes, are together of bulk at most 1048576: NARROWER than '..Said'. Prove '..Said' where nothing that the law and all that it calls make is longer than what came in: it says more and counts as full. Else prove '..UptoSaid'. A law counts once. -/
mutual
def uptoBulk {H : Type} : DataW H → Nat
  | .lit (.string bytes) => bytes.length + 1
  | .lit _ => 1
  | .nil => 1
  | .ptr d => uptoBulk d + 1
  | .slice elems spare => uptoBulkAll elems + uptoBulkAll spare + 1
  | .agg parts => uptoBulkAll parts + 1
  | .iface _ d => uptoBulk d + 1
  | .map entries => uptoBulkEntries entries + 1
  | .held _ => 1
def uptoBulkAll {H : Type} : List (DataW H) → Nat
  | [] => 0
  | d :: r => uptoBulk d + uptoBulkAll r
def uptoBulkEntries {H : Type} : List (Lit × DataW H) → Nat
  | [] => 0
  | x :: r => uptoBulkEntry x + uptoBulkEntries r
def uptoBulkEntry {H : Type} : Lit × DataW H → Nat
  | (.string bytes, d) => bytes.length + uptoBulk d + 1
  | (_, d) => uptoBulk d + 1
 end
def uptoSmall : (H : Type) → List (DataW H) → Bool := fun _ ds => decide (uptoBulkAll ds ≤ 1048576)
def OpenSpec.upto (s : _root_.Go.ChangeSpec) : _root_.Go.OpenSpec := { _root_.Go.OpenSpec.ofChange s with cond := some uptoSmall }

/-- 'laws.FnChainPut', WHERE WHAT IT READS IS OF BULK AT MOST 1048576: true; the input reads as it did. -/
def fnChainPutUptoRow : OpenClaim := { program := "ytjagkbamkohnoaa", sum := "5829b976324cd8230adc4b93ffcf7008124f5571fe450131250ae0331ba98469", func := "loop.example/confluence/laws.FnChainPut", spec := "fnChainPut", unfollowed := true, recurses := true, apart := false, narrowed := true }
def FnChainPutUptoSaid : Prop := fnChainPutUptoRow.holds Try.pinned (OpenSpec.upto fnChainPutSpec)

/-- 'laws.FnChainDrain', WHERE WHAT IT READS IS OF BULK AT MOST 1048576: true; the input reads as it did. -/
def fnChainDrainUptoRow : OpenClaim := { program := "ytjagkbamkohnoaa", sum := "5829b976324cd8230adc4b93ffcf7008124f5571fe450131250ae0331ba98469", func := "loop.example/confluence/laws.FnChainDrain", spec := "fnChainDrain", unfollowed := true, recurses := true, apart := false, narrowed := true }
def FnChainDrainUptoSaid : Prop := fnChainDrainUptoRow.holds Try.pinned (OpenSpec.upto fnChainDrainSpec)

/-- 'laws.FnStoreAdd', WHERE WHAT IT READS IS OF BULK AT MOST 1048576: true; the input reads as it did. -/
def fnStoreAddUptoRow : OpenClaim := { program := "ytjagkbamkohnoaa", sum := "5829b976324cd8230adc4b93ffcf7008124f5571fe450131250ae0331ba98469", func := "loop.example/confluence/laws.FnStoreAdd", spec := "fnStoreAdd", unfollowed := true, recurses := true, apart := false, narrowed := true }
def FnStoreAddUptoSaid : Prop := fnStoreAddUptoRow.holds Try.pinned (OpenSpec.upto fnStoreAddSpec)

/-- 'laws.FnStoreJoin', WHERE WHAT IT READS IS OF BULK AT MOST 1048576: true; the input reads as it did. -/
def fnStoreJoinUptoRow : OpenClaim := { program := "ytjagkbamkohnoaa", sum := "5829b976324cd8230adc4b93ffcf7008124f5571fe450131250ae0331ba98469", func := "loop.example/confluence/laws.FnStoreJoin", spec := "fnStoreJoin", unfollowed := true, recurses := true, apart := false, narrowed := true }
def FnStoreJoinUptoSaid : Prop := fnStoreJoinUptoRow.holds Try.pinned (OpenSpec.upto fnStoreJoinSpec)

/-- 'laws.FnPastJoin', WHERE WHAT IT READS IS OF BULK AT MOST 1048576: true; the input reads as it did. -/
def fnPastJoinUptoRow : OpenClaim := { program := "ytjagkbamkohnoaa", sum := "5829b976324cd8230adc4b93ffcf7008124f5571fe450131250ae0331ba98469", func := "loop.example/confluence/laws.FnPastJoin", spec := "fnPastJoin", unfollowed := true, recurses := true, apart := false, narrowed := true }
def FnPastJoinUptoSaid : Prop := fnPastJoinUptoRow.holds Try.pinned (OpenSpec.upto fnPastJoinSpec)

end Rows
end Go.Proofs.Ytjagkbamkohnoaa
