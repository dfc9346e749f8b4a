/-
  No cell of these rows narrows 'for every input' (looked for: loops, veiled, ifaces, maps, wideKeys, modest, calm, conditions, laid).
  DERIVED. THE GIVEN ROWS OF THIS SEAT. 8 by the template 'for every input the law returns true; each argument reads behind the call as it read before'; 0 by the template 'total and deterministic' (their statements: YthicfemhpnnaaaaTotals.lean).
  GIVEN WITH THE SEED: the statements are not yours to turn. If you find one false, say at which input.
  Laid BY PROGRAM, IN A SANDBOX (cutbox-rows.mjs): the forced cells as the released guide's own fill.sh prints them over the translation 1d11504abf2c14ae… (all of the seat's roots in one cut). By AI agents, Wed Nov 11 2026. No macro, syntax, notation, axiom, sorry.
-/
import Derived.Test.YthicfemhpnnaaaaChecked
import GoSem.Claim
import GoSem.ClaimJoined
import GoSem.ClaimMapViews
import Derived.JoinedTies
import Derived.KernelRfl
namespace Go.Proofs.Ythicfemhpnnaaaa
/- THE CELL 'sum', in the pinned program and in every row, IS THE sha256 OF THE DUMP (.gsa) THAT YthicfemhpnnaaaaProg.lean LOADS. Nothing in Lean hashes anything: it is a label: what it is worth is what the hold of that sum in a sandbox is worth. -/
noncomputable def Try.pinned : Pinned := { name := "ythicfemhpnnaaaa", sum := "1d11504abf2c14ae3bbfe9033995623624d1f0c1b575b71b410cc4f12a56d474", checked := Try.checked }
namespace Rows
def none {H : Type} : Left H := { results := [], args := [] }

/-- 'laws.FnExactChainNew': WHATEVER THE INPUT: true; the input reads as it did. -/
def fnExactChainNewSpec : ChangeSpec := { name := "fnExactChainNew", fn := fun _ => fun
  | [d] => { results := [.lit (.bool true)], args := [d] }
  | _ => none }
def fnExactChainNewRow : OpenClaim := { program := "ythicfemhpnnaaaa", sum := "1d11504abf2c14ae3bbfe9033995623624d1f0c1b575b71b410cc4f12a56d474", func := "loop.example/confluence/laws.FnExactChainNew", spec := "fnExactChainNew", apart := false }
def FnExactChainNewSaid : Prop := fnExactChainNewRow.holds Try.pinned (OpenSpec.ofChange fnExactChainNewSpec)

/-- ITS FALSE NEIGHBOUR: 'it returns false'. Refute it at one input. -/
def fnExactChainNewWrong : ChangeSpec := { name := "fnExactChainNew", fn := fun _ => fun
  | [d] => { results := [.lit (.bool false)], args := [d] }
  | _ => none }
def FnExactChainNewWrongFalsely : Prop := fnExactChainNewRow.holds Try.pinned (OpenSpec.ofChange fnExactChainNewWrong)

/-- 'laws.FnChainNew': WHATEVER THE INPUT: true; the input reads as it did. -/
def fnChainNewSpec : ChangeSpec := { name := "fnChainNew", fn := fun _ => fun
  | [d] => { results := [.lit (.bool true)], args := [d] }
  | _ => none }
def fnChainNewRow : OpenClaim := { program := "ythicfemhpnnaaaa", sum := "1d11504abf2c14ae3bbfe9033995623624d1f0c1b575b71b410cc4f12a56d474", func := "loop.example/confluence/laws.FnChainNew", spec := "fnChainNew", unfollowed := true, recurses := true, apart := false }
def FnChainNewSaid : Prop := fnChainNewRow.holds Try.pinned (OpenSpec.ofChange fnChainNewSpec)

/-- ITS FALSE NEIGHBOUR: 'it returns false'. Refute it at one input. -/
def fnChainNewWrong : ChangeSpec := { name := "fnChainNew", fn := fun _ => fun
  | [d] => { results := [.lit (.bool false)], args := [d] }
  | _ => none }
def FnChainNewWrongFalsely : Prop := fnChainNewRow.holds Try.pinned (OpenSpec.ofChange fnChainNewWrong)

/-- 'laws.FnExactChainOk': WHATEVER THE INPUT: true; the input reads as it did. -/
def fnExactChainOkSpec : ChangeSpec := { name := "fnExactChainOk", fn := fun _ => fun
  | [d] => { results := [.lit (.bool true)], args := [d] }
  | _ => none }
def fnExactChainOkRow : OpenClaim := { program := "ythicfemhpnnaaaa", sum := "1d11504abf2c14ae3bbfe9033995623624d1f0c1b575b71b410cc4f12a56d474", func := "loop.example/confluence/laws.FnExactChainOk", spec := "fnExactChainOk", unfollowed := true, recurses := true, apart := false }
def FnExactChainOkSaid : Prop := fnExactChainOkRow.holds Try.pinned (OpenSpec.ofChange fnExactChainOkSpec)

/-- ITS FALSE NEIGHBOUR: 'it returns false'. Refute it at one input. -/
def fnExactChainOkWrong : ChangeSpec := { name := "fnExactChainOk", fn := fun _ => fun
  | [d] => { results := [.lit (.bool false)], args := [d] }
  | _ => none }
def FnExactChainOkWrongFalsely : Prop := fnExactChainOkRow.holds Try.pinned (OpenSpec.ofChange fnExactChainOkWrong)

/-- 'laws.FnChainPut': WHATEVER THE INPUT: true; the input reads as it did. -/
def fnChainPutSpec : ChangeSpec := { name := "fnChainPut", fn := fun _ => fun
  | [d] => { results := [.lit (.bool true)], args := [d] }
  | _ => none }
def fnChainPutRow : OpenClaim := { program := "ythicfemhpnnaaaa", sum := "1d11504abf2c14ae3bbfe9033995623624d1f0c1b575b71b410cc4f12a56d474", func := "loop.example/confluence/laws.FnChainPut", spec := "fnChainPut", unfollowed := true, recurses := true, apart := false }
def FnChainPutSaid : Prop := fnChainPutRow.holds Try.pinned (OpenSpec.ofChange fnChainPutSpec)

/-- ITS FALSE NEIGHBOUR: 'it returns false'. Refute it at one input. -/
def fnChainPutWrong : ChangeSpec := { name := "fnChainPut", fn := fun _ => fun
  | [d] => { results := [.lit (.bool false)], args := [d] }
  | _ => none }
def FnChainPutWrongFalsely : Prop := fnChainPutRow.holds Try.pinned (OpenSpec.ofChange fnChainPutWrong)

/-- 'laws.FnChainDrain': WHATEVER THE INPUT: true; the input reads as it did. -/
def fnChainDrainSpec : ChangeSpec := { name := "fnChainDrain", fn := fun _ => fun
  | [d] => { results := [.lit (.bool true)], args := [d] }
  | _ => none }
def fnChainDrainRow : OpenClaim := { program := "ythicfemhpnnaaaa", sum := "1d11504abf2c14ae3bbfe9033995623624d1f0c1b575b71b410cc4f12a56d474", func := "loop.example/confluence/laws.FnChainDrain", spec := "fnChainDrain", unfollowed := true, recurses := true, apart := false }
def FnChainDrainSaid : Prop := fnChainDrainRow.holds Try.pinned (OpenSpec.ofChange fnChainDrainSpec)

/-- ITS FALSE NEIGHBOUR: 'it returns false'. Refute it at one input. -/
def fnChainDrainWrong : ChangeSpec := { name := "fnChainDrain", fn := fun _ => fun
  | [d] => { results := [.lit (.bool false)], args := [d] }
  | _ => none }
def FnChainDrainWrongFalsely : Prop := fnChainDrainRow.holds Try.pinned (OpenSpec.ofChange fnChainDrainWrong)

/-- 'laws.FnExactChainStable': WHATEVER THE INPUT: true; the input reads as it did. -/
def fnExactChainStableSpec : ChangeSpec := { name := "fnExactChainStable", fn := fun _ => fun
  | [d] => { results := [.lit (.bool true)], args := [d] }
  | _ => none }
def fnExactChainStableRow : OpenClaim := { program := "ythicfemhpnnaaaa", sum := "1d11504abf2c14ae3bbfe9033995623624d1f0c1b575b71b410cc4f12a56d474", func := "loop.example/confluence/laws.FnExactChainStable", spec := "fnExactChainStable", unfollowed := true, recurses := true, apart := false }
def FnExactChainStableSaid : Prop := fnExactChainStableRow.holds Try.pinned (OpenSpec.ofChange fnExactChainStableSpec)

/-- ITS FALSE NEIGHBOUR: 'it returns false'. Refute it at one input. -/
def fnExactChainStableWrong : ChangeSpec := { name := "fnExactChainStable", fn := fun _ => fun
  | [d] => { results := [.lit (.bool false)], args := [d] }
  | _ => none }
def FnExactChainStableWrongFalsely : Prop := fnExactChainStableRow.holds Try.pinned (OpenSpec.ofChange fnExactChainStableWrong)

/-- 'laws.FnExactChainShows': WHATEVER THE INPUT: true; the input reads as it did. -/
def fnExactChainShowsSpec : ChangeSpec := { name := "fnExactChainShows", fn := fun _ => fun
  | [d1, d2, d3] => { results := [.lit (.bool true)], args := [d1, d2, d3] }
  | _ => none }
def fnExactChainShowsRow : OpenClaim := { program := "ythicfemhpnnaaaa", sum := "1d11504abf2c14ae3bbfe9033995623624d1f0c1b575b71b410cc4f12a56d474", func := "loop.example/confluence/laws.FnExactChainShows", spec := "fnExactChainShows", unfollowed := true, recurses := true, apart := false }
def FnExactChainShowsSaid : Prop := fnExactChainShowsRow.holds Try.pinned (OpenSpec.ofChange fnExactChainShowsSpec)

/-- ITS FALSE NEIGHBOUR: 'it returns false'. Refute it at one input. -/
def fnExactChainShowsWrong : ChangeSpec := { name := "fnExactChainShows", fn := fun _ => fun
  | [d1, d2, d3] => { results := [.lit (.bool false)], args := [d1, d2, d3] }
  | _ => none }
def FnExactChainShowsWrongFalsely : Prop := fnExactChainShowsRow.holds Try.pinned (OpenSpec.ofChange fnExactChainShowsWrong)

/-- 'laws.FnExactChainJoin': WHATEVER THE INPUT: true; the input reads as it did. -/
def fnExactChainJoinSpec : ChangeSpec := { name := "fnExactChainJoin", fn := fun _ => fun
  | [d] => { results := [.lit (.bool true)], args := [d] }
  | _ => none }
def fnExactChainJoinRow : OpenClaim := { program := "ythicfemhpnnaaaa", sum := "1d11504abf2c14ae3bbfe9033995623624d1f0c1b575b71b410cc4f12a56d474", func := "loop.example/confluence/laws.FnExactChainJoin", spec := "fnExactChainJoin", unfollowed := true, recurses := true, apart := false }
def FnExactChainJoinSaid : Prop := fnExactChainJoinRow.holds Try.pinned (OpenSpec.ofChange fnExactChainJoinSpec)

/-- ITS FALSE NEIGHBOUR: 'it returns false'. Refute it at one input. -/
def fnExactChainJoinWrong : ChangeSpec := { name := "fnExactChainJoin", fn := fun _ => fun
  | [d] => { results := [.lit (.bool false)], args := [d] }
  | _ => none }
def FnExactChainJoinWrongFalsely : Prop := fnExactChainJoinRow.holds Try.pinned (OpenSpec.ofChange fnExactChainJoinWrong)

/- THE SECOND FORM. 'bulk': how many values and letters a reading holds, each counted each time it is reached (what is shared counts as often as it is met; a slice's spare places count too). A statement '..UptoSaid' is the law's where the arguments, and the package variables that the reading takes, are together of bulk at most 1048576: NARROWER than '..Said'. Prove '..Said' where nothing that the law and all that it calls make is longer than what came in: it says more and counts as full. Else prove '..UptoSaid'. A law counts once. -/
mutual
def uptoBulk {H : Type} : DataW H → Nat
  | .lit (.string bytes) => bytes.length + 1
  | .lit _ => 1
  | .nil => 1
  | .ptr d => uptoBulk d + 1
  | .slice elems spare => uptoBulkAll elems + uptoBulkAll spare + 1
  | .agg parts => uptoBulkAll parts + 1
  | .iface _ d => uptoBulk d + 1
  | .map entries => uptoBulkEntries entries + 1
  | .held _ => 1
def uptoBulkAll {H : Type} : List (DataW H) → Nat
  | [] => 0
  | d :: r => uptoBulk d + uptoBulkAll r
def uptoBulkEntries {H : Type} : List (Lit × DataW H) → Nat
  | [] => 0
  | x :: r => uptoBulkEntry x + uptoBulkEntries r
def uptoBulkEntry {H : Type} : Lit × DataW H → Nat
  | (.string bytes, d) => bytes.length + uptoBulk d + 1
  | (_, d) => uptoBulk d + 1
 end
def uptoSmall : (H : Type) → List (DataW H) → Bool := fun _ ds => decide (uptoBulkAll ds ≤ 1048576)
def OpenSpec.upto (s : _root_.Go.ChangeSpec) : _root_.Go.OpenSpec := { _root_.Go.OpenSpec.ofChange s with cond := some uptoSmall }

/-- 'laws.FnExactChainNew', WHERE WHAT IT READS IS OF BULK AT MOST 1048576: true; the input reads as it did. -/
def fnExactChainNewUptoRow : OpenClaim := { program := "ythicfemhpnnaaaa", sum := "1d11504abf2c14ae3bbfe9033995623624d1f0c1b575b71b410cc4f12a56d474", func := "loop.example/confluence/laws.FnExactChainNew", spec := "fnExactChainNew", apart := false, narrowed := true }
def FnExactChainNewUptoSaid : Prop := fnExactChainNewUptoRow.holds Try.pinned (OpenSpec.upto fnExactChainNewSpec)

/-- 'laws.FnChainNew', WHERE WHAT IT READS IS OF BULK AT MOST 1048576: true; the input reads as it did. -/
def fnChainNewUptoRow : OpenClaim := { program := "ythicfemhpnnaaaa", sum := "1d11504abf2c14ae3bbfe9033995623624d1f0c1b575b71b410cc4f12a56d474", func := "loop.example/confluence/laws.FnChainNew", spec := "fnChainNew", unfollowed := true, recurses := true, apart := false, narrowed := true }
def FnChainNewUptoSaid : Prop := fnChainNewUptoRow.holds Try.pinned (OpenSpec.upto fnChainNewSpec)

/-- 'laws.FnExactChainOk', WHERE WHAT IT READS IS OF BULK AT MOST 1048576: true; the input reads as it did. -/
def fnExactChainOkUptoRow : OpenClaim := { program := "ythicfemhpnnaaaa", sum := "1d11504abf2c14ae3bbfe9033995623624d1f0c1b575b71b410cc4f12a56d474", func := "loop.example/confluence/laws.FnExactChainOk", spec := "fnExactChainOk", unfollowed := true, recurses := true, apart := false, narrowed := true }
def FnExactChainOkUptoSaid : Prop := fnExactChainOkUptoRow.holds Try.pinned (OpenSpec.upto fnExactChainOkSpec)

/-- 'laws.FnChainPut', WHERE WHAT IT READS IS OF BULK AT MOST 1048576: true; the input reads as it did. -/
def fnChainPutUptoRow : OpenClaim := { program := "ythicfemhpnnaaaa", sum := "1d11504abf2c14ae3bbfe9033995623624d1f0c1b575b71b410cc4f12a56d474", func := "loop.example/confluence/laws.FnChainPut", spec := "fnChainPut", unfollowed := true, recurses := true, apart := false, narrowed := true }
def FnChainPutUptoSaid : Prop := fnChainPutUptoRow.holds Try.pinned (OpenSpec.upto fnChainPutSpec)

/-- 'laws.FnChainDrain', WHERE WHAT IT READS IS OF BULK AT MOST 1048576: true; the input reads as it did. -/
def fnChainDrainUptoRow : OpenClaim := { program := "ythicfemhpnnaaaa", sum := "1d11504abf2c14ae3bbfe9033995623624d1f0c1b575b71b410cc4f12a56d474", func := "loop.example/confluence/laws.FnChainDrain", spec := "fnChainDrain", unfollowed := true, recurses := true, apart := false, narrowed := true }
def FnChainDrainUptoSaid : Prop := fnChainDrainUptoRow.holds Try.pinned (OpenSpec.upto fnChainDrainSpec)

/-- 'laws.FnExactChainStable', WHERE WHAT IT READS IS OF BULK AT MOST 1048576: true; the input reads as it did. -/
def fnExactChainStableUptoRow : OpenClaim := { program := "ythicfemhpnnaaaa", sum := "1d11504abf2c14ae3bbfe9033995623624d1f0c1b575b71b410cc4f12a56d474", func := "loop.example/confluence/laws.FnExactChainStable", spec := "fnExactChainStable", unfollowed := true, recurses := true, apart := false, narrowed := true }
def FnExactChainStableUptoSaid : Prop := fnExactChainStableUptoRow.holds Try.pinned (OpenSpec.upto fnExactChainStableSpec)

/-- 'laws.FnExactChainShows', WHERE WHAT IT READS IS OF BULK AT MOST 1048576: true; the input reads as it did. -/
def fnExactChainShowsUptoRow : OpenClaim := { program := "ythicfemhpnnaaaa", sum := "1d11504abf2c14ae3bbfe9033995623624d1f0c1b575b71b410cc4f12a56d474", func := "loop.example/confluence/laws.FnExactChainShows", spec := "fnExactChainShows", unfollowed := true, recurses := true, apart := false, narrowed := true }
def FnExactChainShowsUptoSaid : Prop := fnExactChainShowsUptoRow.holds Try.pinned (OpenSpec.upto fnExactChainShowsSpec)

/-- 'laws.FnExactChainJoin', WHERE WHAT IT READS IS OF BULK AT MOST 1048576: true; the input reads as it did. -/
def fnExactChainJoinUptoRow : OpenClaim := { program := "ythicfemhpnnaaaa", sum := "1d11504abf2c14ae3bbfe9033995623624d1f0c1b575b71b410cc4f12a56d474", func := "loop.example/confluence/laws.FnExactChainJoin", spec := "fnExactChainJoin", unfollowed := true, recurses := true, apart := false, narrowed := true }
def FnExactChainJoinUptoSaid : Prop := fnExactChainJoinUptoRow.holds Try.pinned (OpenSpec.upto fnExactChainJoinSpec)

end Rows
end Go.Proofs.Ythicfemhpnnaaaa
