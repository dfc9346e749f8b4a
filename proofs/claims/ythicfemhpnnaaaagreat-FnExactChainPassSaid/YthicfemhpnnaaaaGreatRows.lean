/-
  No cell of these rows narrows 'for every input' (looked for: loops, veiled, ifaces, maps, wideKeys, modest, calm, conditions, laid).
  DERIVED. THE GIVEN ROWS OF THIS SEAT. 3 by the template 'for every input the law returns true; each argument reads behind the call as it read before'; 0 by the template 'total and deterministic' (their statements: YthicfemhpnnaaaaGreatTotals.lean).
  GIVEN WITH THE SEED: the statements are not yours to turn. If you find one false, say at which input.
  Laid BY PROGRAM, IN A SANDBOX (cutbox-rows.mjs): the forced cells as the released guide's own fill.sh prints them over the translation 7b1bfbe68f64a2d3… (all of the seat's roots in one cut). By AI agents, Wed Nov 11 2026. No macro, syntax, notation, axiom, sorry.
-/
import Derived.Test.YthicfemhpnnaaaaGreatChecked
import GoSem.Claim
import GoSem.ClaimJoined
import GoSem.ClaimMapViews
import Derived.JoinedTies
import Derived.KernelRfl
namespace Go.Proofs.YthicfemhpnnaaaaGreat
/- THE CELL 'sum', in the pinned program and in every row, IS THE sha256 OF THE DUMP (.gsa) THAT YthicfemhpnnaaaaGreatProg.lean LOADS. Nothing in Lean hashes anything: it is a label: what it is worth is what the hold of that sum in a sandbox is worth. -/
noncomputable def Tryz.pinned : Pinned := { name := "ythicfemhpnnaaaagreat", sum := "7b1bfbe68f64a2d386956231482d4d0b6bfe231ba6d84cb26d6f7d8700819fde", checked := Tryz.checked }
namespace Rows
def none {H : Type} : Left H := { results := [], args := [] }

/-- 'laws.FnChainPass': WHATEVER THE INPUT: true; the input reads as it did. -/
def fnChainPassSpec : ChangeSpec := { name := "fnChainPass", fn := fun _ => fun
  | [d] => { results := [.lit (.bool true)], args := [d] }
  | _ => none }
def fnChainPassRow : OpenClaim := { program := "ythicfemhpnnaaaagreat", sum := "7b1bfbe68f64a2d386956231482d4d0b6bfe231ba6d84cb26d6f7d8700819fde", func := "loop.example/confluence/laws.FnChainPass", spec := "fnChainPass", unfollowed := true, recurses := true, apart := false }
def FnChainPassSaid : Prop := fnChainPassRow.holds Tryz.pinned (OpenSpec.ofChange fnChainPassSpec)

/-- ITS FALSE NEIGHBOUR: 'it returns false'. Refute it at one input. -/
def fnChainPassWrong : ChangeSpec := { name := "fnChainPass", fn := fun _ => fun
  | [d] => { results := [.lit (.bool false)], args := [d] }
  | _ => none }
def FnChainPassWrongFalsely : Prop := fnChainPassRow.holds Tryz.pinned (OpenSpec.ofChange fnChainPassWrong)

/-- 'laws.FnExactChainPut': WHATEVER THE INPUT: true; the input reads as it did. -/
def fnExactChainPutSpec : ChangeSpec := { name := "fnExactChainPut", fn := fun _ => fun
  | [d1, d2] => { results := [.lit (.bool true)], args := [d1, d2] }
  | _ => none }
def fnExactChainPutRow : OpenClaim := { program := "ythicfemhpnnaaaagreat", sum := "7b1bfbe68f64a2d386956231482d4d0b6bfe231ba6d84cb26d6f7d8700819fde", func := "loop.example/confluence/laws.FnExactChainPut", spec := "fnExactChainPut", unfollowed := true, recurses := true, apart := false }
def FnExactChainPutSaid : Prop := fnExactChainPutRow.holds Tryz.pinned (OpenSpec.ofChange fnExactChainPutSpec)

/-- ITS FALSE NEIGHBOUR: 'it returns false'. Refute it at one input. -/
def fnExactChainPutWrong : ChangeSpec := { name := "fnExactChainPut", fn := fun _ => fun
  | [d1, d2] => { results := [.lit (.bool false)], args := [d1, d2] }
  | _ => none }
def FnExactChainPutWrongFalsely : Prop := fnExactChainPutRow.holds Tryz.pinned (OpenSpec.ofChange fnExactChainPutWrong)

/-- 'laws.FnExactChainPass': WHATEVER THE INPUT: true; the input reads as it did. -/
def fnExactChainPassSpec : ChangeSpec := { name := "fnExactChainPass", fn := fun _ => fun
  | [d1, d2] => { results := [.lit (.bool true)], args := [d1, d2] }
  | _ => none }
def fnExactChainPassRow : OpenClaim := { program := "ythicfemhpnnaaaagreat", sum := "7b1bfbe68f64a2d386956231482d4d0b6bfe231ba6d84cb26d6f7d8700819fde", func := "loop.example/confluence/laws.FnExactChainPass", spec := "fnExactChainPass", unfollowed := true, recurses := true, apart := false }
def FnExactChainPassSaid : Prop := fnExactChainPassRow.holds Tryz.pinned (OpenSpec.ofChange fnExactChainPassSpec)

/-- ITS FALSE NEIGHBOUR: 'it returns false'. Refute it at one input. -/
def fnExactChainPassWrong : ChangeSpec := { name := "fnExactChainPass", fn := fun _ => fun
  | [d1, d2] => { results := [.lit (.bool false)], args := [d1, d2] }
  | _ => none }
def FnExactChainPassWrongFalsely : Prop := fnExactChainPassRow.holds Tryz.pinned (OpenSpec.ofChange fnExactChainPassWrong)

/- THE SECOND FORM. 'bulk': how many values and letters a reading holds, each counted each time it is reached (what is shared counts as often as it is met; a slice's spare places count too). A statement '..UptoSaid' is the law's where the arguments, and the package variables that the reading takes, are together of bulk at most 1048576: NARROWER than '..Said'. Prove '..Said' where nothing that the law and all that it calls make is longer than what came in: it says more and counts as full. Else prove '..UptoSaid'. A law counts once. -/
mutual
def uptoBulk {H : Type} : DataW H → Nat
  | .lit (.string bytes) => bytes.length + 1
  | .lit _ => 1
  | .nil => 1
  | .ptr d => uptoBulk d + 1
  | .slice elems spare => uptoBulkAll elems + uptoBulkAll spare + 1
  | .agg parts => uptoBulkAll parts + 1
  | .iface _ d => uptoBulk d + 1
  | .map entries => uptoBulkEntries entries + 1
  | .held _ => 1
def uptoBulkAll {H : Type} : List (DataW H) → Nat
  | [] => 0
  | d :: r => uptoBulk d + uptoBulkAll r
def uptoBulkEntries {H : Type} : List (Lit × DataW H) → Nat
  | [] => 0
  | x :: r => uptoBulkEntry x + uptoBulkEntries r
def uptoBulkEntry {H : Type} : Lit × DataW H → Nat
  | (.string bytes, d) => bytes.length + uptoBulk d + 1
  | (_, d) => uptoBulk d + 1
 end
def uptoSmall : (H : Type) → List (DataW H) → Bool := fun _ ds => decide (uptoBulkAll ds ≤ 1048576)
def OpenSpec.upto (s : _root_.Go.ChangeSpec) : _root_.Go.OpenSpec := { _root_.Go.OpenSpec.ofChange s with cond := some uptoSmall }

/-- 'laws.FnChainPass', WHERE WHAT IT READS IS OF BULK AT MOST 1048576: true; the input reads as it did. -/
def fnChainPassUptoRow : OpenClaim := { program := "ythicfemhpnnaaaagreat", sum := "7b1bfbe68f64a2d386956231482d4d0b6bfe231ba6d84cb26d6f7d8700819fde", func := "loop.example/confluence/laws.FnChainPass", spec := "fnChainPass", unfollowed := true, recurses := true, apart := false, narrowed := true }
def FnChainPassUptoSaid : Prop := fnChainPassUptoRow.holds Tryz.pinned (OpenSpec.upto fnChainPassSpec)

/-- 'laws.FnExactChainPut', WHERE WHAT IT READS IS OF BULK AT MOST 1048576: true; the input reads as it did. -/
def fnExactChainPutUptoRow : OpenClaim := { program := "ythicfemhpnnaaaagreat", sum := "7b1bfbe68f64a2d386956231482d4d0b6bfe231ba6d84cb26d6f7d8700819fde", func := "loop.example/confluence/laws.FnExactChainPut", spec := "fnExactChainPut", unfollowed := true, recurses := true, apart := false, narrowed := true }
def FnExactChainPutUptoSaid : Prop := fnExactChainPutUptoRow.holds Tryz.pinned (OpenSpec.upto fnExactChainPutSpec)

/-- 'laws.FnExactChainPass', WHERE WHAT IT READS IS OF BULK AT MOST 1048576: true; the input reads as it did. -/
def fnExactChainPassUptoRow : OpenClaim := { program := "ythicfemhpnnaaaagreat", sum := "7b1bfbe68f64a2d386956231482d4d0b6bfe231ba6d84cb26d6f7d8700819fde", func := "loop.example/confluence/laws.FnExactChainPass", spec := "fnExactChainPass", unfollowed := true, recurses := true, apart := false, narrowed := true }
def FnExactChainPassUptoSaid : Prop := fnExactChainPassUptoRow.holds Tryz.pinned (OpenSpec.upto fnExactChainPassSpec)

end Rows
end Go.Proofs.YthicfemhpnnaaaaGreat
