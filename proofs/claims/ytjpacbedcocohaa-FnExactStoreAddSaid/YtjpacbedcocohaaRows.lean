/-
  No cell of these rows narrows 'for every input' (looked for: loops, veiled, ifaces, maps, wideKeys, modest, calm, conditions, laid).
  DERIVED. THE GIVEN ROWS OF THIS SEAT. 10 by the template 'for every input the law returns true; each argument reads behind the call as it read before'; 0 by the template 'total and deterministic' (their statements: YtjpacbedcocohaaTotals.lean).
  GIVEN WITH THE SEED: the statements are not yours to turn. If you find one false, say at which input.
  Laid BY PROGRAM, IN A SANDBOX (cutbox-rows.mjs): the forced cells as the released guide's own fill.sh prints them over the translation 620103d75dff625c… (all of the seat's roots in one cut). By AI agents, Wed Nov 11 2026. No macro, syntax, notation, axiom, sorry.
-/
import Derived.Test.YtjpacbedcocohaaChecked
import GoSem.Claim
import GoSem.ClaimJoined
import GoSem.ClaimMapViews
import Derived.JoinedTies
import Derived.KernelRfl
namespace Go.Proofs.Ytjpacbedcocohaa
/- THE CELL 'sum', in the pinned program and in every row, IS THE sha256 OF THE DUMP (.gsa) THAT YtjpacbedcocohaaProg.lean LOADS. Nothing in Lean hashes anything: it is a label: what it is worth is what the hold of that sum in a sandbox is worth. -/
noncomputable def Try.pinned : Pinned := { name := "ytjpacbedcocohaa", sum := "620103d75dff625c4f250be5dcb0f3f6de15f35b78cd78a503efae68f514dbff", checked := Try.checked }
namespace Rows
def none {H : Type} : Left H := { results := [], args := [] }

/-- 'laws.FnPastJoin': WHATEVER THE INPUT: true; the input reads as it did. -/
def fnPastJoinSpec : ChangeSpec := { name := "fnPastJoin", fn := fun _ => fun
  | [d] => { results := [.lit (.bool true)], args := [d] }
  | _ => none }
def fnPastJoinRow : OpenClaim := { program := "ytjpacbedcocohaa", sum := "620103d75dff625c4f250be5dcb0f3f6de15f35b78cd78a503efae68f514dbff", func := "loop.example/confluence/laws.FnPastJoin", spec := "fnPastJoin", unfollowed := true, recurses := true, apart := false }
def FnPastJoinSaid : Prop := fnPastJoinRow.holds Try.pinned (OpenSpec.ofChange fnPastJoinSpec)

/-- ITS FALSE NEIGHBOUR: 'it returns false'. Refute it at one input. -/
def fnPastJoinWrong : ChangeSpec := { name := "fnPastJoin", fn := fun _ => fun
  | [d] => { results := [.lit (.bool false)], args := [d] }
  | _ => none }
def FnPastJoinWrongFalsely : Prop := fnPastJoinRow.holds Try.pinned (OpenSpec.ofChange fnPastJoinWrong)

/-- 'laws.FnPastWithin': WHATEVER THE INPUT: true; the input reads as it did. -/
def fnPastWithinSpec : ChangeSpec := { name := "fnPastWithin", fn := fun _ => fun
  | [d] => { results := [.lit (.bool true)], args := [d] }
  | _ => none }
def fnPastWithinRow : OpenClaim := { program := "ytjpacbedcocohaa", sum := "620103d75dff625c4f250be5dcb0f3f6de15f35b78cd78a503efae68f514dbff", func := "loop.example/confluence/laws.FnPastWithin", spec := "fnPastWithin", unfollowed := true, recurses := true, apart := false }
def FnPastWithinSaid : Prop := fnPastWithinRow.holds Try.pinned (OpenSpec.ofChange fnPastWithinSpec)

/-- ITS FALSE NEIGHBOUR: 'it returns false'. Refute it at one input. -/
def fnPastWithinWrong : ChangeSpec := { name := "fnPastWithin", fn := fun _ => fun
  | [d] => { results := [.lit (.bool false)], args := [d] }
  | _ => none }
def FnPastWithinWrongFalsely : Prop := fnPastWithinRow.holds Try.pinned (OpenSpec.ofChange fnPastWithinWrong)

/-- 'laws.FnExactPastJoin': WHATEVER THE INPUT: true; the input reads as it did. -/
def fnExactPastJoinSpec : ChangeSpec := { name := "fnExactPastJoin", fn := fun _ => fun
  | [d1, d2] => { results := [.lit (.bool true)], args := [d1, d2] }
  | _ => none }
def fnExactPastJoinRow : OpenClaim := { program := "ytjpacbedcocohaa", sum := "620103d75dff625c4f250be5dcb0f3f6de15f35b78cd78a503efae68f514dbff", func := "loop.example/confluence/laws.FnExactPastJoin", spec := "fnExactPastJoin", unfollowed := true, recurses := true, apart := false }
def FnExactPastJoinSaid : Prop := fnExactPastJoinRow.holds Try.pinned (OpenSpec.ofChange fnExactPastJoinSpec)

/-- ITS FALSE NEIGHBOUR: 'it returns false'. Refute it at one input. -/
def fnExactPastJoinWrong : ChangeSpec := { name := "fnExactPastJoin", fn := fun _ => fun
  | [d1, d2] => { results := [.lit (.bool false)], args := [d1, d2] }
  | _ => none }
def FnExactPastJoinWrongFalsely : Prop := fnExactPastJoinRow.holds Try.pinned (OpenSpec.ofChange fnExactPastJoinWrong)

/-- 'laws.FnExactStoreOk': WHATEVER THE INPUT: true; the input reads as it did. -/
def fnExactStoreOkSpec : ChangeSpec := { name := "fnExactStoreOk", fn := fun _ => fun
  | [d] => { results := [.lit (.bool true)], args := [d] }
  | _ => none }
def fnExactStoreOkRow : OpenClaim := { program := "ytjpacbedcocohaa", sum := "620103d75dff625c4f250be5dcb0f3f6de15f35b78cd78a503efae68f514dbff", func := "loop.example/confluence/laws.FnExactStoreOk", spec := "fnExactStoreOk", unfollowed := true, recurses := true, apart := false }
def FnExactStoreOkSaid : Prop := fnExactStoreOkRow.holds Try.pinned (OpenSpec.ofChange fnExactStoreOkSpec)

/-- ITS FALSE NEIGHBOUR: 'it returns false'. Refute it at one input. -/
def fnExactStoreOkWrong : ChangeSpec := { name := "fnExactStoreOk", fn := fun _ => fun
  | [d] => { results := [.lit (.bool false)], args := [d] }
  | _ => none }
def FnExactStoreOkWrongFalsely : Prop := fnExactStoreOkRow.holds Try.pinned (OpenSpec.ofChange fnExactStoreOkWrong)

/-- 'laws.FnExactStoreClosed': WHATEVER THE INPUT: true; the input reads as it did. -/
def fnExactStoreClosedSpec : ChangeSpec := { name := "fnExactStoreClosed", fn := fun _ => fun
  | [d] => { results := [.lit (.bool true)], args := [d] }
  | _ => none }
def fnExactStoreClosedRow : OpenClaim := { program := "ytjpacbedcocohaa", sum := "620103d75dff625c4f250be5dcb0f3f6de15f35b78cd78a503efae68f514dbff", func := "loop.example/confluence/laws.FnExactStoreClosed", spec := "fnExactStoreClosed", unfollowed := true, recurses := true, apart := false }
def FnExactStoreClosedSaid : Prop := fnExactStoreClosedRow.holds Try.pinned (OpenSpec.ofChange fnExactStoreClosedSpec)

/-- ITS FALSE NEIGHBOUR: 'it returns false'. Refute it at one input. -/
def fnExactStoreClosedWrong : ChangeSpec := { name := "fnExactStoreClosed", fn := fun _ => fun
  | [d] => { results := [.lit (.bool false)], args := [d] }
  | _ => none }
def FnExactStoreClosedWrongFalsely : Prop := fnExactStoreClosedRow.holds Try.pinned (OpenSpec.ofChange fnExactStoreClosedWrong)

/-- 'laws.FnExactStoreTags': WHATEVER THE INPUT: true; the input reads as it did. -/
def fnExactStoreTagsSpec : ChangeSpec := { name := "fnExactStoreTags", fn := fun _ => fun
  | [d] => { results := [.lit (.bool true)], args := [d] }
  | _ => none }
def fnExactStoreTagsRow : OpenClaim := { program := "ytjpacbedcocohaa", sum := "620103d75dff625c4f250be5dcb0f3f6de15f35b78cd78a503efae68f514dbff", func := "loop.example/confluence/laws.FnExactStoreTags", spec := "fnExactStoreTags", unfollowed := true, recurses := true, apart := false }
def FnExactStoreTagsSaid : Prop := fnExactStoreTagsRow.holds Try.pinned (OpenSpec.ofChange fnExactStoreTagsSpec)

/-- ITS FALSE NEIGHBOUR: 'it returns false'. Refute it at one input. -/
def fnExactStoreTagsWrong : ChangeSpec := { name := "fnExactStoreTags", fn := fun _ => fun
  | [d] => { results := [.lit (.bool false)], args := [d] }
  | _ => none }
def FnExactStoreTagsWrongFalsely : Prop := fnExactStoreTagsRow.holds Try.pinned (OpenSpec.ofChange fnExactStoreTagsWrong)

/-- 'laws.FnStoreAdd': WHATEVER THE INPUT: true; the input reads as it did. -/
def fnStoreAddSpec : ChangeSpec := { name := "fnStoreAdd", fn := fun _ => fun
  | [d1, d2] => { results := [.lit (.bool true)], args := [d1, d2] }
  | _ => none }
def fnStoreAddRow : OpenClaim := { program := "ytjpacbedcocohaa", sum := "620103d75dff625c4f250be5dcb0f3f6de15f35b78cd78a503efae68f514dbff", func := "loop.example/confluence/laws.FnStoreAdd", spec := "fnStoreAdd", unfollowed := true, recurses := true, apart := false }
def FnStoreAddSaid : Prop := fnStoreAddRow.holds Try.pinned (OpenSpec.ofChange fnStoreAddSpec)

/-- ITS FALSE NEIGHBOUR: 'it returns false'. Refute it at one input. -/
def fnStoreAddWrong : ChangeSpec := { name := "fnStoreAdd", fn := fun _ => fun
  | [d1, d2] => { results := [.lit (.bool false)], args := [d1, d2] }
  | _ => none }
def FnStoreAddWrongFalsely : Prop := fnStoreAddRow.holds Try.pinned (OpenSpec.ofChange fnStoreAddWrong)

/-- 'laws.FnStoreJoin': WHATEVER THE INPUT: true; the input reads as it did. -/
def fnStoreJoinSpec : ChangeSpec := { name := "fnStoreJoin", fn := fun _ => fun
  | [d] => { results := [.lit (.bool true)], args := [d] }
  | _ => none }
def fnStoreJoinRow : OpenClaim := { program := "ytjpacbedcocohaa", sum := "620103d75dff625c4f250be5dcb0f3f6de15f35b78cd78a503efae68f514dbff", func := "loop.example/confluence/laws.FnStoreJoin", spec := "fnStoreJoin", unfollowed := true, recurses := true, apart := false }
def FnStoreJoinSaid : Prop := fnStoreJoinRow.holds Try.pinned (OpenSpec.ofChange fnStoreJoinSpec)

/-- ITS FALSE NEIGHBOUR: 'it returns false'. Refute it at one input. -/
def fnStoreJoinWrong : ChangeSpec := { name := "fnStoreJoin", fn := fun _ => fun
  | [d] => { results := [.lit (.bool false)], args := [d] }
  | _ => none }
def FnStoreJoinWrongFalsely : Prop := fnStoreJoinRow.holds Try.pinned (OpenSpec.ofChange fnStoreJoinWrong)

/-- 'laws.FnExactStoreJoin': WHATEVER THE INPUT: true; the input reads as it did. -/
def fnExactStoreJoinSpec : ChangeSpec := { name := "fnExactStoreJoin", fn := fun _ => fun
  | [d1, d2] => { results := [.lit (.bool true)], args := [d1, d2] }
  | _ => none }
def fnExactStoreJoinRow : OpenClaim := { program := "ytjpacbedcocohaa", sum := "620103d75dff625c4f250be5dcb0f3f6de15f35b78cd78a503efae68f514dbff", func := "loop.example/confluence/laws.FnExactStoreJoin", spec := "fnExactStoreJoin", unfollowed := true, recurses := true, apart := false }
def FnExactStoreJoinSaid : Prop := fnExactStoreJoinRow.holds Try.pinned (OpenSpec.ofChange fnExactStoreJoinSpec)

/-- ITS FALSE NEIGHBOUR: 'it returns false'. Refute it at one input. -/
def fnExactStoreJoinWrong : ChangeSpec := { name := "fnExactStoreJoin", fn := fun _ => fun
  | [d1, d2] => { results := [.lit (.bool false)], args := [d1, d2] }
  | _ => none }
def FnExactStoreJoinWrongFalsely : Prop := fnExactStoreJoinRow.holds Try.pinned (OpenSpec.ofChange fnExactStoreJoinWrong)

/-- 'laws.FnExactStoreAdd': WHATEVER THE INPUT: true; the input reads as it did. -/
def fnExactStoreAddSpec : ChangeSpec := { name := "fnExactStoreAdd", fn := fun _ => fun
  | [d1, d2] => { results := [.lit (.bool true)], args := [d1, d2] }
  | _ => none }
def fnExactStoreAddRow : OpenClaim := { program := "ytjpacbedcocohaa", sum := "620103d75dff625c4f250be5dcb0f3f6de15f35b78cd78a503efae68f514dbff", func := "loop.example/confluence/laws.FnExactStoreAdd", spec := "fnExactStoreAdd", unfollowed := true, recurses := true, apart := false }
def FnExactStoreAddSaid : Prop := fnExactStoreAddRow.holds Try.pinned (OpenSpec.ofChange fnExactStoreAddSpec)

/-- ITS FALSE NEIGHBOUR: 'it returns false'. Refute it at one input. -/
def fnExactStoreAddWrong : ChangeSpec := { name := "fnExactStoreAdd", fn := fun _ => fun
  | [d1, d2] => { results := [.lit (.bool false)], args := [d1, d2] }
  | _ => none }
def FnExactStoreAddWrongFalsely : Prop := fnExactStoreAddRow.holds Try.pinned (OpenSpec.ofChange fnExactStoreAddWrong)

/- THE SECOND FORM. 'bulk': how many values and letters a reading holds, each counted each time it is reached (what is shared counts as often as it is met; a slice's spare places count too). A statement '..UptoSaid' is the law's where the arguments, and the package variables that the reading takes, are together of bulk at most 1048576: NARROWER than '..Said'. Prove '..Said' where nothing that the law and all that it calls make is longer than what came in: it says more and counts as full. Else prove '..UptoSaid'. A law counts once. -/
mutual
def uptoBulk {H : Type} : DataW H → Nat
  | .lit (.string bytes) => bytes.length + 1
  | .lit _ => 1
  | .nil => 1
  | .ptr d => uptoBulk d + 1
  | .slice elems spare => uptoBulkAll elems + uptoBulkAll spare + 1
  | .agg parts => uptoBulkAll parts + 1
  | .iface _ d => uptoBulk d + 1
  | .map entries => uptoBulkEntries entries + 1
  | .held _ => 1
def uptoBulkAll {H : Type} : List (DataW H) → Nat
  | [] => 0
  | d :: r => uptoBulk d + uptoBulkAll r
def uptoBulkEntries {H : Type} : List (Lit × DataW H) → Nat
  | [] => 0
  | x :: r => uptoBulkEntry x + uptoBulkEntries r
def uptoBulkEntry {H : Type} : Lit × DataW H → Nat
  | (.string bytes, d) => bytes.length + uptoBulk d + 1
  | (_, d) => uptoBulk d + 1
 end
def uptoSmall : (H : Type) → List (DataW H) → Bool := fun _ ds => decide (uptoBulkAll ds ≤ 1048576)
def OpenSpec.upto (s : _root_.Go.ChangeSpec) : _root_.Go.OpenSpec := { _root_.Go.OpenSpec.ofChange s with cond := some uptoSmall }

/-- 'laws.FnPastJoin', WHERE WHAT IT READS IS OF BULK AT MOST 1048576: true; the input reads as it did. -/
def fnPastJoinUptoRow : OpenClaim := { program := "ytjpacbedcocohaa", sum := "620103d75dff625c4f250be5dcb0f3f6de15f35b78cd78a503efae68f514dbff", func := "loop.example/confluence/laws.FnPastJoin", spec := "fnPastJoin", unfollowed := true, recurses := true, apart := false, narrowed := true }
def FnPastJoinUptoSaid : Prop := fnPastJoinUptoRow.holds Try.pinned (OpenSpec.upto fnPastJoinSpec)

/-- 'laws.FnPastWithin', WHERE WHAT IT READS IS OF BULK AT MOST 1048576: true; the input reads as it did. -/
def fnPastWithinUptoRow : OpenClaim := { program := "ytjpacbedcocohaa", sum := "620103d75dff625c4f250be5dcb0f3f6de15f35b78cd78a503efae68f514dbff", func := "loop.example/confluence/laws.FnPastWithin", spec := "fnPastWithin", unfollowed := true, recurses := true, apart := false, narrowed := true }
def FnPastWithinUptoSaid : Prop := fnPastWithinUptoRow.holds Try.pinned (OpenSpec.upto fnPastWithinSpec)

/-- 'laws.FnExactPastJoin', WHERE WHAT IT READS IS OF BULK AT MOST 1048576: true; the input reads as it did. -/
def fnExactPastJoinUptoRow : OpenClaim := { program := "ytjpacbedcocohaa", sum := "620103d75dff625c4f250be5dcb0f3f6de15f35b78cd78a503efae68f514dbff", func := "loop.example/confluence/laws.FnExactPastJoin", spec := "fnExactPastJoin", unfollowed := true, recurses := true, apart := false, narrowed := true }
def FnExactPastJoinUptoSaid : Prop := fnExactPastJoinUptoRow.holds Try.pinned (OpenSpec.upto fnExactPastJoinSpec)

/-- 'laws.FnExactStoreOk', WHERE WHAT IT READS IS OF BULK AT MOST 1048576: true; the input reads as it did. -/
def fnExactStoreOkUptoRow : OpenClaim := { program := "ytjpacbedcocohaa", sum := "620103d75dff625c4f250be5dcb0f3f6de15f35b78cd78a503efae68f514dbff", func := "loop.example/confluence/laws.FnExactStoreOk", spec := "fnExactStoreOk", unfollowed := true, recurses := true, apart := false, narrowed := true }
def FnExactStoreOkUptoSaid : Prop := fnExactStoreOkUptoRow.holds Try.pinned (OpenSpec.upto fnExactStoreOkSpec)

/-- 'laws.FnExactStoreClosed', WHERE WHAT IT READS IS OF BULK AT MOST 1048576: true; the input reads as it did. -/
def fnExactStoreClosedUptoRow : OpenClaim := { program := "ytjpacbedcocohaa", sum := "620103d75dff625c4f250be5dcb0f3f6de15f35b78cd78a503efae68f514dbff", func := "loop.example/confluence/laws.FnExactStoreClosed", spec := "fnExactStoreClosed", unfollowed := true, recurses := true, apart := false, narrowed := true }
def FnExactStoreClosedUptoSaid : Prop := fnExactStoreClosedUptoRow.holds Try.pinned (OpenSpec.upto fnExactStoreClosedSpec)

/-- 'laws.FnExactStoreTags', WHERE WHAT IT READS IS OF BULK AT MOST 1048576: true; the input reads as it did. -/
def fnExactStoreTagsUptoRow : OpenClaim := { program := "ytjpacbedcocohaa", sum := "620103d75dff625c4f250be5dcb0f3f6de15f35b78cd78a503efae68f514dbff", func := "loop.example/confluence/laws.FnExactStoreTags", spec := "fnExactStoreTags", unfollowed := true, recurses := true, apart := false, narrowed := true }
def FnExactStoreTagsUptoSaid : Prop := fnExactStoreTagsUptoRow.holds Try.pinned (OpenSpec.upto fnExactStoreTagsSpec)

/-- 'laws.FnStoreAdd', WHERE WHAT IT READS IS OF BULK AT MOST 1048576: true; the input reads as it did. -/
def fnStoreAddUptoRow : OpenClaim := { program := "ytjpacbedcocohaa", sum := "620103d75dff625c4f250be5dcb0f3f6de15f35b78cd78a503efae68f514dbff", func := "loop.example/confluence/laws.FnStoreAdd", spec := "fnStoreAdd", unfollowed := true, recurses := true, apart := false, narrowed := true }
def FnStoreAddUptoSaid : Prop := fnStoreAddUptoRow.holds Try.pinned (OpenSpec.upto fnStoreAddSpec)

/-- 'laws.FnStoreJoin', WHERE WHAT IT READS IS OF BULK AT MOST 1048576: true; the input reads as it did. -/
def fnStoreJoinUptoRow : OpenClaim := { program := "ytjpacbedcocohaa", sum := "620103d75dff625c4f250be5dcb0f3f6de15f35b78cd78a503efae68f514dbff", func := "loop.example/confluence/laws.FnStoreJoin", spec := "fnStoreJoin", unfollowed := true, recurses := true, apart := false, narrowed := true }
def FnStoreJoinUptoSaid : Prop := fnStoreJoinUptoRow.holds Try.pinned (OpenSpec.upto fnStoreJoinSpec)

/-- 'laws.FnExactStoreJoin', WHERE WHAT IT READS IS OF BULK AT MOST 1048576: true; the input reads as it did. -/
def fnExactStoreJoinUptoRow : OpenClaim := { program := "ytjpacbedcocohaa", sum := "620103d75dff625c4f250be5dcb0f3f6de15f35b78cd78a503efae68f514dbff", func := "loop.example/confluence/laws.FnExactStoreJoin", spec := "fnExactStoreJoin", unfollowed := true, recurses := true, apart := false, narrowed := true }
def FnExactStoreJoinUptoSaid : Prop := fnExactStoreJoinUptoRow.holds Try.pinned (OpenSpec.upto fnExactStoreJoinSpec)

/-- 'laws.FnExactStoreAdd', WHERE WHAT IT READS IS OF BULK AT MOST 1048576: true; the input reads as it did. -/
def fnExactStoreAddUptoRow : OpenClaim := { program := "ytjpacbedcocohaa", sum := "620103d75dff625c4f250be5dcb0f3f6de15f35b78cd78a503efae68f514dbff", func := "loop.example/confluence/laws.FnExactStoreAdd", spec := "fnExactStoreAdd", unfollowed := true, recurses := true, apart := false, narrowed := true }
def FnExactStoreAddUptoSaid : Prop := fnExactStoreAddUptoRow.holds Try.pinned (OpenSpec.upto fnExactStoreAddSpec)

end Rows
end Go.Proofs.Ytjpacbedcocohaa
