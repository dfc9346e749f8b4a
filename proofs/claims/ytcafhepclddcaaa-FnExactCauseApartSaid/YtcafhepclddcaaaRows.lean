/-
  No cell of these rows narrows 'for every input' (looked for: loops, veiled, ifaces, maps, wideKeys, modest, calm, conditions, laid).
  DERIVED. THE GIVEN ROWS OF THIS SEAT. 9 by the template 'for every input the law returns true; each argument reads behind the call as it read before'; 0 by the template 'total and deterministic' (their statements: YtcafhepclddcaaaTotals.lean).
  GIVEN WITH THE SEED: the statements are not yours to turn. If you find one false, say at which input.
  Laid BY PROGRAM, IN A SANDBOX (cutbox-rows.mjs): the forced cells as the released guide's own fill.sh prints them over the translation ab7cd9bcb1a57bff… (all of the seat's roots in one cut). By AI agents, Wed Nov 11 2026. No macro, syntax, notation, axiom, sorry.
-/
import Derived.Test.YtcafhepclddcaaaChecked
import GoSem.Claim
import GoSem.ClaimJoined
import GoSem.ClaimMapViews
import Derived.JoinedTies
import Derived.KernelRfl
namespace Go.Proofs.Ytcafhepclddcaaa
/- THE CELL 'sum', in the pinned program and in every row, IS THE sha256 OF THE DUMP (.gsa) THAT YtcafhepclddcaaaProg.lean LOADS. Nothing in Lean hashes anything: it is a label: what it is worth is what the hold of that sum in a sandbox is worth. -/
noncomputable def Try.pinned : Pinned := { name := "ytcafhepclddcaaa", sum := "ab7cd9bcb1a57bff8e84f02bf4ef7df5fd5ab28145894e296d151eeeea5ecb27", checked := Try.checked }
namespace Rows
def none {H : Type} : Left H := { results := [], args := [] }

/-- 'laws.FnExactHistFar': WHATEVER THE INPUT: true; the input reads as it did. -/
def fnExactHistFarSpec : ChangeSpec := { name := "fnExactHistFar", fn := fun _ => fun
  | [d] => { results := [.lit (.bool true)], args := [d] }
  | _ => none }
def fnExactHistFarRow : OpenClaim := { program := "ytcafhepclddcaaa", sum := "ab7cd9bcb1a57bff8e84f02bf4ef7df5fd5ab28145894e296d151eeeea5ecb27", func := "loop.example/confluence/laws.FnExactHistFar", spec := "fnExactHistFar", unfollowed := true, recurses := true, plainKeys := false, apart := false }
def FnExactHistFarSaid : Prop := fnExactHistFarRow.holds Try.pinned (OpenSpec.ofChange fnExactHistFarSpec)

/-- ITS FALSE NEIGHBOUR: 'it returns false'. Refute it at one input. -/
def fnExactHistFarWrong : ChangeSpec := { name := "fnExactHistFar", fn := fun _ => fun
  | [d] => { results := [.lit (.bool false)], args := [d] }
  | _ => none }
def FnExactHistFarWrongFalsely : Prop := fnExactHistFarRow.holds Try.pinned (OpenSpec.ofChange fnExactHistFarWrong)

/-- 'laws.FnExactHistOk': WHATEVER THE INPUT: true; the input reads as it did. -/
def fnExactHistOkSpec : ChangeSpec := { name := "fnExactHistOk", fn := fun _ => fun
  | [d] => { results := [.lit (.bool true)], args := [d] }
  | _ => none }
def fnExactHistOkRow : OpenClaim := { program := "ytcafhepclddcaaa", sum := "ab7cd9bcb1a57bff8e84f02bf4ef7df5fd5ab28145894e296d151eeeea5ecb27", func := "loop.example/confluence/laws.FnExactHistOk", spec := "fnExactHistOk", unfollowed := true, recurses := true, plainKeys := false, apart := false }
def FnExactHistOkSaid : Prop := fnExactHistOkRow.holds Try.pinned (OpenSpec.ofChange fnExactHistOkSpec)

/-- ITS FALSE NEIGHBOUR: 'it returns false'. Refute it at one input. -/
def fnExactHistOkWrong : ChangeSpec := { name := "fnExactHistOk", fn := fun _ => fun
  | [d] => { results := [.lit (.bool false)], args := [d] }
  | _ => none }
def FnExactHistOkWrongFalsely : Prop := fnExactHistOkRow.holds Try.pinned (OpenSpec.ofChange fnExactHistOkWrong)

/-- 'laws.FnExactHistSees': WHATEVER THE INPUT: true; the input reads as it did. -/
def fnExactHistSeesSpec : ChangeSpec := { name := "fnExactHistSees", fn := fun _ => fun
  | [d1, d2] => { results := [.lit (.bool true)], args := [d1, d2] }
  | _ => none }
def fnExactHistSeesRow : OpenClaim := { program := "ytcafhepclddcaaa", sum := "ab7cd9bcb1a57bff8e84f02bf4ef7df5fd5ab28145894e296d151eeeea5ecb27", func := "loop.example/confluence/laws.FnExactHistSees", spec := "fnExactHistSees", unfollowed := true, recurses := true, plainKeys := false, apart := false }
def FnExactHistSeesSaid : Prop := fnExactHistSeesRow.holds Try.pinned (OpenSpec.ofChange fnExactHistSeesSpec)

/-- ITS FALSE NEIGHBOUR: 'it returns false'. Refute it at one input. -/
def fnExactHistSeesWrong : ChangeSpec := { name := "fnExactHistSees", fn := fun _ => fun
  | [d1, d2] => { results := [.lit (.bool false)], args := [d1, d2] }
  | _ => none }
def FnExactHistSeesWrongFalsely : Prop := fnExactHistSeesRow.holds Try.pinned (OpenSpec.ofChange fnExactHistSeesWrong)

/-- 'laws.FnExactCauseOf': WHATEVER THE INPUT: true; the input reads as it did. -/
def fnExactCauseOfSpec : ChangeSpec := { name := "fnExactCauseOf", fn := fun _ => fun
  | [d1, d2] => { results := [.lit (.bool true)], args := [d1, d2] }
  | _ => none }
def fnExactCauseOfRow : OpenClaim := { program := "ytcafhepclddcaaa", sum := "ab7cd9bcb1a57bff8e84f02bf4ef7df5fd5ab28145894e296d151eeeea5ecb27", func := "loop.example/confluence/laws.FnExactCauseOf", spec := "fnExactCauseOf", unfollowed := true, recurses := true, plainKeys := false, apart := false }
def FnExactCauseOfSaid : Prop := fnExactCauseOfRow.holds Try.pinned (OpenSpec.ofChange fnExactCauseOfSpec)

/-- ITS FALSE NEIGHBOUR: 'it returns false'. Refute it at one input. -/
def fnExactCauseOfWrong : ChangeSpec := { name := "fnExactCauseOf", fn := fun _ => fun
  | [d1, d2] => { results := [.lit (.bool false)], args := [d1, d2] }
  | _ => none }
def FnExactCauseOfWrongFalsely : Prop := fnExactCauseOfRow.holds Try.pinned (OpenSpec.ofChange fnExactCauseOfWrong)

/-- 'laws.FnExactCauseAll': WHATEVER THE INPUT: true; the input reads as it did. -/
def fnExactCauseAllSpec : ChangeSpec := { name := "fnExactCauseAll", fn := fun _ => fun
  | [d] => { results := [.lit (.bool true)], args := [d] }
  | _ => none }
def fnExactCauseAllRow : OpenClaim := { program := "ytcafhepclddcaaa", sum := "ab7cd9bcb1a57bff8e84f02bf4ef7df5fd5ab28145894e296d151eeeea5ecb27", func := "loop.example/confluence/laws.FnExactCauseAll", spec := "fnExactCauseAll", unfollowed := true, recurses := true, plainKeys := false, apart := false }
def FnExactCauseAllSaid : Prop := fnExactCauseAllRow.holds Try.pinned (OpenSpec.ofChange fnExactCauseAllSpec)

/-- ITS FALSE NEIGHBOUR: 'it returns false'. Refute it at one input. -/
def fnExactCauseAllWrong : ChangeSpec := { name := "fnExactCauseAll", fn := fun _ => fun
  | [d] => { results := [.lit (.bool false)], args := [d] }
  | _ => none }
def FnExactCauseAllWrongFalsely : Prop := fnExactCauseAllRow.holds Try.pinned (OpenSpec.ofChange fnExactCauseAllWrong)

/-- 'laws.FnExactCauseAhead': WHATEVER THE INPUT: true; the input reads as it did. -/
def fnExactCauseAheadSpec : ChangeSpec := { name := "fnExactCauseAhead", fn := fun _ => fun
  | [d1, d2, d3] => { results := [.lit (.bool true)], args := [d1, d2, d3] }
  | _ => none }
def fnExactCauseAheadRow : OpenClaim := { program := "ytcafhepclddcaaa", sum := "ab7cd9bcb1a57bff8e84f02bf4ef7df5fd5ab28145894e296d151eeeea5ecb27", func := "loop.example/confluence/laws.FnExactCauseAhead", spec := "fnExactCauseAhead", unfollowed := true, recurses := true, plainKeys := false, apart := false }
def FnExactCauseAheadSaid : Prop := fnExactCauseAheadRow.holds Try.pinned (OpenSpec.ofChange fnExactCauseAheadSpec)

/-- ITS FALSE NEIGHBOUR: 'it returns false'. Refute it at one input. -/
def fnExactCauseAheadWrong : ChangeSpec := { name := "fnExactCauseAhead", fn := fun _ => fun
  | [d1, d2, d3] => { results := [.lit (.bool false)], args := [d1, d2, d3] }
  | _ => none }
def FnExactCauseAheadWrongFalsely : Prop := fnExactCauseAheadRow.holds Try.pinned (OpenSpec.ofChange fnExactCauseAheadWrong)

/-- 'laws.FnExactCauseApart': WHATEVER THE INPUT: true; the input reads as it did. -/
def fnExactCauseApartSpec : ChangeSpec := { name := "fnExactCauseApart", fn := fun _ => fun
  | [d1, d2] => { results := [.lit (.bool true)], args := [d1, d2] }
  | _ => none }
def fnExactCauseApartRow : OpenClaim := { program := "ytcafhepclddcaaa", sum := "ab7cd9bcb1a57bff8e84f02bf4ef7df5fd5ab28145894e296d151eeeea5ecb27", func := "loop.example/confluence/laws.FnExactCauseApart", spec := "fnExactCauseApart", unfollowed := true, recurses := true, plainKeys := false, apart := false }
def FnExactCauseApartSaid : Prop := fnExactCauseApartRow.holds Try.pinned (OpenSpec.ofChange fnExactCauseApartSpec)

/-- ITS FALSE NEIGHBOUR: 'it returns false'. Refute it at one input. -/
def fnExactCauseApartWrong : ChangeSpec := { name := "fnExactCauseApart", fn := fun _ => fun
  | [d1, d2] => { results := [.lit (.bool false)], args := [d1, d2] }
  | _ => none }
def FnExactCauseApartWrongFalsely : Prop := fnExactCauseApartRow.holds Try.pinned (OpenSpec.ofChange fnExactCauseApartWrong)

/-- 'laws.FnExactRingAdd': WHATEVER THE INPUT: true; the input reads as it did. -/
def fnExactRingAddSpec : ChangeSpec := { name := "fnExactRingAdd", fn := fun _ => fun
  | [d1, d2] => { results := [.lit (.bool true)], args := [d1, d2] }
  | _ => none }
def fnExactRingAddRow : OpenClaim := { program := "ytcafhepclddcaaa", sum := "ab7cd9bcb1a57bff8e84f02bf4ef7df5fd5ab28145894e296d151eeeea5ecb27", func := "loop.example/confluence/laws.FnExactRingAdd", spec := "fnExactRingAdd", inPlace := ["slices.overlaps[string]"], plainKeys := false, apart := false }
def FnExactRingAddSaid : Prop := fnExactRingAddRow.holds Try.pinned (OpenSpec.ofChange fnExactRingAddSpec)

/-- ITS FALSE NEIGHBOUR: 'it returns false'. Refute it at one input. -/
def fnExactRingAddWrong : ChangeSpec := { name := "fnExactRingAdd", fn := fun _ => fun
  | [d1, d2] => { results := [.lit (.bool false)], args := [d1, d2] }
  | _ => none }
def FnExactRingAddWrongFalsely : Prop := fnExactRingAddRow.holds Try.pinned (OpenSpec.ofChange fnExactRingAddWrong)

/-- 'laws.FnExactRingDrop': WHATEVER THE INPUT: true; the input reads as it did. -/
def fnExactRingDropSpec : ChangeSpec := { name := "fnExactRingDrop", fn := fun _ => fun
  | [d1, d2] => { results := [.lit (.bool true)], args := [d1, d2] }
  | _ => none }
def fnExactRingDropRow : OpenClaim := { program := "ytcafhepclddcaaa", sum := "ab7cd9bcb1a57bff8e84f02bf4ef7df5fd5ab28145894e296d151eeeea5ecb27", func := "loop.example/confluence/laws.FnExactRingDrop", spec := "fnExactRingDrop", plainKeys := false, apart := false }
def FnExactRingDropSaid : Prop := fnExactRingDropRow.holds Try.pinned (OpenSpec.ofChange fnExactRingDropSpec)

/-- ITS FALSE NEIGHBOUR: 'it returns false'. Refute it at one input. -/
def fnExactRingDropWrong : ChangeSpec := { name := "fnExactRingDrop", fn := fun _ => fun
  | [d1, d2] => { results := [.lit (.bool false)], args := [d1, d2] }
  | _ => none }
def FnExactRingDropWrongFalsely : Prop := fnExactRingDropRow.holds Try.pinned (OpenSpec.ofChange fnExactRingDropWrong)

/- THE SECOND FORM. 'bulk': how many values and letters a reading holds, each counted each time it is reached (what is shared counts as often as it is met; a slice's spare places count too). A statement '..UptoSaid' is the law's where the arguments, and the package variables that the reading takes, are together of bulk at most 1048576: NARROWER than '..Said'. Prove '..Said' where nothing that the law and all that it calls make is longer than what came in: it says more and counts as full. Else prove '..UptoSaid'. A law counts once. -/
mutual
def uptoBulk {H : Type} : DataW H → Nat
  | .lit (.string bytes) => bytes.length + 1
  | .lit _ => 1
  | .nil => 1
  | .ptr d => uptoBulk d + 1
  | .slice elems spare => uptoBulkAll elems + uptoBulkAll spare + 1
  | .agg parts => uptoBulkAll parts + 1
  | .iface _ d => uptoBulk d + 1
  | .map entries => uptoBulkEntries entries + 1
  | .held _ => 1
def uptoBulkAll {H : Type} : List (DataW H) → Nat
  | [] => 0
  | d :: r => uptoBulk d + uptoBulkAll r
def uptoBulkEntries {H : Type} : List (Lit × DataW H) → Nat
  | [] => 0
  | x :: r => uptoBulkEntry x + uptoBulkEntries r
def uptoBulkEntry {H : Type} : Lit × DataW H → Nat
  | (.string bytes, d) => bytes.length + uptoBulk d + 1
  | (_, d) => uptoBulk d + 1
 end
def uptoSmall : (H : Type) → List (DataW H) → Bool := fun _ ds => decide (uptoBulkAll ds ≤ 1048576)
def OpenSpec.upto (s : _root_.Go.ChangeSpec) : _root_.Go.OpenSpec := { _root_.Go.OpenSpec.ofChange s with cond := some uptoSmall }

/-- 'laws.FnExactHistFar', WHERE WHAT IT READS IS OF BULK AT MOST 1048576: true; the input reads as it did. -/
def fnExactHistFarUptoRow : OpenClaim := { program := "ytcafhepclddcaaa", sum := "ab7cd9bcb1a57bff8e84f02bf4ef7df5fd5ab28145894e296d151eeeea5ecb27", func := "loop.example/confluence/laws.FnExactHistFar", spec := "fnExactHistFar", unfollowed := true, recurses := true, plainKeys := false, apart := false, narrowed := true }
def FnExactHistFarUptoSaid : Prop := fnExactHistFarUptoRow.holds Try.pinned (OpenSpec.upto fnExactHistFarSpec)

/-- 'laws.FnExactHistOk', WHERE WHAT IT READS IS OF BULK AT MOST 1048576: true; the input reads as it did. -/
def fnExactHistOkUptoRow : OpenClaim := { program := "ytcafhepclddcaaa", sum := "ab7cd9bcb1a57bff8e84f02bf4ef7df5fd5ab28145894e296d151eeeea5ecb27", func := "loop.example/confluence/laws.FnExactHistOk", spec := "fnExactHistOk", unfollowed := true, recurses := true, plainKeys := false, apart := false, narrowed := true }
def FnExactHistOkUptoSaid : Prop := fnExactHistOkUptoRow.holds Try.pinned (OpenSpec.upto fnExactHistOkSpec)

/-- 'laws.FnExactHistSees', WHERE WHAT IT READS IS OF BULK AT MOST 1048576: true; the input reads as it did. -/
def fnExactHistSeesUptoRow : OpenClaim := { program := "ytcafhepclddcaaa", sum := "ab7cd9bcb1a57bff8e84f02bf4ef7df5fd5ab28145894e296d151eeeea5ecb27", func := "loop.example/confluence/laws.FnExactHistSees", spec := "fnExactHistSees", unfollowed := true, recurses := true, plainKeys := false, apart := false, narrowed := true }
def FnExactHistSeesUptoSaid : Prop := fnExactHistSeesUptoRow.holds Try.pinned (OpenSpec.upto fnExactHistSeesSpec)

/-- 'laws.FnExactCauseOf', WHERE WHAT IT READS IS OF BULK AT MOST 1048576: true; the input reads as it did. -/
def fnExactCauseOfUptoRow : OpenClaim := { program := "ytcafhepclddcaaa", sum := "ab7cd9bcb1a57bff8e84f02bf4ef7df5fd5ab28145894e296d151eeeea5ecb27", func := "loop.example/confluence/laws.FnExactCauseOf", spec := "fnExactCauseOf", unfollowed := true, recurses := true, plainKeys := false, apart := false, narrowed := true }
def FnExactCauseOfUptoSaid : Prop := fnExactCauseOfUptoRow.holds Try.pinned (OpenSpec.upto fnExactCauseOfSpec)

/-- 'laws.FnExactCauseAll', WHERE WHAT IT READS IS OF BULK AT MOST 1048576: true; the input reads as it did. -/
def fnExactCauseAllUptoRow : OpenClaim := { program := "ytcafhepclddcaaa", sum := "ab7cd9bcb1a57bff8e84f02bf4ef7df5fd5ab28145894e296d151eeeea5ecb27", func := "loop.example/confluence/laws.FnExactCauseAll", spec := "fnExactCauseAll", unfollowed := true, recurses := true, plainKeys := false, apart := false, narrowed := true }
def FnExactCauseAllUptoSaid : Prop := fnExactCauseAllUptoRow.holds Try.pinned (OpenSpec.upto fnExactCauseAllSpec)

/-- 'laws.FnExactCauseAhead', WHERE WHAT IT READS IS OF BULK AT MOST 1048576: true; the input reads as it did. -/
def fnExactCauseAheadUptoRow : OpenClaim := { program := "ytcafhepclddcaaa", sum := "ab7cd9bcb1a57bff8e84f02bf4ef7df5fd5ab28145894e296d151eeeea5ecb27", func := "loop.example/confluence/laws.FnExactCauseAhead", spec := "fnExactCauseAhead", unfollowed := true, recurses := true, plainKeys := false, apart := false, narrowed := true }
def FnExactCauseAheadUptoSaid : Prop := fnExactCauseAheadUptoRow.holds Try.pinned (OpenSpec.upto fnExactCauseAheadSpec)

/-- 'laws.FnExactCauseApart', WHERE WHAT IT READS IS OF BULK AT MOST 1048576: true; the input reads as it did. -/
def fnExactCauseApartUptoRow : OpenClaim := { program := "ytcafhepclddcaaa", sum := "ab7cd9bcb1a57bff8e84f02bf4ef7df5fd5ab28145894e296d151eeeea5ecb27", func := "loop.example/confluence/laws.FnExactCauseApart", spec := "fnExactCauseApart", unfollowed := true, recurses := true, plainKeys := false, apart := false, narrowed := true }
def FnExactCauseApartUptoSaid : Prop := fnExactCauseApartUptoRow.holds Try.pinned (OpenSpec.upto fnExactCauseApartSpec)

/-- 'laws.FnExactRingAdd', WHERE WHAT IT READS IS OF BULK AT MOST 1048576: true; the input reads as it did. -/
def fnExactRingAddUptoRow : OpenClaim := { program := "ytcafhepclddcaaa", sum := "ab7cd9bcb1a57bff8e84f02bf4ef7df5fd5ab28145894e296d151eeeea5ecb27", func := "loop.example/confluence/laws.FnExactRingAdd", spec := "fnExactRingAdd", inPlace := ["slices.overlaps[string]"], plainKeys := false, apart := false, narrowed := true }
def FnExactRingAddUptoSaid : Prop := fnExactRingAddUptoRow.holds Try.pinned (OpenSpec.upto fnExactRingAddSpec)

/-- 'laws.FnExactRingDrop', WHERE WHAT IT READS IS OF BULK AT MOST 1048576: true; the input reads as it did. -/
def fnExactRingDropUptoRow : OpenClaim := { program := "ytcafhepclddcaaa", sum := "ab7cd9bcb1a57bff8e84f02bf4ef7df5fd5ab28145894e296d151eeeea5ecb27", func := "loop.example/confluence/laws.FnExactRingDrop", spec := "fnExactRingDrop", plainKeys := false, apart := false, narrowed := true }
def FnExactRingDropUptoSaid : Prop := fnExactRingDropUptoRow.holds Try.pinned (OpenSpec.upto fnExactRingDropSpec)

end Rows
end Go.Proofs.Ytcafhepclddcaaa
