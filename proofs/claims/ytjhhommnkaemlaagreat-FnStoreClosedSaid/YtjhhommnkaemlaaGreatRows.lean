/-
  No cell of these rows narrows 'for every input' (looked for: loops, veiled, ifaces, maps, wideKeys, modest, calm, conditions, laid).
  DERIVED. THE GIVEN ROWS OF THIS SEAT. 5 by the template 'for every input the law returns true; each argument reads behind the call as it read before'; 0 by the template 'total and deterministic' (their statements: YtjhhommnkaemlaaGreatTotals.lean).
  GIVEN WITH THE SEED: the statements are not yours to turn. If you find one false, say at which input.
  Laid BY PROGRAM, IN A SANDBOX (cutbox-rows.mjs): the forced cells as the released guide's own fill.sh prints them over the translation 6b7060ce4c842f65… (all of the seat's roots in one cut). By AI agents, Wed Nov 11 2026. No macro, syntax, notation, axiom, sorry.
-/
import Derived.Test.YtjhhommnkaemlaaGreatChecked
import GoSem.Claim
import GoSem.ClaimJoined
import GoSem.ClaimMapViews
import Derived.JoinedTies
import Derived.KernelRfl
namespace Go.Proofs.YtjhhommnkaemlaaGreat
/- THE CELL 'sum', in the pinned program and in every row, IS THE sha256 OF THE DUMP (.gsa) THAT YtjhhommnkaemlaaGreatProg.lean LOADS. Nothing in Lean hashes anything: it is a label: what it is worth is what the hold of that sum in a sandbox is worth. -/
noncomputable def Tryz.pinned : Pinned := { name := "ytjhhommnkaemlaagreat", sum := "6b7060ce4c842f65c182ff05291b85bf4cac7db85b36cc46f7e9f9b1e9cd0965", checked := Tryz.checked }
namespace Rows
def none {H : Type} : Left H := { results := [], args := [] }

/-- 'laws.FnHist': WHATEVER THE INPUT: true; the input reads as it did. -/
def fnHistSpec : ChangeSpec := { name := "fnHist", fn := fun _ => fun
  | [d] => { results := [.lit (.bool true)], args := [d] }
  | _ => none }
def fnHistRow : OpenClaim := { program := "ytjhhommnkaemlaagreat", sum := "6b7060ce4c842f65c182ff05291b85bf4cac7db85b36cc46f7e9f9b1e9cd0965", func := "loop.example/confluence/laws.FnHist", spec := "fnHist", unfollowed := true, recurses := true, plainKeys := false, apart := false }
def FnHistSaid : Prop := fnHistRow.holds Tryz.pinned (OpenSpec.ofChange fnHistSpec)

/-- ITS FALSE NEIGHBOUR: 'it returns false'. Refute it at one input. -/
def fnHistWrong : ChangeSpec := { name := "fnHist", fn := fun _ => fun
  | [d] => { results := [.lit (.bool false)], args := [d] }
  | _ => none }
def FnHistWrongFalsely : Prop := fnHistRow.holds Tryz.pinned (OpenSpec.ofChange fnHistWrong)

/-- 'laws.FnHistApart': WHATEVER THE INPUT: true; the input reads as it did. -/
def fnHistApartSpec : ChangeSpec := { name := "fnHistApart", fn := fun _ => fun
  | [d] => { results := [.lit (.bool true)], args := [d] }
  | _ => none }
def fnHistApartRow : OpenClaim := { program := "ytjhhommnkaemlaagreat", sum := "6b7060ce4c842f65c182ff05291b85bf4cac7db85b36cc46f7e9f9b1e9cd0965", func := "loop.example/confluence/laws.FnHistApart", spec := "fnHistApart", unfollowed := true, recurses := true, plainKeys := false, apart := false }
def FnHistApartSaid : Prop := fnHistApartRow.holds Tryz.pinned (OpenSpec.ofChange fnHistApartSpec)

/-- ITS FALSE NEIGHBOUR: 'it returns false'. Refute it at one input. -/
def fnHistApartWrong : ChangeSpec := { name := "fnHistApart", fn := fun _ => fun
  | [d] => { results := [.lit (.bool false)], args := [d] }
  | _ => none }
def FnHistApartWrongFalsely : Prop := fnHistApartRow.holds Tryz.pinned (OpenSpec.ofChange fnHistApartWrong)

/-- 'laws.FnHistMore': WHATEVER THE INPUT: true; the input reads as it did. -/
def fnHistMoreSpec : ChangeSpec := { name := "fnHistMore", fn := fun _ => fun
  | [d] => { results := [.lit (.bool true)], args := [d] }
  | _ => none }
def fnHistMoreRow : OpenClaim := { program := "ytjhhommnkaemlaagreat", sum := "6b7060ce4c842f65c182ff05291b85bf4cac7db85b36cc46f7e9f9b1e9cd0965", func := "loop.example/confluence/laws.FnHistMore", spec := "fnHistMore", unfollowed := true, recurses := true, plainKeys := false, apart := false }
def FnHistMoreSaid : Prop := fnHistMoreRow.holds Tryz.pinned (OpenSpec.ofChange fnHistMoreSpec)

/-- ITS FALSE NEIGHBOUR: 'it returns false'. Refute it at one input. -/
def fnHistMoreWrong : ChangeSpec := { name := "fnHistMore", fn := fun _ => fun
  | [d] => { results := [.lit (.bool false)], args := [d] }
  | _ => none }
def FnHistMoreWrongFalsely : Prop := fnHistMoreRow.holds Tryz.pinned (OpenSpec.ofChange fnHistMoreWrong)

/-- 'laws.FnHistSees': WHATEVER THE INPUT: true; the input reads as it did. -/
def fnHistSeesSpec : ChangeSpec := { name := "fnHistSees", fn := fun _ => fun
  | [d1, d2] => { results := [.lit (.bool true)], args := [d1, d2] }
  | _ => none }
def fnHistSeesRow : OpenClaim := { program := "ytjhhommnkaemlaagreat", sum := "6b7060ce4c842f65c182ff05291b85bf4cac7db85b36cc46f7e9f9b1e9cd0965", func := "loop.example/confluence/laws.FnHistSees", spec := "fnHistSees", unfollowed := true, recurses := true, plainKeys := false, apart := false }
def FnHistSeesSaid : Prop := fnHistSeesRow.holds Tryz.pinned (OpenSpec.ofChange fnHistSeesSpec)

/-- ITS FALSE NEIGHBOUR: 'it returns false'. Refute it at one input. -/
def fnHistSeesWrong : ChangeSpec := { name := "fnHistSees", fn := fun _ => fun
  | [d1, d2] => { results := [.lit (.bool false)], args := [d1, d2] }
  | _ => none }
def FnHistSeesWrongFalsely : Prop := fnHistSeesRow.holds Tryz.pinned (OpenSpec.ofChange fnHistSeesWrong)

/-- 'laws.FnStoreClosed': WHATEVER THE INPUT: true; the input reads as it did. -/
def fnStoreClosedSpec : ChangeSpec := { name := "fnStoreClosed", fn := fun _ => fun
  | [d1, d2] => { results := [.lit (.bool true)], args := [d1, d2] }
  | _ => none }
def fnStoreClosedRow : OpenClaim := { program := "ytjhhommnkaemlaagreat", sum := "6b7060ce4c842f65c182ff05291b85bf4cac7db85b36cc46f7e9f9b1e9cd0965", func := "loop.example/confluence/laws.FnStoreClosed", spec := "fnStoreClosed", unfollowed := true, recurses := true, plainKeys := false, apart := false }
def FnStoreClosedSaid : Prop := fnStoreClosedRow.holds Tryz.pinned (OpenSpec.ofChange fnStoreClosedSpec)

/-- ITS FALSE NEIGHBOUR: 'it returns false'. Refute it at one input. -/
def fnStoreClosedWrong : ChangeSpec := { name := "fnStoreClosed", fn := fun _ => fun
  | [d1, d2] => { results := [.lit (.bool false)], args := [d1, d2] }
  | _ => none }
def FnStoreClosedWrongFalsely : Prop := fnStoreClosedRow.holds Tryz.pinned (OpenSpec.ofChange fnStoreClosedWrong)

/- THE SECOND FORM. 'bulk': how many values and letters a reading holds, each counted each time it is reached (what is shared counts as often as it is met; a slice's spare places count too). A statement '..UptoSaid' is the law's where the arguments, and the package variables that the reading takes, are together of bulk at most 1048576: NARROWER than '..Said'. Prove '..Said' where nothing that the law and all that it calls make is longer than what came in: it says more and counts as full. Else prove '..UptoSaid'. A law counts once. -/
mutual
def uptoBulk {H : Type} : DataW H → Nat
  | .lit (.string bytes) => bytes.length + 1
  | .lit _ => 1
  | .nil => 1
  | .ptr d => uptoBulk d + 1
  | .slice elems spare => uptoBulkAll elems + uptoBulkAll spare + 1
  | .agg parts => uptoBulkAll parts + 1
  | .iface _ d => uptoBulk d + 1
  | .map entries => uptoBulkEntries entries + 1
  | .held _ => 1
def uptoBulkAll {H : Type} : List (DataW H) → Nat
  | [] => 0
  | d :: r => uptoBulk d + uptoBulkAll r
def uptoBulkEntries {H : Type} : List (Lit × DataW H) → Nat
  | [] => 0
  | x :: r => uptoBulkEntry x + uptoBulkEntries r
def uptoBulkEntry {H : Type} : Lit × DataW H → Nat
  | (.string bytes, d) => bytes.length + uptoBulk d + 1
  | (_, d) => uptoBulk d + 1
 end
def uptoSmall : (H : Type) → List (DataW H) → Bool := fun _ ds => decide (uptoBulkAll ds ≤ 1048576)
def OpenSpec.upto (s : _root_.Go.ChangeSpec) : _root_.Go.OpenSpec := { _root_.Go.OpenSpec.ofChange s with cond := some uptoSmall }

/-- 'laws.FnHist', WHERE WHAT IT READS IS OF BULK AT MOST 1048576: true; the input reads as it did. -/
def fnHistUptoRow : OpenClaim := { program := "ytjhhommnkaemlaagreat", sum := "6b7060ce4c842f65c182ff05291b85bf4cac7db85b36cc46f7e9f9b1e9cd0965", func := "loop.example/confluence/laws.FnHist", spec := "fnHist", unfollowed := true, recurses := true, plainKeys := false, apart := false, narrowed := true }
def FnHistUptoSaid : Prop := fnHistUptoRow.holds Tryz.pinned (OpenSpec.upto fnHistSpec)

/-- 'laws.FnHistApart', WHERE WHAT IT READS IS OF BULK AT MOST 1048576: true; the input reads as it did. -/
def fnHistApartUptoRow : OpenClaim := { program := "ytjhhommnkaemlaagreat", sum := "6b7060ce4c842f65c182ff05291b85bf4cac7db85b36cc46f7e9f9b1e9cd0965", func := "loop.example/confluence/laws.FnHistApart", spec := "fnHistApart", unfollowed := true, recurses := true, plainKeys := false, apart := false, narrowed := true }
def FnHistApartUptoSaid : Prop := fnHistApartUptoRow.holds Tryz.pinned (OpenSpec.upto fnHistApartSpec)

/-- 'laws.FnHistMore', WHERE WHAT IT READS IS OF BULK AT MOST 1048576: true; the input reads as it did. -/
def fnHistMoreUptoRow : OpenClaim := { program := "ytjhhommnkaemlaagreat", sum := "6b7060ce4c842f65c182ff05291b85bf4cac7db85b36cc46f7e9f9b1e9cd0965", func := "loop.example/confluence/laws.FnHistMore", spec := "fnHistMore", unfollowed := true, recurses := true, plainKeys := false, apart := false, narrowed := true }
def FnHistMoreUptoSaid : Prop := fnHistMoreUptoRow.holds Tryz.pinned (OpenSpec.upto fnHistMoreSpec)

/-- 'laws.FnHistSees', WHERE WHAT IT READS IS OF BULK AT MOST 1048576: true; the input reads as it did. -/
def fnHistSeesUptoRow : OpenClaim := { program := "ytjhhommnkaemlaagreat", sum := "6b7060ce4c842f65c182ff05291b85bf4cac7db85b36cc46f7e9f9b1e9cd0965", func := "loop.example/confluence/laws.FnHistSees", spec := "fnHistSees", unfollowed := true, recurses := true, plainKeys := false, apart := false, narrowed := true }
def FnHistSeesUptoSaid : Prop := fnHistSeesUptoRow.holds Tryz.pinned (OpenSpec.upto fnHistSeesSpec)

/-- 'laws.FnStoreClosed', WHERE WHAT IT READS IS OF BULK AT MOST 1048576: true; the input reads as it did. -/
def fnStoreClosedUptoRow : OpenClaim := { program := "ytjhhommnkaemlaagreat", sum := "6b7060ce4c842f65c182ff05291b85bf4cac7db85b36cc46f7e9f9b1e9cd0965", func := "loop.example/confluence/laws.FnStoreClosed", spec := "fnStoreClosed", unfollowed := true, recurses := true, plainKeys := false, apart := false, narrowed := true }
def FnStoreClosedUptoSaid : Prop := fnStoreClosedUptoRow.holds Tryz.pinned (OpenSpec.upto fnStoreClosedSpec)

end Rows
end Go.Proofs.YtjhhommnkaemlaaGreat
