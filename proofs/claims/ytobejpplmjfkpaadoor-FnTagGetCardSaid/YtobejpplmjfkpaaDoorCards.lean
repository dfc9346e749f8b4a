/-
  DERIVED. GIVEN WITH THE SEED: THE CARDS: each row of YtobejpplmjfkpaaDoorRows.lean that lists a variable, with what it lists TIED to the program's text (the seventh form; the later family's looks); each row that meets fmt, with fmt's text TOLD by the authors' own Lean function (tested against real Go, not proved from fmt's source: count such statements apart). THE CARD IS WHAT COUNTS. Prove the row's statement (the work); the ties are given (YtobejpplmjfkpaaDoorTie.lean); close each card by the builder's one call (the guide's Derived/Test/ToyasCard.lean, 'card_holds'). Laid BY PROGRAM, IN A SANDBOX (cutbox-door.mjs). By AI agents, Wed Nov 11 2026. No macro, syntax, notation, axiom, sorry.
-/
import Derived.Test.YtobejpplmjfkpaaDoorRows
import GoSem.ClaimSeven
namespace Go.Proofs.YtobejpplmjfkpaaDoor
namespace Rows

/-- THE TIED CARD OF 'laws.FnExactTagPut'. -/
def fnExactTagPutCard : Claim7 := { stood := { row := fnExactTagPutRow, standIns := [], harness := (true, "e8fbb15ef134ce0df35f3eb4bf474c94451ef49e5d1b286e839de7f07e1ee733"), looks := true }, kinds := [], alts := [], laidByText := true, laidKinds := [.data, .data, .data], laidTests := true, laidLooks := .later }
def FnExactTagPutCardSaid : Prop := Claim7.holds Tryd.pinned (.plain (OpenSpec.ofChange fnExactTagPutSpec)) fnExactTagPutCard

/-- THE TIED CARD OF 'laws.FnExactTagGet'. -/
def fnExactTagGetCard : Claim7 := { stood := { row := fnExactTagGetRow, standIns := [], harness := (true, "e8fbb15ef134ce0df35f3eb4bf474c94451ef49e5d1b286e839de7f07e1ee733"), looks := true }, kinds := [], alts := [], laidByText := true, laidKinds := [.data, .data, .data, .sentinel, .sentinel], laidTests := true, laidLooks := .later }
def FnExactTagGetCardSaid : Prop := Claim7.holds Tryd.pinned (.plain (OpenSpec.ofChange fnExactTagGetSpec)) fnExactTagGetCard

/-- THE TIED CARD OF 'laws.FnTagPut'. -/
def fnTagPutCard : Claim7 := { stood := { row := fnTagPutRow, standIns := [], harness := (true, "e8fbb15ef134ce0df35f3eb4bf474c94451ef49e5d1b286e839de7f07e1ee733"), looks := true }, kinds := [], alts := [], laidByText := true, laidKinds := [.data, .data, .data, .sentinel, .sentinel], laidTests := true, laidLooks := .later }
def FnTagPutCardSaid : Prop := Claim7.holds Tryd.pinned (.plain (OpenSpec.ofChange fnTagPutSpec)) fnTagPutCard

/-- THE TIED CARD OF 'laws.FnTagGet'. -/
def fnTagGetCard : Claim7 := { stood := { row := fnTagGetRow, standIns := [], harness := (true, "e8fbb15ef134ce0df35f3eb4bf474c94451ef49e5d1b286e839de7f07e1ee733"), looks := true }, kinds := [], alts := [], laidByText := true, laidKinds := [.data, .data, .data, .sentinel, .sentinel], laidTests := true, laidLooks := .later }
def FnTagGetCardSaid : Prop := Claim7.holds Tryd.pinned (.plain (OpenSpec.ofChange fnTagGetSpec)) fnTagGetCard

/-- THE SECOND FORM's CARD OF 'laws.FnExactTagPut'. -/
def fnExactTagPutUptoCard : Claim7 := { stood := { row := fnExactTagPutUptoRow, standIns := [], harness := (true, "e8fbb15ef134ce0df35f3eb4bf474c94451ef49e5d1b286e839de7f07e1ee733"), looks := true }, kinds := [], alts := [], laidByText := true, laidKinds := [.data, .data, .data], laidTests := true, laidLooks := .later }
def FnExactTagPutUptoCardSaid : Prop := Claim7.holds Tryd.pinned (.plain (OpenSpec.upto fnExactTagPutSpec)) fnExactTagPutUptoCard

/-- THE SECOND FORM's CARD OF 'laws.FnExactTagGet'. -/
def fnExactTagGetUptoCard : Claim7 := { stood := { row := fnExactTagGetUptoRow, standIns := [], harness := (true, "e8fbb15ef134ce0df35f3eb4bf474c94451ef49e5d1b286e839de7f07e1ee733"), looks := true }, kinds := [], alts := [], laidByText := true, laidKinds := [.data, .data, .data, .sentinel, .sentinel], laidTests := true, laidLooks := .later }
def FnExactTagGetUptoCardSaid : Prop := Claim7.holds Tryd.pinned (.plain (OpenSpec.upto fnExactTagGetSpec)) fnExactTagGetUptoCard

/-- THE SECOND FORM's CARD OF 'laws.FnTagPut'. -/
def fnTagPutUptoCard : Claim7 := { stood := { row := fnTagPutUptoRow, standIns := [], harness := (true, "e8fbb15ef134ce0df35f3eb4bf474c94451ef49e5d1b286e839de7f07e1ee733"), looks := true }, kinds := [], alts := [], laidByText := true, laidKinds := [.data, .data, .data, .sentinel, .sentinel], laidTests := true, laidLooks := .later }
def FnTagPutUptoCardSaid : Prop := Claim7.holds Tryd.pinned (.plain (OpenSpec.upto fnTagPutSpec)) fnTagPutUptoCard

/-- THE SECOND FORM's CARD OF 'laws.FnTagGet'. -/
def fnTagGetUptoCard : Claim7 := { stood := { row := fnTagGetUptoRow, standIns := [], harness := (true, "e8fbb15ef134ce0df35f3eb4bf474c94451ef49e5d1b286e839de7f07e1ee733"), looks := true }, kinds := [], alts := [], laidByText := true, laidKinds := [.data, .data, .data, .sentinel, .sentinel], laidTests := true, laidLooks := .later }
def FnTagGetUptoCardSaid : Prop := Claim7.holds Tryd.pinned (.plain (OpenSpec.upto fnTagGetSpec)) fnTagGetUptoCard
end Rows
end Go.Proofs.YtobejpplmjfkpaaDoor
