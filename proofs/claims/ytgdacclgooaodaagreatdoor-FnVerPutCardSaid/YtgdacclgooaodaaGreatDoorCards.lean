/-
  DERIVED. GIVEN WITH THE SEED: THE CARDS: each row of YtgdacclgooaodaaGreatDoorRows.lean that lists a variable, with what it lists TIED to the program's text (the seventh form; the later family's looks); each row that meets fmt, with fmt's text TOLD by the authors' own Lean function (tested against real Go, not proved from fmt's source: count such statements apart). THE CARD IS WHAT COUNTS. Prove the row's statement (the work); the ties are given (YtgdacclgooaodaaGreatDoorTie.lean); close each card by the builder's one call (the guide's Derived/Test/ToyasCard.lean, 'card_holds'). Laid BY PROGRAM, IN A SANDBOX (cutbox-door.mjs). By AI agents, Wed Nov 11 2026. No macro, syntax, notation, axiom, sorry.
-/
import Derived.Test.YtgdacclgooaodaaGreatDoorRows
import GoSem.ClaimSeven
namespace Go.Proofs.YtgdacclgooaodaaGreatDoor
namespace Rows

/-- THE TIED CARD OF 'laws.FnExactVerGet'. -/
def fnExactVerGetCard : Claim7 := { stood := { row := fnExactVerGetRow, standIns := [], harness := (true, "ba5e0c370a7bef3e5e058cd2ce91ed5224d78cf741138dd2f96d84193d7d5187"), looks := true }, kinds := [], alts := [], laidByText := true, laidKinds := [.data, .data, .data, .data, .sentinel, .sentinel, .pinned], laidTests := true, laidLooks := .later }
def FnExactVerGetCardSaid : Prop := Claim7.holds Tryz.pinned (.plain (OpenSpec.ofChange fnExactVerGetSpec)) fnExactVerGetCard

/-- THE TIED CARD OF 'laws.FnVerPut'. -/
def fnVerPutCard : Claim7 := { stood := { row := fnVerPutRow, standIns := [], harness := (true, "ba5e0c370a7bef3e5e058cd2ce91ed5224d78cf741138dd2f96d84193d7d5187"), looks := true }, kinds := [], alts := [], laidByText := true, laidKinds := [.data, .data, .data, .data, .sentinel, .sentinel, .pinned], laidTests := true, laidLooks := .later }
def FnVerPutCardSaid : Prop := Claim7.holds Tryz.pinned (.plain (OpenSpec.ofChange fnVerPutSpec)) fnVerPutCard

/-- THE TIED CARD OF 'laws.FnVerGet'. -/
def fnVerGetCard : Claim7 := { stood := { row := fnVerGetRow, standIns := [], harness := (true, "ba5e0c370a7bef3e5e058cd2ce91ed5224d78cf741138dd2f96d84193d7d5187"), looks := true }, kinds := [], alts := [], laidByText := true, laidKinds := [.data, .data, .data, .data, .sentinel, .sentinel, .pinned], laidTests := true, laidLooks := .later }
def FnVerGetCardSaid : Prop := Claim7.holds Tryz.pinned (.plain (OpenSpec.ofChange fnVerGetSpec)) fnVerGetCard

/-- THE SECOND FORM's CARD OF 'laws.FnExactVerGet'. -/
def fnExactVerGetUptoCard : Claim7 := { stood := { row := fnExactVerGetUptoRow, standIns := [], harness := (true, "ba5e0c370a7bef3e5e058cd2ce91ed5224d78cf741138dd2f96d84193d7d5187"), looks := true }, kinds := [], alts := [], laidByText := true, laidKinds := [.data, .data, .data, .data, .sentinel, .sentinel, .pinned], laidTests := true, laidLooks := .later }
def FnExactVerGetUptoCardSaid : Prop := Claim7.holds Tryz.pinned (.plain (OpenSpec.upto fnExactVerGetSpec)) fnExactVerGetUptoCard

/-- THE SECOND FORM's CARD OF 'laws.FnVerPut'. -/
def fnVerPutUptoCard : Claim7 := { stood := { row := fnVerPutUptoRow, standIns := [], harness := (true, "ba5e0c370a7bef3e5e058cd2ce91ed5224d78cf741138dd2f96d84193d7d5187"), looks := true }, kinds := [], alts := [], laidByText := true, laidKinds := [.data, .data, .data, .data, .sentinel, .sentinel, .pinned], laidTests := true, laidLooks := .later }
def FnVerPutUptoCardSaid : Prop := Claim7.holds Tryz.pinned (.plain (OpenSpec.upto fnVerPutSpec)) fnVerPutUptoCard

/-- THE SECOND FORM's CARD OF 'laws.FnVerGet'. -/
def fnVerGetUptoCard : Claim7 := { stood := { row := fnVerGetUptoRow, standIns := [], harness := (true, "ba5e0c370a7bef3e5e058cd2ce91ed5224d78cf741138dd2f96d84193d7d5187"), looks := true }, kinds := [], alts := [], laidByText := true, laidKinds := [.data, .data, .data, .data, .sentinel, .sentinel, .pinned], laidTests := true, laidLooks := .later }
def FnVerGetUptoCardSaid : Prop := Claim7.holds Tryz.pinned (.plain (OpenSpec.upto fnVerGetSpec)) fnVerGetUptoCard
end Rows
end Go.Proofs.YtgdacclgooaodaaGreatDoor
