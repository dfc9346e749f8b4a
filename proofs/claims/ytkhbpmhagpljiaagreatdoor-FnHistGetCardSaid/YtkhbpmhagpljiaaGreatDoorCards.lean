/-
  DERIVED. GIVEN WITH THE SEED: THE CARDS: each row of YtkhbpmhagpljiaaGreatDoorRows.lean that lists a variable, with what it lists TIED to the program's text (the seventh form; the later family's looks); each row that meets fmt, with fmt's text TOLD by the authors' own Lean function (tested against real Go, not proved from fmt's source: count such statements apart). THE CARD IS WHAT COUNTS. Prove the row's statement (the work); the ties are given (YtkhbpmhagpljiaaGreatDoorTie.lean); close each card by the builder's one call (the guide's Derived/Test/ToyasCard.lean, 'card_holds'). Laid BY PROGRAM, IN A SANDBOX (cutbox-door.mjs). By AI agents, Wed Nov 11 2026. No macro, syntax, notation, axiom, sorry.
-/
import Derived.Test.YtkhbpmhagpljiaaGreatDoorRows
import GoSem.ClaimSeven
namespace Go.Proofs.YtkhbpmhagpljiaaGreatDoor
namespace Rows

/-- THE TIED CARD OF 'laws.FnHistPut'. -/
def fnHistPutCard : Claim7 := { stood := { row := fnHistPutRow, standIns := [], harness := (true, "38169865d83e0b9cb5242a5cfd059eca3d1e6634404b724908b4e2b3f89c0f95"), looks := true }, kinds := [], alts := [], laidByText := true, laidKinds := [.data, .data, .data, .data, .sentinel, .sentinel, .pinned], laidTests := true, laidLooks := .later }
def FnHistPutCardSaid : Prop := Claim7.holds Tryz.pinned (.plain (OpenSpec.ofChange fnHistPutSpec)) fnHistPutCard

/-- THE TIED CARD OF 'laws.FnHistGet'. -/
def fnHistGetCard : Claim7 := { stood := { row := fnHistGetRow, standIns := [], harness := (true, "38169865d83e0b9cb5242a5cfd059eca3d1e6634404b724908b4e2b3f89c0f95"), looks := true }, kinds := [], alts := [], laidByText := true, laidKinds := [.data, .data, .data, .data, .sentinel, .sentinel, .pinned], laidTests := true, laidLooks := .later }
def FnHistGetCardSaid : Prop := Claim7.holds Tryz.pinned (.plain (OpenSpec.ofChange fnHistGetSpec)) fnHistGetCard

/-- THE SECOND FORM's CARD OF 'laws.FnHistPut'. -/
def fnHistPutUptoCard : Claim7 := { stood := { row := fnHistPutUptoRow, standIns := [], harness := (true, "38169865d83e0b9cb5242a5cfd059eca3d1e6634404b724908b4e2b3f89c0f95"), looks := true }, kinds := [], alts := [], laidByText := true, laidKinds := [.data, .data, .data, .data, .sentinel, .sentinel, .pinned], laidTests := true, laidLooks := .later }
def FnHistPutUptoCardSaid : Prop := Claim7.holds Tryz.pinned (.plain (OpenSpec.upto fnHistPutSpec)) fnHistPutUptoCard

/-- THE SECOND FORM's CARD OF 'laws.FnHistGet'. -/
def fnHistGetUptoCard : Claim7 := { stood := { row := fnHistGetUptoRow, standIns := [], harness := (true, "38169865d83e0b9cb5242a5cfd059eca3d1e6634404b724908b4e2b3f89c0f95"), looks := true }, kinds := [], alts := [], laidByText := true, laidKinds := [.data, .data, .data, .data, .sentinel, .sentinel, .pinned], laidTests := true, laidLooks := .later }
def FnHistGetUptoCardSaid : Prop := Claim7.holds Tryz.pinned (.plain (OpenSpec.upto fnHistGetSpec)) fnHistGetUptoCard
end Rows
end Go.Proofs.YtkhbpmhagpljiaaGreatDoor
