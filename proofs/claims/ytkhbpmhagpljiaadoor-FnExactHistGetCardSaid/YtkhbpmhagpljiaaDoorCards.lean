/-
  DERIVED. GIVEN WITH THE SEED: THE CARDS: each row of YtkhbpmhagpljiaaDoorRows.lean that lists a variable, with what it lists TIED to the program's text (the seventh form; the later family's looks); each row that meets fmt, with fmt's text TOLD by the authors' own Lean function (tested against real Go, not proved from fmt's source: count such statements apart). THE CARD IS WHAT COUNTS. Prove the row's statement (the work); the ties are given (YtkhbpmhagpljiaaDoorTie.lean); close each card by the builder's one call (the guide's Derived/Test/ToyasCard.lean, 'card_holds'). Laid BY PROGRAM, IN A SANDBOX (cutbox-door.mjs). By AI agents, Wed Nov 11 2026. No macro, syntax, notation, axiom, sorry.
-/
import Derived.Test.YtkhbpmhagpljiaaDoorRows
import GoSem.ClaimSeven
namespace Go.Proofs.YtkhbpmhagpljiaaDoor
namespace Rows

/-- THE TIED CARD OF 'laws.FnExactHistPut'. -/
def fnExactHistPutCard : Claim7 := { stood := { row := fnExactHistPutRow, standIns := [], harness := (true, "eefe6a46f03bf6f71448309931536aeac577d329be589ef31cb10b0279ce6384"), looks := true }, kinds := [], alts := [], laidByText := true, laidKinds := [.data, .data, .data], laidTests := true, laidLooks := .later }
def FnExactHistPutCardSaid : Prop := Claim7.holds Tryd.pinned (.plain (OpenSpec.ofChange fnExactHistPutSpec)) fnExactHistPutCard

/-- THE TIED CARD OF 'laws.FnExactHistGet'. -/
def fnExactHistGetCard : Claim7 := { stood := { row := fnExactHistGetRow, standIns := [], harness := (true, "eefe6a46f03bf6f71448309931536aeac577d329be589ef31cb10b0279ce6384"), looks := true }, kinds := [], alts := [], laidByText := true, laidKinds := [.data, .data, .data, .data, .sentinel, .sentinel, .pinned], laidTests := true, laidLooks := .later }
def FnExactHistGetCardSaid : Prop := Claim7.holds Tryd.pinned (.plain (OpenSpec.ofChange fnExactHistGetSpec)) fnExactHistGetCard

/-- THE SECOND FORM's CARD OF 'laws.FnExactHistPut'. -/
def fnExactHistPutUptoCard : Claim7 := { stood := { row := fnExactHistPutUptoRow, standIns := [], harness := (true, "eefe6a46f03bf6f71448309931536aeac577d329be589ef31cb10b0279ce6384"), looks := true }, kinds := [], alts := [], laidByText := true, laidKinds := [.data, .data, .data], laidTests := true, laidLooks := .later }
def FnExactHistPutUptoCardSaid : Prop := Claim7.holds Tryd.pinned (.plain (OpenSpec.upto fnExactHistPutSpec)) fnExactHistPutUptoCard

/-- THE SECOND FORM's CARD OF 'laws.FnExactHistGet'. -/
def fnExactHistGetUptoCard : Claim7 := { stood := { row := fnExactHistGetUptoRow, standIns := [], harness := (true, "eefe6a46f03bf6f71448309931536aeac577d329be589ef31cb10b0279ce6384"), looks := true }, kinds := [], alts := [], laidByText := true, laidKinds := [.data, .data, .data, .data, .sentinel, .sentinel, .pinned], laidTests := true, laidLooks := .later }
def FnExactHistGetUptoCardSaid : Prop := Claim7.holds Tryd.pinned (.plain (OpenSpec.upto fnExactHistGetSpec)) fnExactHistGetUptoCard
end Rows
end Go.Proofs.YtkhbpmhagpljiaaDoor
