/-
  DERIVED. GIVEN WITH THE SEED: THE CARDS: each row of YtgdacclgooaodaaDoorRows.lean that lists a variable, with what it lists TIED to the program's text (the seventh form; the later family's looks); each row that meets fmt, with fmt's text TOLD by the authors' own Lean function (tested against real Go, not proved from fmt's source: count such statements apart). THE CARD IS WHAT COUNTS. Prove the row's statement (the work); the ties are given (YtgdacclgooaodaaDoorTie.lean); close each card by the builder's one call (the guide's Derived/Test/ToyasCard.lean, 'card_holds'). Laid BY PROGRAM, IN A SANDBOX (cutbox-door.mjs). By AI agents, Wed Nov 11 2026. No macro, syntax, notation, axiom, sorry.
-/
import Derived.Test.YtgdacclgooaodaaDoorRows
import GoSem.ClaimSeven
namespace Go.Proofs.YtgdacclgooaodaaDoor
namespace Rows

/-- THE TIED CARD OF 'laws.FnExactVerPut'. -/
def fnExactVerPutCard : Claim7 := { stood := { row := fnExactVerPutRow, standIns := [], harness := (true, "12a6ddcf95b154e94f3fcd530bd39707c6f0fc16a404e597da88614befcf505e"), looks := false }, kinds := [], alts := [], laidByText := true, laidKinds := [.data, .data, .data], laidTests := true, laidLooks := .later }
def FnExactVerPutCardSaid : Prop := Claim7.holds Tryd.pinned (.plain (OpenSpec.ofChange fnExactVerPutSpec)) fnExactVerPutCard

/-- THE SECOND FORM's CARD OF 'laws.FnExactVerPut'. -/
def fnExactVerPutUptoCard : Claim7 := { stood := { row := fnExactVerPutUptoRow, standIns := [], harness := (true, "12a6ddcf95b154e94f3fcd530bd39707c6f0fc16a404e597da88614befcf505e"), looks := false }, kinds := [], alts := [], laidByText := true, laidKinds := [.data, .data, .data], laidTests := true, laidLooks := .later }
def FnExactVerPutUptoCardSaid : Prop := Claim7.holds Tryd.pinned (.plain (OpenSpec.upto fnExactVerPutSpec)) fnExactVerPutUptoCard
end Rows
end Go.Proofs.YtgdacclgooaodaaDoor
