/-
  DERIVED. GIVEN WITH THE SEED: THE CARDS: each row of YtdkonnnmkceagaaGreatDoorRows.lean that lists a variable, with what it lists TIED to the program's text (the seventh form; the later family's looks); each row that meets fmt, with fmt's text TOLD by the authors' own Lean function (tested against real Go, not proved from fmt's source: count such statements apart). THE CARD IS WHAT COUNTS. Prove the row's statement (the work); the ties are given (YtdkonnnmkceagaaGreatDoorTie.lean); close each card by the builder's one call (the guide's Derived/Test/ToyasCard.lean, 'card_holds'). Laid BY PROGRAM, IN A SANDBOX (cutbox-door.mjs). By AI agents, Wed Nov 11 2026. No macro, syntax, notation, axiom, sorry.
-/
import Derived.Test.YtdkonnnmkceagaaGreatDoorRows
import GoSem.ClaimSeven
namespace Go.Proofs.YtdkonnnmkceagaaGreatDoor
namespace Rows

/-- THE TIED CARD OF 'putlogtop.TopForecasts'. -/
def topForecastsCard : Claim7 := { stood := { row := topForecastsRow, standIns := [], harness := (true, "71430d61fa2991085ae7b1e5be6a92410f6a18df3f84a6d984bd33a6f1c05c9b"), looks := true }, kinds := [], alts := [], laidByText := true, laidKinds := [.data, .data, .data, .data, .sentinel, .sentinel, .pinned], laidTests := true, laidLooks := .later }
def TopForecastsCardSaid : Prop := Claim7.holds Tryz.pinned (.plain (OpenSpec.ofChange topForecastsSpec)) topForecastsCard

/-- THE SECOND FORM's CARD OF 'putlogtop.TopForecasts'. -/
def topForecastsUptoCard : Claim7 := { stood := { row := topForecastsUptoRow, standIns := [], harness := (true, "71430d61fa2991085ae7b1e5be6a92410f6a18df3f84a6d984bd33a6f1c05c9b"), looks := true }, kinds := [], alts := [], laidByText := true, laidKinds := [.data, .data, .data, .data, .sentinel, .sentinel, .pinned], laidTests := true, laidLooks := .later }
def TopForecastsUptoCardSaid : Prop := Claim7.holds Tryz.pinned (.plain (OpenSpec.upto topForecastsSpec)) topForecastsUptoCard
end Rows
end Go.Proofs.YtdkonnnmkceagaaGreatDoor
