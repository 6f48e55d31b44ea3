/-
  DERIVED. GIVEN WITH THE SEED: THE CARDS: each row of YtcmomjnailihpaaGreatDoorRows.lean that lists a variable, with what it lists TIED to the program's text (the seventh form; the later family's looks); each row that meets fmt, with fmt's text TOLD by the authors' own Lean function (tested against real Go, not proved from fmt's source: count such statements apart). THE CARD IS WHAT COUNTS. Prove the row's statement (the work); the ties are given (YtcmomjnailihpaaGreatDoorTie.lean); close each card by the builder's one call (the guide's Derived/Test/ToyasCard.lean, 'card_holds'). Laid BY PROGRAM, IN A SANDBOX (cutbox-door.mjs). By AI agents, Wed Nov 11 2026. No macro, syntax, notation, axiom, sorry.
-/
import Derived.Test.YtcmomjnailihpaaGreatDoorRows
import GoSem.ClaimSeven
namespace Go.Proofs.YtcmomjnailihpaaGreatDoor
namespace Rows

/-- THE TIED CARD OF 'putloglaw06.LinearMatchesReference'. -/
def linearMatchesReferenceCard : Claim7 := { stood := { row := linearMatchesReferenceRow, standIns := [], harness := (true, "9073599f2a3b8ca571d8cb1cfd7a38e582bc95d09afe03ae2054738d8d94594e"), looks := true }, kinds := [], alts := [], laidByText := true, laidKinds := [.data, .data, .data, .data, .sentinel, .sentinel, .pinned], laidTests := true, laidLooks := .later }
def LinearMatchesReferenceCardSaid : Prop := Claim7.holds Tryz.pinned (.plain (OpenSpec.ofChange linearMatchesReferenceSpec)) linearMatchesReferenceCard

/-- THE TIED CARD OF 'putloglaw06.LinearSolves'. -/
def linearSolvesCard : Claim7 := { stood := { row := linearSolvesRow, standIns := [], harness := (true, "9073599f2a3b8ca571d8cb1cfd7a38e582bc95d09afe03ae2054738d8d94594e"), looks := true }, kinds := [], alts := [], laidByText := true, laidKinds := [.data, .data, .data, .data, .sentinel, .sentinel, .pinned], laidTests := true, laidLooks := .later }
def LinearSolvesCardSaid : Prop := Claim7.holds Tryz.pinned (.plain (OpenSpec.ofChange linearSolvesSpec)) linearSolvesCard

/-- THE TIED CARD OF 'putloglaw06.LinearExcludes'. -/
def linearExcludesCard : Claim7 := { stood := { row := linearExcludesRow, standIns := [], harness := (true, "9073599f2a3b8ca571d8cb1cfd7a38e582bc95d09afe03ae2054738d8d94594e"), looks := true }, kinds := [], alts := [], laidByText := true, laidKinds := [.data, .data, .data, .data, .sentinel, .sentinel, .pinned], laidTests := true, laidLooks := .later }
def LinearExcludesCardSaid : Prop := Claim7.holds Tryz.pinned (.plain (OpenSpec.ofChange linearExcludesSpec)) linearExcludesCard

/-- THE TIED CARD OF 'putloglaw06.LinearEquations'. -/
def linearEquationsCard : Claim7 := { stood := { row := linearEquationsRow, standIns := [], harness := (true, "9073599f2a3b8ca571d8cb1cfd7a38e582bc95d09afe03ae2054738d8d94594e"), looks := true }, kinds := [], alts := [], laidByText := true, laidKinds := [.data, .data, .data, .data, .sentinel, .sentinel, .pinned], laidTests := true, laidLooks := .later }
def LinearEquationsCardSaid : Prop := Claim7.holds Tryz.pinned (.plain (OpenSpec.ofChange linearEquationsSpec)) linearEquationsCard

/-- THE TIED CARD OF 'putloglaw06.LinearOrders'. -/
def linearOrdersCard : Claim7 := { stood := { row := linearOrdersRow, standIns := [], harness := (true, "9073599f2a3b8ca571d8cb1cfd7a38e582bc95d09afe03ae2054738d8d94594e"), looks := true }, kinds := [], alts := [], laidByText := true, laidKinds := [.data, .data, .data, .data, .sentinel, .sentinel, .pinned], laidTests := true, laidLooks := .later }
def LinearOrdersCardSaid : Prop := Claim7.holds Tryz.pinned (.plain (OpenSpec.ofChange linearOrdersSpec)) linearOrdersCard

/-- THE TIED CARD OF 'putloglaw06.LinearMore'. -/
def linearMoreCard : Claim7 := { stood := { row := linearMoreRow, standIns := [], harness := (true, "9073599f2a3b8ca571d8cb1cfd7a38e582bc95d09afe03ae2054738d8d94594e"), looks := true }, kinds := [], alts := [], laidByText := true, laidKinds := [.data, .data, .data, .data, .sentinel, .sentinel, .pinned], laidTests := true, laidLooks := .later }
def LinearMoreCardSaid : Prop := Claim7.holds Tryz.pinned (.plain (OpenSpec.ofChange linearMoreSpec)) linearMoreCard

/-- THE SECOND FORM's CARD OF 'putloglaw06.LinearMatchesReference'. -/
def linearMatchesReferenceUptoCard : Claim7 := { stood := { row := linearMatchesReferenceUptoRow, standIns := [], harness := (true, "9073599f2a3b8ca571d8cb1cfd7a38e582bc95d09afe03ae2054738d8d94594e"), looks := true }, kinds := [], alts := [], laidByText := true, laidKinds := [.data, .data, .data, .data, .sentinel, .sentinel, .pinned], laidTests := true, laidLooks := .later }
def LinearMatchesReferenceUptoCardSaid : Prop := Claim7.holds Tryz.pinned (.plain (OpenSpec.upto linearMatchesReferenceSpec)) linearMatchesReferenceUptoCard

/-- THE SECOND FORM's CARD OF 'putloglaw06.LinearSolves'. -/
def linearSolvesUptoCard : Claim7 := { stood := { row := linearSolvesUptoRow, standIns := [], harness := (true, "9073599f2a3b8ca571d8cb1cfd7a38e582bc95d09afe03ae2054738d8d94594e"), looks := true }, kinds := [], alts := [], laidByText := true, laidKinds := [.data, .data, .data, .data, .sentinel, .sentinel, .pinned], laidTests := true, laidLooks := .later }
def LinearSolvesUptoCardSaid : Prop := Claim7.holds Tryz.pinned (.plain (OpenSpec.upto linearSolvesSpec)) linearSolvesUptoCard

/-- THE SECOND FORM's CARD OF 'putloglaw06.LinearExcludes'. -/
def linearExcludesUptoCard : Claim7 := { stood := { row := linearExcludesUptoRow, standIns := [], harness := (true, "9073599f2a3b8ca571d8cb1cfd7a38e582bc95d09afe03ae2054738d8d94594e"), looks := true }, kinds := [], alts := [], laidByText := true, laidKinds := [.data, .data, .data, .data, .sentinel, .sentinel, .pinned], laidTests := true, laidLooks := .later }
def LinearExcludesUptoCardSaid : Prop := Claim7.holds Tryz.pinned (.plain (OpenSpec.upto linearExcludesSpec)) linearExcludesUptoCard

/-- THE SECOND FORM's CARD OF 'putloglaw06.LinearEquations'. -/
def linearEquationsUptoCard : Claim7 := { stood := { row := linearEquationsUptoRow, standIns := [], harness := (true, "9073599f2a3b8ca571d8cb1cfd7a38e582bc95d09afe03ae2054738d8d94594e"), looks := true }, kinds := [], alts := [], laidByText := true, laidKinds := [.data, .data, .data, .data, .sentinel, .sentinel, .pinned], laidTests := true, laidLooks := .later }
def LinearEquationsUptoCardSaid : Prop := Claim7.holds Tryz.pinned (.plain (OpenSpec.upto linearEquationsSpec)) linearEquationsUptoCard

/-- THE SECOND FORM's CARD OF 'putloglaw06.LinearOrders'. -/
def linearOrdersUptoCard : Claim7 := { stood := { row := linearOrdersUptoRow, standIns := [], harness := (true, "9073599f2a3b8ca571d8cb1cfd7a38e582bc95d09afe03ae2054738d8d94594e"), looks := true }, kinds := [], alts := [], laidByText := true, laidKinds := [.data, .data, .data, .data, .sentinel, .sentinel, .pinned], laidTests := true, laidLooks := .later }
def LinearOrdersUptoCardSaid : Prop := Claim7.holds Tryz.pinned (.plain (OpenSpec.upto linearOrdersSpec)) linearOrdersUptoCard

/-- THE SECOND FORM's CARD OF 'putloglaw06.LinearMore'. -/
def linearMoreUptoCard : Claim7 := { stood := { row := linearMoreUptoRow, standIns := [], harness := (true, "9073599f2a3b8ca571d8cb1cfd7a38e582bc95d09afe03ae2054738d8d94594e"), looks := true }, kinds := [], alts := [], laidByText := true, laidKinds := [.data, .data, .data, .data, .sentinel, .sentinel, .pinned], laidTests := true, laidLooks := .later }
def LinearMoreUptoCardSaid : Prop := Claim7.holds Tryz.pinned (.plain (OpenSpec.upto linearMoreSpec)) linearMoreUptoCard
end Rows
end Go.Proofs.YtcmomjnailihpaaGreatDoor
