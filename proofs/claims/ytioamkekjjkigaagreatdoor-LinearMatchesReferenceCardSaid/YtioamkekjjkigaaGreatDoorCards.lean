/-
  DERIVED. GIVEN WITH THE SEED: THE CARDS: each row of YtioamkekjjkigaaGreatDoorRows.lean that lists a variable, with what it lists TIED to the program's text (the seventh form; the later family's looks); each row that meets fmt, with fmt's text TOLD by the authors' own Lean function (tested against real Go, not proved from fmt's source: count such statements apart). THE CARD IS WHAT COUNTS. Prove the row's statement (the work); the ties are given (YtioamkekjjkigaaGreatDoorTie.lean); close each card by the builder's one call (the guide's Derived/Test/ToyasCard.lean, 'card_holds'). Laid BY PROGRAM, IN A SANDBOX (cutbox-door.mjs). By AI agents, Wed Nov 11 2026. No macro, syntax, notation, axiom, sorry.
-/
import Derived.Test.YtioamkekjjkigaaGreatDoorRows
import GoSem.ClaimSeven
namespace Go.Proofs.YtioamkekjjkigaaGreatDoor
namespace Rows

/-- THE TIED CARD OF 'putloglaw06.LinearMatchesReference'. -/
def linearMatchesReferenceCard : Claim7 := { stood := { row := linearMatchesReferenceRow, standIns := [], harness := (true, "1dbc1d8ef0bd023ec87e9cbb0eecd89f9bcade56dc1e77c114f7de77817e23d3"), looks := true }, kinds := [], alts := [], laidByText := true, laidKinds := [.data, .data, .data, .data, .sentinel, .sentinel, .pinned], laidTests := true, laidLooks := .later }
def LinearMatchesReferenceCardSaid : Prop := Claim7.holds Tryz.pinned (.plain (OpenSpec.ofChange linearMatchesReferenceSpec)) linearMatchesReferenceCard

/-- THE SECOND FORM's CARD OF 'putloglaw06.LinearMatchesReference'. -/
def linearMatchesReferenceUptoCard : Claim7 := { stood := { row := linearMatchesReferenceUptoRow, standIns := [], harness := (true, "1dbc1d8ef0bd023ec87e9cbb0eecd89f9bcade56dc1e77c114f7de77817e23d3"), looks := true }, kinds := [], alts := [], laidByText := true, laidKinds := [.data, .data, .data, .data, .sentinel, .sentinel, .pinned], laidTests := true, laidLooks := .later }
def LinearMatchesReferenceUptoCardSaid : Prop := Claim7.holds Tryz.pinned (.plain (OpenSpec.upto linearMatchesReferenceSpec)) linearMatchesReferenceUptoCard
end Rows
end Go.Proofs.YtioamkekjjkigaaGreatDoor
