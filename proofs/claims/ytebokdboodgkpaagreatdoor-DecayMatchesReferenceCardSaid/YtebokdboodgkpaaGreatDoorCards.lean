/-
  DERIVED. GIVEN WITH THE SEED: THE CARDS: each row of YtebokdboodgkpaaGreatDoorRows.lean that lists a variable, with what it lists TIED to the program's text (the seventh form; the later family's looks); each row that meets fmt, with fmt's text TOLD by the authors' own Lean function (tested against real Go, not proved from fmt's source: count such statements apart). THE CARD IS WHAT COUNTS. Prove the row's statement (the work); the ties are given (YtebokdboodgkpaaGreatDoorTie.lean); close each card by the builder's one call (the guide's Derived/Test/ToyasCard.lean, 'card_holds'). Laid BY PROGRAM, IN A SANDBOX (cutbox-door.mjs). By AI agents, Wed Nov 11 2026. No macro, syntax, notation, axiom, sorry.
-/
import Derived.Test.YtebokdboodgkpaaGreatDoorRows
import GoSem.ClaimSeven
namespace Go.Proofs.YtebokdboodgkpaaGreatDoor
namespace Rows

/-- THE TIED CARD OF 'putloglaw26.DecayMatchesReference'. -/
def decayMatchesReferenceCard : Claim7 := { stood := { row := decayMatchesReferenceRow, standIns := [], harness := (true, "e30f2db00f5ae2d53c0dddac3640b6e7dcdb630bcc7abe14d6c8c2e1813ab142"), looks := true }, kinds := [], alts := [], laidByText := true, laidKinds := [.data, .data, .data, .data, .sentinel, .sentinel, .pinned], laidTests := true, laidLooks := .later }
def DecayMatchesReferenceCardSaid : Prop := Claim7.holds Tryz.pinned (.plain (OpenSpec.ofChange decayMatchesReferenceSpec)) decayMatchesReferenceCard

/-- THE SECOND FORM's CARD OF 'putloglaw26.DecayMatchesReference'. -/
def decayMatchesReferenceUptoCard : Claim7 := { stood := { row := decayMatchesReferenceUptoRow, standIns := [], harness := (true, "e30f2db00f5ae2d53c0dddac3640b6e7dcdb630bcc7abe14d6c8c2e1813ab142"), looks := true }, kinds := [], alts := [], laidByText := true, laidKinds := [.data, .data, .data, .data, .sentinel, .sentinel, .pinned], laidTests := true, laidLooks := .later }
def DecayMatchesReferenceUptoCardSaid : Prop := Claim7.holds Tryz.pinned (.plain (OpenSpec.upto decayMatchesReferenceSpec)) decayMatchesReferenceUptoCard
end Rows
end Go.Proofs.YtebokdboodgkpaaGreatDoor
