/-
  DERIVED. GIVEN WITH THE SEED: THE CARDS: each row of YtonbmhdbcbbagaaGreatDoorRows.lean that lists a variable, with what it lists TIED to the program's text (the seventh form; the later family's looks); each row that meets fmt, with fmt's text TOLD by the authors' own Lean function (tested against real Go, not proved from fmt's source: count such statements apart). THE CARD IS WHAT COUNTS. Prove the row's statement (the work); the ties are given (YtonbmhdbcbbagaaGreatDoorTie.lean); close each card by the builder's one call (the guide's Derived/Test/ToyasCard.lean, 'card_holds'). Laid BY PROGRAM, IN A SANDBOX (cutbox-door.mjs). By AI agents, Wed Nov 11 2026. No macro, syntax, notation, axiom, sorry.
-/
import Derived.Test.YtonbmhdbcbbagaaGreatDoorRows
import GoSem.ClaimSeven
namespace Go.Proofs.YtonbmhdbcbbagaaGreatDoor
namespace Rows

/-- THE TIED CARD OF 'putloglaw26.DecayMatchesReference'. -/
def decayMatchesReferenceCard : Claim7 := { stood := { row := decayMatchesReferenceRow, standIns := [], harness := (true, "c0d603e3c0e9e09c8993066ffa6e29c9c5730d641edee7a214e8ffaf55671eb7"), looks := true }, kinds := [], alts := [], laidByText := true, laidKinds := [.data, .data, .data, .data, .sentinel, .sentinel, .pinned], laidTests := true, laidLooks := .later }
def DecayMatchesReferenceCardSaid : Prop := Claim7.holds Tryz.pinned (.plain (OpenSpec.ofChange decayMatchesReferenceSpec)) decayMatchesReferenceCard

/-- THE TIED CARD OF 'putloglaw26.DecayHelly'. -/
def decayHellyCard : Claim7 := { stood := { row := decayHellyRow, standIns := [], harness := (true, "c0d603e3c0e9e09c8993066ffa6e29c9c5730d641edee7a214e8ffaf55671eb7"), looks := true }, kinds := [], alts := [], laidByText := true, laidKinds := [.data, .data, .data, .data, .sentinel, .sentinel, .pinned], laidTests := true, laidLooks := .later }
def DecayHellyCardSaid : Prop := Claim7.holds Tryz.pinned (.plain (OpenSpec.ofChange decayHellySpec)) decayHellyCard

/-- THE TIED CARD OF 'putloglaw26.DecayConvex'. -/
def decayConvexCard : Claim7 := { stood := { row := decayConvexRow, standIns := [], harness := (true, "c0d603e3c0e9e09c8993066ffa6e29c9c5730d641edee7a214e8ffaf55671eb7"), looks := true }, kinds := [], alts := [], laidByText := true, laidKinds := [.data, .data, .data, .data, .sentinel, .sentinel, .pinned], laidTests := true, laidLooks := .later }
def DecayConvexCardSaid : Prop := Claim7.holds Tryz.pinned (.plain (OpenSpec.ofChange decayConvexSpec)) decayConvexCard

/-- THE TIED CARD OF 'putloglaw26.DecayMoves'. -/
def decayMovesCard : Claim7 := { stood := { row := decayMovesRow, standIns := [], harness := (true, "c0d603e3c0e9e09c8993066ffa6e29c9c5730d641edee7a214e8ffaf55671eb7"), looks := true }, kinds := [], alts := [], laidByText := true, laidKinds := [.data, .data, .data, .data, .sentinel, .sentinel, .pinned], laidTests := true, laidLooks := .later }
def DecayMovesCardSaid : Prop := Claim7.holds Tryz.pinned (.plain (OpenSpec.ofChange decayMovesSpec)) decayMovesCard

/-- THE TIED CARD OF 'putloglaw26.DecayRates'. -/
def decayRatesCard : Claim7 := { stood := { row := decayRatesRow, standIns := [], harness := (true, "c0d603e3c0e9e09c8993066ffa6e29c9c5730d641edee7a214e8ffaf55671eb7"), looks := true }, kinds := [], alts := [], laidByText := true, laidKinds := [.data, .data, .data, .data, .sentinel, .sentinel, .pinned], laidTests := true, laidLooks := .later }
def DecayRatesCardSaid : Prop := Claim7.holds Tryz.pinned (.plain (OpenSpec.ofChange decayRatesSpec)) decayRatesCard

/-- THE TIED CARD OF 'putloglaw26.DecayCampaigns'. -/
def decayCampaignsCard : Claim7 := { stood := { row := decayCampaignsRow, standIns := [], harness := (true, "c0d603e3c0e9e09c8993066ffa6e29c9c5730d641edee7a214e8ffaf55671eb7"), looks := true }, kinds := [], alts := [], laidByText := true, laidKinds := [.data, .data, .data, .data, .sentinel, .sentinel, .pinned], laidTests := true, laidLooks := .later }
def DecayCampaignsCardSaid : Prop := Claim7.holds Tryz.pinned (.plain (OpenSpec.ofChange decayCampaignsSpec)) decayCampaignsCard

/-- THE TIED CARD OF 'putlogtop.TopForecasts'. -/
def topForecastsCard : Claim7 := { stood := { row := topForecastsRow, standIns := [], harness := (true, "c0d603e3c0e9e09c8993066ffa6e29c9c5730d641edee7a214e8ffaf55671eb7"), looks := true }, kinds := [], alts := [], laidByText := true, laidKinds := [.data, .data, .data, .data, .sentinel, .sentinel, .pinned], laidTests := true, laidLooks := .later }
def TopForecastsCardSaid : Prop := Claim7.holds Tryz.pinned (.plain (OpenSpec.ofChange topForecastsSpec)) topForecastsCard

/-- THE TIED CARD OF 'putloglaw04.RationalMatchesReference'. -/
def rationalMatchesReferenceCard : Claim7 := { stood := { row := rationalMatchesReferenceRow, standIns := [], harness := (true, "c0d603e3c0e9e09c8993066ffa6e29c9c5730d641edee7a214e8ffaf55671eb7"), looks := true }, kinds := [], alts := [], laidByText := true, laidKinds := [.data, .data, .data, .data, .sentinel, .sentinel, .pinned], laidTests := true, laidLooks := .later }
def RationalMatchesReferenceCardSaid : Prop := Claim7.holds Tryz.pinned (.plain (OpenSpec.ofChange rationalMatchesReferenceSpec)) rationalMatchesReferenceCard

/-- THE SECOND FORM's CARD OF 'putloglaw26.DecayMatchesReference'. -/
def decayMatchesReferenceUptoCard : Claim7 := { stood := { row := decayMatchesReferenceUptoRow, standIns := [], harness := (true, "c0d603e3c0e9e09c8993066ffa6e29c9c5730d641edee7a214e8ffaf55671eb7"), looks := true }, kinds := [], alts := [], laidByText := true, laidKinds := [.data, .data, .data, .data, .sentinel, .sentinel, .pinned], laidTests := true, laidLooks := .later }
def DecayMatchesReferenceUptoCardSaid : Prop := Claim7.holds Tryz.pinned (.plain (OpenSpec.upto decayMatchesReferenceSpec)) decayMatchesReferenceUptoCard

/-- THE SECOND FORM's CARD OF 'putloglaw26.DecayHelly'. -/
def decayHellyUptoCard : Claim7 := { stood := { row := decayHellyUptoRow, standIns := [], harness := (true, "c0d603e3c0e9e09c8993066ffa6e29c9c5730d641edee7a214e8ffaf55671eb7"), looks := true }, kinds := [], alts := [], laidByText := true, laidKinds := [.data, .data, .data, .data, .sentinel, .sentinel, .pinned], laidTests := true, laidLooks := .later }
def DecayHellyUptoCardSaid : Prop := Claim7.holds Tryz.pinned (.plain (OpenSpec.upto decayHellySpec)) decayHellyUptoCard

/-- THE SECOND FORM's CARD OF 'putloglaw26.DecayConvex'. -/
def decayConvexUptoCard : Claim7 := { stood := { row := decayConvexUptoRow, standIns := [], harness := (true, "c0d603e3c0e9e09c8993066ffa6e29c9c5730d641edee7a214e8ffaf55671eb7"), looks := true }, kinds := [], alts := [], laidByText := true, laidKinds := [.data, .data, .data, .data, .sentinel, .sentinel, .pinned], laidTests := true, laidLooks := .later }
def DecayConvexUptoCardSaid : Prop := Claim7.holds Tryz.pinned (.plain (OpenSpec.upto decayConvexSpec)) decayConvexUptoCard

/-- THE SECOND FORM's CARD OF 'putloglaw26.DecayMoves'. -/
def decayMovesUptoCard : Claim7 := { stood := { row := decayMovesUptoRow, standIns := [], harness := (true, "c0d603e3c0e9e09c8993066ffa6e29c9c5730d641edee7a214e8ffaf55671eb7"), looks := true }, kinds := [], alts := [], laidByText := true, laidKinds := [.data, .data, .data, .data, .sentinel, .sentinel, .pinned], laidTests := true, laidLooks := .later }
def DecayMovesUptoCardSaid : Prop := Claim7.holds Tryz.pinned (.plain (OpenSpec.upto decayMovesSpec)) decayMovesUptoCard

/-- THE SECOND FORM's CARD OF 'putloglaw26.DecayRates'. -/
def decayRatesUptoCard : Claim7 := { stood := { row := decayRatesUptoRow, standIns := [], harness := (true, "c0d603e3c0e9e09c8993066ffa6e29c9c5730d641edee7a214e8ffaf55671eb7"), looks := true }, kinds := [], alts := [], laidByText := true, laidKinds := [.data, .data, .data, .data, .sentinel, .sentinel, .pinned], laidTests := true, laidLooks := .later }
def DecayRatesUptoCardSaid : Prop := Claim7.holds Tryz.pinned (.plain (OpenSpec.upto decayRatesSpec)) decayRatesUptoCard

/-- THE SECOND FORM's CARD OF 'putloglaw26.DecayCampaigns'. -/
def decayCampaignsUptoCard : Claim7 := { stood := { row := decayCampaignsUptoRow, standIns := [], harness := (true, "c0d603e3c0e9e09c8993066ffa6e29c9c5730d641edee7a214e8ffaf55671eb7"), looks := true }, kinds := [], alts := [], laidByText := true, laidKinds := [.data, .data, .data, .data, .sentinel, .sentinel, .pinned], laidTests := true, laidLooks := .later }
def DecayCampaignsUptoCardSaid : Prop := Claim7.holds Tryz.pinned (.plain (OpenSpec.upto decayCampaignsSpec)) decayCampaignsUptoCard

/-- THE SECOND FORM's CARD OF 'putlogtop.TopForecasts'. -/
def topForecastsUptoCard : Claim7 := { stood := { row := topForecastsUptoRow, standIns := [], harness := (true, "c0d603e3c0e9e09c8993066ffa6e29c9c5730d641edee7a214e8ffaf55671eb7"), looks := true }, kinds := [], alts := [], laidByText := true, laidKinds := [.data, .data, .data, .data, .sentinel, .sentinel, .pinned], laidTests := true, laidLooks := .later }
def TopForecastsUptoCardSaid : Prop := Claim7.holds Tryz.pinned (.plain (OpenSpec.upto topForecastsSpec)) topForecastsUptoCard

/-- THE SECOND FORM's CARD OF 'putloglaw04.RationalMatchesReference'. -/
def rationalMatchesReferenceUptoCard : Claim7 := { stood := { row := rationalMatchesReferenceUptoRow, standIns := [], harness := (true, "c0d603e3c0e9e09c8993066ffa6e29c9c5730d641edee7a214e8ffaf55671eb7"), looks := true }, kinds := [], alts := [], laidByText := true, laidKinds := [.data, .data, .data, .data, .sentinel, .sentinel, .pinned], laidTests := true, laidLooks := .later }
def RationalMatchesReferenceUptoCardSaid : Prop := Claim7.holds Tryz.pinned (.plain (OpenSpec.upto rationalMatchesReferenceSpec)) rationalMatchesReferenceUptoCard
end Rows
end Go.Proofs.YtonbmhdbcbbagaaGreatDoor
