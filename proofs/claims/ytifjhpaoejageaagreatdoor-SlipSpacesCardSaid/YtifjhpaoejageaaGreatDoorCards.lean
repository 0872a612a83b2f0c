/-
  DERIVED. GIVEN WITH THE SEED: THE CARDS: each row of YtifjhpaoejageaaGreatDoorRows.lean that lists a variable, with what it lists TIED to the program's text (the seventh form; the later family's looks); each row that meets fmt, with fmt's text TOLD by the authors' own Lean function (tested against real Go, not proved from fmt's source: count such statements apart). THE CARD IS WHAT COUNTS. Prove the row's statement (the work); the ties are given (YtifjhpaoejageaaGreatDoorTie.lean); close each card by the builder's one call (the guide's Derived/Test/ToyasCard.lean, 'card_holds'). Laid BY PROGRAM, IN A SANDBOX (cutbox-door.mjs). By AI agents, Wed Nov 11 2026. No macro, syntax, notation, axiom, sorry.
-/
import Derived.Test.YtifjhpaoejageaaGreatDoorRows
import GoSem.ClaimSeven
namespace Go.Proofs.YtifjhpaoejageaaGreatDoor
namespace Rows

/-- THE TIED CARD OF 'lotterylaw17.SlipParses'. -/
def slipParsesCard : Claim7 := { stood := { row := slipParsesRow, standIns := [], harness := (true, "e39218887345f162b4e855952fc07de5c8873235cf85802cc8122ad6958ac877"), looks := false }, kinds := [], alts := [], laidByText := true, laidKinds := [.data, .data, .data], laidTests := true, laidLooks := .later }
def SlipParsesCardSaid : Prop := Claim7.holds Tryz.pinned (.plain (OpenSpec.ofChange slipParsesSpec)) slipParsesCard

/-- THE TIED CARD OF 'lotterylaw17.SlipPrints'. -/
def slipPrintsCard : Claim7 := { stood := { row := slipPrintsRow, standIns := [], harness := (true, "e39218887345f162b4e855952fc07de5c8873235cf85802cc8122ad6958ac877"), looks := false }, kinds := [], alts := [], laidByText := true, laidKinds := [.data, .data, .data], laidTests := true, laidLooks := .later }
def SlipPrintsCardSaid : Prop := Claim7.holds Tryz.pinned (.plain (OpenSpec.ofChange slipPrintsSpec)) slipPrintsCard

/-- THE TIED CARD OF 'lotterylaw17.SlipRoundTrips'. -/
def slipRoundTripsCard : Claim7 := { stood := { row := slipRoundTripsRow, standIns := [], harness := (true, "e39218887345f162b4e855952fc07de5c8873235cf85802cc8122ad6958ac877"), looks := false }, kinds := [], alts := [], laidByText := true, laidKinds := [.data, .data, .data], laidTests := true, laidLooks := .later }
def SlipRoundTripsCardSaid : Prop := Claim7.holds Tryz.pinned (.plain (OpenSpec.ofChange slipRoundTripsSpec)) slipRoundTripsCard

/-- THE TIED CARD OF 'lotterylaw17.SlipSettles'. -/
def slipSettlesCard : Claim7 := { stood := { row := slipSettlesRow, standIns := [], harness := (true, "e39218887345f162b4e855952fc07de5c8873235cf85802cc8122ad6958ac877"), looks := false }, kinds := [], alts := [], laidByText := true, laidKinds := [.data, .data, .data], laidTests := true, laidLooks := .later }
def SlipSettlesCardSaid : Prop := Claim7.holds Tryz.pinned (.plain (OpenSpec.ofChange slipSettlesSpec)) slipSettlesCard

/-- THE TIED CARD OF 'lotterylaw17.SlipApart'. -/
def slipApartCard : Claim7 := { stood := { row := slipApartRow, standIns := [], harness := (true, "e39218887345f162b4e855952fc07de5c8873235cf85802cc8122ad6958ac877"), looks := false }, kinds := [], alts := [], laidByText := true, laidKinds := [.data, .data, .data], laidTests := true, laidLooks := .later }
def SlipApartCardSaid : Prop := Claim7.holds Tryz.pinned (.plain (OpenSpec.ofChange slipApartSpec)) slipApartCard

/-- THE TIED CARD OF 'lotterylaw17.SlipSpaces'. -/
def slipSpacesCard : Claim7 := { stood := { row := slipSpacesRow, standIns := [], harness := (true, "e39218887345f162b4e855952fc07de5c8873235cf85802cc8122ad6958ac877"), looks := false }, kinds := [], alts := [], laidByText := true, laidKinds := [.data, .data, .data], laidTests := true, laidLooks := .later }
def SlipSpacesCardSaid : Prop := Claim7.holds Tryz.pinned (.plain (OpenSpec.ofChange slipSpacesSpec)) slipSpacesCard

/-- THE SECOND FORM's CARD OF 'lotterylaw17.SlipParses'. -/
def slipParsesUptoCard : Claim7 := { stood := { row := slipParsesUptoRow, standIns := [], harness := (true, "e39218887345f162b4e855952fc07de5c8873235cf85802cc8122ad6958ac877"), looks := false }, kinds := [], alts := [], laidByText := true, laidKinds := [.data, .data, .data], laidTests := true, laidLooks := .later }
def SlipParsesUptoCardSaid : Prop := Claim7.holds Tryz.pinned (.plain (OpenSpec.upto slipParsesSpec)) slipParsesUptoCard

/-- THE SECOND FORM's CARD OF 'lotterylaw17.SlipPrints'. -/
def slipPrintsUptoCard : Claim7 := { stood := { row := slipPrintsUptoRow, standIns := [], harness := (true, "e39218887345f162b4e855952fc07de5c8873235cf85802cc8122ad6958ac877"), looks := false }, kinds := [], alts := [], laidByText := true, laidKinds := [.data, .data, .data], laidTests := true, laidLooks := .later }
def SlipPrintsUptoCardSaid : Prop := Claim7.holds Tryz.pinned (.plain (OpenSpec.upto slipPrintsSpec)) slipPrintsUptoCard

/-- THE SECOND FORM's CARD OF 'lotterylaw17.SlipRoundTrips'. -/
def slipRoundTripsUptoCard : Claim7 := { stood := { row := slipRoundTripsUptoRow, standIns := [], harness := (true, "e39218887345f162b4e855952fc07de5c8873235cf85802cc8122ad6958ac877"), looks := false }, kinds := [], alts := [], laidByText := true, laidKinds := [.data, .data, .data], laidTests := true, laidLooks := .later }
def SlipRoundTripsUptoCardSaid : Prop := Claim7.holds Tryz.pinned (.plain (OpenSpec.upto slipRoundTripsSpec)) slipRoundTripsUptoCard

/-- THE SECOND FORM's CARD OF 'lotterylaw17.SlipSettles'. -/
def slipSettlesUptoCard : Claim7 := { stood := { row := slipSettlesUptoRow, standIns := [], harness := (true, "e39218887345f162b4e855952fc07de5c8873235cf85802cc8122ad6958ac877"), looks := false }, kinds := [], alts := [], laidByText := true, laidKinds := [.data, .data, .data], laidTests := true, laidLooks := .later }
def SlipSettlesUptoCardSaid : Prop := Claim7.holds Tryz.pinned (.plain (OpenSpec.upto slipSettlesSpec)) slipSettlesUptoCard

/-- THE SECOND FORM's CARD OF 'lotterylaw17.SlipApart'. -/
def slipApartUptoCard : Claim7 := { stood := { row := slipApartUptoRow, standIns := [], harness := (true, "e39218887345f162b4e855952fc07de5c8873235cf85802cc8122ad6958ac877"), looks := false }, kinds := [], alts := [], laidByText := true, laidKinds := [.data, .data, .data], laidTests := true, laidLooks := .later }
def SlipApartUptoCardSaid : Prop := Claim7.holds Tryz.pinned (.plain (OpenSpec.upto slipApartSpec)) slipApartUptoCard

/-- THE SECOND FORM's CARD OF 'lotterylaw17.SlipSpaces'. -/
def slipSpacesUptoCard : Claim7 := { stood := { row := slipSpacesUptoRow, standIns := [], harness := (true, "e39218887345f162b4e855952fc07de5c8873235cf85802cc8122ad6958ac877"), looks := false }, kinds := [], alts := [], laidByText := true, laidKinds := [.data, .data, .data], laidTests := true, laidLooks := .later }
def SlipSpacesUptoCardSaid : Prop := Claim7.holds Tryz.pinned (.plain (OpenSpec.upto slipSpacesSpec)) slipSpacesUptoCard
end Rows
end Go.Proofs.YtifjhpaoejageaaGreatDoor
