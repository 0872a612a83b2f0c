/-
  DERIVED. GIVEN WITH THE SEED: THE CARDS: each row of YtlgoegjboabgfaaGreatDoorRows.lean that lists a variable, with what it lists TIED to the program's text (the seventh form; the later family's looks); each row that meets fmt, with fmt's text TOLD by the authors' own Lean function (tested against real Go, not proved from fmt's source: count such statements apart). THE CARD IS WHAT COUNTS. Prove the row's statement (the work); the ties are given (YtlgoegjboabgfaaGreatDoorTie.lean); close each card by the builder's one call (the guide's Derived/Test/ToyasCard.lean, 'card_holds'). Laid BY PROGRAM, IN A SANDBOX (cutbox-door.mjs). By AI agents, Wed Nov 11 2026. No macro, syntax, notation, axiom, sorry.
-/
import Derived.Test.YtlgoegjboabgfaaGreatDoorRows
import GoSem.ClaimSeven
namespace Go.Proofs.YtlgoegjboabgfaaGreatDoor
namespace Rows

/-- THE TIED CARD OF 'lotterylaw25.SaleCancels'. -/
def saleCancelsCard : Claim7 := { stood := { row := saleCancelsRow, standIns := [], harness := (true, "48a26a38017f553fc9396ec0262181305f7c85cf96eb01983d1f4f78cc575471"), looks := false }, kinds := [], alts := [], laidByText := true, laidKinds := [.data, .data, .data, .data], laidTests := true, laidLooks := .later }
def SaleCancelsCardSaid : Prop := Claim7.holds Tryz.pinned (.plain (OpenSpec.ofChange saleCancelsSpec)) saleCancelsCard

/-- THE TIED CARD OF 'lotterylaw25.SaleSigned'. -/
def saleSignedCard : Claim7 := { stood := { row := saleSignedRow, standIns := [], harness := (true, "48a26a38017f553fc9396ec0262181305f7c85cf96eb01983d1f4f78cc575471"), looks := false }, kinds := [], alts := [], laidByText := true, laidKinds := [.data, .data, .data, .data], laidTests := true, laidLooks := .later }
def SaleSignedCardSaid : Prop := Claim7.holds Tryz.pinned (.plain (OpenSpec.ofChange saleSignedSpec)) saleSignedCard

/-- THE TIED CARD OF 'lotterylaw25.SaleOnce'. -/
def saleOnceCard : Claim7 := { stood := { row := saleOnceRow, standIns := [], harness := (true, "48a26a38017f553fc9396ec0262181305f7c85cf96eb01983d1f4f78cc575471"), looks := false }, kinds := [], alts := [], laidByText := true, laidKinds := [.data, .data, .data, .data], laidTests := true, laidLooks := .later }
def SaleOnceCardSaid : Prop := Claim7.holds Tryz.pinned (.plain (OpenSpec.ofChange saleOnceSpec)) saleOnceCard

/-- THE TIED CARD OF 'lotterylaw25.SaleErrors'. -/
def saleErrorsCard : Claim7 := { stood := { row := saleErrorsRow, standIns := [], harness := (true, "48a26a38017f553fc9396ec0262181305f7c85cf96eb01983d1f4f78cc575471"), looks := false }, kinds := [], alts := [], laidByText := true, laidKinds := [.data, .data, .data, .data], laidTests := true, laidLooks := .later }
def SaleErrorsCardSaid : Prop := Claim7.holds Tryz.pinned (.plain (OpenSpec.ofChange saleErrorsSpec)) saleErrorsCard

/-- THE TIED CARD OF 'lotterylaw26.TerminalNumbers'. -/
def terminalNumbersCard : Claim7 := { stood := { row := terminalNumbersRow, standIns := [], harness := (true, "48a26a38017f553fc9396ec0262181305f7c85cf96eb01983d1f4f78cc575471"), looks := false }, kinds := [], alts := [], laidByText := true, laidKinds := [.data, .data, .data, .data], laidTests := true, laidLooks := .later }
def TerminalNumbersCardSaid : Prop := Claim7.holds Tryz.pinned (.plain (OpenSpec.ofChange terminalNumbersSpec)) terminalNumbersCard

/-- THE TIED CARD OF 'lotterylaw26.TerminalLimits'. -/
def terminalLimitsCard : Claim7 := { stood := { row := terminalLimitsRow, standIns := [], harness := (true, "48a26a38017f553fc9396ec0262181305f7c85cf96eb01983d1f4f78cc575471"), looks := false }, kinds := [], alts := [], laidByText := true, laidKinds := [.data, .data, .data, .data], laidTests := true, laidLooks := .later }
def TerminalLimitsCardSaid : Prop := Claim7.holds Tryz.pinned (.plain (OpenSpec.ofChange terminalLimitsSpec)) terminalLimitsCard

/-- THE TIED CARD OF 'lotterylaw26.TerminalNobody'. -/
def terminalNobodyCard : Claim7 := { stood := { row := terminalNobodyRow, standIns := [], harness := (true, "48a26a38017f553fc9396ec0262181305f7c85cf96eb01983d1f4f78cc575471"), looks := false }, kinds := [], alts := [], laidByText := true, laidKinds := [.data, .data, .data, .data], laidTests := true, laidLooks := .later }
def TerminalNobodyCardSaid : Prop := Claim7.holds Tryz.pinned (.plain (OpenSpec.ofChange terminalNobodySpec)) terminalNobodyCard

/-- THE TIED CARD OF 'lotterylaw25.SaleNil'. -/
def saleNilCard : Claim7 := { stood := { row := saleNilRow, standIns := [], harness := (true, "48a26a38017f553fc9396ec0262181305f7c85cf96eb01983d1f4f78cc575471"), looks := false }, kinds := [], alts := [], laidByText := true, laidKinds := [.data, .data, .data, .data], laidTests := true, laidLooks := .later }
def SaleNilCardSaid : Prop := Claim7.holds Tryz.pinned (.plain (OpenSpec.ofChange saleNilSpec)) saleNilCard

/-- THE TIED CARD OF 'lotterylaw26.TerminalUploads'. -/
def terminalUploadsCard : Claim7 := { stood := { row := terminalUploadsRow, standIns := [], harness := (true, "48a26a38017f553fc9396ec0262181305f7c85cf96eb01983d1f4f78cc575471"), looks := false }, kinds := [], alts := [], laidByText := true, laidKinds := [.data, .data, .data, .data], laidTests := true, laidLooks := .later }
def TerminalUploadsCardSaid : Prop := Claim7.holds Tryz.pinned (.plain (OpenSpec.ofChange terminalUploadsSpec)) terminalUploadsCard

/-- THE SECOND FORM's CARD OF 'lotterylaw25.SaleCancels'. -/
def saleCancelsUptoCard : Claim7 := { stood := { row := saleCancelsUptoRow, standIns := [], harness := (true, "48a26a38017f553fc9396ec0262181305f7c85cf96eb01983d1f4f78cc575471"), looks := false }, kinds := [], alts := [], laidByText := true, laidKinds := [.data, .data, .data, .data], laidTests := true, laidLooks := .later }
def SaleCancelsUptoCardSaid : Prop := Claim7.holds Tryz.pinned (.plain (OpenSpec.upto saleCancelsSpec)) saleCancelsUptoCard

/-- THE SECOND FORM's CARD OF 'lotterylaw25.SaleSigned'. -/
def saleSignedUptoCard : Claim7 := { stood := { row := saleSignedUptoRow, standIns := [], harness := (true, "48a26a38017f553fc9396ec0262181305f7c85cf96eb01983d1f4f78cc575471"), looks := false }, kinds := [], alts := [], laidByText := true, laidKinds := [.data, .data, .data, .data], laidTests := true, laidLooks := .later }
def SaleSignedUptoCardSaid : Prop := Claim7.holds Tryz.pinned (.plain (OpenSpec.upto saleSignedSpec)) saleSignedUptoCard

/-- THE SECOND FORM's CARD OF 'lotterylaw25.SaleOnce'. -/
def saleOnceUptoCard : Claim7 := { stood := { row := saleOnceUptoRow, standIns := [], harness := (true, "48a26a38017f553fc9396ec0262181305f7c85cf96eb01983d1f4f78cc575471"), looks := false }, kinds := [], alts := [], laidByText := true, laidKinds := [.data, .data, .data, .data], laidTests := true, laidLooks := .later }
def SaleOnceUptoCardSaid : Prop := Claim7.holds Tryz.pinned (.plain (OpenSpec.upto saleOnceSpec)) saleOnceUptoCard

/-- THE SECOND FORM's CARD OF 'lotterylaw25.SaleErrors'. -/
def saleErrorsUptoCard : Claim7 := { stood := { row := saleErrorsUptoRow, standIns := [], harness := (true, "48a26a38017f553fc9396ec0262181305f7c85cf96eb01983d1f4f78cc575471"), looks := false }, kinds := [], alts := [], laidByText := true, laidKinds := [.data, .data, .data, .data], laidTests := true, laidLooks := .later }
def SaleErrorsUptoCardSaid : Prop := Claim7.holds Tryz.pinned (.plain (OpenSpec.upto saleErrorsSpec)) saleErrorsUptoCard

/-- THE SECOND FORM's CARD OF 'lotterylaw26.TerminalNumbers'. -/
def terminalNumbersUptoCard : Claim7 := { stood := { row := terminalNumbersUptoRow, standIns := [], harness := (true, "48a26a38017f553fc9396ec0262181305f7c85cf96eb01983d1f4f78cc575471"), looks := false }, kinds := [], alts := [], laidByText := true, laidKinds := [.data, .data, .data, .data], laidTests := true, laidLooks := .later }
def TerminalNumbersUptoCardSaid : Prop := Claim7.holds Tryz.pinned (.plain (OpenSpec.upto terminalNumbersSpec)) terminalNumbersUptoCard

/-- THE SECOND FORM's CARD OF 'lotterylaw26.TerminalLimits'. -/
def terminalLimitsUptoCard : Claim7 := { stood := { row := terminalLimitsUptoRow, standIns := [], harness := (true, "48a26a38017f553fc9396ec0262181305f7c85cf96eb01983d1f4f78cc575471"), looks := false }, kinds := [], alts := [], laidByText := true, laidKinds := [.data, .data, .data, .data], laidTests := true, laidLooks := .later }
def TerminalLimitsUptoCardSaid : Prop := Claim7.holds Tryz.pinned (.plain (OpenSpec.upto terminalLimitsSpec)) terminalLimitsUptoCard

/-- THE SECOND FORM's CARD OF 'lotterylaw26.TerminalNobody'. -/
def terminalNobodyUptoCard : Claim7 := { stood := { row := terminalNobodyUptoRow, standIns := [], harness := (true, "48a26a38017f553fc9396ec0262181305f7c85cf96eb01983d1f4f78cc575471"), looks := false }, kinds := [], alts := [], laidByText := true, laidKinds := [.data, .data, .data, .data], laidTests := true, laidLooks := .later }
def TerminalNobodyUptoCardSaid : Prop := Claim7.holds Tryz.pinned (.plain (OpenSpec.upto terminalNobodySpec)) terminalNobodyUptoCard

/-- THE SECOND FORM's CARD OF 'lotterylaw25.SaleNil'. -/
def saleNilUptoCard : Claim7 := { stood := { row := saleNilUptoRow, standIns := [], harness := (true, "48a26a38017f553fc9396ec0262181305f7c85cf96eb01983d1f4f78cc575471"), looks := false }, kinds := [], alts := [], laidByText := true, laidKinds := [.data, .data, .data, .data], laidTests := true, laidLooks := .later }
def SaleNilUptoCardSaid : Prop := Claim7.holds Tryz.pinned (.plain (OpenSpec.upto saleNilSpec)) saleNilUptoCard

/-- THE SECOND FORM's CARD OF 'lotterylaw26.TerminalUploads'. -/
def terminalUploadsUptoCard : Claim7 := { stood := { row := terminalUploadsUptoRow, standIns := [], harness := (true, "48a26a38017f553fc9396ec0262181305f7c85cf96eb01983d1f4f78cc575471"), looks := false }, kinds := [], alts := [], laidByText := true, laidKinds := [.data, .data, .data, .data], laidTests := true, laidLooks := .later }
def TerminalUploadsUptoCardSaid : Prop := Claim7.holds Tryz.pinned (.plain (OpenSpec.upto terminalUploadsSpec)) terminalUploadsUptoCard
end Rows
end Go.Proofs.YtlgoegjboabgfaaGreatDoor
