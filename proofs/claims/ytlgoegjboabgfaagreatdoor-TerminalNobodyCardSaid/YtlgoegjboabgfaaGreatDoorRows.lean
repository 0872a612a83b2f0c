/-
  NARROWER THAN 'FOR EVERY INPUT', by the rows' own cells (each row's printed sentence says how): SaleCancels: laid · SaleSigned: laid · SaleOnce: laid · SaleErrors: laid · TerminalNumbers: laid · TerminalLimits: laid · TerminalNobody: laid · SaleNil: laid · TerminalUploads: laid.
  DERIVED. THE GIVEN ROWS OF THIS SEAT. 9 by the template 'for every input the law returns true; each argument reads behind the call as it read before'; 0 by the template 'total and deterministic' (their statements: YtlgoegjboabgfaaGreatDoorTotals.lean).
  GIVEN WITH THE SEED: the statements are not yours to turn. If you find one false, say at which input.
  Laid BY PROGRAM, IN A SANDBOX (cutbox-rows.mjs): the forced cells as the released guide's own fill.sh prints them over the translation ff573f497708de60… (all of the seat's roots in one cut). By AI agents, Wed Nov 11 2026. No macro, syntax, notation, axiom, sorry.
-/
import Derived.Test.YtlgoegjboabgfaaGreatDoorChecked
import GoSem.Claim
import GoSem.ClaimJoined
import GoSem.ClaimMapViews
import Derived.JoinedTies
import Derived.KernelRfl
namespace Go.Proofs.YtlgoegjboabgfaaGreatDoor
/- THE CELL 'sum', in the pinned program and in every row, IS THE sha256 OF THE DUMP (.gsa) THAT YtlgoegjboabgfaaGreatDoorProg.lean LOADS. Nothing in Lean hashes anything: it is a label: what it is worth is what the hold of that sum in a sandbox is worth. -/
noncomputable def Tryz.pinned : Pinned := { name := "ytlgoegjboabgfaagreatdoor", sum := "ff573f497708de60c258380c29f88155d2c9ffa92f59032d39a44fd7774f9b0b", checked := Tryz.checked }
namespace Rows
def none {H : Type} : Left H := { results := [], args := [] }

/- WHAT THE LISTED PACKAGE-LEVEL VARIABLES READ AS WHEN THE CALL BEGINS. Each datum BY PROGRAM (the guide's laid-datum.mjs) off the statement by which the dump's own 'gosem.cut.vars' lays the variable. In a bare row this is a premise. The card (YtlgoegjboabgfaaGreatDoorCards.lean) ties it to the program's text. -/
def laid_math_bits_deBruijn32tab {H : Type} : DataW H := .agg [.lit (.int .u8 0), .lit (.int .u8 1), .lit (.int .u8 28), .lit (.int .u8 2), .lit (.int .u8 29), .lit (.int .u8 14), .lit (.int .u8 24), .lit (.int .u8 3), .lit (.int .u8 30), .lit (.int .u8 22), .lit (.int .u8 20), .lit (.int .u8 15), .lit (.int .u8 25), .lit (.int .u8 17), .lit (.int .u8 4), .lit (.int .u8 8), .lit (.int .u8 31), .lit (.int .u8 27), .lit (.int .u8 13), .lit (.int .u8 23), .lit (.int .u8 21), .lit (.int .u8 19), .lit (.int .u8 16), .lit (.int .u8 7), .lit (.int .u8 26), .lit (.int .u8 12), .lit (.int .u8 18), .lit (.int .u8 6), .lit (.int .u8 11), .lit (.int .u8 5), .lit (.int .u8 10), .lit (.int .u8 9)]
def laid_math_bits_deBruijn64tab {H : Type} : DataW H := .agg [.lit (.int .u8 0), .lit (.int .u8 1), .lit (.int .u8 56), .lit (.int .u8 2), .lit (.int .u8 57), .lit (.int .u8 49), .lit (.int .u8 28), .lit (.int .u8 3), .lit (.int .u8 61), .lit (.int .u8 58), .lit (.int .u8 42), .lit (.int .u8 50), .lit (.int .u8 38), .lit (.int .u8 29), .lit (.int .u8 17), .lit (.int .u8 4), .lit (.int .u8 62), .lit (.int .u8 47), .lit (.int .u8 59), .lit (.int .u8 36), .lit (.int .u8 45), .lit (.int .u8 43), .lit (.int .u8 51), .lit (.int .u8 22), .lit (.int .u8 53), .lit (.int .u8 39), .lit (.int .u8 33), .lit (.int .u8 30), .lit (.int .u8 24), .lit (.int .u8 18), .lit (.int .u8 12), .lit (.int .u8 5), .lit (.int .u8 63), .lit (.int .u8 55), .lit (.int .u8 48), .lit (.int .u8 27), .lit (.int .u8 60), .lit (.int .u8 41), .lit (.int .u8 37), .lit (.int .u8 16), .lit (.int .u8 46), .lit (.int .u8 35), .lit (.int .u8 44), .lit (.int .u8 21), .lit (.int .u8 52), .lit (.int .u8 32), .lit (.int .u8 23), .lit (.int .u8 11), .lit (.int .u8 54), .lit (.int .u8 26), .lit (.int .u8 40), .lit (.int .u8 15), .lit (.int .u8 34), .lit (.int .u8 20), .lit (.int .u8 31), .lit (.int .u8 10), .lit (.int .u8 25), .lit (.int .u8 14), .lit (.int .u8 19), .lit (.int .u8 9), .lit (.int .u8 13), .lit (.int .u8 8), .lit (.int .u8 7), .lit (.int .u8 6)]
def laid_internal_strconv_uint64pow10 {H : Type} : DataW H := .agg [.lit (.int .u64 1), .lit (.int .u64 10), .lit (.int .u64 100), .lit (.int .u64 1000), .lit (.int .u64 10000), .lit (.int .u64 100000), .lit (.int .u64 1000000), .lit (.int .u64 10000000), .lit (.int .u64 100000000), .lit (.int .u64 1000000000), .lit (.int .u64 10000000000), .lit (.int .u64 100000000000), .lit (.int .u64 1000000000000), .lit (.int .u64 10000000000000), .lit (.int .u64 100000000000000), .lit (.int .u64 1000000000000000), .lit (.int .u64 10000000000000000), .lit (.int .u64 100000000000000000), .lit (.int .u64 1000000000000000000), .lit (.int .u64 10000000000000000000)]
def laid_lottery_ticketno_weights {H : Type} : DataW H := .agg [.lit (.int .i64 15), .lit (.int .i64 50), .lit (.int .i64 5), .lit (.int .i64 49), .lit (.int .i64 34), .lit (.int .i64 81), .lit (.int .i64 76), .lit (.int .i64 27), .lit (.int .i64 90), .lit (.int .i64 9), .lit (.int .i64 30), .lit (.int .i64 3)]

/-- 'lotterylaw25.SaleCancels': WHATEVER THE INPUT: true; the input reads as it did. -/
def saleCancelsSpec : ChangeSpec := { name := "saleCancels", fn := fun _ => fun
  | [d1, d2, d3] => { results := [.lit (.bool true)], args := [d1, d2, d3] }
  | _ => none }
def saleCancelsRow : OpenClaim := { program := "ytlgoegjboabgfaagreatdoor", sum := "ff573f497708de60c258380c29f88155d2c9ffa92f59032d39a44fd7774f9b0b", func := "lottery/lotterylaw25.SaleCancels", spec := "saleCancels", inPlace := ["internal/bytealg.IndexByteString", "internal/abi.NoEscape", "internal/bytealg.MakeNoZero"], unfollowed := true, recurses := true, named := ["internal/strconv.uint64pow10", "math/bits.deBruijn32tab", "math/bits.deBruijn64tab", "lottery/ticketno.weights"], apart := false, laid := [("math/bits.deBruijn32tab", laid_math_bits_deBruijn32tab), ("math/bits.deBruijn64tab", laid_math_bits_deBruijn64tab), ("internal/strconv.uint64pow10", laid_internal_strconv_uint64pow10), ("lottery/ticketno.weights", laid_lottery_ticketno_weights)] }
def SaleCancelsSaid : Prop := saleCancelsRow.holds Tryz.pinned (OpenSpec.ofChange saleCancelsSpec)

/-- ITS FALSE NEIGHBOUR: 'it returns false'. Refute it at one input. -/
def saleCancelsWrong : ChangeSpec := { name := "saleCancels", fn := fun _ => fun
  | [d1, d2, d3] => { results := [.lit (.bool false)], args := [d1, d2, d3] }
  | _ => none }
def SaleCancelsWrongFalsely : Prop := saleCancelsRow.holds Tryz.pinned (OpenSpec.ofChange saleCancelsWrong)

/-- 'lotterylaw25.SaleSigned': WHATEVER THE INPUT: true; the input reads as it did. -/
def saleSignedSpec : ChangeSpec := { name := "saleSigned", fn := fun _ => fun
  | [d1, d2, d3] => { results := [.lit (.bool true)], args := [d1, d2, d3] }
  | _ => none }
def saleSignedRow : OpenClaim := { program := "ytlgoegjboabgfaagreatdoor", sum := "ff573f497708de60c258380c29f88155d2c9ffa92f59032d39a44fd7774f9b0b", func := "lottery/lotterylaw25.SaleSigned", spec := "saleSigned", inPlace := ["internal/bytealg.IndexByteString", "internal/abi.NoEscape", "internal/bytealg.MakeNoZero"], unfollowed := true, recurses := true, named := ["internal/strconv.uint64pow10", "math/bits.deBruijn32tab", "math/bits.deBruijn64tab", "lottery/ticketno.weights"], apart := false, laid := [("math/bits.deBruijn32tab", laid_math_bits_deBruijn32tab), ("math/bits.deBruijn64tab", laid_math_bits_deBruijn64tab), ("internal/strconv.uint64pow10", laid_internal_strconv_uint64pow10), ("lottery/ticketno.weights", laid_lottery_ticketno_weights)] }
def SaleSignedSaid : Prop := saleSignedRow.holds Tryz.pinned (OpenSpec.ofChange saleSignedSpec)

/-- ITS FALSE NEIGHBOUR: 'it returns false'. Refute it at one input. -/
def saleSignedWrong : ChangeSpec := { name := "saleSigned", fn := fun _ => fun
  | [d1, d2, d3] => { results := [.lit (.bool false)], args := [d1, d2, d3] }
  | _ => none }
def SaleSignedWrongFalsely : Prop := saleSignedRow.holds Tryz.pinned (OpenSpec.ofChange saleSignedWrong)

/-- 'lotterylaw25.SaleOnce': WHATEVER THE INPUT: true; the input reads as it did. -/
def saleOnceSpec : ChangeSpec := { name := "saleOnce", fn := fun _ => fun
  | [d1, d2] => { results := [.lit (.bool true)], args := [d1, d2] }
  | _ => none }
def saleOnceRow : OpenClaim := { program := "ytlgoegjboabgfaagreatdoor", sum := "ff573f497708de60c258380c29f88155d2c9ffa92f59032d39a44fd7774f9b0b", func := "lottery/lotterylaw25.SaleOnce", spec := "saleOnce", inPlace := ["internal/bytealg.IndexByteString", "internal/abi.NoEscape", "internal/bytealg.MakeNoZero"], unfollowed := true, recurses := true, named := ["lottery/ticketno.weights", "internal/strconv.uint64pow10", "math/bits.deBruijn32tab", "math/bits.deBruijn64tab"], apart := false, laid := [("math/bits.deBruijn32tab", laid_math_bits_deBruijn32tab), ("math/bits.deBruijn64tab", laid_math_bits_deBruijn64tab), ("internal/strconv.uint64pow10", laid_internal_strconv_uint64pow10), ("lottery/ticketno.weights", laid_lottery_ticketno_weights)] }
def SaleOnceSaid : Prop := saleOnceRow.holds Tryz.pinned (OpenSpec.ofChange saleOnceSpec)

/-- ITS FALSE NEIGHBOUR: 'it returns false'. Refute it at one input. -/
def saleOnceWrong : ChangeSpec := { name := "saleOnce", fn := fun _ => fun
  | [d1, d2] => { results := [.lit (.bool false)], args := [d1, d2] }
  | _ => none }
def SaleOnceWrongFalsely : Prop := saleOnceRow.holds Tryz.pinned (OpenSpec.ofChange saleOnceWrong)

/-- 'lotterylaw25.SaleErrors': WHATEVER THE INPUT: true; the input reads as it did. -/
def saleErrorsSpec : ChangeSpec := { name := "saleErrors", fn := fun _ => fun
  | [d1, d2] => { results := [.lit (.bool true)], args := [d1, d2] }
  | _ => none }
def saleErrorsRow : OpenClaim := { program := "ytlgoegjboabgfaagreatdoor", sum := "ff573f497708de60c258380c29f88155d2c9ffa92f59032d39a44fd7774f9b0b", func := "lottery/lotterylaw25.SaleErrors", spec := "saleErrors", inPlace := ["internal/bytealg.IndexByteString", "internal/abi.NoEscape", "internal/bytealg.MakeNoZero"], unfollowed := true, recurses := true, named := ["lottery/ticketno.weights", "internal/strconv.uint64pow10", "math/bits.deBruijn32tab", "math/bits.deBruijn64tab"], apart := false, laid := [("math/bits.deBruijn32tab", laid_math_bits_deBruijn32tab), ("math/bits.deBruijn64tab", laid_math_bits_deBruijn64tab), ("internal/strconv.uint64pow10", laid_internal_strconv_uint64pow10), ("lottery/ticketno.weights", laid_lottery_ticketno_weights)] }
def SaleErrorsSaid : Prop := saleErrorsRow.holds Tryz.pinned (OpenSpec.ofChange saleErrorsSpec)

/-- ITS FALSE NEIGHBOUR: 'it returns false'. Refute it at one input. -/
def saleErrorsWrong : ChangeSpec := { name := "saleErrors", fn := fun _ => fun
  | [d1, d2] => { results := [.lit (.bool false)], args := [d1, d2] }
  | _ => none }
def SaleErrorsWrongFalsely : Prop := saleErrorsRow.holds Tryz.pinned (OpenSpec.ofChange saleErrorsWrong)

/-- 'lotterylaw26.TerminalNumbers': WHATEVER THE INPUT: true; the input reads as it did. -/
def terminalNumbersSpec : ChangeSpec := { name := "terminalNumbers", fn := fun _ => fun
  | [d] => { results := [.lit (.bool true)], args := [d] }
  | _ => none }
def terminalNumbersRow : OpenClaim := { program := "ytlgoegjboabgfaagreatdoor", sum := "ff573f497708de60c258380c29f88155d2c9ffa92f59032d39a44fd7774f9b0b", func := "lottery/lotterylaw26.TerminalNumbers", spec := "terminalNumbers", inPlace := ["internal/bytealg.IndexByteString", "internal/abi.NoEscape", "internal/bytealg.MakeNoZero"], unfollowed := true, recurses := true, named := ["internal/strconv.uint64pow10", "math/bits.deBruijn32tab", "math/bits.deBruijn64tab", "lottery/ticketno.weights"], apart := false, laid := [("math/bits.deBruijn32tab", laid_math_bits_deBruijn32tab), ("math/bits.deBruijn64tab", laid_math_bits_deBruijn64tab), ("internal/strconv.uint64pow10", laid_internal_strconv_uint64pow10), ("lottery/ticketno.weights", laid_lottery_ticketno_weights)] }
def TerminalNumbersSaid : Prop := terminalNumbersRow.holds Tryz.pinned (OpenSpec.ofChange terminalNumbersSpec)

/-- ITS FALSE NEIGHBOUR: 'it returns false'. Refute it at one input. -/
def terminalNumbersWrong : ChangeSpec := { name := "terminalNumbers", fn := fun _ => fun
  | [d] => { results := [.lit (.bool false)], args := [d] }
  | _ => none }
def TerminalNumbersWrongFalsely : Prop := terminalNumbersRow.holds Tryz.pinned (OpenSpec.ofChange terminalNumbersWrong)

/-- 'lotterylaw26.TerminalLimits': WHATEVER THE INPUT: true; the input reads as it did. -/
def terminalLimitsSpec : ChangeSpec := { name := "terminalLimits", fn := fun _ => fun
  | [d] => { results := [.lit (.bool true)], args := [d] }
  | _ => none }
def terminalLimitsRow : OpenClaim := { program := "ytlgoegjboabgfaagreatdoor", sum := "ff573f497708de60c258380c29f88155d2c9ffa92f59032d39a44fd7774f9b0b", func := "lottery/lotterylaw26.TerminalLimits", spec := "terminalLimits", inPlace := ["internal/bytealg.IndexByteString", "internal/abi.NoEscape", "internal/bytealg.MakeNoZero"], unfollowed := true, recurses := true, named := ["internal/strconv.uint64pow10", "math/bits.deBruijn32tab", "math/bits.deBruijn64tab", "lottery/ticketno.weights"], apart := false, laid := [("math/bits.deBruijn32tab", laid_math_bits_deBruijn32tab), ("math/bits.deBruijn64tab", laid_math_bits_deBruijn64tab), ("internal/strconv.uint64pow10", laid_internal_strconv_uint64pow10), ("lottery/ticketno.weights", laid_lottery_ticketno_weights)] }
def TerminalLimitsSaid : Prop := terminalLimitsRow.holds Tryz.pinned (OpenSpec.ofChange terminalLimitsSpec)

/-- ITS FALSE NEIGHBOUR: 'it returns false'. Refute it at one input. -/
def terminalLimitsWrong : ChangeSpec := { name := "terminalLimits", fn := fun _ => fun
  | [d] => { results := [.lit (.bool false)], args := [d] }
  | _ => none }
def TerminalLimitsWrongFalsely : Prop := terminalLimitsRow.holds Tryz.pinned (OpenSpec.ofChange terminalLimitsWrong)

/-- 'lotterylaw26.TerminalNobody': WHATEVER THE INPUT: true; the input reads as it did. -/
def terminalNobodySpec : ChangeSpec := { name := "terminalNobody", fn := fun _ => fun
  | [d1, d2, d3] => { results := [.lit (.bool true)], args := [d1, d2, d3] }
  | _ => none }
def terminalNobodyRow : OpenClaim := { program := "ytlgoegjboabgfaagreatdoor", sum := "ff573f497708de60c258380c29f88155d2c9ffa92f59032d39a44fd7774f9b0b", func := "lottery/lotterylaw26.TerminalNobody", spec := "terminalNobody", inPlace := ["internal/bytealg.IndexByteString", "internal/abi.NoEscape", "internal/bytealg.MakeNoZero"], unfollowed := true, recurses := true, named := ["internal/strconv.uint64pow10", "math/bits.deBruijn32tab", "math/bits.deBruijn64tab", "lottery/ticketno.weights"], apart := false, laid := [("math/bits.deBruijn32tab", laid_math_bits_deBruijn32tab), ("math/bits.deBruijn64tab", laid_math_bits_deBruijn64tab), ("internal/strconv.uint64pow10", laid_internal_strconv_uint64pow10), ("lottery/ticketno.weights", laid_lottery_ticketno_weights)] }
def TerminalNobodySaid : Prop := terminalNobodyRow.holds Tryz.pinned (OpenSpec.ofChange terminalNobodySpec)

/-- ITS FALSE NEIGHBOUR: 'it returns false'. Refute it at one input. -/
def terminalNobodyWrong : ChangeSpec := { name := "terminalNobody", fn := fun _ => fun
  | [d1, d2, d3] => { results := [.lit (.bool false)], args := [d1, d2, d3] }
  | _ => none }
def TerminalNobodyWrongFalsely : Prop := terminalNobodyRow.holds Tryz.pinned (OpenSpec.ofChange terminalNobodyWrong)

/-- 'lotterylaw25.SaleNil': WHATEVER THE INPUT: true; the input reads as it did. -/
def saleNilSpec : ChangeSpec := { name := "saleNil", fn := fun _ => fun
  | [d] => { results := [.lit (.bool true)], args := [d] }
  | _ => none }
def saleNilRow : OpenClaim := { program := "ytlgoegjboabgfaagreatdoor", sum := "ff573f497708de60c258380c29f88155d2c9ffa92f59032d39a44fd7774f9b0b", func := "lottery/lotterylaw25.SaleNil", spec := "saleNil", inPlace := ["internal/bytealg.IndexByteString", "internal/abi.NoEscape", "internal/bytealg.MakeNoZero"], unfollowed := true, recurses := true, named := ["internal/strconv.uint64pow10", "math/bits.deBruijn32tab", "math/bits.deBruijn64tab", "lottery/ticketno.weights"], apart := false, laid := [("math/bits.deBruijn32tab", laid_math_bits_deBruijn32tab), ("math/bits.deBruijn64tab", laid_math_bits_deBruijn64tab), ("internal/strconv.uint64pow10", laid_internal_strconv_uint64pow10), ("lottery/ticketno.weights", laid_lottery_ticketno_weights)] }
def SaleNilSaid : Prop := saleNilRow.holds Tryz.pinned (OpenSpec.ofChange saleNilSpec)

/-- ITS FALSE NEIGHBOUR: 'it returns false'. Refute it at one input. -/
def saleNilWrong : ChangeSpec := { name := "saleNil", fn := fun _ => fun
  | [d] => { results := [.lit (.bool false)], args := [d] }
  | _ => none }
def SaleNilWrongFalsely : Prop := saleNilRow.holds Tryz.pinned (OpenSpec.ofChange saleNilWrong)

/-- 'lotterylaw26.TerminalUploads': WHATEVER THE INPUT: true; the input reads as it did. -/
def terminalUploadsSpec : ChangeSpec := { name := "terminalUploads", fn := fun _ => fun
  | [d1, d2] => { results := [.lit (.bool true)], args := [d1, d2] }
  | _ => none }
def terminalUploadsRow : OpenClaim := { program := "ytlgoegjboabgfaagreatdoor", sum := "ff573f497708de60c258380c29f88155d2c9ffa92f59032d39a44fd7774f9b0b", func := "lottery/lotterylaw26.TerminalUploads", spec := "terminalUploads", inPlace := ["internal/bytealg.IndexByteString", "internal/abi.NoEscape", "internal/bytealg.MakeNoZero"], unfollowed := true, recurses := true, named := ["internal/strconv.uint64pow10", "math/bits.deBruijn32tab", "math/bits.deBruijn64tab", "lottery/ticketno.weights"], apart := false, laid := [("math/bits.deBruijn32tab", laid_math_bits_deBruijn32tab), ("math/bits.deBruijn64tab", laid_math_bits_deBruijn64tab), ("internal/strconv.uint64pow10", laid_internal_strconv_uint64pow10), ("lottery/ticketno.weights", laid_lottery_ticketno_weights)] }
def TerminalUploadsSaid : Prop := terminalUploadsRow.holds Tryz.pinned (OpenSpec.ofChange terminalUploadsSpec)

/-- ITS FALSE NEIGHBOUR: 'it returns false'. Refute it at one input. -/
def terminalUploadsWrong : ChangeSpec := { name := "terminalUploads", fn := fun _ => fun
  | [d1, d2] => { results := [.lit (.bool false)], args := [d1, d2] }
  | _ => none }
def TerminalUploadsWrongFalsely : Prop := terminalUploadsRow.holds Tryz.pinned (OpenSpec.ofChange terminalUploadsWrong)

/- THE SECOND FORM. 'bulk': how many values and letters a reading holds, each counted each time it is reached (what is shared counts as often as it is met; a slice's spare places count too). A statement '..UptoSaid' is the law's where the arguments, and the package variables that the reading takes, are together of bulk at most 1048576: NARROWER than '..Said'. Prove '..Said' where nothing that the law and all that it calls make is longer than what came in: it says more and counts as full. Else prove '..UptoSaid'. A law counts once. -/
mutual
def uptoBulk {H : Type} : DataW H → Nat
  | .lit (.string bytes) => bytes.length + 1
  | .lit _ => 1
  | .nil => 1
  | .ptr d => uptoBulk d + 1
  | .slice elems spare => uptoBulkAll elems + uptoBulkAll spare + 1
  | .agg parts => uptoBulkAll parts + 1
  | .iface _ d => uptoBulk d + 1
  | .map entries => uptoBulkEntries entries + 1
  | .held _ => 1
def uptoBulkAll {H : Type} : List (DataW H) → Nat
  | [] => 0
  | d :: r => uptoBulk d + uptoBulkAll r
def uptoBulkEntries {H : Type} : List (Lit × DataW H) → Nat
  | [] => 0
  | x :: r => uptoBulkEntry x + uptoBulkEntries r
def uptoBulkEntry {H : Type} : Lit × DataW H → Nat
  | (.string bytes, d) => bytes.length + uptoBulk d + 1
  | (_, d) => uptoBulk d + 1
 end
def uptoSmall : (H : Type) → List (DataW H) → Bool := fun _ ds => decide (uptoBulkAll ds ≤ 1048576)
def OpenSpec.upto (s : _root_.Go.ChangeSpec) : _root_.Go.OpenSpec := { _root_.Go.OpenSpec.ofChange s with cond := some uptoSmall }

/-- 'lotterylaw25.SaleCancels', WHERE WHAT IT READS IS OF BULK AT MOST 1048576: true; the input reads as it did. -/
def saleCancelsUptoRow : OpenClaim := { program := "ytlgoegjboabgfaagreatdoor", sum := "ff573f497708de60c258380c29f88155d2c9ffa92f59032d39a44fd7774f9b0b", func := "lottery/lotterylaw25.SaleCancels", spec := "saleCancels", inPlace := ["internal/bytealg.IndexByteString", "internal/abi.NoEscape", "internal/bytealg.MakeNoZero"], unfollowed := true, recurses := true, named := ["internal/strconv.uint64pow10", "math/bits.deBruijn32tab", "math/bits.deBruijn64tab", "lottery/ticketno.weights"], apart := false, laid := [("math/bits.deBruijn32tab", laid_math_bits_deBruijn32tab), ("math/bits.deBruijn64tab", laid_math_bits_deBruijn64tab), ("internal/strconv.uint64pow10", laid_internal_strconv_uint64pow10), ("lottery/ticketno.weights", laid_lottery_ticketno_weights)], narrowed := true }
def SaleCancelsUptoSaid : Prop := saleCancelsUptoRow.holds Tryz.pinned (OpenSpec.upto saleCancelsSpec)

/-- 'lotterylaw25.SaleSigned', WHERE WHAT IT READS IS OF BULK AT MOST 1048576: true; the input reads as it did. -/
def saleSignedUptoRow : OpenClaim := { program := "ytlgoegjboabgfaagreatdoor", sum := "ff573f497708de60c258380c29f88155d2c9ffa92f59032d39a44fd7774f9b0b", func := "lottery/lotterylaw25.SaleSigned", spec := "saleSigned", inPlace := ["internal/bytealg.IndexByteString", "internal/abi.NoEscape", "internal/bytealg.MakeNoZero"], unfollowed := true, recurses := true, named := ["internal/strconv.uint64pow10", "math/bits.deBruijn32tab", "math/bits.deBruijn64tab", "lottery/ticketno.weights"], apart := false, laid := [("math/bits.deBruijn32tab", laid_math_bits_deBruijn32tab), ("math/bits.deBruijn64tab", laid_math_bits_deBruijn64tab), ("internal/strconv.uint64pow10", laid_internal_strconv_uint64pow10), ("lottery/ticketno.weights", laid_lottery_ticketno_weights)], narrowed := true }
def SaleSignedUptoSaid : Prop := saleSignedUptoRow.holds Tryz.pinned (OpenSpec.upto saleSignedSpec)

/-- 'lotterylaw25.SaleOnce', WHERE WHAT IT READS IS OF BULK AT MOST 1048576: true; the input reads as it did. -/
def saleOnceUptoRow : OpenClaim := { program := "ytlgoegjboabgfaagreatdoor", sum := "ff573f497708de60c258380c29f88155d2c9ffa92f59032d39a44fd7774f9b0b", func := "lottery/lotterylaw25.SaleOnce", spec := "saleOnce", inPlace := ["internal/bytealg.IndexByteString", "internal/abi.NoEscape", "internal/bytealg.MakeNoZero"], unfollowed := true, recurses := true, named := ["lottery/ticketno.weights", "internal/strconv.uint64pow10", "math/bits.deBruijn32tab", "math/bits.deBruijn64tab"], apart := false, laid := [("math/bits.deBruijn32tab", laid_math_bits_deBruijn32tab), ("math/bits.deBruijn64tab", laid_math_bits_deBruijn64tab), ("internal/strconv.uint64pow10", laid_internal_strconv_uint64pow10), ("lottery/ticketno.weights", laid_lottery_ticketno_weights)], narrowed := true }
def SaleOnceUptoSaid : Prop := saleOnceUptoRow.holds Tryz.pinned (OpenSpec.upto saleOnceSpec)

/-- 'lotterylaw25.SaleErrors', WHERE WHAT IT READS IS OF BULK AT MOST 1048576: true; the input reads as it did. -/
def saleErrorsUptoRow : OpenClaim := { program := "ytlgoegjboabgfaagreatdoor", sum := "ff573f497708de60c258380c29f88155d2c9ffa92f59032d39a44fd7774f9b0b", func := "lottery/lotterylaw25.SaleErrors", spec := "saleErrors", inPlace := ["internal/bytealg.IndexByteString", "internal/abi.NoEscape", "internal/bytealg.MakeNoZero"], unfollowed := true, recurses := true, named := ["lottery/ticketno.weights", "internal/strconv.uint64pow10", "math/bits.deBruijn32tab", "math/bits.deBruijn64tab"], apart := false, laid := [("math/bits.deBruijn32tab", laid_math_bits_deBruijn32tab), ("math/bits.deBruijn64tab", laid_math_bits_deBruijn64tab), ("internal/strconv.uint64pow10", laid_internal_strconv_uint64pow10), ("lottery/ticketno.weights", laid_lottery_ticketno_weights)], narrowed := true }
def SaleErrorsUptoSaid : Prop := saleErrorsUptoRow.holds Tryz.pinned (OpenSpec.upto saleErrorsSpec)

/-- 'lotterylaw26.TerminalNumbers', WHERE WHAT IT READS IS OF BULK AT MOST 1048576: true; the input reads as it did. -/
def terminalNumbersUptoRow : OpenClaim := { program := "ytlgoegjboabgfaagreatdoor", sum := "ff573f497708de60c258380c29f88155d2c9ffa92f59032d39a44fd7774f9b0b", func := "lottery/lotterylaw26.TerminalNumbers", spec := "terminalNumbers", inPlace := ["internal/bytealg.IndexByteString", "internal/abi.NoEscape", "internal/bytealg.MakeNoZero"], unfollowed := true, recurses := true, named := ["internal/strconv.uint64pow10", "math/bits.deBruijn32tab", "math/bits.deBruijn64tab", "lottery/ticketno.weights"], apart := false, laid := [("math/bits.deBruijn32tab", laid_math_bits_deBruijn32tab), ("math/bits.deBruijn64tab", laid_math_bits_deBruijn64tab), ("internal/strconv.uint64pow10", laid_internal_strconv_uint64pow10), ("lottery/ticketno.weights", laid_lottery_ticketno_weights)], narrowed := true }
def TerminalNumbersUptoSaid : Prop := terminalNumbersUptoRow.holds Tryz.pinned (OpenSpec.upto terminalNumbersSpec)

/-- 'lotterylaw26.TerminalLimits', WHERE WHAT IT READS IS OF BULK AT MOST 1048576: true; the input reads as it did. -/
def terminalLimitsUptoRow : OpenClaim := { program := "ytlgoegjboabgfaagreatdoor", sum := "ff573f497708de60c258380c29f88155d2c9ffa92f59032d39a44fd7774f9b0b", func := "lottery/lotterylaw26.TerminalLimits", spec := "terminalLimits", inPlace := ["internal/bytealg.IndexByteString", "internal/abi.NoEscape", "internal/bytealg.MakeNoZero"], unfollowed := true, recurses := true, named := ["internal/strconv.uint64pow10", "math/bits.deBruijn32tab", "math/bits.deBruijn64tab", "lottery/ticketno.weights"], apart := false, laid := [("math/bits.deBruijn32tab", laid_math_bits_deBruijn32tab), ("math/bits.deBruijn64tab", laid_math_bits_deBruijn64tab), ("internal/strconv.uint64pow10", laid_internal_strconv_uint64pow10), ("lottery/ticketno.weights", laid_lottery_ticketno_weights)], narrowed := true }
def TerminalLimitsUptoSaid : Prop := terminalLimitsUptoRow.holds Tryz.pinned (OpenSpec.upto terminalLimitsSpec)

/-- 'lotterylaw26.TerminalNobody', WHERE WHAT IT READS IS OF BULK AT MOST 1048576: true; the input reads as it did. -/
def terminalNobodyUptoRow : OpenClaim := { program := "ytlgoegjboabgfaagreatdoor", sum := "ff573f497708de60c258380c29f88155d2c9ffa92f59032d39a44fd7774f9b0b", func := "lottery/lotterylaw26.TerminalNobody", spec := "terminalNobody", inPlace := ["internal/bytealg.IndexByteString", "internal/abi.NoEscape", "internal/bytealg.MakeNoZero"], unfollowed := true, recurses := true, named := ["internal/strconv.uint64pow10", "math/bits.deBruijn32tab", "math/bits.deBruijn64tab", "lottery/ticketno.weights"], apart := false, laid := [("math/bits.deBruijn32tab", laid_math_bits_deBruijn32tab), ("math/bits.deBruijn64tab", laid_math_bits_deBruijn64tab), ("internal/strconv.uint64pow10", laid_internal_strconv_uint64pow10), ("lottery/ticketno.weights", laid_lottery_ticketno_weights)], narrowed := true }
def TerminalNobodyUptoSaid : Prop := terminalNobodyUptoRow.holds Tryz.pinned (OpenSpec.upto terminalNobodySpec)

/-- 'lotterylaw25.SaleNil', WHERE WHAT IT READS IS OF BULK AT MOST 1048576: true; the input reads as it did. -/
def saleNilUptoRow : OpenClaim := { program := "ytlgoegjboabgfaagreatdoor", sum := "ff573f497708de60c258380c29f88155d2c9ffa92f59032d39a44fd7774f9b0b", func := "lottery/lotterylaw25.SaleNil", spec := "saleNil", inPlace := ["internal/bytealg.IndexByteString", "internal/abi.NoEscape", "internal/bytealg.MakeNoZero"], unfollowed := true, recurses := true, named := ["internal/strconv.uint64pow10", "math/bits.deBruijn32tab", "math/bits.deBruijn64tab", "lottery/ticketno.weights"], apart := false, laid := [("math/bits.deBruijn32tab", laid_math_bits_deBruijn32tab), ("math/bits.deBruijn64tab", laid_math_bits_deBruijn64tab), ("internal/strconv.uint64pow10", laid_internal_strconv_uint64pow10), ("lottery/ticketno.weights", laid_lottery_ticketno_weights)], narrowed := true }
def SaleNilUptoSaid : Prop := saleNilUptoRow.holds Tryz.pinned (OpenSpec.upto saleNilSpec)

/-- 'lotterylaw26.TerminalUploads', WHERE WHAT IT READS IS OF BULK AT MOST 1048576: true; the input reads as it did. -/
def terminalUploadsUptoRow : OpenClaim := { program := "ytlgoegjboabgfaagreatdoor", sum := "ff573f497708de60c258380c29f88155d2c9ffa92f59032d39a44fd7774f9b0b", func := "lottery/lotterylaw26.TerminalUploads", spec := "terminalUploads", inPlace := ["internal/bytealg.IndexByteString", "internal/abi.NoEscape", "internal/bytealg.MakeNoZero"], unfollowed := true, recurses := true, named := ["internal/strconv.uint64pow10", "math/bits.deBruijn32tab", "math/bits.deBruijn64tab", "lottery/ticketno.weights"], apart := false, laid := [("math/bits.deBruijn32tab", laid_math_bits_deBruijn32tab), ("math/bits.deBruijn64tab", laid_math_bits_deBruijn64tab), ("internal/strconv.uint64pow10", laid_internal_strconv_uint64pow10), ("lottery/ticketno.weights", laid_lottery_ticketno_weights)], narrowed := true }
def TerminalUploadsUptoSaid : Prop := terminalUploadsUptoRow.holds Tryz.pinned (OpenSpec.upto terminalUploadsSpec)

end Rows
end Go.Proofs.YtlgoegjboabgfaaGreatDoor
