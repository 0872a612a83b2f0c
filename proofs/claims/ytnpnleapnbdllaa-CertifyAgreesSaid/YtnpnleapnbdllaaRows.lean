/-
  No cell of these rows narrows 'for every input' (looked for: loops, veiled, ifaces, maps, wideKeys, modest, calm, conditions, laid).
  DERIVED. THE GIVEN ROWS OF THIS SEAT. 6 by the template 'for every input the law returns true; each argument reads behind the call as it read before'; 0 by the template 'total and deterministic' (their statements: YtnpnleapnbdllaaTotals.lean).
  GIVEN WITH THE SEED: the statements are not yours to turn. If you find one false, say at which input.
  Laid BY PROGRAM, IN A SANDBOX (cutbox-rows.mjs): the forced cells as the released guide's own fill.sh prints them over the translation a242e583ddc76c92… (all of the seat's roots in one cut). By AI agents, Wed Nov 11 2026. No macro, syntax, notation, axiom, sorry.
-/
import Derived.Test.YtnpnleapnbdllaaChecked
import GoSem.Claim
import GoSem.ClaimJoined
import GoSem.ClaimMapViews
import Derived.JoinedTies
import Derived.KernelRfl
namespace Go.Proofs.Ytnpnleapnbdllaa
/- THE CELL 'sum', in the pinned program and in every row, IS THE sha256 OF THE DUMP (.gsa) THAT YtnpnleapnbdllaaProg.lean LOADS. Nothing in Lean hashes anything: it is a label: what it is worth is what the hold of that sum in a sandbox is worth. -/
noncomputable def Try.pinned : Pinned := { name := "ytnpnleapnbdllaa", sum := "a242e583ddc76c926aa933373469456f21bc5a190cf1b35951249bcd7cb2ab07", checked := Try.checked }
namespace Rows
def none {H : Type} : Left H := { results := [], args := [] }

/-- 'lotterylaw30.CertifyResults': WHATEVER THE INPUT: true; the input reads as it did. -/
def certifyResultsSpec : ChangeSpec := { name := "certifyResults", fn := fun _ => fun
  | [d1, d2, d3] => { results := [.lit (.bool true)], args := [d1, d2, d3] }
  | _ => none }
def certifyResultsRow : OpenClaim := { program := "ytnpnleapnbdllaa", sum := "a242e583ddc76c926aa933373469456f21bc5a190cf1b35951249bcd7cb2ab07", func := "lottery/lotterylaw30.CertifyResults", spec := "certifyResults", unfollowed := true, recurses := true, apart := false }
def CertifyResultsSaid : Prop := certifyResultsRow.holds Try.pinned (OpenSpec.ofChange certifyResultsSpec)

/-- ITS FALSE NEIGHBOUR: 'it returns false'. Refute it at one input. -/
def certifyResultsWrong : ChangeSpec := { name := "certifyResults", fn := fun _ => fun
  | [d1, d2, d3] => { results := [.lit (.bool false)], args := [d1, d2, d3] }
  | _ => none }
def CertifyResultsWrongFalsely : Prop := certifyResultsRow.holds Try.pinned (OpenSpec.ofChange certifyResultsWrong)

/-- 'lotterylaw30.CertifySame': WHATEVER THE INPUT: true; the input reads as it did. -/
def certifySameSpec : ChangeSpec := { name := "certifySame", fn := fun _ => fun
  | [d1, d2] => { results := [.lit (.bool true)], args := [d1, d2] }
  | _ => none }
def certifySameRow : OpenClaim := { program := "ytnpnleapnbdllaa", sum := "a242e583ddc76c926aa933373469456f21bc5a190cf1b35951249bcd7cb2ab07", func := "lottery/lotterylaw30.CertifySame", spec := "certifySame", unfollowed := true, recurses := true, apart := false }
def CertifySameSaid : Prop := certifySameRow.holds Try.pinned (OpenSpec.ofChange certifySameSpec)

/-- ITS FALSE NEIGHBOUR: 'it returns false'. Refute it at one input. -/
def certifySameWrong : ChangeSpec := { name := "certifySame", fn := fun _ => fun
  | [d1, d2] => { results := [.lit (.bool false)], args := [d1, d2] }
  | _ => none }
def CertifySameWrongFalsely : Prop := certifySameRow.holds Try.pinned (OpenSpec.ofChange certifySameWrong)

/-- 'lotterylaw30.CertifyAgrees': WHATEVER THE INPUT: true; the input reads as it did. -/
def certifyAgreesSpec : ChangeSpec := { name := "certifyAgrees", fn := fun _ => fun
  | [d1, d2, d3] => { results := [.lit (.bool true)], args := [d1, d2, d3] }
  | _ => none }
def certifyAgreesRow : OpenClaim := { program := "ytnpnleapnbdllaa", sum := "a242e583ddc76c926aa933373469456f21bc5a190cf1b35951249bcd7cb2ab07", func := "lottery/lotterylaw30.CertifyAgrees", spec := "certifyAgrees", unfollowed := true, recurses := true, apart := false }
def CertifyAgreesSaid : Prop := certifyAgreesRow.holds Try.pinned (OpenSpec.ofChange certifyAgreesSpec)

/-- ITS FALSE NEIGHBOUR: 'it returns false'. Refute it at one input. -/
def certifyAgreesWrong : ChangeSpec := { name := "certifyAgrees", fn := fun _ => fun
  | [d1, d2, d3] => { results := [.lit (.bool false)], args := [d1, d2, d3] }
  | _ => none }
def CertifyAgreesWrongFalsely : Prop := certifyAgreesRow.holds Try.pinned (OpenSpec.ofChange certifyAgreesWrong)

/-- 'lotterylaw30.CertifyOrders': WHATEVER THE INPUT: true; the input reads as it did. -/
def certifyOrdersSpec : ChangeSpec := { name := "certifyOrders", fn := fun _ => fun
  | [d1, d2, d3] => { results := [.lit (.bool true)], args := [d1, d2, d3] }
  | _ => none }
def certifyOrdersRow : OpenClaim := { program := "ytnpnleapnbdllaa", sum := "a242e583ddc76c926aa933373469456f21bc5a190cf1b35951249bcd7cb2ab07", func := "lottery/lotterylaw30.CertifyOrders", spec := "certifyOrders", unfollowed := true, recurses := true, apart := false }
def CertifyOrdersSaid : Prop := certifyOrdersRow.holds Try.pinned (OpenSpec.ofChange certifyOrdersSpec)

/-- ITS FALSE NEIGHBOUR: 'it returns false'. Refute it at one input. -/
def certifyOrdersWrong : ChangeSpec := { name := "certifyOrders", fn := fun _ => fun
  | [d1, d2, d3] => { results := [.lit (.bool false)], args := [d1, d2, d3] }
  | _ => none }
def CertifyOrdersWrongFalsely : Prop := certifyOrdersRow.holds Try.pinned (OpenSpec.ofChange certifyOrdersWrong)

/-- 'lotterylaw30.CertifyQuorums': WHATEVER THE INPUT: true; the input reads as it did. -/
def certifyQuorumsSpec : ChangeSpec := { name := "certifyQuorums", fn := fun _ => fun
  | [d1, d2, d3, d4] => { results := [.lit (.bool true)], args := [d1, d2, d3, d4] }
  | _ => none }
def certifyQuorumsRow : OpenClaim := { program := "ytnpnleapnbdllaa", sum := "a242e583ddc76c926aa933373469456f21bc5a190cf1b35951249bcd7cb2ab07", func := "lottery/lotterylaw30.CertifyQuorums", spec := "certifyQuorums", unfollowed := true, recurses := true, apart := false }
def CertifyQuorumsSaid : Prop := certifyQuorumsRow.holds Try.pinned (OpenSpec.ofChange certifyQuorumsSpec)

/-- ITS FALSE NEIGHBOUR: 'it returns false'. Refute it at one input. -/
def certifyQuorumsWrong : ChangeSpec := { name := "certifyQuorums", fn := fun _ => fun
  | [d1, d2, d3, d4] => { results := [.lit (.bool false)], args := [d1, d2, d3, d4] }
  | _ => none }
def CertifyQuorumsWrongFalsely : Prop := certifyQuorumsRow.holds Try.pinned (OpenSpec.ofChange certifyQuorumsWrong)

/-- 'lotterylaw30.CertifyMore': WHATEVER THE INPUT: true; the input reads as it did. -/
def certifyMoreSpec : ChangeSpec := { name := "certifyMore", fn := fun _ => fun
  | [d1, d2, d3, d4] => { results := [.lit (.bool true)], args := [d1, d2, d3, d4] }
  | _ => none }
def certifyMoreRow : OpenClaim := { program := "ytnpnleapnbdllaa", sum := "a242e583ddc76c926aa933373469456f21bc5a190cf1b35951249bcd7cb2ab07", func := "lottery/lotterylaw30.CertifyMore", spec := "certifyMore", unfollowed := true, recurses := true, apart := false }
def CertifyMoreSaid : Prop := certifyMoreRow.holds Try.pinned (OpenSpec.ofChange certifyMoreSpec)

/-- ITS FALSE NEIGHBOUR: 'it returns false'. Refute it at one input. -/
def certifyMoreWrong : ChangeSpec := { name := "certifyMore", fn := fun _ => fun
  | [d1, d2, d3, d4] => { results := [.lit (.bool false)], args := [d1, d2, d3, d4] }
  | _ => none }
def CertifyMoreWrongFalsely : Prop := certifyMoreRow.holds Try.pinned (OpenSpec.ofChange certifyMoreWrong)

/- THE SECOND FORM. 'bulk': how many values and letters a reading holds, each counted each time it is reached (what is shared counts as often as it is met; a slice's spare places count too). A statement '..UptoSaid' is the law's where the arguments, and the package variables that the reading takes, are together of bulk at most 1048576: NARROWER than '..Said'. Prove '..Said' where nothing that the law and all that it calls make is longer than what came in: it says more and counts as full. Else prove '..UptoSaid'. A law counts once. -/
mutual
def uptoBulk {H : Type} : DataW H → Nat
  | .lit (.string bytes) => bytes.length + 1
  | .lit _ => 1
  | .nil => 1
  | .ptr d => uptoBulk d + 1
  | .slice elems spare => uptoBulkAll elems + uptoBulkAll spare + 1
  | .agg parts => uptoBulkAll parts + 1
  | .iface _ d => uptoBulk d + 1
  | .map entries => uptoBulkEntries entries + 1
  | .held _ => 1
def uptoBulkAll {H : Type} : List (DataW H) → Nat
  | [] => 0
  | d :: r => uptoBulk d + uptoBulkAll r
def uptoBulkEntries {H : Type} : List (Lit × DataW H) → Nat
  | [] => 0
  | x :: r => uptoBulkEntry x + uptoBulkEntries r
def uptoBulkEntry {H : Type} : Lit × DataW H → Nat
  | (.string bytes, d) => bytes.length + uptoBulk d + 1
  | (_, d) => uptoBulk d + 1
 end
def uptoSmall : (H : Type) → List (DataW H) → Bool := fun _ ds => decide (uptoBulkAll ds ≤ 1048576)
def OpenSpec.upto (s : _root_.Go.ChangeSpec) : _root_.Go.OpenSpec := { _root_.Go.OpenSpec.ofChange s with cond := some uptoSmall }

/-- 'lotterylaw30.CertifyResults', WHERE WHAT IT READS IS OF BULK AT MOST 1048576: true; the input reads as it did. -/
def certifyResultsUptoRow : OpenClaim := { program := "ytnpnleapnbdllaa", sum := "a242e583ddc76c926aa933373469456f21bc5a190cf1b35951249bcd7cb2ab07", func := "lottery/lotterylaw30.CertifyResults", spec := "certifyResults", unfollowed := true, recurses := true, apart := false, narrowed := true }
def CertifyResultsUptoSaid : Prop := certifyResultsUptoRow.holds Try.pinned (OpenSpec.upto certifyResultsSpec)

/-- 'lotterylaw30.CertifySame', WHERE WHAT IT READS IS OF BULK AT MOST 1048576: true; the input reads as it did. -/
def certifySameUptoRow : OpenClaim := { program := "ytnpnleapnbdllaa", sum := "a242e583ddc76c926aa933373469456f21bc5a190cf1b35951249bcd7cb2ab07", func := "lottery/lotterylaw30.CertifySame", spec := "certifySame", unfollowed := true, recurses := true, apart := false, narrowed := true }
def CertifySameUptoSaid : Prop := certifySameUptoRow.holds Try.pinned (OpenSpec.upto certifySameSpec)

/-- 'lotterylaw30.CertifyAgrees', WHERE WHAT IT READS IS OF BULK AT MOST 1048576: true; the input reads as it did. -/
def certifyAgreesUptoRow : OpenClaim := { program := "ytnpnleapnbdllaa", sum := "a242e583ddc76c926aa933373469456f21bc5a190cf1b35951249bcd7cb2ab07", func := "lottery/lotterylaw30.CertifyAgrees", spec := "certifyAgrees", unfollowed := true, recurses := true, apart := false, narrowed := true }
def CertifyAgreesUptoSaid : Prop := certifyAgreesUptoRow.holds Try.pinned (OpenSpec.upto certifyAgreesSpec)

/-- 'lotterylaw30.CertifyOrders', WHERE WHAT IT READS IS OF BULK AT MOST 1048576: true; the input reads as it did. -/
def certifyOrdersUptoRow : OpenClaim := { program := "ytnpnleapnbdllaa", sum := "a242e583ddc76c926aa933373469456f21bc5a190cf1b35951249bcd7cb2ab07", func := "lottery/lotterylaw30.CertifyOrders", spec := "certifyOrders", unfollowed := true, recurses := true, apart := false, narrowed := true }
def CertifyOrdersUptoSaid : Prop := certifyOrdersUptoRow.holds Try.pinned (OpenSpec.upto certifyOrdersSpec)

/-- 'lotterylaw30.CertifyQuorums', WHERE WHAT IT READS IS OF BULK AT MOST 1048576: true; the input reads as it did. -/
def certifyQuorumsUptoRow : OpenClaim := { program := "ytnpnleapnbdllaa", sum := "a242e583ddc76c926aa933373469456f21bc5a190cf1b35951249bcd7cb2ab07", func := "lottery/lotterylaw30.CertifyQuorums", spec := "certifyQuorums", unfollowed := true, recurses := true, apart := false, narrowed := true }
def CertifyQuorumsUptoSaid : Prop := certifyQuorumsUptoRow.holds Try.pinned (OpenSpec.upto certifyQuorumsSpec)

/-- 'lotterylaw30.CertifyMore', WHERE WHAT IT READS IS OF BULK AT MOST 1048576: true; the input reads as it did. -/
def certifyMoreUptoRow : OpenClaim := { program := "ytnpnleapnbdllaa", sum := "a242e583ddc76c926aa933373469456f21bc5a190cf1b35951249bcd7cb2ab07", func := "lottery/lotterylaw30.CertifyMore", spec := "certifyMore", unfollowed := true, recurses := true, apart := false, narrowed := true }
def CertifyMoreUptoSaid : Prop := certifyMoreUptoRow.holds Try.pinned (OpenSpec.upto certifyMoreSpec)

end Rows
end Go.Proofs.Ytnpnleapnbdllaa
