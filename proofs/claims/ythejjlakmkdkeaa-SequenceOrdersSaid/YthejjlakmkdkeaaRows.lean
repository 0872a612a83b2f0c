/-
  No cell of these rows narrows 'for every input' (looked for: loops, veiled, ifaces, maps, wideKeys, modest, calm, conditions, laid).
  DERIVED. THE GIVEN ROWS OF THIS SEAT. 6 by the template 'for every input the law returns true; each argument reads behind the call as it read before'; 0 by the template 'total and deterministic' (their statements: YthejjlakmkdkeaaTotals.lean).
  GIVEN WITH THE SEED: the statements are not yours to turn. If you find one false, say at which input.
  Laid BY PROGRAM, IN A SANDBOX (cutbox-rows.mjs): the forced cells as the released guide's own fill.sh prints them over the translation 0bc9dd85254ea5d9… (all of the seat's roots in one cut). By AI agents, Wed Nov 11 2026. No macro, syntax, notation, axiom, sorry.
-/
import Derived.Test.YthejjlakmkdkeaaChecked
import GoSem.Claim
import GoSem.ClaimJoined
import GoSem.ClaimMapViews
import Derived.JoinedTies
import Derived.KernelRfl
namespace Go.Proofs.Ythejjlakmkdkeaa
/- THE CELL 'sum', in the pinned program and in every row, IS THE sha256 OF THE DUMP (.gsa) THAT YthejjlakmkdkeaaProg.lean LOADS. Nothing in Lean hashes anything: it is a label: what it is worth is what the hold of that sum in a sandbox is worth. -/
noncomputable def Try.pinned : Pinned := { name := "ythejjlakmkdkeaa", sum := "0bc9dd85254ea5d9658f0c539b9329e4b57e31973c97142a4b623f27bbf3e0c2", checked := Try.checked }
namespace Rows
def none {H : Type} : Left H := { results := [], args := [] }

/-- 'lotterylaw20.SequenceRuns': WHATEVER THE INPUT: true; the input reads as it did. -/
def sequenceRunsSpec : ChangeSpec := { name := "sequenceRuns", fn := fun _ => fun
  | [d1, d2] => { results := [.lit (.bool true)], args := [d1, d2] }
  | _ => none }
def sequenceRunsRow : OpenClaim := { program := "ythejjlakmkdkeaa", sum := "0bc9dd85254ea5d9658f0c539b9329e4b57e31973c97142a4b623f27bbf3e0c2", func := "lottery/lotterylaw20.SequenceRuns", spec := "sequenceRuns", unfollowed := true, recurses := true, apart := false }
def SequenceRunsSaid : Prop := sequenceRunsRow.holds Try.pinned (OpenSpec.ofChange sequenceRunsSpec)

/-- ITS FALSE NEIGHBOUR: 'it returns false'. Refute it at one input. -/
def sequenceRunsWrong : ChangeSpec := { name := "sequenceRuns", fn := fun _ => fun
  | [d1, d2] => { results := [.lit (.bool false)], args := [d1, d2] }
  | _ => none }
def SequenceRunsWrongFalsely : Prop := sequenceRunsRow.holds Try.pinned (OpenSpec.ofChange sequenceRunsWrong)

/-- 'lotterylaw20.SequenceOnce': WHATEVER THE INPUT: true; the input reads as it did. -/
def sequenceOnceSpec : ChangeSpec := { name := "sequenceOnce", fn := fun _ => fun
  | [d1, d2] => { results := [.lit (.bool true)], args := [d1, d2] }
  | _ => none }
def sequenceOnceRow : OpenClaim := { program := "ythejjlakmkdkeaa", sum := "0bc9dd85254ea5d9658f0c539b9329e4b57e31973c97142a4b623f27bbf3e0c2", func := "lottery/lotterylaw20.SequenceOnce", spec := "sequenceOnce", unfollowed := true, recurses := true, apart := false }
def SequenceOnceSaid : Prop := sequenceOnceRow.holds Try.pinned (OpenSpec.ofChange sequenceOnceSpec)

/-- ITS FALSE NEIGHBOUR: 'it returns false'. Refute it at one input. -/
def sequenceOnceWrong : ChangeSpec := { name := "sequenceOnce", fn := fun _ => fun
  | [d1, d2] => { results := [.lit (.bool false)], args := [d1, d2] }
  | _ => none }
def SequenceOnceWrongFalsely : Prop := sequenceOnceRow.holds Try.pinned (OpenSpec.ofChange sequenceOnceWrong)

/-- 'lotterylaw20.SequenceCounts': WHATEVER THE INPUT: true; the input reads as it did. -/
def sequenceCountsSpec : ChangeSpec := { name := "sequenceCounts", fn := fun _ => fun
  | [d1, d2] => { results := [.lit (.bool true)], args := [d1, d2] }
  | _ => none }
def sequenceCountsRow : OpenClaim := { program := "ythejjlakmkdkeaa", sum := "0bc9dd85254ea5d9658f0c539b9329e4b57e31973c97142a4b623f27bbf3e0c2", func := "lottery/lotterylaw20.SequenceCounts", spec := "sequenceCounts", unfollowed := true, recurses := true, apart := false }
def SequenceCountsSaid : Prop := sequenceCountsRow.holds Try.pinned (OpenSpec.ofChange sequenceCountsSpec)

/-- ITS FALSE NEIGHBOUR: 'it returns false'. Refute it at one input. -/
def sequenceCountsWrong : ChangeSpec := { name := "sequenceCounts", fn := fun _ => fun
  | [d1, d2] => { results := [.lit (.bool false)], args := [d1, d2] }
  | _ => none }
def SequenceCountsWrongFalsely : Prop := sequenceCountsRow.holds Try.pinned (OpenSpec.ofChange sequenceCountsWrong)

/-- 'lotterylaw20.SequenceOrders': WHATEVER THE INPUT: true; the input reads as it did. -/
def sequenceOrdersSpec : ChangeSpec := { name := "sequenceOrders", fn := fun _ => fun
  | [d1, d2] => { results := [.lit (.bool true)], args := [d1, d2] }
  | _ => none }
def sequenceOrdersRow : OpenClaim := { program := "ythejjlakmkdkeaa", sum := "0bc9dd85254ea5d9658f0c539b9329e4b57e31973c97142a4b623f27bbf3e0c2", func := "lottery/lotterylaw20.SequenceOrders", spec := "sequenceOrders", unfollowed := true, recurses := true, apart := false }
def SequenceOrdersSaid : Prop := sequenceOrdersRow.holds Try.pinned (OpenSpec.ofChange sequenceOrdersSpec)

/-- ITS FALSE NEIGHBOUR: 'it returns false'. Refute it at one input. -/
def sequenceOrdersWrong : ChangeSpec := { name := "sequenceOrders", fn := fun _ => fun
  | [d1, d2] => { results := [.lit (.bool false)], args := [d1, d2] }
  | _ => none }
def SequenceOrdersWrongFalsely : Prop := sequenceOrdersRow.holds Try.pinned (OpenSpec.ofChange sequenceOrdersWrong)

/-- 'lotterylaw20.SequenceFills': WHATEVER THE INPUT: true; the input reads as it did. -/
def sequenceFillsSpec : ChangeSpec := { name := "sequenceFills", fn := fun _ => fun
  | [d1, d2] => { results := [.lit (.bool true)], args := [d1, d2] }
  | _ => none }
def sequenceFillsRow : OpenClaim := { program := "ythejjlakmkdkeaa", sum := "0bc9dd85254ea5d9658f0c539b9329e4b57e31973c97142a4b623f27bbf3e0c2", func := "lottery/lotterylaw20.SequenceFills", spec := "sequenceFills", unfollowed := true, recurses := true, apart := false }
def SequenceFillsSaid : Prop := sequenceFillsRow.holds Try.pinned (OpenSpec.ofChange sequenceFillsSpec)

/-- ITS FALSE NEIGHBOUR: 'it returns false'. Refute it at one input. -/
def sequenceFillsWrong : ChangeSpec := { name := "sequenceFills", fn := fun _ => fun
  | [d1, d2] => { results := [.lit (.bool false)], args := [d1, d2] }
  | _ => none }
def SequenceFillsWrongFalsely : Prop := sequenceFillsRow.holds Try.pinned (OpenSpec.ofChange sequenceFillsWrong)

/-- 'lotterylaw20.SequenceNobody': WHATEVER THE INPUT: true; the input reads as it did. -/
def sequenceNobodySpec : ChangeSpec := { name := "sequenceNobody", fn := fun _ => fun
  | [d] => { results := [.lit (.bool true)], args := [d] }
  | _ => none }
def sequenceNobodyRow : OpenClaim := { program := "ythejjlakmkdkeaa", sum := "0bc9dd85254ea5d9658f0c539b9329e4b57e31973c97142a4b623f27bbf3e0c2", func := "lottery/lotterylaw20.SequenceNobody", spec := "sequenceNobody", unfollowed := true, recurses := true, apart := false }
def SequenceNobodySaid : Prop := sequenceNobodyRow.holds Try.pinned (OpenSpec.ofChange sequenceNobodySpec)

/-- ITS FALSE NEIGHBOUR: 'it returns false'. Refute it at one input. -/
def sequenceNobodyWrong : ChangeSpec := { name := "sequenceNobody", fn := fun _ => fun
  | [d] => { results := [.lit (.bool false)], args := [d] }
  | _ => none }
def SequenceNobodyWrongFalsely : Prop := sequenceNobodyRow.holds Try.pinned (OpenSpec.ofChange sequenceNobodyWrong)

/- THE SECOND FORM. 'bulk': how many values and letters a reading holds, each counted each time it is reached (what is shared counts as often as it is met; a slice's spare places count too). A statement '..UptoSaid' is the law's where the arguments, and the package variables that the reading takes, are together of bulk at most 1048576: NARROWER than '..Said'. Prove '..Said' where nothing that the law and all that it calls make is longer than what came in: it says more and counts as full. Else prove '..UptoSaid'. A law counts once. -/
mutual
def uptoBulk {H : Type} : DataW H → Nat
  | .lit (.string bytes) => bytes.length + 1
  | .lit _ => 1
  | .nil => 1
  | .ptr d => uptoBulk d + 1
  | .slice elems spare => uptoBulkAll elems + uptoBulkAll spare + 1
  | .agg parts => uptoBulkAll parts + 1
  | .iface _ d => uptoBulk d + 1
  | .map entries => uptoBulkEntries entries + 1
  | .held _ => 1
def uptoBulkAll {H : Type} : List (DataW H) → Nat
  | [] => 0
  | d :: r => uptoBulk d + uptoBulkAll r
def uptoBulkEntries {H : Type} : List (Lit × DataW H) → Nat
  | [] => 0
  | x :: r => uptoBulkEntry x + uptoBulkEntries r
def uptoBulkEntry {H : Type} : Lit × DataW H → Nat
  | (.string bytes, d) => bytes.length + uptoBulk d + 1
  | (_, d) => uptoBulk d + 1
 end
def uptoSmall : (H : Type) → List (DataW H) → Bool := fun _ ds => decide (uptoBulkAll ds ≤ 1048576)
def OpenSpec.upto (s : _root_.Go.ChangeSpec) : _root_.Go.OpenSpec := { _root_.Go.OpenSpec.ofChange s with cond := some uptoSmall }

/-- 'lotterylaw20.SequenceRuns', WHERE WHAT IT READS IS OF BULK AT MOST 1048576: true; the input reads as it did. -/
def sequenceRunsUptoRow : OpenClaim := { program := "ythejjlakmkdkeaa", sum := "0bc9dd85254ea5d9658f0c539b9329e4b57e31973c97142a4b623f27bbf3e0c2", func := "lottery/lotterylaw20.SequenceRuns", spec := "sequenceRuns", unfollowed := true, recurses := true, apart := false, narrowed := true }
def SequenceRunsUptoSaid : Prop := sequenceRunsUptoRow.holds Try.pinned (OpenSpec.upto sequenceRunsSpec)

/-- 'lotterylaw20.SequenceOnce', WHERE WHAT IT READS IS OF BULK AT MOST 1048576: true; the input reads as it did. -/
def sequenceOnceUptoRow : OpenClaim := { program := "ythejjlakmkdkeaa", sum := "0bc9dd85254ea5d9658f0c539b9329e4b57e31973c97142a4b623f27bbf3e0c2", func := "lottery/lotterylaw20.SequenceOnce", spec := "sequenceOnce", unfollowed := true, recurses := true, apart := false, narrowed := true }
def SequenceOnceUptoSaid : Prop := sequenceOnceUptoRow.holds Try.pinned (OpenSpec.upto sequenceOnceSpec)

/-- 'lotterylaw20.SequenceCounts', WHERE WHAT IT READS IS OF BULK AT MOST 1048576: true; the input reads as it did. -/
def sequenceCountsUptoRow : OpenClaim := { program := "ythejjlakmkdkeaa", sum := "0bc9dd85254ea5d9658f0c539b9329e4b57e31973c97142a4b623f27bbf3e0c2", func := "lottery/lotterylaw20.SequenceCounts", spec := "sequenceCounts", unfollowed := true, recurses := true, apart := false, narrowed := true }
def SequenceCountsUptoSaid : Prop := sequenceCountsUptoRow.holds Try.pinned (OpenSpec.upto sequenceCountsSpec)

/-- 'lotterylaw20.SequenceOrders', WHERE WHAT IT READS IS OF BULK AT MOST 1048576: true; the input reads as it did. -/
def sequenceOrdersUptoRow : OpenClaim := { program := "ythejjlakmkdkeaa", sum := "0bc9dd85254ea5d9658f0c539b9329e4b57e31973c97142a4b623f27bbf3e0c2", func := "lottery/lotterylaw20.SequenceOrders", spec := "sequenceOrders", unfollowed := true, recurses := true, apart := false, narrowed := true }
def SequenceOrdersUptoSaid : Prop := sequenceOrdersUptoRow.holds Try.pinned (OpenSpec.upto sequenceOrdersSpec)

/-- 'lotterylaw20.SequenceFills', WHERE WHAT IT READS IS OF BULK AT MOST 1048576: true; the input reads as it did. -/
def sequenceFillsUptoRow : OpenClaim := { program := "ythejjlakmkdkeaa", sum := "0bc9dd85254ea5d9658f0c539b9329e4b57e31973c97142a4b623f27bbf3e0c2", func := "lottery/lotterylaw20.SequenceFills", spec := "sequenceFills", unfollowed := true, recurses := true, apart := false, narrowed := true }
def SequenceFillsUptoSaid : Prop := sequenceFillsUptoRow.holds Try.pinned (OpenSpec.upto sequenceFillsSpec)

/-- 'lotterylaw20.SequenceNobody', WHERE WHAT IT READS IS OF BULK AT MOST 1048576: true; the input reads as it did. -/
def sequenceNobodyUptoRow : OpenClaim := { program := "ythejjlakmkdkeaa", sum := "0bc9dd85254ea5d9658f0c539b9329e4b57e31973c97142a4b623f27bbf3e0c2", func := "lottery/lotterylaw20.SequenceNobody", spec := "sequenceNobody", unfollowed := true, recurses := true, apart := false, narrowed := true }
def SequenceNobodyUptoSaid : Prop := sequenceNobodyUptoRow.holds Try.pinned (OpenSpec.upto sequenceNobodySpec)

end Rows
end Go.Proofs.Ythejjlakmkdkeaa
