/-
  No cell of these rows narrows 'for every input' (looked for: loops, veiled, ifaces, maps, wideKeys, modest, calm, conditions, laid).
  DERIVED. THE GIVEN ROWS OF THIS SEAT. 6 by the template 'for every input the law returns true; each argument reads behind the call as it read before'; 0 by the template 'total and deterministic' (their statements: YtnldelafemaigaaTotals.lean).
  GIVEN WITH THE SEED: the statements are not yours to turn. If you find one false, say at which input.
  Laid BY PROGRAM, IN A SANDBOX (cutbox-rows.mjs): the forced cells as the released guide's own fill.sh prints them over the translation 7b552961ede445fe… (all of the seat's roots in one cut). By AI agents, Wed Nov 11 2026. No macro, syntax, notation, axiom, sorry.
-/
import Derived.Test.YtnldelafemaigaaChecked
import GoSem.Claim
import GoSem.ClaimJoined
import GoSem.ClaimMapViews
import Derived.JoinedTies
import Derived.KernelRfl
namespace Go.Proofs.Ytnldelafemaigaa
/- THE CELL 'sum', in the pinned program and in every row, IS THE sha256 OF THE DUMP (.gsa) THAT YtnldelafemaigaaProg.lean LOADS. Nothing in Lean hashes anything: it is a label: what it is worth is what the hold of that sum in a sandbox is worth. -/
noncomputable def Try.pinned : Pinned := { name := "ytnldelafemaigaa", sum := "7b552961ede445fe29d2950c08e2a0b7020778bccb95c333d70afdfe948179fa", checked := Try.checked }
namespace Rows
def none {H : Type} : Left H := { results := [], args := [] }

/-- 'lotterylaw29.MechanicalWitnesses': WHATEVER THE INPUT: true; the input reads as it did. -/
def mechanicalWitnessesSpec : ChangeSpec := { name := "mechanicalWitnesses", fn := fun _ => fun
  | [d1, d2] => { results := [.lit (.bool true)], args := [d1, d2] }
  | _ => none }
def mechanicalWitnessesRow : OpenClaim := { program := "ytnldelafemaigaa", sum := "7b552961ede445fe29d2950c08e2a0b7020778bccb95c333d70afdfe948179fa", func := "lottery/lotterylaw29.MechanicalWitnesses", spec := "mechanicalWitnesses", apart := false }
def MechanicalWitnessesSaid : Prop := mechanicalWitnessesRow.holds Try.pinned (OpenSpec.ofChange mechanicalWitnessesSpec)

/-- ITS FALSE NEIGHBOUR: 'it returns false'. Refute it at one input. -/
def mechanicalWitnessesWrong : ChangeSpec := { name := "mechanicalWitnesses", fn := fun _ => fun
  | [d1, d2] => { results := [.lit (.bool false)], args := [d1, d2] }
  | _ => none }
def MechanicalWitnessesWrongFalsely : Prop := mechanicalWitnessesRow.holds Try.pinned (OpenSpec.ofChange mechanicalWitnessesWrong)

/-- 'lotterylaw29.MechanicalCounts': WHATEVER THE INPUT: true; the input reads as it did. -/
def mechanicalCountsSpec : ChangeSpec := { name := "mechanicalCounts", fn := fun _ => fun
  | [d] => { results := [.lit (.bool true)], args := [d] }
  | _ => none }
def mechanicalCountsRow : OpenClaim := { program := "ytnldelafemaigaa", sum := "7b552961ede445fe29d2950c08e2a0b7020778bccb95c333d70afdfe948179fa", func := "lottery/lotterylaw29.MechanicalCounts", spec := "mechanicalCounts", apart := false }
def MechanicalCountsSaid : Prop := mechanicalCountsRow.holds Try.pinned (OpenSpec.ofChange mechanicalCountsSpec)

/-- ITS FALSE NEIGHBOUR: 'it returns false'. Refute it at one input. -/
def mechanicalCountsWrong : ChangeSpec := { name := "mechanicalCounts", fn := fun _ => fun
  | [d] => { results := [.lit (.bool false)], args := [d] }
  | _ => none }
def MechanicalCountsWrongFalsely : Prop := mechanicalCountsRow.holds Try.pinned (OpenSpec.ofChange mechanicalCountsWrong)

/-- 'lotterylaw29.MechanicalReads': WHATEVER THE INPUT: true; the input reads as it did. -/
def mechanicalReadsSpec : ChangeSpec := { name := "mechanicalReads", fn := fun _ => fun
  | [d1, d2] => { results := [.lit (.bool true)], args := [d1, d2] }
  | _ => none }
def mechanicalReadsRow : OpenClaim := { program := "ytnldelafemaigaa", sum := "7b552961ede445fe29d2950c08e2a0b7020778bccb95c333d70afdfe948179fa", func := "lottery/lotterylaw29.MechanicalReads", spec := "mechanicalReads", unfollowed := true, recurses := true, apart := false }
def MechanicalReadsSaid : Prop := mechanicalReadsRow.holds Try.pinned (OpenSpec.ofChange mechanicalReadsSpec)

/-- ITS FALSE NEIGHBOUR: 'it returns false'. Refute it at one input. -/
def mechanicalReadsWrong : ChangeSpec := { name := "mechanicalReads", fn := fun _ => fun
  | [d1, d2] => { results := [.lit (.bool false)], args := [d1, d2] }
  | _ => none }
def MechanicalReadsWrongFalsely : Prop := mechanicalReadsRow.holds Try.pinned (OpenSpec.ofChange mechanicalReadsWrong)

/-- 'lotterylaw29.MechanicalFits': WHATEVER THE INPUT: true; the input reads as it did. -/
def mechanicalFitsSpec : ChangeSpec := { name := "mechanicalFits", fn := fun _ => fun
  | [d1, d2] => { results := [.lit (.bool true)], args := [d1, d2] }
  | _ => none }
def mechanicalFitsRow : OpenClaim := { program := "ytnldelafemaigaa", sum := "7b552961ede445fe29d2950c08e2a0b7020778bccb95c333d70afdfe948179fa", func := "lottery/lotterylaw29.MechanicalFits", spec := "mechanicalFits", unfollowed := true, recurses := true, apart := false }
def MechanicalFitsSaid : Prop := mechanicalFitsRow.holds Try.pinned (OpenSpec.ofChange mechanicalFitsSpec)

/-- ITS FALSE NEIGHBOUR: 'it returns false'. Refute it at one input. -/
def mechanicalFitsWrong : ChangeSpec := { name := "mechanicalFits", fn := fun _ => fun
  | [d1, d2] => { results := [.lit (.bool false)], args := [d1, d2] }
  | _ => none }
def MechanicalFitsWrongFalsely : Prop := mechanicalFitsRow.holds Try.pinned (OpenSpec.ofChange mechanicalFitsWrong)

/-- 'lotterylaw29.MechanicalBalls': WHATEVER THE INPUT: true; the input reads as it did. -/
def mechanicalBallsSpec : ChangeSpec := { name := "mechanicalBalls", fn := fun _ => fun
  | [d1, d2, d3] => { results := [.lit (.bool true)], args := [d1, d2, d3] }
  | _ => none }
def mechanicalBallsRow : OpenClaim := { program := "ytnldelafemaigaa", sum := "7b552961ede445fe29d2950c08e2a0b7020778bccb95c333d70afdfe948179fa", func := "lottery/lotterylaw29.MechanicalBalls", spec := "mechanicalBalls", unfollowed := true, recurses := true, apart := false }
def MechanicalBallsSaid : Prop := mechanicalBallsRow.holds Try.pinned (OpenSpec.ofChange mechanicalBallsSpec)

/-- ITS FALSE NEIGHBOUR: 'it returns false'. Refute it at one input. -/
def mechanicalBallsWrong : ChangeSpec := { name := "mechanicalBalls", fn := fun _ => fun
  | [d1, d2, d3] => { results := [.lit (.bool false)], args := [d1, d2, d3] }
  | _ => none }
def MechanicalBallsWrongFalsely : Prop := mechanicalBallsRow.holds Try.pinned (OpenSpec.ofChange mechanicalBallsWrong)

/-- 'lotterylaw29.MechanicalResults': WHATEVER THE INPUT: true; the input reads as it did. -/
def mechanicalResultsSpec : ChangeSpec := { name := "mechanicalResults", fn := fun _ => fun
  | [d1, d2, d3] => { results := [.lit (.bool true)], args := [d1, d2, d3] }
  | _ => none }
def mechanicalResultsRow : OpenClaim := { program := "ytnldelafemaigaa", sum := "7b552961ede445fe29d2950c08e2a0b7020778bccb95c333d70afdfe948179fa", func := "lottery/lotterylaw29.MechanicalResults", spec := "mechanicalResults", unfollowed := true, recurses := true, apart := false }
def MechanicalResultsSaid : Prop := mechanicalResultsRow.holds Try.pinned (OpenSpec.ofChange mechanicalResultsSpec)

/-- ITS FALSE NEIGHBOUR: 'it returns false'. Refute it at one input. -/
def mechanicalResultsWrong : ChangeSpec := { name := "mechanicalResults", fn := fun _ => fun
  | [d1, d2, d3] => { results := [.lit (.bool false)], args := [d1, d2, d3] }
  | _ => none }
def MechanicalResultsWrongFalsely : Prop := mechanicalResultsRow.holds Try.pinned (OpenSpec.ofChange mechanicalResultsWrong)

/- THE SECOND FORM. 'bulk': how many values and letters a reading holds, each counted each time it is reached (what is shared counts as often as it is met; a slice's spare places count too). A statement '..UptoSaid' is the law's where the arguments, and the package variables that the reading takes, are together of bulk at most 1048576: NARROWER than '..Said'. Prove '..Said' where nothing that the law and all that it calls make is longer than what came in: it says more and counts as full. Else prove '..UptoSaid'. A law counts once. -/
mutual
def uptoBulk {H : Type} : DataW H → Nat
  | .lit (.string bytes) => bytes.length + 1
  | .lit _ => 1
  | .nil => 1
  | .ptr d => uptoBulk d + 1
  | .slice elems spare => uptoBulkAll elems + uptoBulkAll spare + 1
  | .agg parts => uptoBulkAll parts + 1
  | .iface _ d => uptoBulk d + 1
  | .map entries => uptoBulkEntries entries + 1
  | .held _ => 1
def uptoBulkAll {H : Type} : List (DataW H) → Nat
  | [] => 0
  | d :: r => uptoBulk d + uptoBulkAll r
def uptoBulkEntries {H : Type} : List (Lit × DataW H) → Nat
  | [] => 0
  | x :: r => uptoBulkEntry x + uptoBulkEntries r
def uptoBulkEntry {H : Type} : Lit × DataW H → Nat
  | (.string bytes, d) => bytes.length + uptoBulk d + 1
  | (_, d) => uptoBulk d + 1
 end
def uptoSmall : (H : Type) → List (DataW H) → Bool := fun _ ds => decide (uptoBulkAll ds ≤ 1048576)
def OpenSpec.upto (s : _root_.Go.ChangeSpec) : _root_.Go.OpenSpec := { _root_.Go.OpenSpec.ofChange s with cond := some uptoSmall }

/-- 'lotterylaw29.MechanicalWitnesses', WHERE WHAT IT READS IS OF BULK AT MOST 1048576: true; the input reads as it did. -/
def mechanicalWitnessesUptoRow : OpenClaim := { program := "ytnldelafemaigaa", sum := "7b552961ede445fe29d2950c08e2a0b7020778bccb95c333d70afdfe948179fa", func := "lottery/lotterylaw29.MechanicalWitnesses", spec := "mechanicalWitnesses", apart := false, narrowed := true }
def MechanicalWitnessesUptoSaid : Prop := mechanicalWitnessesUptoRow.holds Try.pinned (OpenSpec.upto mechanicalWitnessesSpec)

/-- 'lotterylaw29.MechanicalCounts', WHERE WHAT IT READS IS OF BULK AT MOST 1048576: true; the input reads as it did. -/
def mechanicalCountsUptoRow : OpenClaim := { program := "ytnldelafemaigaa", sum := "7b552961ede445fe29d2950c08e2a0b7020778bccb95c333d70afdfe948179fa", func := "lottery/lotterylaw29.MechanicalCounts", spec := "mechanicalCounts", apart := false, narrowed := true }
def MechanicalCountsUptoSaid : Prop := mechanicalCountsUptoRow.holds Try.pinned (OpenSpec.upto mechanicalCountsSpec)

/-- 'lotterylaw29.MechanicalReads', WHERE WHAT IT READS IS OF BULK AT MOST 1048576: true; the input reads as it did. -/
def mechanicalReadsUptoRow : OpenClaim := { program := "ytnldelafemaigaa", sum := "7b552961ede445fe29d2950c08e2a0b7020778bccb95c333d70afdfe948179fa", func := "lottery/lotterylaw29.MechanicalReads", spec := "mechanicalReads", unfollowed := true, recurses := true, apart := false, narrowed := true }
def MechanicalReadsUptoSaid : Prop := mechanicalReadsUptoRow.holds Try.pinned (OpenSpec.upto mechanicalReadsSpec)

/-- 'lotterylaw29.MechanicalFits', WHERE WHAT IT READS IS OF BULK AT MOST 1048576: true; the input reads as it did. -/
def mechanicalFitsUptoRow : OpenClaim := { program := "ytnldelafemaigaa", sum := "7b552961ede445fe29d2950c08e2a0b7020778bccb95c333d70afdfe948179fa", func := "lottery/lotterylaw29.MechanicalFits", spec := "mechanicalFits", unfollowed := true, recurses := true, apart := false, narrowed := true }
def MechanicalFitsUptoSaid : Prop := mechanicalFitsUptoRow.holds Try.pinned (OpenSpec.upto mechanicalFitsSpec)

/-- 'lotterylaw29.MechanicalBalls', WHERE WHAT IT READS IS OF BULK AT MOST 1048576: true; the input reads as it did. -/
def mechanicalBallsUptoRow : OpenClaim := { program := "ytnldelafemaigaa", sum := "7b552961ede445fe29d2950c08e2a0b7020778bccb95c333d70afdfe948179fa", func := "lottery/lotterylaw29.MechanicalBalls", spec := "mechanicalBalls", unfollowed := true, recurses := true, apart := false, narrowed := true }
def MechanicalBallsUptoSaid : Prop := mechanicalBallsUptoRow.holds Try.pinned (OpenSpec.upto mechanicalBallsSpec)

/-- 'lotterylaw29.MechanicalResults', WHERE WHAT IT READS IS OF BULK AT MOST 1048576: true; the input reads as it did. -/
def mechanicalResultsUptoRow : OpenClaim := { program := "ytnldelafemaigaa", sum := "7b552961ede445fe29d2950c08e2a0b7020778bccb95c333d70afdfe948179fa", func := "lottery/lotterylaw29.MechanicalResults", spec := "mechanicalResults", unfollowed := true, recurses := true, apart := false, narrowed := true }
def MechanicalResultsUptoSaid : Prop := mechanicalResultsUptoRow.holds Try.pinned (OpenSpec.upto mechanicalResultsSpec)

end Rows
end Go.Proofs.Ytnldelafemaigaa
