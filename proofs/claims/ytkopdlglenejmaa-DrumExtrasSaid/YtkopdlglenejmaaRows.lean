/-
  No cell of these rows narrows 'for every input' (looked for: loops, veiled, ifaces, maps, wideKeys, modest, calm, conditions, laid).
  DERIVED. THE GIVEN ROWS OF THIS SEAT. 6 by the template 'for every input the law returns true; each argument reads behind the call as it read before'; 0 by the template 'total and deterministic' (their statements: YtkopdlglenejmaaTotals.lean).
  GIVEN WITH THE SEED: the statements are not yours to turn. If you find one false, say at which input.
  Laid BY PROGRAM, IN A SANDBOX (cutbox-rows.mjs): the forced cells as the released guide's own fill.sh prints them over the translation db8e8cf07eb894c5… (all of the seat's roots in one cut). By AI agents, Wed Nov 11 2026. No macro, syntax, notation, axiom, sorry.
-/
import Derived.Test.YtkopdlglenejmaaChecked
import GoSem.Claim
import GoSem.ClaimJoined
import GoSem.ClaimMapViews
import Derived.JoinedTies
import Derived.KernelRfl
namespace Go.Proofs.Ytkopdlglenejmaa
/- THE CELL 'sum', in the pinned program and in every row, IS THE sha256 OF THE DUMP (.gsa) THAT YtkopdlglenejmaaProg.lean LOADS. Nothing in Lean hashes anything: it is a label: what it is worth is what the hold of that sum in a sandbox is worth. -/
noncomputable def Try.pinned : Pinned := { name := "ytkopdlglenejmaa", sum := "db8e8cf07eb894c56ef25a45cbb3308e24489ed609cdbbbc8111d00433963014", checked := Try.checked }
namespace Rows
def none {H : Type} : Left H := { results := [], args := [] }

/-- 'lotterylaw28.DrumTells': WHATEVER THE INPUT: true; the input reads as it did. -/
def drumTellsSpec : ChangeSpec := { name := "drumTells", fn := fun _ => fun
  | [d1, d2] => { results := [.lit (.bool true)], args := [d1, d2] }
  | _ => none }
def drumTellsRow : OpenClaim := { program := "ytkopdlglenejmaa", sum := "db8e8cf07eb894c56ef25a45cbb3308e24489ed609cdbbbc8111d00433963014", func := "lottery/lotterylaw28.DrumTells", spec := "drumTells", unfollowed := true, recurses := true, apart := false }
def DrumTellsSaid : Prop := drumTellsRow.holds Try.pinned (OpenSpec.ofChange drumTellsSpec)

/-- ITS FALSE NEIGHBOUR: 'it returns false'. Refute it at one input. -/
def drumTellsWrong : ChangeSpec := { name := "drumTells", fn := fun _ => fun
  | [d1, d2] => { results := [.lit (.bool false)], args := [d1, d2] }
  | _ => none }
def DrumTellsWrongFalsely : Prop := drumTellsRow.holds Try.pinned (OpenSpec.ofChange drumTellsWrong)

/-- 'lotterylaw28.DrumChecks': WHATEVER THE INPUT: true; the input reads as it did. -/
def drumChecksSpec : ChangeSpec := { name := "drumChecks", fn := fun _ => fun
  | [d1, d2] => { results := [.lit (.bool true)], args := [d1, d2] }
  | _ => none }
def drumChecksRow : OpenClaim := { program := "ytkopdlglenejmaa", sum := "db8e8cf07eb894c56ef25a45cbb3308e24489ed609cdbbbc8111d00433963014", func := "lottery/lotterylaw28.DrumChecks", spec := "drumChecks", unfollowed := true, recurses := true, apart := false }
def DrumChecksSaid : Prop := drumChecksRow.holds Try.pinned (OpenSpec.ofChange drumChecksSpec)

/-- ITS FALSE NEIGHBOUR: 'it returns false'. Refute it at one input. -/
def drumChecksWrong : ChangeSpec := { name := "drumChecks", fn := fun _ => fun
  | [d1, d2] => { results := [.lit (.bool false)], args := [d1, d2] }
  | _ => none }
def DrumChecksWrongFalsely : Prop := drumChecksRow.holds Try.pinned (OpenSpec.ofChange drumChecksWrong)

/-- 'lotterylaw28.DrumDraws': WHATEVER THE INPUT: true; the input reads as it did. -/
def drumDrawsSpec : ChangeSpec := { name := "drumDraws", fn := fun _ => fun
  | [d1, d2] => { results := [.lit (.bool true)], args := [d1, d2] }
  | _ => none }
def drumDrawsRow : OpenClaim := { program := "ytkopdlglenejmaa", sum := "db8e8cf07eb894c56ef25a45cbb3308e24489ed609cdbbbc8111d00433963014", func := "lottery/lotterylaw28.DrumDraws", spec := "drumDraws", unfollowed := true, recurses := true, apart := false }
def DrumDrawsSaid : Prop := drumDrawsRow.holds Try.pinned (OpenSpec.ofChange drumDrawsSpec)

/-- ITS FALSE NEIGHBOUR: 'it returns false'. Refute it at one input. -/
def drumDrawsWrong : ChangeSpec := { name := "drumDraws", fn := fun _ => fun
  | [d1, d2] => { results := [.lit (.bool false)], args := [d1, d2] }
  | _ => none }
def DrumDrawsWrongFalsely : Prop := drumDrawsRow.holds Try.pinned (OpenSpec.ofChange drumDrawsWrong)

/-- 'lotterylaw28.DrumIgnores': WHATEVER THE INPUT: true; the input reads as it did. -/
def drumIgnoresSpec : ChangeSpec := { name := "drumIgnores", fn := fun _ => fun
  | [d1, d2, d3] => { results := [.lit (.bool true)], args := [d1, d2, d3] }
  | _ => none }
def drumIgnoresRow : OpenClaim := { program := "ytkopdlglenejmaa", sum := "db8e8cf07eb894c56ef25a45cbb3308e24489ed609cdbbbc8111d00433963014", func := "lottery/lotterylaw28.DrumIgnores", spec := "drumIgnores", unfollowed := true, recurses := true, apart := false }
def DrumIgnoresSaid : Prop := drumIgnoresRow.holds Try.pinned (OpenSpec.ofChange drumIgnoresSpec)

/-- ITS FALSE NEIGHBOUR: 'it returns false'. Refute it at one input. -/
def drumIgnoresWrong : ChangeSpec := { name := "drumIgnores", fn := fun _ => fun
  | [d1, d2, d3] => { results := [.lit (.bool false)], args := [d1, d2, d3] }
  | _ => none }
def DrumIgnoresWrongFalsely : Prop := drumIgnoresRow.holds Try.pinned (OpenSpec.ofChange drumIgnoresWrong)

/-- 'lotterylaw28.DrumExtras': WHATEVER THE INPUT: true; the input reads as it did. -/
def drumExtrasSpec : ChangeSpec := { name := "drumExtras", fn := fun _ => fun
  | [d1, d2] => { results := [.lit (.bool true)], args := [d1, d2] }
  | _ => none }
def drumExtrasRow : OpenClaim := { program := "ytkopdlglenejmaa", sum := "db8e8cf07eb894c56ef25a45cbb3308e24489ed609cdbbbc8111d00433963014", func := "lottery/lotterylaw28.DrumExtras", spec := "drumExtras", unfollowed := true, recurses := true, apart := false }
def DrumExtrasSaid : Prop := drumExtrasRow.holds Try.pinned (OpenSpec.ofChange drumExtrasSpec)

/-- ITS FALSE NEIGHBOUR: 'it returns false'. Refute it at one input. -/
def drumExtrasWrong : ChangeSpec := { name := "drumExtras", fn := fun _ => fun
  | [d1, d2] => { results := [.lit (.bool false)], args := [d1, d2] }
  | _ => none }
def DrumExtrasWrongFalsely : Prop := drumExtrasRow.holds Try.pinned (OpenSpec.ofChange drumExtrasWrong)

/-- 'lotterylaw28.DrumRefuses': WHATEVER THE INPUT: true; the input reads as it did. -/
def drumRefusesSpec : ChangeSpec := { name := "drumRefuses", fn := fun _ => fun
  | [d1, d2, d3] => { results := [.lit (.bool true)], args := [d1, d2, d3] }
  | _ => none }
def drumRefusesRow : OpenClaim := { program := "ytkopdlglenejmaa", sum := "db8e8cf07eb894c56ef25a45cbb3308e24489ed609cdbbbc8111d00433963014", func := "lottery/lotterylaw28.DrumRefuses", spec := "drumRefuses", unfollowed := true, recurses := true, apart := false }
def DrumRefusesSaid : Prop := drumRefusesRow.holds Try.pinned (OpenSpec.ofChange drumRefusesSpec)

/-- ITS FALSE NEIGHBOUR: 'it returns false'. Refute it at one input. -/
def drumRefusesWrong : ChangeSpec := { name := "drumRefuses", fn := fun _ => fun
  | [d1, d2, d3] => { results := [.lit (.bool false)], args := [d1, d2, d3] }
  | _ => none }
def DrumRefusesWrongFalsely : Prop := drumRefusesRow.holds Try.pinned (OpenSpec.ofChange drumRefusesWrong)

/- THE SECOND FORM. 'bulk': how many values and letters a reading holds, each counted each time it is reached (what is shared counts as often as it is met; a slice's spare places count too). A statement '..UptoSaid' is the law's where the arguments, and the package variables that the reading takes, are together of bulk at most 1048576: NARROWER than '..Said'. Prove '..Said' where nothing that the law and all that it calls make is longer than what came in: it says more and counts as full. Else prove '..UptoSaid'. A law counts once. -/
mutual
def uptoBulk {H : Type} : DataW H → Nat
  | .lit (.string bytes) => bytes.length + 1
  | .lit _ => 1
  | .nil => 1
  | .ptr d => uptoBulk d + 1
  | .slice elems spare => uptoBulkAll elems + uptoBulkAll spare + 1
  | .agg parts => uptoBulkAll parts + 1
  | .iface _ d => uptoBulk d + 1
  | .map entries => uptoBulkEntries entries + 1
  | .held _ => 1
def uptoBulkAll {H : Type} : List (DataW H) → Nat
  | [] => 0
  | d :: r => uptoBulk d + uptoBulkAll r
def uptoBulkEntries {H : Type} : List (Lit × DataW H) → Nat
  | [] => 0
  | x :: r => uptoBulkEntry x + uptoBulkEntries r
def uptoBulkEntry {H : Type} : Lit × DataW H → Nat
  | (.string bytes, d) => bytes.length + uptoBulk d + 1
  | (_, d) => uptoBulk d + 1
 end
def uptoSmall : (H : Type) → List (DataW H) → Bool := fun _ ds => decide (uptoBulkAll ds ≤ 1048576)
def OpenSpec.upto (s : _root_.Go.ChangeSpec) : _root_.Go.OpenSpec := { _root_.Go.OpenSpec.ofChange s with cond := some uptoSmall }

/-- 'lotterylaw28.DrumTells', WHERE WHAT IT READS IS OF BULK AT MOST 1048576: true; the input reads as it did. -/
def drumTellsUptoRow : OpenClaim := { program := "ytkopdlglenejmaa", sum := "db8e8cf07eb894c56ef25a45cbb3308e24489ed609cdbbbc8111d00433963014", func := "lottery/lotterylaw28.DrumTells", spec := "drumTells", unfollowed := true, recurses := true, apart := false, narrowed := true }
def DrumTellsUptoSaid : Prop := drumTellsUptoRow.holds Try.pinned (OpenSpec.upto drumTellsSpec)

/-- 'lotterylaw28.DrumChecks', WHERE WHAT IT READS IS OF BULK AT MOST 1048576: true; the input reads as it did. -/
def drumChecksUptoRow : OpenClaim := { program := "ytkopdlglenejmaa", sum := "db8e8cf07eb894c56ef25a45cbb3308e24489ed609cdbbbc8111d00433963014", func := "lottery/lotterylaw28.DrumChecks", spec := "drumChecks", unfollowed := true, recurses := true, apart := false, narrowed := true }
def DrumChecksUptoSaid : Prop := drumChecksUptoRow.holds Try.pinned (OpenSpec.upto drumChecksSpec)

/-- 'lotterylaw28.DrumDraws', WHERE WHAT IT READS IS OF BULK AT MOST 1048576: true; the input reads as it did. -/
def drumDrawsUptoRow : OpenClaim := { program := "ytkopdlglenejmaa", sum := "db8e8cf07eb894c56ef25a45cbb3308e24489ed609cdbbbc8111d00433963014", func := "lottery/lotterylaw28.DrumDraws", spec := "drumDraws", unfollowed := true, recurses := true, apart := false, narrowed := true }
def DrumDrawsUptoSaid : Prop := drumDrawsUptoRow.holds Try.pinned (OpenSpec.upto drumDrawsSpec)

/-- 'lotterylaw28.DrumIgnores', WHERE WHAT IT READS IS OF BULK AT MOST 1048576: true; the input reads as it did. -/
def drumIgnoresUptoRow : OpenClaim := { program := "ytkopdlglenejmaa", sum := "db8e8cf07eb894c56ef25a45cbb3308e24489ed609cdbbbc8111d00433963014", func := "lottery/lotterylaw28.DrumIgnores", spec := "drumIgnores", unfollowed := true, recurses := true, apart := false, narrowed := true }
def DrumIgnoresUptoSaid : Prop := drumIgnoresUptoRow.holds Try.pinned (OpenSpec.upto drumIgnoresSpec)

/-- 'lotterylaw28.DrumExtras', WHERE WHAT IT READS IS OF BULK AT MOST 1048576: true; the input reads as it did. -/
def drumExtrasUptoRow : OpenClaim := { program := "ytkopdlglenejmaa", sum := "db8e8cf07eb894c56ef25a45cbb3308e24489ed609cdbbbc8111d00433963014", func := "lottery/lotterylaw28.DrumExtras", spec := "drumExtras", unfollowed := true, recurses := true, apart := false, narrowed := true }
def DrumExtrasUptoSaid : Prop := drumExtrasUptoRow.holds Try.pinned (OpenSpec.upto drumExtrasSpec)

/-- 'lotterylaw28.DrumRefuses', WHERE WHAT IT READS IS OF BULK AT MOST 1048576: true; the input reads as it did. -/
def drumRefusesUptoRow : OpenClaim := { program := "ytkopdlglenejmaa", sum := "db8e8cf07eb894c56ef25a45cbb3308e24489ed609cdbbbc8111d00433963014", func := "lottery/lotterylaw28.DrumRefuses", spec := "drumRefuses", unfollowed := true, recurses := true, apart := false, narrowed := true }
def DrumRefusesUptoSaid : Prop := drumRefusesUptoRow.holds Try.pinned (OpenSpec.upto drumRefusesSpec)

end Rows
end Go.Proofs.Ytkopdlglenejmaa
