/-
  No cell of these rows narrows 'for every input' (looked for: loops, veiled, ifaces, maps, wideKeys, modest, calm, conditions, laid).
  DERIVED. THE GIVEN ROWS OF THIS SEAT. 6 by the template 'for every input the law returns true; each argument reads behind the call as it read before'; 0 by the template 'total and deterministic' (their statements: YtakjedhlcnnalaaTotals.lean).
  GIVEN WITH THE SEED: the statements are not yours to turn. If you find one false, say at which input.
  Laid BY PROGRAM, IN A SANDBOX (cutbox-rows.mjs): the forced cells as the released guide's own fill.sh prints them over the translation e5084ed1c6d21b36… (all of the seat's roots in one cut). By AI agents, Wed Nov 11 2026. No macro, syntax, notation, axiom, sorry.
-/
import Derived.Test.YtakjedhlcnnalaaChecked
import GoSem.Claim
import GoSem.ClaimJoined
import GoSem.ClaimMapViews
import Derived.JoinedTies
import Derived.KernelRfl
namespace Go.Proofs.Ytakjedhlcnnalaa
/- THE CELL 'sum', in the pinned program and in every row, IS THE sha256 OF THE DUMP (.gsa) THAT YtakjedhlcnnalaaProg.lean LOADS. Nothing in Lean hashes anything: it is a label: what it is worth is what the hold of that sum in a sandbox is worth. -/
noncomputable def Try.pinned : Pinned := { name := "ytakjedhlcnnalaa", sum := "e5084ed1c6d21b363f1ed2a0a4c8736dfa7f4bdd7cb00da1322f25b15aed9cc5", checked := Try.checked }
namespace Rows
def none {H : Type} : Left H := { results := [], args := [] }

/-- 'lotterylaw32.MatchDigits': WHATEVER THE INPUT: true; the input reads as it did. -/
def matchDigitsSpec : ChangeSpec := { name := "matchDigits", fn := fun _ => fun
  | [d1, d2, d3, d4] => { results := [.lit (.bool true)], args := [d1, d2, d3, d4] }
  | _ => none }
def matchDigitsRow : OpenClaim := { program := "ytakjedhlcnnalaa", sum := "e5084ed1c6d21b363f1ed2a0a4c8736dfa7f4bdd7cb00da1322f25b15aed9cc5", func := "lottery/lotterylaw32.MatchDigits", spec := "matchDigits", recurses := true, apart := false }
def MatchDigitsSaid : Prop := matchDigitsRow.holds Try.pinned (OpenSpec.ofChange matchDigitsSpec)

/-- ITS FALSE NEIGHBOUR: 'it returns false'. Refute it at one input. -/
def matchDigitsWrong : ChangeSpec := { name := "matchDigits", fn := fun _ => fun
  | [d1, d2, d3, d4] => { results := [.lit (.bool false)], args := [d1, d2, d3, d4] }
  | _ => none }
def MatchDigitsWrongFalsely : Prop := matchDigitsRow.holds Try.pinned (OpenSpec.ofChange matchDigitsWrong)

/-- 'lotterylaw32.MatchHits': WHATEVER THE INPUT: true; the input reads as it did. -/
def matchHitsSpec : ChangeSpec := { name := "matchHits", fn := fun _ => fun
  | [d1, d2, d3] => { results := [.lit (.bool true)], args := [d1, d2, d3] }
  | _ => none }
def matchHitsRow : OpenClaim := { program := "ytakjedhlcnnalaa", sum := "e5084ed1c6d21b363f1ed2a0a4c8736dfa7f4bdd7cb00da1322f25b15aed9cc5", func := "lottery/lotterylaw32.MatchHits", spec := "matchHits", unfollowed := true, recurses := true, apart := false }
def MatchHitsSaid : Prop := matchHitsRow.holds Try.pinned (OpenSpec.ofChange matchHitsSpec)

/-- ITS FALSE NEIGHBOUR: 'it returns false'. Refute it at one input. -/
def matchHitsWrong : ChangeSpec := { name := "matchHits", fn := fun _ => fun
  | [d1, d2, d3] => { results := [.lit (.bool false)], args := [d1, d2, d3] }
  | _ => none }
def MatchHitsWrongFalsely : Prop := matchHitsRow.holds Try.pinned (OpenSpec.ofChange matchHitsWrong)

/-- 'lotterylaw32.MatchFinds': WHATEVER THE INPUT: true; the input reads as it did. -/
def matchFindsSpec : ChangeSpec := { name := "matchFinds", fn := fun _ => fun
  | [d1, d2, d3] => { results := [.lit (.bool true)], args := [d1, d2, d3] }
  | _ => none }
def matchFindsRow : OpenClaim := { program := "ytakjedhlcnnalaa", sum := "e5084ed1c6d21b363f1ed2a0a4c8736dfa7f4bdd7cb00da1322f25b15aed9cc5", func := "lottery/lotterylaw32.MatchFinds", spec := "matchFinds", unfollowed := true, recurses := true, apart := false }
def MatchFindsSaid : Prop := matchFindsRow.holds Try.pinned (OpenSpec.ofChange matchFindsSpec)

/-- ITS FALSE NEIGHBOUR: 'it returns false'. Refute it at one input. -/
def matchFindsWrong : ChangeSpec := { name := "matchFinds", fn := fun _ => fun
  | [d1, d2, d3] => { results := [.lit (.bool false)], args := [d1, d2, d3] }
  | _ => none }
def MatchFindsWrongFalsely : Prop := matchFindsRow.holds Try.pinned (OpenSpec.ofChange matchFindsWrong)

/-- 'lotterylaw32.MatchResults': WHATEVER THE INPUT: true; the input reads as it did. -/
def matchResultsSpec : ChangeSpec := { name := "matchResults", fn := fun _ => fun
  | [d1, d2] => { results := [.lit (.bool true)], args := [d1, d2] }
  | _ => none }
def matchResultsRow : OpenClaim := { program := "ytakjedhlcnnalaa", sum := "e5084ed1c6d21b363f1ed2a0a4c8736dfa7f4bdd7cb00da1322f25b15aed9cc5", func := "lottery/lotterylaw32.MatchResults", spec := "matchResults", unfollowed := true, recurses := true, apart := false }
def MatchResultsSaid : Prop := matchResultsRow.holds Try.pinned (OpenSpec.ofChange matchResultsSpec)

/-- ITS FALSE NEIGHBOUR: 'it returns false'. Refute it at one input. -/
def matchResultsWrong : ChangeSpec := { name := "matchResults", fn := fun _ => fun
  | [d1, d2] => { results := [.lit (.bool false)], args := [d1, d2] }
  | _ => none }
def MatchResultsWrongFalsely : Prop := matchResultsRow.holds Try.pinned (OpenSpec.ofChange matchResultsWrong)

/-- 'lotterylaw32.MatchTiers': WHATEVER THE INPUT: true; the input reads as it did. -/
def matchTiersSpec : ChangeSpec := { name := "matchTiers", fn := fun _ => fun
  | [d1, d2, d3] => { results := [.lit (.bool true)], args := [d1, d2, d3] }
  | _ => none }
def matchTiersRow : OpenClaim := { program := "ytakjedhlcnnalaa", sum := "e5084ed1c6d21b363f1ed2a0a4c8736dfa7f4bdd7cb00da1322f25b15aed9cc5", func := "lottery/lotterylaw32.MatchTiers", spec := "matchTiers", unfollowed := true, recurses := true, apart := false }
def MatchTiersSaid : Prop := matchTiersRow.holds Try.pinned (OpenSpec.ofChange matchTiersSpec)

/-- ITS FALSE NEIGHBOUR: 'it returns false'. Refute it at one input. -/
def matchTiersWrong : ChangeSpec := { name := "matchTiers", fn := fun _ => fun
  | [d1, d2, d3] => { results := [.lit (.bool false)], args := [d1, d2, d3] }
  | _ => none }
def MatchTiersWrongFalsely : Prop := matchTiersRow.holds Try.pinned (OpenSpec.ofChange matchTiersWrong)

/-- 'lotterylaw32.MatchOrders': WHATEVER THE INPUT: true; the input reads as it did. -/
def matchOrdersSpec : ChangeSpec := { name := "matchOrders", fn := fun _ => fun
  | [d1, d2, d3] => { results := [.lit (.bool true)], args := [d1, d2, d3] }
  | _ => none }
def matchOrdersRow : OpenClaim := { program := "ytakjedhlcnnalaa", sum := "e5084ed1c6d21b363f1ed2a0a4c8736dfa7f4bdd7cb00da1322f25b15aed9cc5", func := "lottery/lotterylaw32.MatchOrders", spec := "matchOrders", unfollowed := true, recurses := true, apart := false }
def MatchOrdersSaid : Prop := matchOrdersRow.holds Try.pinned (OpenSpec.ofChange matchOrdersSpec)

/-- ITS FALSE NEIGHBOUR: 'it returns false'. Refute it at one input. -/
def matchOrdersWrong : ChangeSpec := { name := "matchOrders", fn := fun _ => fun
  | [d1, d2, d3] => { results := [.lit (.bool false)], args := [d1, d2, d3] }
  | _ => none }
def MatchOrdersWrongFalsely : Prop := matchOrdersRow.holds Try.pinned (OpenSpec.ofChange matchOrdersWrong)

/- THE SECOND FORM. 'bulk': how many values and letters a reading holds, each counted each time it is reached (what is shared counts as often as it is met; a slice's spare places count too). A statement '..UptoSaid' is the law's where the arguments, and the package variables that the reading takes, are together of bulk at most 1048576: NARROWER than '..Said'. Prove '..Said' where nothing that the law and all that it calls make is longer than what came in: it says more and counts as full. Else prove '..UptoSaid'. A law counts once. -/
mutual
def uptoBulk {H : Type} : DataW H → Nat
  | .lit (.string bytes) => bytes.length + 1
  | .lit _ => 1
  | .nil => 1
  | .ptr d => uptoBulk d + 1
  | .slice elems spare => uptoBulkAll elems + uptoBulkAll spare + 1
  | .agg parts => uptoBulkAll parts + 1
  | .iface _ d => uptoBulk d + 1
  | .map entries => uptoBulkEntries entries + 1
  | .held _ => 1
def uptoBulkAll {H : Type} : List (DataW H) → Nat
  | [] => 0
  | d :: r => uptoBulk d + uptoBulkAll r
def uptoBulkEntries {H : Type} : List (Lit × DataW H) → Nat
  | [] => 0
  | x :: r => uptoBulkEntry x + uptoBulkEntries r
def uptoBulkEntry {H : Type} : Lit × DataW H → Nat
  | (.string bytes, d) => bytes.length + uptoBulk d + 1
  | (_, d) => uptoBulk d + 1
 end
def uptoSmall : (H : Type) → List (DataW H) → Bool := fun _ ds => decide (uptoBulkAll ds ≤ 1048576)
def OpenSpec.upto (s : _root_.Go.ChangeSpec) : _root_.Go.OpenSpec := { _root_.Go.OpenSpec.ofChange s with cond := some uptoSmall }

/-- 'lotterylaw32.MatchDigits', WHERE WHAT IT READS IS OF BULK AT MOST 1048576: true; the input reads as it did. -/
def matchDigitsUptoRow : OpenClaim := { program := "ytakjedhlcnnalaa", sum := "e5084ed1c6d21b363f1ed2a0a4c8736dfa7f4bdd7cb00da1322f25b15aed9cc5", func := "lottery/lotterylaw32.MatchDigits", spec := "matchDigits", recurses := true, apart := false, narrowed := true }
def MatchDigitsUptoSaid : Prop := matchDigitsUptoRow.holds Try.pinned (OpenSpec.upto matchDigitsSpec)

/-- 'lotterylaw32.MatchHits', WHERE WHAT IT READS IS OF BULK AT MOST 1048576: true; the input reads as it did. -/
def matchHitsUptoRow : OpenClaim := { program := "ytakjedhlcnnalaa", sum := "e5084ed1c6d21b363f1ed2a0a4c8736dfa7f4bdd7cb00da1322f25b15aed9cc5", func := "lottery/lotterylaw32.MatchHits", spec := "matchHits", unfollowed := true, recurses := true, apart := false, narrowed := true }
def MatchHitsUptoSaid : Prop := matchHitsUptoRow.holds Try.pinned (OpenSpec.upto matchHitsSpec)

/-- 'lotterylaw32.MatchFinds', WHERE WHAT IT READS IS OF BULK AT MOST 1048576: true; the input reads as it did. -/
def matchFindsUptoRow : OpenClaim := { program := "ytakjedhlcnnalaa", sum := "e5084ed1c6d21b363f1ed2a0a4c8736dfa7f4bdd7cb00da1322f25b15aed9cc5", func := "lottery/lotterylaw32.MatchFinds", spec := "matchFinds", unfollowed := true, recurses := true, apart := false, narrowed := true }
def MatchFindsUptoSaid : Prop := matchFindsUptoRow.holds Try.pinned (OpenSpec.upto matchFindsSpec)

/-- 'lotterylaw32.MatchResults', WHERE WHAT IT READS IS OF BULK AT MOST 1048576: true; the input reads as it did. -/
def matchResultsUptoRow : OpenClaim := { program := "ytakjedhlcnnalaa", sum := "e5084ed1c6d21b363f1ed2a0a4c8736dfa7f4bdd7cb00da1322f25b15aed9cc5", func := "lottery/lotterylaw32.MatchResults", spec := "matchResults", unfollowed := true, recurses := true, apart := false, narrowed := true }
def MatchResultsUptoSaid : Prop := matchResultsUptoRow.holds Try.pinned (OpenSpec.upto matchResultsSpec)

/-- 'lotterylaw32.MatchTiers', WHERE WHAT IT READS IS OF BULK AT MOST 1048576: true; the input reads as it did. -/
def matchTiersUptoRow : OpenClaim := { program := "ytakjedhlcnnalaa", sum := "e5084ed1c6d21b363f1ed2a0a4c8736dfa7f4bdd7cb00da1322f25b15aed9cc5", func := "lottery/lotterylaw32.MatchTiers", spec := "matchTiers", unfollowed := true, recurses := true, apart := false, narrowed := true }
def MatchTiersUptoSaid : Prop := matchTiersUptoRow.holds Try.pinned (OpenSpec.upto matchTiersSpec)

/-- 'lotterylaw32.MatchOrders', WHERE WHAT IT READS IS OF BULK AT MOST 1048576: true; the input reads as it did. -/
def matchOrdersUptoRow : OpenClaim := { program := "ytakjedhlcnnalaa", sum := "e5084ed1c6d21b363f1ed2a0a4c8736dfa7f4bdd7cb00da1322f25b15aed9cc5", func := "lottery/lotterylaw32.MatchOrders", spec := "matchOrders", unfollowed := true, recurses := true, apart := false, narrowed := true }
def MatchOrdersUptoSaid : Prop := matchOrdersUptoRow.holds Try.pinned (OpenSpec.upto matchOrdersSpec)

end Rows
end Go.Proofs.Ytakjedhlcnnalaa
