/-
  No cell of these rows narrows 'for every input' (looked for: loops, veiled, ifaces, maps, wideKeys, modest, calm, conditions, laid).
  DERIVED. THE GIVEN ROWS OF THIS SEAT. 7 by the template 'for every input the law returns true; each argument reads behind the call as it read before'; 0 by the template 'total and deterministic' (their statements: YtadnflbohflckaaTotals.lean).
  GIVEN WITH THE SEED: the statements are not yours to turn. If you find one false, say at which input.
  Laid BY PROGRAM, IN A SANDBOX (cutbox-rows.mjs): the forced cells as the released guide's own fill.sh prints them over the translation 050c26001c813348… (all of the seat's roots in one cut). By AI agents, Wed Nov 11 2026. No macro, syntax, notation, axiom, sorry.
-/
import Derived.Test.YtadnflbohflckaaChecked
import GoSem.Claim
import GoSem.ClaimJoined
import GoSem.ClaimMapViews
import Derived.JoinedTies
import Derived.KernelRfl
namespace Go.Proofs.Ytadnflbohflckaa
/- THE CELL 'sum', in the pinned program and in every row, IS THE sha256 OF THE DUMP (.gsa) THAT YtadnflbohflckaaProg.lean LOADS. Nothing in Lean hashes anything: it is a label: what it is worth is what the hold of that sum in a sandbox is worth. -/
noncomputable def Try.pinned : Pinned := { name := "ytadnflbohflckaa", sum := "050c26001c8133489f6af1d153229b7ab18536c5fe2bcc99ee0048577c6f77e6", checked := Try.checked }
namespace Rows
def none {H : Type} : Left H := { results := [], args := [] }

/-- 'lotterylaw48.LedgerPosts': WHATEVER THE INPUT: true; the input reads as it did. -/
def ledgerPostsSpec : ChangeSpec := { name := "ledgerPosts", fn := fun _ => fun
  | [d1, d2] => { results := [.lit (.bool true)], args := [d1, d2] }
  | _ => none }
def ledgerPostsRow : OpenClaim := { program := "ytadnflbohflckaa", sum := "050c26001c8133489f6af1d153229b7ab18536c5fe2bcc99ee0048577c6f77e6", func := "lottery/lotterylaw48.LedgerPosts", spec := "ledgerPosts", apart := false }
def LedgerPostsSaid : Prop := ledgerPostsRow.holds Try.pinned (OpenSpec.ofChange ledgerPostsSpec)

/-- ITS FALSE NEIGHBOUR: 'it returns false'. Refute it at one input. -/
def ledgerPostsWrong : ChangeSpec := { name := "ledgerPosts", fn := fun _ => fun
  | [d1, d2] => { results := [.lit (.bool false)], args := [d1, d2] }
  | _ => none }
def LedgerPostsWrongFalsely : Prop := ledgerPostsRow.holds Try.pinned (OpenSpec.ofChange ledgerPostsWrong)

/-- 'lotterylaw48.LedgerZero': WHATEVER THE INPUT: true; the input reads as it did. -/
def ledgerZeroSpec : ChangeSpec := { name := "ledgerZero", fn := fun _ => fun
  | [d] => { results := [.lit (.bool true)], args := [d] }
  | _ => none }
def ledgerZeroRow : OpenClaim := { program := "ytadnflbohflckaa", sum := "050c26001c8133489f6af1d153229b7ab18536c5fe2bcc99ee0048577c6f77e6", func := "lottery/lotterylaw48.LedgerZero", spec := "ledgerZero", recurses := true, apart := false }
def LedgerZeroSaid : Prop := ledgerZeroRow.holds Try.pinned (OpenSpec.ofChange ledgerZeroSpec)

/-- ITS FALSE NEIGHBOUR: 'it returns false'. Refute it at one input. -/
def ledgerZeroWrong : ChangeSpec := { name := "ledgerZero", fn := fun _ => fun
  | [d] => { results := [.lit (.bool false)], args := [d] }
  | _ => none }
def LedgerZeroWrongFalsely : Prop := ledgerZeroRow.holds Try.pinned (OpenSpec.ofChange ledgerZeroWrong)

/-- 'lotterylaw48.LedgerReverses': WHATEVER THE INPUT: true; the input reads as it did. -/
def ledgerReversesSpec : ChangeSpec := { name := "ledgerReverses", fn := fun _ => fun
  | [d1, d2] => { results := [.lit (.bool true)], args := [d1, d2] }
  | _ => none }
def ledgerReversesRow : OpenClaim := { program := "ytadnflbohflckaa", sum := "050c26001c8133489f6af1d153229b7ab18536c5fe2bcc99ee0048577c6f77e6", func := "lottery/lotterylaw48.LedgerReverses", spec := "ledgerReverses", recurses := true, apart := false }
def LedgerReversesSaid : Prop := ledgerReversesRow.holds Try.pinned (OpenSpec.ofChange ledgerReversesSpec)

/-- ITS FALSE NEIGHBOUR: 'it returns false'. Refute it at one input. -/
def ledgerReversesWrong : ChangeSpec := { name := "ledgerReverses", fn := fun _ => fun
  | [d1, d2] => { results := [.lit (.bool false)], args := [d1, d2] }
  | _ => none }
def LedgerReversesWrongFalsely : Prop := ledgerReversesRow.holds Try.pinned (OpenSpec.ofChange ledgerReversesWrong)

/-- 'lotterylaw48.LedgerLists': WHATEVER THE INPUT: true; the input reads as it did. -/
def ledgerListsSpec : ChangeSpec := { name := "ledgerLists", fn := fun _ => fun
  | [d] => { results := [.lit (.bool true)], args := [d] }
  | _ => none }
def ledgerListsRow : OpenClaim := { program := "ytadnflbohflckaa", sum := "050c26001c8133489f6af1d153229b7ab18536c5fe2bcc99ee0048577c6f77e6", func := "lottery/lotterylaw48.LedgerLists", spec := "ledgerLists", recurses := true, apart := false }
def LedgerListsSaid : Prop := ledgerListsRow.holds Try.pinned (OpenSpec.ofChange ledgerListsSpec)

/-- ITS FALSE NEIGHBOUR: 'it returns false'. Refute it at one input. -/
def ledgerListsWrong : ChangeSpec := { name := "ledgerLists", fn := fun _ => fun
  | [d] => { results := [.lit (.bool false)], args := [d] }
  | _ => none }
def LedgerListsWrongFalsely : Prop := ledgerListsRow.holds Try.pinned (OpenSpec.ofChange ledgerListsWrong)

/-- 'lotterylaw48.LedgerNil': WHATEVER THE INPUT: true; the input reads as it did. -/
def ledgerNilSpec : ChangeSpec := { name := "ledgerNil", fn := fun _ => fun
  | [d] => { results := [.lit (.bool true)], args := [d] }
  | _ => none }
def ledgerNilRow : OpenClaim := { program := "ytadnflbohflckaa", sum := "050c26001c8133489f6af1d153229b7ab18536c5fe2bcc99ee0048577c6f77e6", func := "lottery/lotterylaw48.LedgerNil", spec := "ledgerNil", recurses := true, apart := false }
def LedgerNilSaid : Prop := ledgerNilRow.holds Try.pinned (OpenSpec.ofChange ledgerNilSpec)

/-- ITS FALSE NEIGHBOUR: 'it returns false'. Refute it at one input. -/
def ledgerNilWrong : ChangeSpec := { name := "ledgerNil", fn := fun _ => fun
  | [d] => { results := [.lit (.bool false)], args := [d] }
  | _ => none }
def LedgerNilWrongFalsely : Prop := ledgerNilRow.holds Try.pinned (OpenSpec.ofChange ledgerNilWrong)

/-- 'lotterylaw48.LedgerReplays': WHATEVER THE INPUT: true; the input reads as it did. -/
def ledgerReplaysSpec : ChangeSpec := { name := "ledgerReplays", fn := fun _ => fun
  | [d] => { results := [.lit (.bool true)], args := [d] }
  | _ => none }
def ledgerReplaysRow : OpenClaim := { program := "ytadnflbohflckaa", sum := "050c26001c8133489f6af1d153229b7ab18536c5fe2bcc99ee0048577c6f77e6", func := "lottery/lotterylaw48.LedgerReplays", spec := "ledgerReplays", recurses := true, apart := false }
def LedgerReplaysSaid : Prop := ledgerReplaysRow.holds Try.pinned (OpenSpec.ofChange ledgerReplaysSpec)

/-- ITS FALSE NEIGHBOUR: 'it returns false'. Refute it at one input. -/
def ledgerReplaysWrong : ChangeSpec := { name := "ledgerReplays", fn := fun _ => fun
  | [d] => { results := [.lit (.bool false)], args := [d] }
  | _ => none }
def LedgerReplaysWrongFalsely : Prop := ledgerReplaysRow.holds Try.pinned (OpenSpec.ofChange ledgerReplaysWrong)

/-- 'lotterylaw48.LedgerOrders': WHATEVER THE INPUT: true; the input reads as it did. -/
def ledgerOrdersSpec : ChangeSpec := { name := "ledgerOrders", fn := fun _ => fun
  | [d] => { results := [.lit (.bool true)], args := [d] }
  | _ => none }
def ledgerOrdersRow : OpenClaim := { program := "ytadnflbohflckaa", sum := "050c26001c8133489f6af1d153229b7ab18536c5fe2bcc99ee0048577c6f77e6", func := "lottery/lotterylaw48.LedgerOrders", spec := "ledgerOrders", recurses := true, apart := false }
def LedgerOrdersSaid : Prop := ledgerOrdersRow.holds Try.pinned (OpenSpec.ofChange ledgerOrdersSpec)

/-- ITS FALSE NEIGHBOUR: 'it returns false'. Refute it at one input. -/
def ledgerOrdersWrong : ChangeSpec := { name := "ledgerOrders", fn := fun _ => fun
  | [d] => { results := [.lit (.bool false)], args := [d] }
  | _ => none }
def LedgerOrdersWrongFalsely : Prop := ledgerOrdersRow.holds Try.pinned (OpenSpec.ofChange ledgerOrdersWrong)

/- THE SECOND FORM. 'bulk': how many values and letters a reading holds, each counted each time it is reached (what is shared counts as often as it is met; a slice's spare places count too). A statement '..UptoSaid' is the law's where the arguments, and the package variables that the reading takes, are together of bulk at most 1048576: NARROWER than '..Said'. Prove '..Said' where nothing that the law and all that it calls make is longer than what came in: it says more and counts as full. Else prove '..UptoSaid'. A law counts once. -/
mutual
def uptoBulk {H : Type} : DataW H → Nat
  | .lit (.string bytes) => bytes.length + 1
  | .lit _ => 1
  | .nil => 1
  | .ptr d => uptoBulk d + 1
  | .slice elems spare => uptoBulkAll elems + uptoBulkAll spare + 1
  | .agg parts => uptoBulkAll parts + 1
  | .iface _ d => uptoBulk d + 1
  | .map entries => uptoBulkEntries entries + 1
  | .held _ => 1
def uptoBulkAll {H : Type} : List (DataW H) → Nat
  | [] => 0
  | d :: r => uptoBulk d + uptoBulkAll r
def uptoBulkEntries {H : Type} : List (Lit × DataW H) → Nat
  | [] => 0
  | x :: r => uptoBulkEntry x + uptoBulkEntries r
def uptoBulkEntry {H : Type} : Lit × DataW H → Nat
  | (.string bytes, d) => bytes.length + uptoBulk d + 1
  | (_, d) => uptoBulk d + 1
 end
def uptoSmall : (H : Type) → List (DataW H) → Bool := fun _ ds => decide (uptoBulkAll ds ≤ 1048576)
def OpenSpec.upto (s : _root_.Go.ChangeSpec) : _root_.Go.OpenSpec := { _root_.Go.OpenSpec.ofChange s with cond := some uptoSmall }

/-- 'lotterylaw48.LedgerPosts', WHERE WHAT IT READS IS OF BULK AT MOST 1048576: true; the input reads as it did. -/
def ledgerPostsUptoRow : OpenClaim := { program := "ytadnflbohflckaa", sum := "050c26001c8133489f6af1d153229b7ab18536c5fe2bcc99ee0048577c6f77e6", func := "lottery/lotterylaw48.LedgerPosts", spec := "ledgerPosts", apart := false, narrowed := true }
def LedgerPostsUptoSaid : Prop := ledgerPostsUptoRow.holds Try.pinned (OpenSpec.upto ledgerPostsSpec)

/-- 'lotterylaw48.LedgerZero', WHERE WHAT IT READS IS OF BULK AT MOST 1048576: true; the input reads as it did. -/
def ledgerZeroUptoRow : OpenClaim := { program := "ytadnflbohflckaa", sum := "050c26001c8133489f6af1d153229b7ab18536c5fe2bcc99ee0048577c6f77e6", func := "lottery/lotterylaw48.LedgerZero", spec := "ledgerZero", recurses := true, apart := false, narrowed := true }
def LedgerZeroUptoSaid : Prop := ledgerZeroUptoRow.holds Try.pinned (OpenSpec.upto ledgerZeroSpec)

/-- 'lotterylaw48.LedgerReverses', WHERE WHAT IT READS IS OF BULK AT MOST 1048576: true; the input reads as it did. -/
def ledgerReversesUptoRow : OpenClaim := { program := "ytadnflbohflckaa", sum := "050c26001c8133489f6af1d153229b7ab18536c5fe2bcc99ee0048577c6f77e6", func := "lottery/lotterylaw48.LedgerReverses", spec := "ledgerReverses", recurses := true, apart := false, narrowed := true }
def LedgerReversesUptoSaid : Prop := ledgerReversesUptoRow.holds Try.pinned (OpenSpec.upto ledgerReversesSpec)

/-- 'lotterylaw48.LedgerLists', WHERE WHAT IT READS IS OF BULK AT MOST 1048576: true; the input reads as it did. -/
def ledgerListsUptoRow : OpenClaim := { program := "ytadnflbohflckaa", sum := "050c26001c8133489f6af1d153229b7ab18536c5fe2bcc99ee0048577c6f77e6", func := "lottery/lotterylaw48.LedgerLists", spec := "ledgerLists", recurses := true, apart := false, narrowed := true }
def LedgerListsUptoSaid : Prop := ledgerListsUptoRow.holds Try.pinned (OpenSpec.upto ledgerListsSpec)

/-- 'lotterylaw48.LedgerNil', WHERE WHAT IT READS IS OF BULK AT MOST 1048576: true; the input reads as it did. -/
def ledgerNilUptoRow : OpenClaim := { program := "ytadnflbohflckaa", sum := "050c26001c8133489f6af1d153229b7ab18536c5fe2bcc99ee0048577c6f77e6", func := "lottery/lotterylaw48.LedgerNil", spec := "ledgerNil", recurses := true, apart := false, narrowed := true }
def LedgerNilUptoSaid : Prop := ledgerNilUptoRow.holds Try.pinned (OpenSpec.upto ledgerNilSpec)

/-- 'lotterylaw48.LedgerReplays', WHERE WHAT IT READS IS OF BULK AT MOST 1048576: true; the input reads as it did. -/
def ledgerReplaysUptoRow : OpenClaim := { program := "ytadnflbohflckaa", sum := "050c26001c8133489f6af1d153229b7ab18536c5fe2bcc99ee0048577c6f77e6", func := "lottery/lotterylaw48.LedgerReplays", spec := "ledgerReplays", recurses := true, apart := false, narrowed := true }
def LedgerReplaysUptoSaid : Prop := ledgerReplaysUptoRow.holds Try.pinned (OpenSpec.upto ledgerReplaysSpec)

/-- 'lotterylaw48.LedgerOrders', WHERE WHAT IT READS IS OF BULK AT MOST 1048576: true; the input reads as it did. -/
def ledgerOrdersUptoRow : OpenClaim := { program := "ytadnflbohflckaa", sum := "050c26001c8133489f6af1d153229b7ab18536c5fe2bcc99ee0048577c6f77e6", func := "lottery/lotterylaw48.LedgerOrders", spec := "ledgerOrders", recurses := true, apart := false, narrowed := true }
def LedgerOrdersUptoSaid : Prop := ledgerOrdersUptoRow.holds Try.pinned (OpenSpec.upto ledgerOrdersSpec)

end Rows
end Go.Proofs.Ytadnflbohflckaa
