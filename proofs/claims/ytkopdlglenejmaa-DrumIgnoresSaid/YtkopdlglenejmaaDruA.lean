/- digest.Mix, the generators of numbers: New, Next, Below. -/
import Derived.Test.YtkopdlglenejmaaMecS
import Derived.Test.YtkopdlglenejmaaEngInt
namespace Go.Proofs.Ytkopdlglenejmaa
open Eng

theorem wrapU (x : Int) : IntKind.u64.wrap x = x % 18446744073709551616 := by simp [IntKind.wrap, IntKind.bits, IntKind.signed]
def shrI (n : Nat) (x : Int) : Int := x.fdiv (2 ^ n)
def xorI (a b : Int) : Int := bits .xor .u64 a b
def mulU (a b : Int) : Int := IntKind.u64.wrap (a * b)
def mixI (x : Int) : Int :=
  xorI (mulU (xorI (mulU (xorI x (shrI 30 x)) 13787848793156543929) (shrI 27 (mulU (xorI x (shrI 30 x)) 13787848793156543929))) 10723151780598845931)
    (shrI 31 (mulU (xorI (mulU (xorI x (shrI 30 x)) 13787848793156543929) (shrI 27 (mulU (xorI x (shrI 30 x)) 13787848793156543929))) 10723151780598845931))
theorem xorI_rng (a b : Int) : 0 ≤ xorI a b ∧ xorI a b < 18446744073709551616 := by
  unfold xorI
  show 0 ≤ IntKind.u64.wrap _ ∧ IntKind.u64.wrap _ < _
  rw [wrapU]
  omega
theorem mixI_rng (x : Int) : 0 ≤ mixI x ∧ mixI x < 18446744073709551616 := xorI_rng _ _
def incI (s : Int) : Int := IntKind.u64.wrap (s + 11400714819323198485)
def rejI (n : Int) : Int := 18446744073709551616 % n
theorem rej_a {n : Int} (h : 1 ≤ n) (h' : n ≤ 2147483648) : (IntKind.u64.wrap (0 - n)).tmod n = rejI n := by
  rw [wrapU, show (0 - n) % 18446744073709551616 = 18446744073709551616 - n by omega, Int.tmod_eq_emod_of_nonneg (by omega)]
  unfold rejI
  rw [Int.sub_emod, Int.emod_self, Int.sub_zero, Int.emod_emod]
theorem rej_b {n : Int} (h : 1 ≤ n) (h' : n ≤ 2147483648) : (IntKind.u64.wrap ((18446744073709551615 : Int).tmod n + 1)).tmod n = rejI n := by
  have h1 : 0 ≤ (18446744073709551615 : Int) % n := Int.emod_nonneg _ (by omega)
  have h2 : (18446744073709551615 : Int) % n < n := Int.emod_lt_of_pos _ (by omega)
  rw [show (18446744073709551615 : Int).tmod n = 18446744073709551615 % n from Int.tmod_eq_emod_of_nonneg (by decide), wrapU, show ((18446744073709551615 : Int) % n + 1) % 18446744073709551616 = (18446744073709551615 : Int) % n + 1 by omega, Int.tmod_eq_emod_of_nonneg (by omega)]
  unfold rejI
  rw [Int.add_emod, Int.emod_emod, ← Int.add_emod, show (18446744073709551615 : Int) + 1 = 18446744073709551616 by decide]
theorem rej_rng {n : Int} (h : 1 ≤ n) (h' : n ≤ 2147483648) : 0 ≤ rejI n ∧ rejI n < 2147483648 := by
  unfold rejI
  have h1 : 0 ≤ (18446744073709551616 : Int) % n := Int.emod_nonneg _ (by omega)
  have h2 : (18446744073709551616 : Int) % n < n := Int.emod_lt_of_pos _ (by omega)
  omega
/-- A number below n, by at most k tries: the number, the error, the state. -/
def belowN (n : Int) : Nat → Int → Int × Int × Int
  | 0, s => (0, 11, s)
  | k + 1, s => if mixI (incI s) ≤ 18446744073709551615 - rejI n then (mixI (incI s) % n, 0, incI s) else belowN n k (incI s)
def belowF (n s : Int) : Int × Int × Int := if n < 1 ∨ 2147483648 < n then (0, 2, s) else belowN n 64 s
theorem belowN_rng {n : Int} (h : 1 ≤ n) : ∀ (k : Nat) (s : Int), 0 ≤ (belowN n k s).1 ∧ (belowN n k s).1 < n
  | 0, s => ⟨Int.le_refl _, by show (0 : Int) < n; omega⟩
  | k + 1, s => by
    unfold belowN
    split
    · exact ⟨Int.emod_nonneg _ (by omega), Int.emod_lt_of_pos _ (by omega)⟩
    · exact belowN_rng h k _
theorem belowF_rng {n s : Int} (h : 1 ≤ n) : 0 ≤ (belowF n s).1 ∧ (belowF n s).1 < n := by
  unfold belowF
  split
  · exact ⟨Int.le_refl _, by show (0 : Int) < n; omega⟩
  · exact belowN_rng h _ _
theorem val_a {n v : Int} (h : 1 ≤ n) (h' : n ≤ 2147483648) (hv : 0 ≤ v ∧ v < 18446744073709551616) : IntKind.i64.wrap (v.tmod n) = v % n := by
  rw [Int.tmod_eq_emod_of_nonneg hv.1]
  have h1 : 0 ≤ v % n := Int.emod_nonneg _ (by omega)
  have h2 : v % n < n := Int.emod_lt_of_pos _ (by omega)
  exact w64 (by omega) (by omega)
theorem conv_a {n : Int} (h : 1 ≤ n) (h' : n ≤ 2147483648) : IntKind.u64.wrap n = n := by rw [wrapU]; omega
theorem lim_a {r : Int} (h : 0 ≤ r ∧ r < 2147483648) : IntKind.u64.wrap (18446744073709551615 - r) = 18446744073709551615 - r := by rw [wrapU]; omega

theorem mixG {m : Mem} (x : Int) : PureCall Try.prog 76 [.int .u64 x] m (.int .u64 (mixI x)) := by
  refine CallsS.pure ?_
  refine enter Try.func76 Try.ntmps76 rfl rfl ?_
  refine SWP_seq ?_
  refine SWP_region ?_
  refine pI rfl rfl ?_
  refine SL_nil ?_
  refine nx ?_
  refine SWP_seq ?_
  refine SWP_region ?_
  first | refine pI rfl rfl ?_ | refine pu rfl rfl ?_
  first | refine pI rfl rfl ?_ | refine pu rfl rfl ?_
  refine pshr (c := shrI 30 _) rfl rfl (by decide) rfl rfl ?_
  refine pu (v := .int .u64 (xorI _ _)) rfl rfl ?_
  first | refine pI rfl rfl ?_ | refine pu rfl rfl ?_
  refine SL_nil ?_
  refine nx ?_
  refine SWP_seq ?_
  refine SWP_region ?_
  first | refine pI rfl rfl ?_ | refine pu rfl rfl ?_
  refine pu (v := .int .u64 (mulU _ _)) rfl rfl ?_
  first | refine pI rfl rfl ?_ | refine pu rfl rfl ?_
  refine SL_nil ?_
  refine nx ?_
  refine SWP_seq ?_
  refine SWP_region ?_
  first | refine pI rfl rfl ?_ | refine pu rfl rfl ?_
  first | refine pI rfl rfl ?_ | refine pu rfl rfl ?_
  refine pshr (c := shrI 27 _) rfl rfl (by decide) rfl rfl ?_
  refine pu (v := .int .u64 (xorI _ _)) rfl rfl ?_
  first | refine pI rfl rfl ?_ | refine pu rfl rfl ?_
  refine SL_nil ?_
  refine nx ?_
  refine SWP_seq ?_
  refine SWP_region ?_
  first | refine pI rfl rfl ?_ | refine pu rfl rfl ?_
  refine pu (v := .int .u64 (mulU _ _)) rfl rfl ?_
  first | refine pI rfl rfl ?_ | refine pu rfl rfl ?_
  refine SL_nil ?_
  refine nx ?_
  refine SWP_seq ?_
  refine SWP_region ?_
  first | refine pI rfl rfl ?_ | refine pu rfl rfl ?_
  first | refine pI rfl rfl ?_ | refine pu rfl rfl ?_
  refine pshr (c := shrI 31 _) rfl rfl (by decide) rfl rfl ?_
  refine pu (v := .int .u64 (xorI _ _)) rfl rfl ?_
  first | refine pI rfl rfl ?_ | refine pu rfl rfl ?_
  refine SL_nil ?_
  refine nx ?_
  refine SWP_seq ?_
  refine SWP_region ?_
  first | refine pI rfl rfl ?_ | refine pu rfl rfl ?_
  first | refine pI rfl rfl ?_ | refine pu rfl rfl ?_
  refine SL_nil ?_
  refine nx ?_
  refine SWP_ret ?_
  refine fin [_] ⟨rfl, trivial⟩ ?_
  rfl

theorem mixR {m : Mem} (x : Int) : PureCall Try.prog 70 [.int .u64 x] m (.int .u64 (mixI x)) := by
  refine CallsS.pure ?_
  refine enter Try.func70 Try.ntmps70 rfl rfl ?_
  refine SWP_seq ?_
  refine SWP_region ?_
  refine pI rfl rfl ?_
  refine SL_nil ?_
  refine nx ?_
  refine SWP_seq ?_
  refine SWP_region ?_
  first | refine pI rfl rfl ?_ | refine pu rfl rfl ?_
  first | refine pI rfl rfl ?_ | refine pu rfl rfl ?_
  refine pshr (c := shrI 30 _) rfl rfl (by decide) rfl rfl ?_
  refine pu (v := .int .u64 (xorI _ _)) rfl rfl ?_
  first | refine pI rfl rfl ?_ | refine pu rfl rfl ?_
  refine SL_nil ?_
  refine nx ?_
  refine SWP_seq ?_
  refine SWP_region ?_
  first | refine pI rfl rfl ?_ | refine pu rfl rfl ?_
  refine pu (v := .int .u64 (mulU _ _)) rfl rfl ?_
  first | refine pI rfl rfl ?_ | refine pu rfl rfl ?_
  refine SL_nil ?_
  refine nx ?_
  refine SWP_seq ?_
  refine SWP_region ?_
  first | refine pI rfl rfl ?_ | refine pu rfl rfl ?_
  first | refine pI rfl rfl ?_ | refine pu rfl rfl ?_
  refine pshr (c := shrI 27 _) rfl rfl (by decide) rfl rfl ?_
  refine pu (v := .int .u64 (xorI _ _)) rfl rfl ?_
  first | refine pI rfl rfl ?_ | refine pu rfl rfl ?_
  refine SL_nil ?_
  refine nx ?_
  refine SWP_seq ?_
  refine SWP_region ?_
  first | refine pI rfl rfl ?_ | refine pu rfl rfl ?_
  refine pu (v := .int .u64 (mulU _ _)) rfl rfl ?_
  first | refine pI rfl rfl ?_ | refine pu rfl rfl ?_
  refine SL_nil ?_
  refine nx ?_
  refine SWP_seq ?_
  refine SWP_region ?_
  first | refine pI rfl rfl ?_ | refine pu rfl rfl ?_
  first | refine pI rfl rfl ?_ | refine pu rfl rfl ?_
  refine pshr (c := shrI 31 _) rfl rfl (by decide) rfl rfl ?_
  refine pu (v := .int .u64 (xorI _ _)) rfl rfl ?_
  first | refine pI rfl rfl ?_ | refine pu rfl rfl ?_
  refine SL_nil ?_
  refine nx ?_
  refine SWP_ret ?_
  refine fin [_] ⟨rfl, trivial⟩ ?_
  rfl

theorem newG {m : Mem} (s : Int) : CallsS Try.prog 21 [.int .u64 s].toArray [] m fun r σ' m' => ∃ B, r = .pointer (some ⟨B, 0, none⟩) ∧ σ' = [(B, Cells 73 [.int .u64 s, .int .i64 0])] ∧ m' = m := by
  refine enter Try.func21 Try.ntmps21 rfl rfl ?_
  refine SWP_seq ?_
  refine SWP_region ?_
  refine pP rfl rfl ?_
  refine SL_nil ?_
  refine nx ?_
  refine SWP_seq ?_
  refine SWP_region ?_
  first | refine pI rfl rfl ?_ | refine pu rfl rfl ?_
  refine pA rfl rfl ?_
  refine bx (v := .agg _) rfl rfl (fun B5 => ?_)
  refine pP rfl rfl ?_
  refine SL_nil ?_
  refine nx ?_
  refine SWP_ret ?_
  refine fin [_] ⟨rfl, trivial⟩ ?_
  exact ⟨_, rfl, rfl, rfl⟩

theorem newR {m : Mem} (s : Int) : CallsS Try.prog 24 [.int .u64 s].toArray [] m fun r σ' m' => ∃ B, r = .pointer (some ⟨B, 0, none⟩) ∧ σ' = [(B, Cells 75 [.int .u64 s, .int .i64 0])] ∧ m' = m := by
  refine enter Try.func24 Try.ntmps24 rfl rfl ?_
  refine SWP_seq ?_
  refine SWP_region ?_
  refine pP rfl rfl ?_
  refine SL_nil ?_
  refine nx ?_
  refine SWP_seq ?_
  refine SWP_region ?_
  first | refine pI rfl rfl ?_ | refine pu rfl rfl ?_
  refine pA rfl rfl ?_
  refine bx (v := .agg _) rfl rfl (fun B5 => ?_)
  refine pP rfl rfl ?_
  refine SL_nil ?_
  refine nx ?_
  refine SWP_ret ?_
  refine fin [_] ⟨rfl, trivial⟩ ?_
  exact ⟨_, rfl, rfl, rfl⟩

theorem nextG {m : Mem} (B : Nat) (s u : Int) : CallsS Try.prog 65 [.pointer (some ⟨B, 0, none⟩)].toArray [(B, Cells 73 [.int .u64 s, .int .i64 u])] m fun r σ' m' => r = .int .u64 (mixI (incI s)) ∧ (∃ u', σ' = [(B, Cells 73 [.int .u64 (incI s), .int .i64 u'])]) ∧ m' = m := by
  refine enter Try.func65 Try.ntmps65 rfl rfl ?_
  refine SWP_seq ?_
  refine SWP_region ?_
  refine pI rfl rfl ?_
  refine SL_nil ?_
  refine nx ?_
  refine SWP_seq ?_
  refine SWP_seq ?_
  refine SWP_region ?_
  first | refine pP rfl rfl ?_ | refine pu rfl rfl ?_
  refine pu (v := .bool false) rfl rfl ?_
  refine SL_nil ?_
  refine nx ?_
  refine SWP_cf rfl ?_
  refine SWP_skip ?_
  refine nx ?_
  refine SWP_seq ?_
  refine SWP_region ?_
  first | refine pP rfl rfl ?_ | refine pu rfl rfl ?_
  refine pu rfl rfl ?_
  refine pu rfl rfl ?_
  refine lw (v := .int .u64 _) B 0 rfl rfl rfl rfl ?_
  refine pu (v := .int .u64 (incI s)) rfl rfl ?_
  refine pu rfl rfl ?_
  refine pu rfl rfl ?_
  refine sw (v := .int .u64 (incI s)) B 0 rfl rfl rfl rfl rfl rfl rfl ?_
  refine SL_nil ?_
  refine nx ?_
  refine SWP_seq ?_
  refine SWP_region ?_
  first | refine pP rfl rfl ?_ | refine pu rfl rfl ?_
  refine pu rfl rfl ?_
  refine pu rfl rfl ?_
  refine lw (v := .int .i64 _) B 1 rfl rfl rfl rfl ?_
  refine pu (v := .int .i64 (IntKind.i64.wrap (u + 1))) rfl rfl ?_
  refine pu rfl rfl ?_
  refine pu rfl rfl ?_
  refine sw (v := .int .i64 _) B 1 rfl rfl rfl rfl rfl rfl rfl ?_
  refine SL_nil ?_
  refine nx ?_
  refine SWP_seq ?_
  refine SWP_region ?_
  first | refine pP rfl rfl ?_ | refine pu rfl rfl ?_
  refine pu rfl rfl ?_
  refine pu rfl rfl ?_
  refine lw (v := .int .u64 (incI s)) B 0 rfl rfl rfl rfl ?_
  refine SL_pcall rfl rfl cb76 (mixG (incI s)) rfl ?_
  first | refine pI rfl rfl ?_ | refine pu rfl rfl ?_
  refine SL_nil ?_
  refine nx ?_
  refine SWP_ret ?_
  refine fin [_] ⟨rfl, trivial⟩ ?_
  exact ⟨rfl, ⟨_, rfl⟩, rfl⟩

theorem nextR {m : Mem} (B : Nat) (s u : Int) : CallsS Try.prog 50 [.pointer (some ⟨B, 0, none⟩)].toArray [(B, Cells 75 [.int .u64 s, .int .i64 u])] m fun r σ' m' => r = .int .u64 (mixI (incI s)) ∧ (∃ u', σ' = [(B, Cells 75 [.int .u64 (incI s), .int .i64 u'])]) ∧ m' = m := by
  refine enter Try.func50 Try.ntmps50 rfl rfl ?_
  refine SWP_seq ?_
  refine SWP_region ?_
  refine pI rfl rfl ?_
  refine SL_nil ?_
  refine nx ?_
  refine SWP_seq ?_
  refine SWP_region ?_
  first | refine pP rfl rfl ?_ | refine pu rfl rfl ?_
  first | refine pP rfl rfl ?_ | refine pu rfl rfl ?_
  refine pu rfl rfl ?_
  refine pu rfl rfl ?_
  refine lw (v := .int .u64 _) B 0 rfl rfl rfl rfl ?_
  refine pu (v := .int .u64 (incI s)) rfl rfl ?_
  refine pu rfl rfl ?_
  refine pu rfl rfl ?_
  refine sw (v := .int .u64 (incI s)) B 0 rfl rfl rfl rfl rfl rfl rfl ?_
  refine SL_nil ?_
  refine nx ?_
  refine SWP_seq ?_
  refine SWP_region ?_
  first | refine pP rfl rfl ?_ | refine pu rfl rfl ?_
  refine pu rfl rfl ?_
  refine pu rfl rfl ?_
  refine lw (v := .int .i64 _) B 1 rfl rfl rfl rfl ?_
  refine pu (v := .int .i64 (IntKind.i64.wrap (u + 1))) rfl rfl ?_
  refine pu rfl rfl ?_
  refine pu rfl rfl ?_
  refine sw (v := .int .i64 _) B 1 rfl rfl rfl rfl rfl rfl rfl ?_
  refine SL_nil ?_
  refine nx ?_
  refine SWP_seq ?_
  refine SWP_region ?_
  first | refine pP rfl rfl ?_ | refine pu rfl rfl ?_
  refine pu rfl rfl ?_
  refine pu rfl rfl ?_
  refine lw (v := .int .u64 (incI s)) B 0 rfl rfl rfl rfl ?_
  refine SL_pcall rfl rfl cb70 (mixR (incI s)) rfl ?_
  first | refine pI rfl rfl ?_ | refine pu rfl rfl ?_
  refine SL_nil ?_
  refine nx ?_
  refine SWP_ret ?_
  refine fin [_] ⟨rfl, trivial⟩ ?_
  exact ⟨rfl, ⟨_, rfl⟩, rfl⟩

end Go.Proofs.Ytkopdlglenejmaa

