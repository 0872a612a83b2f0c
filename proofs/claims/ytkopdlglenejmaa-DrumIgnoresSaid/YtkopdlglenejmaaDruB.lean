/- The generators of numbers: Below. -/
import Derived.Test.YtkopdlglenejmaaDruA
namespace Go.Proofs.Ytkopdlglenejmaa
open Eng

theorem goodR {m : Mem} {v n : Int} (h1 : 1 ≤ n) (h2 : n ≤ 2147483648) (hv : v < 18446744073709551616) : PureCall Try.prog 51 [.int .u64 v, .int .u64 n] m (.bool (decide (v ≤ 18446744073709551615 - rejI n))) := by
  refine CallsS.pure ?_
  have hr := rej_rng h1 h2
  refine enter Try.func51 Try.ntmps51 rfl rfl ?_
  refine SWP_seq ?_
  refine SWP_region ?_
  refine pB rfl rfl ?_
  refine SL_nil ?_
  refine nx ?_
  refine SWP_seq ?_
  refine SWP_region ?_
  first | refine pI rfl rfl ?_ | refine pu rfl rfl ?_
  refine prm (c := (18446744073709551615 : Int).tmod n) rfl rfl (by omega) rfl rfl ?_
  refine pu (v := .int .u64 (IntKind.u64.wrap ((18446744073709551615 : Int).tmod n + 1))) rfl rfl ?_
  first | refine pI rfl rfl ?_ | refine pu rfl rfl ?_
  refine prm rfl rfl (by omega) (rej_b h1 h2) rfl ?_
  first | refine pI rfl rfl ?_ | refine pu rfl rfl ?_
  refine SL_nil ?_
  refine nx ?_
  refine SWP_seq ?_
  refine SWP_region ?_
  first | refine pI rfl rfl ?_ | refine pu rfl rfl ?_
  refine pc rfl rfl (fun c12 => ?_) (fun c12 => ?_)
  · skip
    refine pB rfl rfl ?_
    refine SL_no rfl rfl ?_
    refine SL_no rfl rfl ?_
    refine SL_no rfl rfl ?_
    refine SL_no rfl rfl ?_
    refine pB rfl rfl ?_
    refine pB rfl rfl ?_
    refine SL_nil ?_
    refine nx ?_
    refine SWP_ret ?_
    refine fin [_] ⟨rfl, trivial⟩ ?_
    exact congrArg Value.bool (decide_eq_true (by omega)).symm
  refine pB rfl rfl ?_
  refine SL_yes rfl ?_
  first | refine pI rfl rfl ?_ | refine pu rfl rfl ?_
  refine SL_yes rfl ?_
  first | refine pI rfl rfl ?_ | refine pu rfl rfl ?_
  refine SL_yes rfl ?_
  refine pw rfl rfl (lim_a hr) ?_
  refine SL_yes rfl ?_
  refine pu rfl rfl ?_
  refine pB rfl rfl ?_
  refine pB rfl rfl ?_
  refine SL_nil ?_
  refine nx ?_
  refine SWP_ret ?_
  refine fin [_] ⟨rfl, trivial⟩ ?_
  rfl

theorem belowG {m : Mem} (B : Nat) (n s u : Int) : CallsS Try.prog 47 [.pointer (some ⟨B, 0, none⟩), .int .i64 n].toArray [(B, Cells 73 [.int .u64 s, .int .i64 u])] m fun r σ' m' => r = .tuple #[.int .i64 (belowF n s).1, .int .i64 (belowF n s).2.1] ∧ (∃ u', σ' = [(B, Cells 73 [.int .u64 (belowF n s).2.2, .int .i64 u'])]) ∧ m' = m := by
  refine enter Try.func47 Try.ntmps47 rfl rfl ?_
  refine SWP_seq ?_
  refine SWP_region ?_
  refine pI rfl rfl ?_
  refine pI rfl rfl ?_
  refine SL_nil ?_
  refine nx ?_
  refine SWP_seq ?_
  refine SWP_seq ?_
  refine SWP_region ?_
  first | refine pP rfl rfl ?_ | refine pu rfl rfl ?_
  refine pu (v := .bool false) rfl rfl ?_
  refine SL_nil ?_
  refine nx ?_
  refine SWP_cf rfl ?_
  refine SWP_skip ?_
  refine nx ?_
  refine SWP_seq ?_
  refine SWP_seq ?_
  refine SWP_region ?_
  first | refine pI rfl rfl ?_ | refine pu rfl rfl ?_
  refine pc rfl rfl (fun c12 => ?_) (fun c12 => ?_)
  · skip
    refine pB rfl rfl ?_
    refine SL_no rfl rfl ?_
    refine SL_no rfl rfl ?_
    refine pB rfl rfl ?_
    refine SL_nil ?_
    refine nx ?_
    refine SWP_ct rfl ?_
    refine SWP_seq ?_
    refine SWP_region ?_
    refine pI rfl rfl ?_
    refine pI rfl rfl ?_
    refine SL_nil ?_
    refine nx ?_
    refine SWP_ret ?_
    refine nr ?_
    refine fin [_, _] ⟨rfl, rfl, trivial⟩ ?_
    have e : belowF n s = (0, 2, s) := if_pos (by omega)
    rw [e]
    exact ⟨rfl, ⟨_, rfl⟩, rfl⟩
  refine pB rfl rfl ?_
  refine SL_yes rfl ?_
  first | refine pI rfl rfl ?_ | refine pu rfl rfl ?_
  refine SL_yes rfl ?_
  refine pc rfl rfl (fun c15 => ?_) (fun c15 => ?_)
  · skip
    refine pB rfl rfl ?_
    refine SL_nil ?_
    refine nx ?_
    refine SWP_ct rfl ?_
    refine SWP_seq ?_
    refine SWP_region ?_
    refine pI rfl rfl ?_
    refine pI rfl rfl ?_
    refine SL_nil ?_
    refine nx ?_
    refine SWP_ret ?_
    refine nr ?_
    refine fin [_, _] ⟨rfl, rfl, trivial⟩ ?_
    have e : belowF n s = (0, 2, s) := if_pos (by omega)
    rw [e]
    exact ⟨rfl, ⟨_, rfl⟩, rfl⟩
  refine pB rfl rfl ?_
  refine SL_nil ?_
  refine nx ?_
  refine SWP_cf rfl ?_
  refine SWP_skip ?_
  refine nx ?_
  refine SWP_seq ?_
  refine SWP_region ?_
  first | refine pI rfl rfl ?_ | refine pu rfl rfl ?_
  refine pw rfl rfl (conv_a (by omega) (by omega)) ?_
  first | refine pI rfl rfl ?_ | refine pu rfl rfl ?_
  refine SL_nil ?_
  refine nx ?_
  refine SWP_seq ?_
  refine SWP_region ?_
  first | refine pI rfl rfl ?_ | refine pu rfl rfl ?_
  refine pu (v := .int .u64 (IntKind.u64.wrap (0 - n))) rfl rfl ?_
  first | refine pI rfl rfl ?_ | refine pu rfl rfl ?_
  refine prm rfl rfl (by omega) (rej_a (by omega) (by omega)) rfl ?_
  first | refine pI rfl rfl ?_ | refine pu rfl rfl ?_
  refine SL_nil ?_
  refine nx ?_
  refine SWP_seq ?_
  refine SWP_seq ?_
  refine SWP_region ?_
  refine pI rfl rfl ?_
  refine SL_nil ?_
  refine nx ?_
  refine SWP_block ?_
  refine SWP_loop [4, 5, 8, 23, 24, 25, 26, 27, 28, 29, 30, 31, 32, 33, 34, 35] [23]
      (fun vs σ' m' => ∃ (k : Nat) (s1 u1 : Int), vs = [.int .i64 (k : Nat)] ∧ k ≤ 64 ∧ belowN n 64 s = belowN n (64 - k) s1 ∧ σ' = [(B, Cells 73 [.int .u64 s1, .int .i64 u1])] ∧ m = m')
      (fun vs => 64 - nOf (vs.getD 0 undef)) rfl ?_ ?_
  · exact ⟨0, s, u, rfl, by omega, rfl, rfl, rfl⟩
  intro u0 vs0 σ0 m0 hJ0 _
  obtain ⟨k, s1, u1, rfl, hk, hb, rfl, rfl⟩ := hJ0
  refine SWP_seq ?_
  refine SWP_region ?_
  refine pc rfl rfl (fun c24 => ?_) (fun c24 => ?_)
  · skip
    refine SL_nil ?_
    refine nx ?_
    refine SWP_seq ?_
    refine SWP_ct rfl ?_
    refine SWP_skip ?_
    refine nx ?_
    refine SWP_seq ?_
    refine SWP_block ?_
    refine SWP_seq ?_
    refine SWP_region ?_
    first | refine pP rfl rfl ?_ | refine pu rfl rfl ?_
    refine SL_call rfl rfl cb65 (nextG B s1 u1) rfl (fun v9_1 σ9_1 m9_1 hl9_1 hR9_1 => ?_)
    obtain ⟨rfl, ⟨u2, rfl⟩, hm9_1⟩ := hR9_1
    have hn9_1 := hm9_1.symm
    subst hn9_1
    first | refine pI rfl rfl ?_ | refine pu rfl rfl ?_
    refine SL_nil ?_
    refine nx ?_
    refine SWP_seq ?_
    refine SWP_region ?_
    first | refine pI rfl rfl ?_ | refine pu rfl rfl ?_
    first | refine pI rfl rfl ?_ | refine pu rfl rfl ?_
    refine pw rfl rfl (lim_a (rej_rng (by omega) (by omega))) ?_
    refine pc rfl rfl (fun c30 => ?_) (fun c30 => ?_)
    · skip
      refine SL_nil ?_
      refine nx ?_
      refine SWP_ct rfl ?_
      refine SWP_seq ?_
      refine SWP_region ?_
      first | refine pI rfl rfl ?_ | refine pu rfl rfl ?_
      first | refine pI rfl rfl ?_ | refine pu rfl rfl ?_
      refine prm (c := (mixI (incI s1)).tmod n) rfl rfl (by omega) rfl rfl ?_
      refine pu (v := .int .i64 (IntKind.i64.wrap ((mixI (incI s1)).tmod n))) rfl rfl ?_
      rw [val_a (by omega) (by omega) (mixI_rng _)]
      first | refine pI rfl rfl ?_ | refine pu rfl rfl ?_
      refine pI rfl rfl ?_
      refine SL_nil ?_
      refine nx ?_
      refine SWP_ret ?_
      refine br ?_
      refine nr ?_
      refine nr ?_
      refine br ?_
      refine nr ?_
      refine fin [_, _] ⟨rfl, rfl, trivial⟩ ?_
      have e : belowF n s = (mixI (incI s1) % n, 0, incI s1) := (if_neg (by omega)).trans (hb.trans (by rw [show 64 - k = (63 - k) + 1 by omega]; exact if_pos (by assumption)))
      rw [e]
      exact ⟨rfl, ⟨_, rfl⟩, rfl⟩
    refine SL_nil ?_
    refine nx ?_
    refine SWP_cf rfl ?_
    refine SWP_skip ?_
    refine nb ?_
    refine nx ?_
    refine SWP_region ?_
    first | refine pw rfl rfl (w64 (by omega) (by omega)) ?_ | refine pu rfl rfl ?_
    refine pI rfl rfl ?_
    refine SL_nil ?_
    refine nx ?_
    refine ⟨by repeat (first | exact Under.upds rfl (Under.hav _ _ _) | exact Under.hav _ _ _ | refine Under.upd rfl ?_), ?_, ?_⟩
    · exact ⟨k + 1, incI s1, u2, rfl, by omega, hb.trans (by rw [show 64 - k = (64 - (k + 1)) + 1 by omega]; exact if_neg (by assumption)), rfl, rfl⟩
    · simp only [L_vals, List.map, List.getD]; show 64 - (k + 1) < 64 - k; omega
  refine SL_nil ?_
  refine nx ?_
  refine SWP_seq ?_
  refine SWP_cf rfl ?_
  refine SWP_exit ?_
  refine ne ?_
  refine ne ?_
  refine be rfl ?_
  refine nx ?_
  refine SWP_seq ?_
  refine SWP_region ?_
  refine pI rfl rfl ?_
  refine pI rfl rfl ?_
  refine SL_nil ?_
  refine nx ?_
  refine SWP_ret ?_
  refine fin [_, _] ⟨rfl, rfl, trivial⟩ ?_
  obtain rfl : k = 64 := by omega
  have e : belowF n s = (0, 11, s1) := (if_neg (by omega)).trans hb
  rw [e]
  exact ⟨rfl, ⟨_, rfl⟩, rfl⟩

theorem belowR {m : Mem} (B : Nat) (n s u : Int) : CallsS Try.prog 25 [.pointer (some ⟨B, 0, none⟩), .int .i64 n].toArray [(B, Cells 75 [.int .u64 s, .int .i64 u])] m fun r σ' m' => r = .tuple #[.int .i64 (belowF n s).1, .int .i64 (belowF n s).2.1] ∧ (∃ u', σ' = [(B, Cells 75 [.int .u64 (belowF n s).2.2, .int .i64 u'])]) ∧ m' = m := by
  refine enter Try.func25 Try.ntmps25 rfl rfl ?_
  refine SWP_seq ?_
  refine SWP_region ?_
  refine pI rfl rfl ?_
  refine pI rfl rfl ?_
  refine SL_nil ?_
  refine nx ?_
  refine SWP_seq ?_
  refine SWP_seq ?_
  refine SWP_region ?_
  first | refine pI rfl rfl ?_ | refine pu rfl rfl ?_
  refine pc rfl rfl (fun c9 => ?_) (fun c9 => ?_)
  · skip
    refine pB rfl rfl ?_
    refine SL_no rfl rfl ?_
    refine SL_no rfl rfl ?_
    refine pB rfl rfl ?_
    refine SL_nil ?_
    refine nx ?_
    refine SWP_ct rfl ?_
    refine SWP_seq ?_
    refine SWP_region ?_
    refine pI rfl rfl ?_
    refine pI rfl rfl ?_
    refine SL_nil ?_
    refine nx ?_
    refine SWP_ret ?_
    refine nr ?_
    refine fin [_, _] ⟨rfl, rfl, trivial⟩ ?_
    have e : belowF n s = (0, 2, s) := if_pos (by omega)
    rw [e]
    exact ⟨rfl, ⟨_, rfl⟩, rfl⟩
  refine pB rfl rfl ?_
  refine SL_yes rfl ?_
  first | refine pI rfl rfl ?_ | refine pu rfl rfl ?_
  refine SL_yes rfl ?_
  refine pc rfl rfl (fun c12 => ?_) (fun c12 => ?_)
  · skip
    refine pB rfl rfl ?_
    refine SL_nil ?_
    refine nx ?_
    refine SWP_ct rfl ?_
    refine SWP_seq ?_
    refine SWP_region ?_
    refine pI rfl rfl ?_
    refine pI rfl rfl ?_
    refine SL_nil ?_
    refine nx ?_
    refine SWP_ret ?_
    refine nr ?_
    refine fin [_, _] ⟨rfl, rfl, trivial⟩ ?_
    have e : belowF n s = (0, 2, s) := if_pos (by omega)
    rw [e]
    exact ⟨rfl, ⟨_, rfl⟩, rfl⟩
  refine pB rfl rfl ?_
  refine SL_nil ?_
  refine nx ?_
  refine SWP_cf rfl ?_
  refine SWP_skip ?_
  refine nx ?_
  refine SWP_seq ?_
  refine SWP_seq ?_
  refine SWP_region ?_
  refine pI rfl rfl ?_
  refine SL_nil ?_
  refine nx ?_
  refine SWP_block ?_
  refine SWP_loop [4, 5, 6, 7, 14, 15, 16, 17, 18, 19, 20, 21, 22, 23, 24, 25, 26, 27, 28] [6]
      (fun vs σ' m' => ∃ (k : Nat) (s1 u1 : Int), vs = [.int .i64 (k : Nat)] ∧ k ≤ 64 ∧ belowN n 64 s = belowN n (64 - k) s1 ∧ σ' = [(B, Cells 75 [.int .u64 s1, .int .i64 u1])] ∧ m = m')
      (fun vs => 64 - nOf (vs.getD 0 undef)) rfl ?_ ?_
  · exact ⟨0, s, u, rfl, by omega, rfl, rfl, rfl⟩
  intro u0 vs0 σ0 m0 hJ0 _
  obtain ⟨k, s1, u1, rfl, hk, hb, rfl, rfl⟩ := hJ0
  refine SWP_seq ?_
  refine SWP_seq ?_
  refine SWP_region ?_
  first | refine pI rfl rfl ?_ | refine pu rfl rfl ?_
  refine pc rfl rfl (fun c15 => ?_) (fun c15 => ?_)
  · skip
    refine SL_nil ?_
    refine nx ?_
    refine SWP_ct rfl ?_
    refine SWP_skip ?_
    refine nx ?_
    refine SWP_seq ?_
    refine SWP_block ?_
    refine SWP_seq ?_
    refine SWP_region ?_
    first | refine pP rfl rfl ?_ | refine pu rfl rfl ?_
    refine SL_call rfl rfl cb50 (nextR B s1 u1) rfl (fun v6_1 σ6_1 m6_1 hl6_1 hR6_1 => ?_)
    obtain ⟨rfl, ⟨u2, rfl⟩, hm6_1⟩ := hR6_1
    have hn6_1 := hm6_1.symm
    subst hn6_1
    first | refine pI rfl rfl ?_ | refine pu rfl rfl ?_
    refine SL_nil ?_
    refine nx ?_
    refine SWP_seq ?_
    refine SWP_region ?_
    first | refine pI rfl rfl ?_ | refine pu rfl rfl ?_
    first | refine pI rfl rfl ?_ | refine pu rfl rfl ?_
    refine pw rfl rfl (conv_a (by omega) (by omega)) ?_
    refine SL_pcall rfl rfl cb51 (goodR (by omega) (by omega) (mixI_rng _).2) rfl ?_
    refine psp 23 rfl (fun c23 => ?_) (fun c23 => ?_)
    · skip
      refine SL_nil ?_
      refine nx ?_
      refine SWP_ct rfl ?_
      refine SWP_seq ?_
      refine SWP_region ?_
      first | refine pI rfl rfl ?_ | refine pu rfl rfl ?_
      first | refine pI rfl rfl ?_ | refine pu rfl rfl ?_
      refine pw rfl rfl (conv_a (by omega) (by omega)) ?_
      refine prm (c := (mixI (incI s1)).tmod n) rfl rfl (by omega) rfl rfl ?_
      refine pu (v := .int .i64 (IntKind.i64.wrap ((mixI (incI s1)).tmod n))) rfl rfl ?_
      rw [val_a (by omega) (by omega) (mixI_rng _)]
      first | refine pI rfl rfl ?_ | refine pu rfl rfl ?_
      refine pI rfl rfl ?_
      refine SL_nil ?_
      refine nx ?_
      refine SWP_ret ?_
      refine br ?_
      refine nr ?_
      refine nr ?_
      refine br ?_
      refine nr ?_
      refine fin [_, _] ⟨rfl, rfl, trivial⟩ ?_
      have e : belowF n s = (mixI (incI s1) % n, 0, incI s1) := (if_neg (by omega)).trans (hb.trans (by rw [show 64 - k = (63 - k) + 1 by omega]; exact if_pos (by assumption)))
      rw [e]
      exact ⟨rfl, ⟨_, rfl⟩, rfl⟩
    refine SL_nil ?_
    refine nx ?_
    refine SWP_cf rfl ?_
    refine SWP_skip ?_
    refine nb ?_
    refine nx ?_
    refine SWP_region ?_
    first | refine pI rfl rfl ?_ | refine pu rfl rfl ?_
    first | refine pw rfl rfl (w64 (by omega) (by omega)) ?_ | refine pu rfl rfl ?_
    refine pI rfl rfl ?_
    refine SL_nil ?_
    refine nx ?_
    refine ⟨by repeat (first | exact Under.upds rfl (Under.hav _ _ _) | exact Under.hav _ _ _ | refine Under.upd rfl ?_), ?_, ?_⟩
    · exact ⟨k + 1, incI s1, u2, rfl, by omega, hb.trans (by rw [show 64 - k = (64 - (k + 1)) + 1 by omega]; exact if_neg (by assumption)), rfl, rfl⟩
    · simp only [L_vals, List.map, List.getD]; show 64 - (k + 1) < 64 - k; omega
  refine SL_nil ?_
  refine nx ?_
  refine SWP_cf rfl ?_
  refine SWP_exit ?_
  refine ne ?_
  refine ne ?_
  refine be rfl ?_
  refine nx ?_
  refine SWP_seq ?_
  refine SWP_region ?_
  refine pI rfl rfl ?_
  refine pI rfl rfl ?_
  refine SL_nil ?_
  refine nx ?_
  refine SWP_ret ?_
  refine fin [_, _] ⟨rfl, rfl, trivial⟩ ?_
  obtain rfl : k = 64 := by omega
  have e : belowF n s = (0, 11, s1) := (if_neg (by omega)).trans hb
  rw [e]
  exact ⟨rfl, ⟨_, rfl⟩, rfl⟩

end Go.Proofs.Ytkopdlglenejmaa

