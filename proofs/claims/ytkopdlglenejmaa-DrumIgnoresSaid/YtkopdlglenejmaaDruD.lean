/- The generators of numbers: Sample, from its parts. -/
import Derived.Test.YtkopdlglenejmaaDruC
namespace Go.Proofs.Ytkopdlglenejmaa
open Eng

theorem permT {α : Type} (a b c d : α) (l : List α) : (b :: (l ++ [c, d, a])).Perm (a :: (b :: (l ++ [c, d]))) := (permS a b c d l).symm

set_option maxRecDepth 100000 in
theorem sampG {m : Mem} (B : Nat) (n k s u : Int) : CallsS Try.prog 48 [.pointer (some ⟨B, 0, none⟩), .int .i64 n, .int .i64 k].toArray [(B, Cells 73 [.int .u64 s, .int .i64 u])] m fun r σ' m' => ∃ v u', r = .tuple #[v, .int .i64 (sampF n k s).1] ∧ RL m' intE 1 v (sampF n k s).2.1 ∧ σ' = [(B, Cells 73 [.int .u64 (sampF n k s).2.2, .int .i64 u'])] := by
  refine CallsS.ghost (R' := fun r σ' m' => ∃ v u' τ, r = .tuple #[v, .int .i64 (sampF n k s).1] ∧ RL m' intE 1 v (sampF n k s).2.1 ∧ σ'.Perm ((B, Cells 73 [.int .u64 (sampF n k s).2.2, .int .i64 u']) :: τ)) ?_ ?h2
  case h2 =>
    rintro r σ' m' ⟨v, u', τ, rfl, hR, hp⟩ g0 W hC
    exact ⟨_, m', (hC.perm hp).sublist (List.Sublist.cons_cons _ (List.nil_sublist _)), Le.refl _, v, u', rfl, hR, rfl⟩
  refine enter Try.func48 Try.ntmps48 rfl rfl ?_
  refine SWP_seq ?_
  refine SWP_region ?_
  refine bx (v := .pointer _) rfl rfl (fun B3 => ?_)
  refine bx (v := .int .i64 _) rfl rfl (fun B4 => ?_)
  refine pL rfl rfl ?_
  refine pI rfl rfl ?_
  refine SL_nil ?_
  refine nx ?_
  refine SWP_seq ?_
  refine SWP_seq ?_
  refine SWP_region ?_
  refine lw (v := .pointer _) B3 0 rfl rfl rfl rfl ?_
  refine pu (v := .bool false) rfl rfl ?_
  refine SL_nil ?_
  refine nx ?_
  refine SWP_cf rfl ?_
  refine SWP_skip ?_
  refine nx ?_
  refine SWP_seq ?_
  refine SWP_seq ?_
  refine SWP_region ?_
  refine lw (v := .int .i64 _) B4 0 rfl rfl rfl rfl ?_
  refine pc rfl rfl (fun c15 => ?_) (fun c15 => ?_)
  · skip
    refine pB rfl rfl ?_
    refine SL_no rfl rfl ?_
    refine SL_no rfl rfl ?_
    refine pB rfl rfl ?_
    refine pB rfl rfl ?_
    refine SL_no rfl rfl ?_
    refine SL_no rfl rfl ?_
    refine pB rfl rfl ?_
    refine pB rfl rfl ?_
    refine SL_no rfl rfl ?_
    refine SL_no rfl rfl ?_
    refine SL_no rfl rfl ?_
    refine pB rfl rfl ?_
    refine SL_nil ?_
    refine nx ?_
    refine SWP_ct rfl ?_
    refine SWP_seq ?_
    refine SWP_region ?_
    refine pL rfl rfl ?_
    refine pI rfl rfl ?_
    refine SL_nil ?_
    refine nx ?_
    refine SWP_ret ?_
    refine nr ?_
    refine fin [_, _] ⟨rfl, rfl, trivial⟩ ?_
    rw [sampF_rng (by omega)]
    exact ⟨_, _, _, rfl, RL.nil _ _, (List.perm_append_comm (l₁ := [_, _]) (l₂ := [_]))⟩
  refine pB rfl rfl ?_
  refine SL_yes rfl ?_
  refine lw (v := .int .i64 _) B4 0 rfl rfl rfl rfl ?_
  refine SL_yes rfl ?_
  refine pc rfl rfl (fun c18 => ?_) (fun c18 => ?_)
  · skip
    refine pB rfl rfl ?_
    refine pB rfl rfl ?_
    refine SL_no rfl rfl ?_
    refine SL_no rfl rfl ?_
    refine pB rfl rfl ?_
    refine pB rfl rfl ?_
    refine SL_no rfl rfl ?_
    refine SL_no rfl rfl ?_
    refine SL_no rfl rfl ?_
    refine pB rfl rfl ?_
    refine SL_nil ?_
    refine nx ?_
    refine SWP_ct rfl ?_
    refine SWP_seq ?_
    refine SWP_region ?_
    refine pL rfl rfl ?_
    refine pI rfl rfl ?_
    refine SL_nil ?_
    refine nx ?_
    refine SWP_ret ?_
    refine nr ?_
    refine fin [_, _] ⟨rfl, rfl, trivial⟩ ?_
    rw [sampF_rng (by omega)]
    exact ⟨_, _, _, rfl, RL.nil _ _, (List.perm_append_comm (l₁ := [_, _]) (l₂ := [_]))⟩
  refine pB rfl rfl ?_
  refine pB rfl rfl ?_
  refine SL_yes rfl ?_
  first | refine pI rfl rfl ?_ | refine pu rfl rfl ?_
  refine SL_yes rfl ?_
  refine pc rfl rfl (fun c22 => ?_) (fun c22 => ?_)
  · skip
    refine pB rfl rfl ?_
    refine pB rfl rfl ?_
    refine SL_no rfl rfl ?_
    refine SL_no rfl rfl ?_
    refine SL_no rfl rfl ?_
    refine pB rfl rfl ?_
    refine SL_nil ?_
    refine nx ?_
    refine SWP_ct rfl ?_
    refine SWP_seq ?_
    refine SWP_region ?_
    refine pL rfl rfl ?_
    refine pI rfl rfl ?_
    refine SL_nil ?_
    refine nx ?_
    refine SWP_ret ?_
    refine nr ?_
    refine fin [_, _] ⟨rfl, rfl, trivial⟩ ?_
    rw [sampF_rng (by omega)]
    exact ⟨_, _, _, rfl, RL.nil _ _, (List.perm_append_comm (l₁ := [_, _]) (l₂ := [_]))⟩
  refine pB rfl rfl ?_
  refine pB rfl rfl ?_
  refine SL_yes rfl ?_
  first | refine pI rfl rfl ?_ | refine pu rfl rfl ?_
  refine SL_yes rfl ?_
  refine lw (v := .int .i64 _) B4 0 rfl rfl rfl rfl ?_
  refine SL_yes rfl ?_
  refine pc rfl rfl (fun c27 => ?_) (fun c27 => ?_)
  · skip
    refine pB rfl rfl ?_
    refine SL_nil ?_
    refine nx ?_
    refine SWP_ct rfl ?_
    refine SWP_seq ?_
    refine SWP_region ?_
    refine pL rfl rfl ?_
    refine pI rfl rfl ?_
    refine SL_nil ?_
    refine nx ?_
    refine SWP_ret ?_
    refine nr ?_
    refine fin [_, _] ⟨rfl, rfl, trivial⟩ ?_
    rw [sampF_rng (by omega)]
    exact ⟨_, _, _, rfl, RL.nil _ _, (List.perm_append_comm (l₁ := [_, _]) (l₂ := [_]))⟩
  refine pB rfl rfl ?_
  refine SL_nil ?_
  refine nx ?_
  refine SWP_cf rfl ?_
  refine SWP_skip ?_
  refine nx ?_
  refine SWP_seq ?_
  obtain ⟨nn, rfl⟩ := Int.eq_ofNat_of_zero_le (show 0 ≤ n by omega)
  obtain ⟨kk, rfl⟩ := Int.eq_ofNat_of_zero_le (show 0 ≤ k by omega)
  refine SWP_region ?_
  refine lw (v := .int .i64 _) B4 0 rfl rfl rfl rfl ?_
  refine SL_call rfl rfl cb66 (CallsS.frame0 (ascG (n := nn) (by omega))) rfl (fun v5_1 σ5_1 m5_1 hl5_1 hR5_1 => ?_)
  obtain ⟨σa, rfl, ⟨aa, ca, rfl, hwn⟩, hm5_1⟩ := hR5_1
  have hn5_1 := hm5_1.symm
  subst hn5_1
  refine al rfl rfl (fun B8 => ?_)
  refine sw (v := .slice _ _ _) B8 0 rfl rfl rfl rfl rfl rfl rfl ?_
  refine SL_nil ?_
  refine nx ?_
  refine SWP_seq ?_
  refine SWP_region ?_
  refine pu rfl rfl ?_
  refine pu rfl rfl ?_
  refine SL_nil ?_
  refine nx ?_
  refine SWP_seq ?_
  refine SWP_seq ?_
  refine SWP_region ?_
  first | refine pI rfl rfl ?_ | refine pu rfl rfl ?_
  refine pI rfl rfl ?_
  refine SL_nil ?_
  refine nx ?_
  refine SWP_block ?_
  refine SWP_loop [6, 7, 10, 11, 33, 34, 35, 36, 37, 38, 39, 40, 41, 42] [33]
      (fun vs σ' m' => ∃ (i : Nat) (s1 u1 : Int) (σl : Sig) (L : List Int), vs = [.int .i64 (i : Nat)] ∧ i ≤ kk ∧ L.length = nn ∧ sampN (nn : Int) kk 0 s (iotaL nn) = sampN (nn : Int) (kk - i) i s1 L ∧ OwnS 3 1 (.slice aa nn ca) (L.flatMap intE) σl ∧ σ' = (B8, Cells 29 [.slice aa nn ca]) :: (σl ++ [(B4, Cells 3 [.int .i64 (nn : Nat)]), (B3, Cells 49 [.pointer (some ⟨B, 0, none⟩)]), (B, Cells 73 [.int .u64 s1, .int .i64 u1])]) ∧ m = m')
      (fun vs => kk - nOf (vs.getD 0 undef)) rfl ?_ ?_
  · exact ⟨0, s, u, σa, iotaL nn, rfl, by omega, iotaL_len nn, rfl, hwn, rfl, rfl⟩
  intro u0 vs0 σ0 m0 hJ0 _
  obtain ⟨i, s1, u1, σl, L, rfl, hi, hLl, hS, hown, rfl, rfl⟩ := hJ0
  refine SWP_seq ?_
  refine SWP_region ?_
  refine pc rfl rfl (fun c34 => ?_) (fun c34 => ?_)
  · skip
    refine SL_nil ?_
    refine nx ?_
    refine SWP_seq ?_
    refine SWP_ct rfl ?_
    refine SWP_skip ?_
    refine nx ?_
    refine SWP_seq ?_
    refine SWP_block ?_
    refine SWP_seq ?_
    refine SWP_region ?_
    first | refine pI rfl rfl ?_ | refine pu rfl rfl ?_
    first | refine pI rfl rfl ?_ | refine pu rfl rfl ?_
    refine SL_nil ?_
    refine nx ?_
    refine SWP_seq ?_
    refine SWP_region ?_
    refine pu rfl rfl ?_
    first | refine pI rfl rfl ?_ | refine pu rfl rfl ?_
    refine SL_callC rfl rfl cb67 (stepG (B := B) (s := s1) (u := u1) (show i < nn by omega) (by omega) hLl hown) rfl rfl (fun v10_2 σ10_2 m10_2 hl10_2 hR10_2 => ?_)
    obtain ⟨rfl, ⟨u2, σl2, rfl, hown2⟩, hm10_2⟩ := hR10_2
    have hn10_2 := hm10_2.symm
    subst hn10_2
    first | refine pI rfl rfl ?_ | refine pu rfl rfl ?_
    refine SL_nil ?_
    refine nx ?_
    refine SWP_seq ?_
    refine SWP_region ?_
    first | refine pI rfl rfl ?_ | refine pu rfl rfl ?_
    refine pc rfl rfl (fun c40 => ?_) (fun c40 => ?_)
    · skip
      refine SL_nil ?_
      refine nx ?_
      refine SWP_ct rfl ?_
      refine SWP_seq ?_
      refine SWP_region ?_
      first | refine pI rfl rfl ?_ | refine pu rfl rfl ?_
      refine pL rfl rfl ?_
      first | refine pI rfl rfl ?_ | refine pu rfl rfl ?_
      refine SL_nil ?_
      refine nx ?_
      refine SWP_ret ?_
      refine br ?_
      refine nr ?_
      refine nr ?_
      refine br ?_
      refine nr ?_
      refine fin [_, _] ⟨rfl, rfl, trivial⟩ ?_
      have e : sampN (nn : Int) kk 0 s (iotaL nn) = ((belowF ((nn : Int) - (i : Int)) s1).2.1, L, (belowF ((nn : Int) - (i : Int)) s1).2.2) := hS.trans (by rw [show kk - i = (kk - (i + 1)) + 1 by omega]; exact sampN_err (by assumption))
      rw [sampF_err (by omega) e (by assumption)]
      exact ⟨_, _, _, rfl, RL.nil _ _, permT _ _ _ _ σl2⟩
    refine SL_nil ?_
    refine nx ?_
    refine SWP_cf rfl ?_
    refine SWP_skip ?_
    refine nb ?_
    refine nx ?_
    refine SWP_region ?_
    first | refine pw rfl rfl (w64 (by omega) (by omega)) ?_ | refine pu rfl rfl ?_
    refine pI rfl rfl ?_
    refine SL_nil ?_
    refine nx ?_
    refine ⟨by repeat (first | exact Under.upds rfl (Under.hav _ _ _) | exact Under.hav _ _ _ | refine Under.upd rfl ?_), ?_, ?_⟩
    · refine ⟨i + 1, (belowF ((nn : Int) - (i : Int)) s1).2.2, u2, σl2, swapL L i (i + (belowF ((nn : Int) - (i : Int)) s1).1.toNat), rfl, by omega, by rw [swapL_len]; exact hLl, hS.trans (by rw [show kk - i = (kk - (i + 1)) + 1 by omega]; exact sampN_ok (Classical.not_not.1 (by assumption))), ?_, rfl, rfl⟩
      rw [if_pos (Classical.not_not.1 (by assumption))] at hown2
      exact hown2
    · simp only [L_vals, List.map, List.getD]; show kk - (i + 1) < kk - i; omega
  refine SL_nil ?_
  refine nx ?_
  refine SWP_seq ?_
  refine SWP_cf rfl ?_
  refine SWP_exit ?_
  refine ne ?_
  refine ne ?_
  refine be rfl ?_
  refine nx ?_
  refine SWP_seq ?_
  refine SWP_region ?_
  obtain rfl : i = kk := by omega
  rw [Nat.sub_self] at hS
  have eF := sampF_ok (by omega) (show sampN (nn : Int) i 0 s (iotaL nn) = (0, L, s1) from hS)
  obtain ⟨_, _, _, hv, _, hcap⟩ := hown.len
  cases hv
  refine SL_perm List.perm_middle.symm ?_
  refine SL_freezeL (by omega) intE_len hown (fun m9 hl9 hb9 => ?_)
  refine lw (v := .slice _ _ _) B8 0 rfl rfl rfl rfl ?_
  have hsub := RL.sub intE_len (by rw [hLl]; exact hb9) (Nat.zero_le i) (by omega)
  rw [List.drop_zero] at hsub
  first | refine pI rfl rfl ?_ | refine pu rfl rfl ?_
  refine slh (size := 1) rfl rfl rfl rfl rfl (by omega) (by omega) rfl ?_
  rw [Int.toNat_natCast]
  refine apR (e := 3) (size := 1) (bytes := 8) rfl rfl rfl rfl rfl rfl rfl .nil (.refl _) rfl hsub (all_intE _) (by rw [List.length_take]; simp; omega) rfl rfl (fun v46 σ46 hown46 => ?_)
  rw [List.nil_append] at hown46
  refine SL_freezeL (by omega) intE_len hown46 (fun m10 hl10 hb10 => ?_)
  first | refine pL rfl rfl ?_ | refine pu rfl rfl ?_
  refine pI rfl rfl ?_
  refine SL_nil ?_
  refine nx ?_
  refine SWP_ret ?_
  refine fin [_, _] ⟨rfl, rfl, trivial⟩ ?_
  rw [eF]
  exact ⟨_, _, _, rfl, hb10, (List.perm_append_comm (l₁ := [_, _, _]) (l₂ := [_]))⟩

end Go.Proofs.Ytkopdlglenejmaa

