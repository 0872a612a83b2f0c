/- The generators of numbers: Sample of the reference; lists in order. -/
import Derived.Test.YtkopdlglenejmaaDruD
namespace Go.Proofs.Ytkopdlglenejmaa
open Eng

set_option maxRecDepth 100000 in
theorem sampR {m : Mem} (B : Nat) (n k s u : Int) : CallsS Try.prog 26 [.pointer (some ⟨B, 0, none⟩), .int .i64 n, .int .i64 k].toArray [(B, Cells 75 [.int .u64 s, .int .i64 u])] m fun r σ' m' => ∃ v u', r = .tuple #[v, .int .i64 (sampF n k s).1] ∧ RL m' intE 1 v (sampF n k s).2.1 ∧ σ' = [(B, Cells 75 [.int .u64 (sampF n k s).2.2, .int .i64 u'])] := by
  refine CallsS.ghost (R' := fun r σ' m' => ∃ v u' τ, r = .tuple #[v, .int .i64 (sampF n k s).1] ∧ RL m' intE 1 v (sampF n k s).2.1 ∧ σ'.Perm ((B, Cells 75 [.int .u64 (sampF n k s).2.2, .int .i64 u']) :: τ)) ?_ ?h2
  case h2 =>
    rintro r σ' m' ⟨v, u', τ, rfl, hR, hp⟩ g0 W hC
    exact ⟨_, m', (hC.perm hp).sublist (List.Sublist.cons_cons _ (List.nil_sublist _)), Le.refl _, v, u', rfl, hR, rfl⟩
  refine enter Try.func26 Try.ntmps26 rfl rfl ?_
  refine SWP_seq ?_
  refine SWP_region ?_
  refine pL rfl rfl ?_
  refine pI rfl rfl ?_
  refine SL_nil ?_
  refine nx ?_
  refine SWP_seq ?_
  refine SWP_seq ?_
  refine SWP_region ?_
  first | refine pI rfl rfl ?_ | refine pu rfl rfl ?_
  refine pc rfl rfl (fun c14 => ?_) (fun c14 => ?_)
  · skip
    refine pB rfl rfl ?_
    refine SL_no rfl rfl ?_
    refine SL_no rfl rfl ?_
    refine pB rfl rfl ?_
    refine pB rfl rfl ?_
    refine SL_no rfl rfl ?_
    refine SL_no rfl rfl ?_
    refine pB rfl rfl ?_
    refine pB rfl rfl ?_
    refine SL_no rfl rfl ?_
    refine SL_no rfl rfl ?_
    refine SL_no rfl rfl ?_
    refine pB rfl rfl ?_
    refine SL_nil ?_
    refine nx ?_
    refine SWP_ct rfl ?_
    refine SWP_seq ?_
    refine SWP_region ?_
    refine pL rfl rfl ?_
    refine pI rfl rfl ?_
    refine SL_nil ?_
    refine nx ?_
    refine SWP_ret ?_
    refine nr ?_
    refine fin [_, _] ⟨rfl, rfl, trivial⟩ ?_
    rw [sampF_rng (by omega)]
    exact ⟨_, _, _, rfl, RL.nil _ _, .refl _⟩
  refine pB rfl rfl ?_
  refine SL_yes rfl ?_
  first | refine pI rfl rfl ?_ | refine pu rfl rfl ?_
  refine SL_yes rfl ?_
  refine pc rfl rfl (fun c17 => ?_) (fun c17 => ?_)
  · skip
    refine pB rfl rfl ?_
    refine pB rfl rfl ?_
    refine SL_no rfl rfl ?_
    refine SL_no rfl rfl ?_
    refine pB rfl rfl ?_
    refine pB rfl rfl ?_
    refine SL_no rfl rfl ?_
    refine SL_no rfl rfl ?_
    refine SL_no rfl rfl ?_
    refine pB rfl rfl ?_
    refine SL_nil ?_
    refine nx ?_
    refine SWP_ct rfl ?_
    refine SWP_seq ?_
    refine SWP_region ?_
    refine pL rfl rfl ?_
    refine pI rfl rfl ?_
    refine SL_nil ?_
    refine nx ?_
    refine SWP_ret ?_
    refine nr ?_
    refine fin [_, _] ⟨rfl, rfl, trivial⟩ ?_
    rw [sampF_rng (by omega)]
    exact ⟨_, _, _, rfl, RL.nil _ _, .refl _⟩
  refine pB rfl rfl ?_
  refine pB rfl rfl ?_
  refine SL_yes rfl ?_
  first | refine pI rfl rfl ?_ | refine pu rfl rfl ?_
  refine SL_yes rfl ?_
  refine pc rfl rfl (fun c21 => ?_) (fun c21 => ?_)
  · skip
    refine pB rfl rfl ?_
    refine pB rfl rfl ?_
    refine SL_no rfl rfl ?_
    refine SL_no rfl rfl ?_
    refine SL_no rfl rfl ?_
    refine pB rfl rfl ?_
    refine SL_nil ?_
    refine nx ?_
    refine SWP_ct rfl ?_
    refine SWP_seq ?_
    refine SWP_region ?_
    refine pL rfl rfl ?_
    refine pI rfl rfl ?_
    refine SL_nil ?_
    refine nx ?_
    refine SWP_ret ?_
    refine nr ?_
    refine fin [_, _] ⟨rfl, rfl, trivial⟩ ?_
    rw [sampF_rng (by omega)]
    exact ⟨_, _, _, rfl, RL.nil _ _, .refl _⟩
  refine pB rfl rfl ?_
  refine pB rfl rfl ?_
  refine SL_yes rfl ?_
  first | refine pI rfl rfl ?_ | refine pu rfl rfl ?_
  refine SL_yes rfl ?_
  first | refine pI rfl rfl ?_ | refine pu rfl rfl ?_
  refine SL_yes rfl ?_
  refine pc rfl rfl (fun c26 => ?_) (fun c26 => ?_)
  · skip
    refine pB rfl rfl ?_
    refine SL_nil ?_
    refine nx ?_
    refine SWP_ct rfl ?_
    refine SWP_seq ?_
    refine SWP_region ?_
    refine pL rfl rfl ?_
    refine pI rfl rfl ?_
    refine SL_nil ?_
    refine nx ?_
    refine SWP_ret ?_
    refine nr ?_
    refine fin [_, _] ⟨rfl, rfl, trivial⟩ ?_
    rw [sampF_rng (by omega)]
    exact ⟨_, _, _, rfl, RL.nil _ _, .refl _⟩
  refine pB rfl rfl ?_
  refine SL_nil ?_
  refine nx ?_
  refine SWP_cf rfl ?_
  refine SWP_skip ?_
  refine nx ?_
  refine SWP_seq ?_
  obtain ⟨nn, rfl⟩ := Int.eq_ofNat_of_zero_le (show 0 ≤ n by omega)
  obtain ⟨kk, rfl⟩ := Int.eq_ofNat_of_zero_le (show 0 ≤ k by omega)
  refine SWP_region ?_
  first | refine pI rfl rfl ?_ | refine pu rfl rfl ?_
  refine SL_call rfl rfl cb52 (CallsS.frame0 (risR (n := nn) (by omega))) rfl (fun v3_1 σ3_1 m3_1 hl3_1 hR3_1 => ?_)
  obtain ⟨σa, rfl, ⟨σe, τe, rfl, hwn⟩, hm3_1⟩ := hR3_1
  have hn3_1 := hm3_1.symm
  subst hn3_1
  obtain ⟨aa, ca, ev⟩ := hwn.lenL (by omega) intE_len
  rw [iotaL_len] at ev
  subst ev
  refine SL_weak (List.Sublist.append_right (List.sublist_append_left _ _) _) ?_
  first | refine pL rfl rfl ?_ | refine pu rfl rfl ?_
  refine SL_nil ?_
  refine nx ?_
  refine SWP_seq ?_
  refine SWP_seq ?_
  refine SWP_region ?_
  refine pI rfl rfl ?_
  refine SL_nil ?_
  refine nx ?_
  refine SWP_block ?_
  refine SWP_loop [6, 7, 9, 10, 11, 12, 30, 31, 32, 33, 34, 35, 36, 37, 38, 39, 40, 41, 42, 43, 44, 45, 46, 47, 48, 49, 50, 51, 52, 53, 54, 55, 56, 57, 58, 59, 60, 61, 62, 63, 64] [9]
      (fun vs σ' m' => ∃ (i : Nat) (s1 u1 : Int) (σl : Sig) (L : List Int), vs = [.int .i64 (i : Nat)] ∧ i ≤ kk ∧ L.length = nn ∧ sampN (nn : Int) kk 0 s (iotaL nn) = sampN (nn : Int) (kk - i) i s1 L ∧ OwnS 3 1 (.slice aa nn ca) (L.flatMap intE) σl ∧ σ' = σl ++ [(B, Cells 75 [.int .u64 s1, .int .i64 u1])] ∧ m = m')
      (fun vs => kk - nOf (vs.getD 0 undef)) rfl ?_ ?_
  · exact ⟨0, s, u, _, iotaL nn, rfl, by omega, iotaL_len nn, rfl, hwn, rfl, rfl⟩
  intro u0 vs0 σ0 m0 hJ0 _
  obtain ⟨i, s1, u1, σl, L, rfl, hi, hLl, hS, hown, rfl, rfl⟩ := hJ0
  refine SWP_seq ?_
  refine SWP_seq ?_
  refine SWP_region ?_
  first | refine pI rfl rfl ?_ | refine pu rfl rfl ?_
  first | refine pI rfl rfl ?_ | refine pu rfl rfl ?_
  refine pc rfl rfl (fun c32 => ?_) (fun c32 => ?_)
  · skip
    refine SL_nil ?_
    refine nx ?_
    refine SWP_ct rfl ?_
    refine SWP_skip ?_
    refine nx ?_
    refine SWP_seq ?_
    refine SWP_block ?_
    refine SWP_seq ?_
    refine SWP_region ?_
    first | refine pP rfl rfl ?_ | refine pu rfl rfl ?_
    first | refine pI rfl rfl ?_ | refine pu rfl rfl ?_
    first | refine pI rfl rfl ?_ | refine pu rfl rfl ?_
    first | refine pw rfl rfl (w64 (by omega) (by omega)) ?_ | refine pu rfl rfl ?_
    refine SL_call rfl rfl cb25 (CallsS.subF σl (belowR B ((nn : Int) - (i : Int)) s1 u1) List.perm_append_comm) rfl (fun v7_4 σ7_4 m7_4 hl7_4 hR7_4 => ?_)
    obtain ⟨σz, rfl, rfl, ⟨u2, rfl⟩, hm7_4⟩ := hR7_4
    have hn7_4 := hm7_4.symm
    subst hn7_4
    refine SL_perm List.perm_append_comm ?_
    refine pu rfl rfl ?_
    first | refine pI rfl rfl ?_ | refine pu rfl rfl ?_
    first | refine pI rfl rfl ?_ | refine pu rfl rfl ?_
    first | refine pI rfl rfl ?_ | refine pu rfl rfl ?_
    first | refine pI rfl rfl ?_ | refine pu rfl rfl ?_
    refine SL_nil ?_
    refine nx ?_
    refine SWP_seq ?_
    refine SWP_seq ?_
    refine SWP_region ?_
    first | refine pI rfl rfl ?_ | refine pu rfl rfl ?_
    refine pc rfl rfl (fun c44 => ?_) (fun c44 => ?_)
    · skip
      refine SL_nil ?_
      refine nx ?_
      refine SWP_ct rfl ?_
      refine SWP_seq ?_
      refine SWP_region ?_
      first | refine pI rfl rfl ?_ | refine pu rfl rfl ?_
      refine pL rfl rfl ?_
      first | refine pI rfl rfl ?_ | refine pu rfl rfl ?_
      refine SL_nil ?_
      refine nx ?_
      refine SWP_ret ?_
      refine nr ?_
      refine br ?_
      refine nr ?_
      refine nr ?_
      refine br ?_
      refine nr ?_
      refine fin [_, _] ⟨rfl, rfl, trivial⟩ ?_
      have e : sampN (nn : Int) kk 0 s (iotaL nn) = ((belowF ((nn : Int) - (i : Int)) s1).2.1, L, (belowF ((nn : Int) - (i : Int)) s1).2.2) := hS.trans (by rw [show kk - i = (kk - (i + 1)) + 1 by omega]; exact sampN_err (by assumption))
      rw [sampF_err (by omega) e (by assumption)]
      exact ⟨_, _, _, rfl, RL.nil _ _, List.perm_append_comm⟩
    refine SL_nil ?_
    refine nx ?_
    refine SWP_cf rfl ?_
    refine SWP_skip ?_
    refine nx ?_
    refine SWP_seq ?_
    obtain ⟨h0j, hjl⟩ := belowF_rng (n := (nn : Int) - (i : Int)) (s := s1) (by omega)
    obtain ⟨jn, hj⟩ := Int.eq_ofNat_of_zero_le h0j
    rw [hj]
    refine SWP_region ?_
    first | refine pL rfl rfl ?_ | refine pu rfl rfl ?_
    first | refine pI rfl rfl ?_ | refine pu rfl rfl ?_
    obtain ⟨x, hx⟩ : ∃ z, L[i]? = some z := ⟨_, List.getElem?_eq_getElem (by omega)⟩
    obtain ⟨adx, ex, _, _, hrdx⟩ := hown.atN (by omega) intE_len hx
    cases ex
    obtain ⟨y, hy⟩ : ∃ z, L[i + jn]? = some z := ⟨_, List.getElem?_eq_getElem (by omega)⟩
    obtain ⟨ady, ey, _, _, hrdy⟩ := hown.atN (by omega) intE_len hy
    cases ey
    refine ia (es := 1) rfl rfl rfl (Nat.mul_one _) rfl rfl (by omega) rfl ?_
    refine ldO (off := 0) (hrdx _ _ (fun q hq => by simp [hq])) rfl (q1 _ _) rfl rfl ?_
    first | refine pI rfl rfl ?_ | refine pu rfl rfl ?_
    refine SL_nil ?_
    refine nx ?_
    refine SWP_seq ?_
    refine SWP_region ?_
    first | refine pL rfl rfl ?_ | refine pu rfl rfl ?_
    first | refine pI rfl rfl ?_ | refine pu rfl rfl ?_
    first | refine pL rfl rfl ?_ | refine pu rfl rfl ?_
    first | refine pI rfl rfl ?_ | refine pu rfl rfl ?_
    first | refine pI rfl rfl ?_ | refine pu rfl rfl ?_
    refine pw rfl rfl (w64 (by omega) (by omega)) ?_
    rw [show (i : Int) + (jn : Int) = ((i + jn : Nat) : Int) by omega]
    refine ia (es := 1) rfl rfl rfl (Nat.mul_one _) rfl rfl (by omega) rfl ?_
    refine ldO (off := 0) (hrdy _ _ (fun q hq => by simp [hq])) rfl (q1 _ _) rfl rfl ?_
    refine ia (es := 1) rfl rfl rfl (Nat.mul_one _) rfl rfl (by omega) rfl ?_
    refine stL (σe := σl) (τ := [(B, Cells 75 [.int .u64 (belowF ((nn : Int) - (i : Int)) s1).2.2, .int .i64 u2])]) (k := i) (b := x) (b' := y) (off := 0) intE_len rfl hown (.refl _) hx rfl (q1 _ _) rfl rfl (by show 0 + 1 ≤ 1; omega) rfl rfl (fun σl1 hown1 => ?_)
    obtain ⟨z, hz⟩ : ∃ z, (L.set i y)[i + jn]? = some z := ⟨_, List.getElem?_eq_getElem (by rw [List.length_set]; omega)⟩
    refine SL_nil ?_
    refine nx ?_
    refine SWP_region ?_
    first | refine pL rfl rfl ?_ | refine pu rfl rfl ?_
    first | refine pI rfl rfl ?_ | refine pu rfl rfl ?_
    first | refine pI rfl rfl ?_ | refine pu rfl rfl ?_
    refine pw rfl rfl (w64 (by omega) (by omega)) ?_
    rw [show (i : Int) + (jn : Int) = ((i + jn : Nat) : Int) by omega]
    first | refine pI rfl rfl ?_ | refine pu rfl rfl ?_
    refine ia (es := 1) rfl rfl rfl (Nat.mul_one _) rfl rfl (by omega) rfl ?_
    refine stL (σe := σl1) (τ := [(B, Cells 75 [.int .u64 (belowF ((nn : Int) - (i : Int)) s1).2.2, .int .i64 u2])]) (k := i + jn) (b := z) (b' := x) (off := 0) intE_len rfl hown1 (.refl _) hz rfl (q1 _ _) rfl rfl (by show 0 + 1 ≤ 1; omega) rfl rfl (fun σl2 hown2 => ?_)
    refine SL_nil ?_
    refine nb ?_
    refine nx ?_
    refine SWP_region ?_
    first | refine pI rfl rfl ?_ | refine pu rfl rfl ?_
    first | refine pw rfl rfl (w64 (by omega) (by omega)) ?_ | refine pu rfl rfl ?_
    refine pI rfl rfl ?_
    refine SL_nil ?_
    refine nx ?_
    refine ⟨by repeat (first | exact Under.upds rfl (Under.hav _ _ _) | exact Under.hav _ _ _ | refine Under.upd rfl ?_), ?_, ?_⟩
    · refine ⟨i + 1, (belowF ((nn : Int) - (i : Int)) s1).2.2, u2, σl2, swapL L i (i + (belowF ((nn : Int) - (i : Int)) s1).1.toNat), rfl, by omega, by rw [swapL_len]; exact hLl, hS.trans (by rw [show kk - i = (kk - (i + 1)) + 1 by omega]; exact sampN_ok (Classical.not_not.1 (by assumption))), ?_, rfl, rfl⟩
      rw [hj, Int.toNat_natCast, swapL_at hx hy]
      exact hown2
    · simp only [L_vals, List.map, List.getD]; show kk - (i + 1) < kk - i; omega
  refine SL_nil ?_
  refine nx ?_
  refine SWP_cf rfl ?_
  refine SWP_exit ?_
  refine ne ?_
  refine ne ?_
  refine be rfl ?_
  refine nx ?_
  refine SWP_seq ?_
  refine SWP_region ?_
  obtain rfl : i = kk := by omega
  rw [Nat.sub_self] at hS
  have eF := sampF_ok (by omega) (show sampN (nn : Int) i 0 s (iotaL nn) = (0, L, s1) from hS)
  obtain ⟨_, _, _, hv, _, hcap⟩ := hown.len
  cases hv
  refine SL_freezeL (by omega) intE_len hown (fun m9 hl9 hb9 => ?_)
  refine pu rfl rfl ?_
  have hsub := RL.sub intE_len (by rw [hLl]; exact hb9) (Nat.zero_le i) (by omega)
  rw [List.drop_zero] at hsub
  first | refine pI rfl rfl ?_ | refine pu rfl rfl ?_
  refine slh (size := 1) rfl rfl rfl rfl rfl (by omega) (by omega) rfl ?_
  rw [Int.toNat_natCast]
  first | refine pL rfl rfl ?_ | refine pu rfl rfl ?_
  first | refine pI rfl rfl ?_ | refine pu rfl rfl ?_
  refine SL_nil ?_
  refine nx ?_
  refine SWP_ret ?_
  refine fin [_, _] ⟨rfl, rfl, trivial⟩ ?_
  rw [eF]
  exact ⟨_, _, [], rfl, hsub, .refl _⟩

theorem sortedG {m : Mem} {v : Value} {l : List Int} (h : RL m intE 1 v l) (hl : l.length ≤ 100000) : CallsS Try.prog 49 [v].toArray [] m fun r σ' m' => m' = m ∧ OwnS 3 1 r ((l.mergeSort leI).flatMap intE) σ' := by
  refine enter Try.func49 Try.ntmps49 rfl rfl ?_
  refine SWP_seq ?_
  refine SWP_region ?_
  refine pL rfl rfl ?_
  refine SL_nil ?_
  refine nx ?_
  refine SWP_seq ?_
  refine SWP_region ?_
  first | refine pL rfl rfl ?_ | refine pu rfl rfl ?_
  refine SL_call rfl rfl cb68 (cloneI h hl) rfl (fun v1_1 σ1_1 m1_1 hl1_1 hR1_1 => ?_)
  obtain ⟨hm1_1, hown⟩ := hR1_1
  have hn1_1 := hm1_1.symm
  subst hn1_1
  first | refine pL rfl rfl ?_ | refine pu rfl rfl ?_
  refine SL_nil ?_
  refine nx ?_
  refine SWP_seq ?_
  refine SWP_region ?_
  first | refine pL rfl rfl ?_ | refine pu rfl rfl ?_
  refine SL_call rfl rfl cb69 (CallsS.perm1 (sortI (τ := []) hown (by omega)) (by rw [List.append_nil])) rfl (fun v2_1 σ2_1 m2_1 hl2_1 hR2_1 => ?_)
  obtain ⟨hm2_1, σs, rfl, hs⟩ := hR2_1
  have hn2_1 := hm2_1.symm
  subst hn2_1
  rw [List.append_nil]
  refine SL_nil ?_
  refine nx ?_
  refine SWP_seq ?_
  refine SWP_region ?_
  first | refine pL rfl rfl ?_ | refine pu rfl rfl ?_
  first | refine pL rfl rfl ?_ | refine pu rfl rfl ?_
  refine SL_nil ?_
  refine nx ?_
  refine SWP_ret ?_
  refine fin [_] ⟨rfl, trivial⟩ ?_
  exact ⟨rfl, hs⟩

end Go.Proofs.Ytkopdlglenejmaa

