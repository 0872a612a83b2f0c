/- lotteryref12.Check. -/
import Derived.Test.YtkopdlglenejmaaGamR
namespace Go.Proofs.Ytkopdlglenejmaa
open Eng

set_option maxRecDepth 100000 in
theorem addonsR {m : Mem} {va : Option Addr} {vc : Nat} {l : List Addon} (h : RL m Addon.enc 6 (.slice va l.length vc) l) (hin : ∀ a ∈ l, a.In m) : PureCall Try.prog 40 [.slice va l.length vc] m (.int .i64 (addonsErr l)) := by
  refine CallsS.pure ?_
  refine enter Try.func40 Try.ntmps40 rfl rfl ?_
  refine SWP_seq ?_
  refine SWP_region ?_
  refine pI rfl rfl ?_
  refine SL_nil ?_
  refine nx ?_
  refine SWP_seq ?_
  refine SWP_seq ?_
  refine SWP_region ?_
  first | refine pL rfl rfl ?_ | refine pu rfl rfl ?_
  refine pu rfl rfl ?_
  refine pc rfl rfl (fun c8 => ?_) (fun c8 => ?_)
  · skip
    refine SL_nil ?_
    refine nx ?_
    refine SWP_ct rfl ?_
    refine SWP_seq ?_
    refine SWP_region ?_
    refine pI rfl rfl ?_
    refine SL_nil ?_
    refine nx ?_
    refine SWP_ret ?_
    refine nr ?_
    refine fin [_] ⟨rfl, trivial⟩ ?_
    refine congrArg (Value.int .i64) ?_
    unfold addonsErr
    rw [if_pos (by omega)]
  refine SL_nil ?_
  refine nx ?_
  refine SWP_cf rfl ?_
  refine SWP_skip ?_
  refine nx ?_
  refine SWP_seq ?_
  refine SWP_seq ?_
  refine SWP_region ?_
  refine pI rfl rfl ?_
  refine SL_nil ?_
  refine nx ?_
  refine SWP_block ?_
  refine SWP_loop [2, 3, 4, 5, 9, 10, 11, 12, 13, 14, 15, 16, 17, 18, 19, 20, 21, 22, 23, 24, 25, 26, 27, 28, 29, 30, 31, 32, 33, 34, 35, 36, 37, 38, 39, 40, 41, 42, 43, 44, 45, 46, 47, 48, 49, 50, 51] [3]
      (fun vs σ' m' => ∃ (i : Nat), vs = [.int .i64 (i : Nat)] ∧ i ≤ l.length ∧ addonsErr l = addonsFrom (l.take i) (l.drop i) ∧ σ' = [] ∧ m = m')
      (fun vs => l.length - nOf (vs.getD 0 undef)) rfl ?_ ?_
  · refine ⟨0, rfl, by omega, ?_, rfl, rfl⟩
    unfold addonsErr
    rw [if_neg (by omega)]; rfl
  intro u0 vs0 σ0 m0 hJ0 _
  obtain ⟨i, rfl, hi, hres, rfl, rfl⟩ := hJ0
  refine SWP_seq ?_
  refine SWP_seq ?_
  refine SWP_region ?_
  first | refine pI rfl rfl ?_ | refine pu rfl rfl ?_
  first | refine pL rfl rfl ?_ | refine pu rfl rfl ?_
  refine pu rfl rfl ?_
  refine pc rfl rfl (fun c12 => ?_) (fun c12 => ?_)
  · skip
    refine SL_nil ?_
    refine nx ?_
    refine SWP_ct rfl ?_
    refine SWP_skip ?_
    refine nx ?_
    refine SWP_seq ?_
    refine SWP_block ?_
    refine SWP_seq ?_
    obtain ⟨a, ha⟩ : ∃ a, l[i]? = some a := ⟨_, List.getElem?_eq_getElem (by omega)⟩
    obtain ⟨ad, rfl, _, hat⟩ := h.atA Addon.enc_len ha
    rw [addonsFrom_at ha] at hres
    refine SWP_region ?_
    first | refine pL rfl rfl ?_ | refine pu rfl rfl ?_
    first | refine pI rfl rfl ?_ | refine pu rfl rfl ?_
    first | refine ia (es := 6) rfl rfl rfl rfl rfl rfl (by omega) rfl ?_ | refine iai (es := 6) rfl rfl rfl rfl rfl rfl (by omega) (by omega) rfl ?_
    refine ldA (v := .agg _) rfl (by assumption) rfl rfl ?_
    refine SL_pcall rfl rfl cb58 (addonR (hin a (List.mem_of_getElem? ha))) rfl ?_
    first | refine pI rfl rfl ?_ | refine pu rfl rfl ?_
    refine SL_nil ?_
    refine nx ?_
    refine SWP_seq ?_
    refine SWP_seq ?_
    refine SWP_region ?_
    first | refine pI rfl rfl ?_ | refine pu rfl rfl ?_
    refine pc rfl rfl (fun c21 => ?_) (fun c21 => ?_)
    · skip
      refine SL_nil ?_
      refine nx ?_
      refine SWP_ct rfl ?_
      refine SWP_seq ?_
      refine SWP_region ?_
      first | refine pI rfl rfl ?_ | refine pu rfl rfl ?_
      first | refine pI rfl rfl ?_ | refine pu rfl rfl ?_
      refine SL_nil ?_
      refine nx ?_
      refine SWP_ret ?_
      refine nr ?_
      refine br ?_
      refine nr ?_
      refine nr ?_
      refine br ?_
      refine nr ?_
      refine fin [_] ⟨rfl, trivial⟩ ?_
      refine congrArg (Value.int .i64) ?_
      rw [hres, if_pos (by omega)]
    refine SL_nil ?_
    refine nx ?_
    refine SWP_cf rfl ?_
    refine SWP_skip ?_
    refine nx ?_
    refine SWP_seq ?_
    rw [if_neg (by omega)] at hres
    refine SWP_region ?_
    refine pI rfl rfl ?_
    refine SL_nil ?_
    refine nx ?_
    refine SWP_block ?_
    refine SWP_loop [2, 5, 23, 24, 25, 26, 27, 28, 29, 30, 31, 32, 33, 34, 35, 36, 37, 38, 39, 40, 41, 42, 43, 44, 45, 46, 47, 48, 49, 50, 51] [5]
        (fun vs σ' m' => ∃ (k : Nat), vs = [.int .i64 (k : Nat)] ∧ k ≤ i ∧ (∀ b ∈ (l.take i).take k, ¬ (b.name = a.name ∨ b.kind = a.kind)) ∧ σ' = [] ∧ m = m')
        (fun vs => i - nOf (vs.getD 0 undef)) rfl ?_ ?_
    · exact ⟨0, rfl, by omega, by simp, rfl, rfl⟩
    intro u1 vs1 σ1 m1 hJ1 _
    obtain ⟨k, rfl, hk, hno, rfl, rfl⟩ := hJ1
    refine SWP_seq ?_
    refine SWP_seq ?_
    refine SWP_region ?_
    first | refine pI rfl rfl ?_ | refine pu rfl rfl ?_
    first | refine pI rfl rfl ?_ | refine pu rfl rfl ?_
    refine pc rfl rfl (fun c25 => ?_) (fun c25 => ?_)
    · skip
      refine SL_nil ?_
      refine nx ?_
      refine SWP_ct rfl ?_
      refine SWP_skip ?_
      refine nx ?_
      refine SWP_seq ?_
      refine SWP_block ?_
      refine SWP_seq ?_
      obtain ⟨u, hu⟩ : ∃ u, l[k]? = some u := ⟨_, List.getElem?_eq_getElem (by omega)⟩
      have hu' : (l.take i)[k]? = some u := by rw [List.getElem?_take, if_pos (by omega)]; exact hu
      obtain ⟨ad2, e2, _, hat2⟩ := h.atA Addon.enc_len hu
      cases e2
      refine SWP_draws (by kernel_rfl) (by kernel_rfl) ?_
      first | refine pL rfl rfl ?_ | refine pu rfl rfl ?_
      first | refine pI rfl rfl ?_ | refine pu rfl rfl ?_
      first | refine ia (es := 6) rfl rfl rfl rfl rfl rfl (by omega) rfl ?_ | refine iai (es := 6) rfl rfl rfl rfl rfl rfl (by omega) (by omega) rfl ?_
      refine pu rfl rfl ?_
      refine ldF (v := .string _) rfl rfl (by assumption) rfl rfl ?_
      first | refine pL rfl rfl ?_ | refine pu rfl rfl ?_
      first | refine pI rfl rfl ?_ | refine pu rfl rfl ?_
      first | refine ia (es := 6) rfl rfl rfl rfl rfl rfl (by omega) rfl ?_ | refine iai (es := 6) rfl rfl rfl rfl rfl rfl (by omega) (by omega) rfl ?_
      refine pu rfl rfl ?_
      refine ldF (v := .string _) rfl rfl (by assumption) rfl rfl ?_
      refine pc rfl rfl (fun c38 => ?_) (fun c38 => ?_)
      · skip
        refine pB rfl rfl ?_
        refine SL_no rfl rfl ?_
        refine SL_no rfl rfl ?_
        refine SL_no rfl rfl ?_
        refine SL_no rfl rfl ?_
        refine SL_no rfl rfl ?_
        refine SL_no rfl rfl ?_
        refine SL_no rfl rfl ?_
        refine SL_no rfl rfl ?_
        refine SL_no rfl rfl ?_
        refine SL_no rfl rfl ?_
        refine SL_no rfl rfl ?_
        refine pB rfl rfl ?_
        refine SL_nil ?_
        refine nx ?_
        refine SWP_ct rfl ?_
        refine SWP_seq ?_
        refine SWP_region ?_
        refine pI rfl rfl ?_
        refine SL_nil ?_
        refine nx ?_
        refine SWP_ret ?_
        refine br ?_
        refine nr ?_
        refine nr ?_
        refine br ?_
        refine br ?_
        refine nr ?_
        refine nr ?_
        refine br ?_
        refine nr ?_
        refine fin [_] ⟨rfl, trivial⟩ ?_
        refine congrArg (Value.int .i64) ?_
        rw [hres, if_pos ⟨u, List.mem_of_getElem? hu', .inl c38⟩]
      refine pB rfl rfl ?_
      refine SL_yes rfl ?_
      first | refine pL rfl rfl ?_ | refine pu rfl rfl ?_
      refine SL_yes rfl ?_
      first | refine pI rfl rfl ?_ | refine pu rfl rfl ?_
      refine SL_yes rfl ?_
      first | refine ia (es := 6) rfl rfl rfl rfl rfl rfl (by omega) rfl ?_ | refine iai (es := 6) rfl rfl rfl rfl rfl rfl (by omega) (by omega) rfl ?_
      refine SL_yes rfl ?_
      refine pu rfl rfl ?_
      refine SL_yes rfl ?_
      refine ldF (v := .int .i64 _) rfl rfl (by assumption) rfl rfl ?_
      refine SL_yes rfl ?_
      first | refine pL rfl rfl ?_ | refine pu rfl rfl ?_
      refine SL_yes rfl ?_
      first | refine pI rfl rfl ?_ | refine pu rfl rfl ?_
      refine SL_yes rfl ?_
      first | refine ia (es := 6) rfl rfl rfl rfl rfl rfl (by omega) rfl ?_ | refine iai (es := 6) rfl rfl rfl rfl rfl rfl (by omega) (by omega) rfl ?_
      refine SL_yes rfl ?_
      refine pu rfl rfl ?_
      refine SL_yes rfl ?_
      refine ldF (v := .int .i64 _) rfl rfl (by assumption) rfl rfl ?_
      refine SL_yes rfl ?_
      refine pc rfl rfl (fun c50 => ?_) (fun c50 => ?_)
      · skip
        refine pB rfl rfl ?_
        refine SL_nil ?_
        refine nx ?_
        refine SWP_ct rfl ?_
        refine SWP_seq ?_
        refine SWP_region ?_
        refine pI rfl rfl ?_
        refine SL_nil ?_
        refine nx ?_
        refine SWP_ret ?_
        refine br ?_
        refine nr ?_
        refine nr ?_
        refine br ?_
        refine br ?_
        refine nr ?_
        refine nr ?_
        refine br ?_
        refine nr ?_
        refine fin [_] ⟨rfl, trivial⟩ ?_
        refine congrArg (Value.int .i64) ?_
        rw [hres, if_pos ⟨u, List.mem_of_getElem? hu', .inr c50⟩]
      refine pB rfl rfl ?_
      refine SL_nil ?_
      refine nx ?_
      refine SWP_cf rfl ?_
      refine SWP_skip ?_
      refine nb ?_
      refine nx ?_
      refine SWP_region ?_
      first | refine pI rfl rfl ?_ | refine pu rfl rfl ?_
      first | refine pw rfl rfl (w64 (by omega) (by omega)) ?_ | refine pu rfl rfl ?_
      refine pI rfl rfl ?_
      refine SL_nil ?_
      refine nx ?_
      refine ⟨by repeat (first | exact Under.upds rfl (Under.hav _ _ _) | exact Under.hav _ _ _ | refine Under.upd rfl ?_ | refine Under.upds rfl ?_ | refine Under.hav2 rfl ?_), ?_, ?_⟩
      · refine ⟨k + 1, rfl, by omega, fun b hb => ?_, rfl, rfl⟩
        rw [take_snocA hu'] at hb
        rcases List.mem_append.1 hb with hb | hb
        · exact hno b hb
        · rw [List.mem_singleton.1 hb]
          rintro (e | e)
          · exact c38 e
          · exact c50 e
      · simp only [L_vals, List.map, List.getD]; show i - (k + 1) < i - k; omega
    refine SL_nil ?_
    refine nx ?_
    refine SWP_cf rfl ?_
    refine SWP_exit ?_
    refine ne ?_
    refine ne ?_
    refine be rfl ?_
    refine nb ?_
    refine nx ?_
    refine SWP_region ?_
    first | refine pI rfl rfl ?_ | refine pu rfl rfl ?_
    first | refine pw rfl rfl (w64 (by omega) (by omega)) ?_ | refine pu rfl rfl ?_
    refine pI rfl rfl ?_
    refine SL_nil ?_
    refine nx ?_
    refine ⟨by repeat (first | exact Under.upds rfl (Under.hav _ _ _) | exact Under.hav _ _ _ | refine Under.upd rfl ?_ | refine Under.upds rfl ?_ | refine Under.hav2 rfl ?_), ?_, ?_⟩
    · refine ⟨i + 1, rfl, by omega, ?_, rfl, rfl⟩
      have e : k = i := by omega
      rw [e, List.take_take, Nat.min_self] at hno
      rw [hres, if_neg (by rintro ⟨b, hb, hc⟩; exact hno b hb hc), take_snocA ha]
    · simp only [L_vals, List.map, List.getD]; show l.length - (i + 1) < l.length - i; omega
  refine SL_nil ?_
  refine nx ?_
  refine SWP_cf rfl ?_
  refine SWP_exit ?_
  refine ne ?_
  refine ne ?_
  refine be rfl ?_
  refine nx ?_
  refine SWP_seq ?_
  refine SWP_region ?_
  refine pI rfl rfl ?_
  refine SL_nil ?_
  refine nx ?_
  refine SWP_ret ?_
  refine fin [_] ⟨rfl, trivial⟩ ?_
  refine congrArg (Value.int .i64) ?_
  have e : i = l.length := by omega
  rw [hres, e, List.drop_length]; rfl

set_option maxRecDepth 100000 in
theorem tiersR {m : Mem} {g : Game} (hin : g.In m) (hk : g.kind = 1 ∨ g.kind = 2) (hgm : g.main ≤ 10) (hgb : g.bonus ≤ 10) (hge : g.extra ≤ 10) : PureCall Try.prog 41 [g.val] m (.int .i64 (tiersErr g)) := by
  refine CallsS.pure ?_
  obtain ⟨hcap, _⟩ := hin.trs.capI
  dsimp only [Game.val]
  refine enter Try.func41 Try.ntmps41 rfl rfl ?_
  refine SWP_seq ?_
  refine SWP_region ?_
  refine bx (v := .agg _) rfl rfl (fun B1 => ?_)
  refine pI rfl rfl ?_
  refine SL_nil ?_
  refine nx ?_
  refine SWP_seq ?_
  refine SWP_seq ?_
  refine SWP_region ?_
  refine pu rfl rfl ?_
  refine lw (v := .slice _ _ _) B1 21 rfl rfl rfl rfl ?_
  refine pu rfl rfl ?_
  refine SL_pcall rfl rfl cb36 (inR _ _ _) rfl ?_
  refine psp 9 rfl (fun c9 => ?_) (fun c9 => ?_)
  · skip
    refine pB rfl rfl ?_
    refine SL_nil ?_
    refine nx ?_
    refine SWP_cf rfl ?_
    refine SWP_skip ?_
    refine nx ?_
    refine SWP_seq ?_
    refine SWP_seq ?_
    refine SWP_region ?_
    refine pI rfl rfl ?_
    refine SL_nil ?_
    refine nx ?_
    refine SWP_block ?_
    refine SWP_loop [2, 3, 4, 5, 11, 12, 13, 14, 15, 16, 17, 18, 19, 20, 21, 22, 23, 24, 25, 26, 27, 28, 29, 30, 31, 32, 33, 34, 35, 36, 37, 38, 39, 40, 41, 42, 43, 44] [3]
        (fun vs σ' m' => ∃ (i : Nat), vs = [.int .i64 (i : Nat)] ∧ i ≤ g.tiers.length ∧ tiersErr g = tiersFrom g (g.tiers.take i) (g.tiers.drop i) ∧ (∀ b ∈ g.tiers.take i, tierErr g b = 0) ∧ σ' = [(B1, Cells 25 g.enc)] ∧ m = m')
        (fun vs => g.tiers.length - nOf (vs.getD 0 undef)) rfl ?_ ?_
    · refine ⟨0, rfl, by omega, ?_, by simp, rfl, rfl⟩
      unfold tiersErr
      rw [if_neg (by omega)]; rfl
    intro u0 vs0 σ0 m0 hJ0 _
    obtain ⟨i, rfl, hi, hres, hz, rfl, rfl⟩ := hJ0
    dsimp only [Game.enc]
    refine SWP_seq ?_
    refine SWP_seq ?_
    refine SWP_region ?_
    first | refine pI rfl rfl ?_ | refine pu rfl rfl ?_
    refine pu rfl rfl ?_
    refine lw (v := .slice _ _ _) B1 21 rfl rfl rfl rfl ?_
    refine pu rfl rfl ?_
    refine pc rfl rfl (fun c15 => ?_) (fun c15 => ?_)
    · skip
      refine SL_nil ?_
      refine nx ?_
      refine SWP_ct rfl ?_
      refine SWP_skip ?_
      refine nx ?_
      refine SWP_seq ?_
      refine SWP_block ?_
      refine SWP_seq ?_
      obtain ⟨t, ht⟩ : ∃ t, g.tiers[i]? = some t := ⟨_, List.getElem?_eq_getElem (by omega)⟩
      obtain ⟨ad, had, _, hat⟩ := hin.trs.atA Tier.enc_len ht
      rw [tiersFrom_at ht] at hres
      refine SWP_draws (by kernel_rfl) (by kernel_rfl) ?_
      refine lw (v := .agg _) B1 0 rfl rfl rfl rfl ?_
      refine pu rfl rfl ?_
      refine lw (v := .slice _ _ _) B1 21 rfl rfl rfl rfl ?_
      first | refine pI rfl rfl ?_ | refine pu rfl rfl ?_
      rw [had]
      first | refine ia (es := 6) rfl rfl rfl rfl rfl rfl (by omega) rfl ?_ | refine iai (es := 6) rfl rfl rfl rfl rfl rfl (by omega) (by omega) rfl ?_
      rw [← had]
      refine ldA (v := .agg _) rfl (by assumption) rfl rfl ?_
      refine SL_pcall rfl rfl cb59 (tierR g t hk hgm hgb hge) rfl ?_
      first | refine pI rfl rfl ?_ | refine pu rfl rfl ?_
      refine SL_nil ?_
      refine nx ?_
      refine SWP_seq ?_
      refine SWP_seq ?_
      refine SWP_region ?_
      first | refine pI rfl rfl ?_ | refine pu rfl rfl ?_
      refine pc rfl rfl (fun c26 => ?_) (fun c26 => ?_)
      · skip
        refine SL_nil ?_
        refine nx ?_
        refine SWP_ct rfl ?_
        refine SWP_seq ?_
        refine SWP_region ?_
        first | refine pI rfl rfl ?_ | refine pu rfl rfl ?_
        first | refine pI rfl rfl ?_ | refine pu rfl rfl ?_
        refine SL_nil ?_
        refine nx ?_
        refine SWP_ret ?_
        refine nr ?_
        refine br ?_
        refine nr ?_
        refine nr ?_
        refine br ?_
        refine nr ?_
        refine fin [_] ⟨rfl, trivial⟩ ?_
        refine congrArg (Value.int .i64) ?_
        rw [hres, if_pos (by omega)]
      refine SL_nil ?_
      refine nx ?_
      refine SWP_cf rfl ?_
      refine SWP_skip ?_
      refine nx ?_
      refine SWP_seq ?_
      rw [if_neg (by omega)] at hres
      have ht0 : tierErr g t = 0 := by omega
      refine SWP_region ?_
      refine pI rfl rfl ?_
      refine SL_nil ?_
      refine nx ?_
      refine SWP_block ?_
      refine SWP_loop [2, 5, 28, 29, 30, 31, 32, 33, 34, 35, 36, 37, 38, 39, 40, 41, 42, 43, 44] [5]
          (fun vs σ' m' => ∃ (k : Nat), vs = [.int .i64 (k : Nat)] ∧ k ≤ i ∧ (∀ b ∈ (g.tiers.take i).take k, ¬ covP g b t) ∧ σ' = [(B1, Cells 25 g.enc)] ∧ m = m')
          (fun vs => i - nOf (vs.getD 0 undef)) rfl ?_ ?_
      · exact ⟨0, rfl, by omega, by simp, rfl, rfl⟩
      intro u1 vs1 σ1 m1 hJ1 _
      obtain ⟨k, rfl, hk2, hcv, rfl, rfl⟩ := hJ1
      dsimp only [Game.enc]
      refine SWP_seq ?_
      refine SWP_seq ?_
      refine SWP_region ?_
      first | refine pI rfl rfl ?_ | refine pu rfl rfl ?_
      first | refine pI rfl rfl ?_ | refine pu rfl rfl ?_
      refine pc rfl rfl (fun c30 => ?_) (fun c30 => ?_)
      · skip
        refine SL_nil ?_
        refine nx ?_
        refine SWP_ct rfl ?_
        refine SWP_skip ?_
        refine nx ?_
        refine SWP_seq ?_
        refine SWP_block ?_
        refine SWP_seq ?_
        obtain ⟨u, hu⟩ : ∃ u, g.tiers[k]? = some u := ⟨_, List.getElem?_eq_getElem (by omega)⟩
        have hu' : (g.tiers.take i)[k]? = some u := by rw [List.getElem?_take, if_pos (by omega)]; exact hu
        obtain ⟨ad2, had2, _, hat2⟩ := hin.trs.atA Tier.enc_len hu
        rw [had] at had2
        cases had2
        refine SWP_draws (by kernel_rfl) (by kernel_rfl) ?_
        refine lw (v := .agg _) B1 0 rfl rfl rfl rfl ?_
        refine pu rfl rfl ?_
        refine lw (v := .slice _ _ _) B1 21 rfl rfl rfl rfl ?_
        first | refine pI rfl rfl ?_ | refine pu rfl rfl ?_
        rw [had]
        first | refine ia (es := 6) rfl rfl rfl rfl rfl rfl (by omega) rfl ?_ | refine iai (es := 6) rfl rfl rfl rfl rfl rfl (by omega) (by omega) rfl ?_
        rw [← had]
        refine ldA (v := .agg _) rfl (by assumption) rfl rfl ?_
        refine pu rfl rfl ?_
        refine lw (v := .slice _ _ _) B1 21 rfl rfl rfl rfl ?_
        first | refine pI rfl rfl ?_ | refine pu rfl rfl ?_
        rw [had]
        first | refine ia (es := 6) rfl rfl rfl rfl rfl rfl (by omega) rfl ?_ | refine iai (es := 6) rfl rfl rfl rfl rfl rfl (by omega) (by omega) rfl ?_
        rw [← had]
        refine ldA (v := .agg _) rfl (by assumption) rfl rfl ?_
        refine SL_pcall rfl rfl cb60 (coversR g u t hk (hz u (List.mem_of_getElem? hu')) ht0) rfl ?_
        refine psp 44 rfl (fun c44 => ?_) (fun c44 => ?_)
        · skip
          refine SL_nil ?_
          refine nx ?_
          refine SWP_ct rfl ?_
          refine SWP_seq ?_
          refine SWP_region ?_
          refine pI rfl rfl ?_
          refine SL_nil ?_
          refine nx ?_
          refine SWP_ret ?_
          refine br ?_
          refine nr ?_
          refine nr ?_
          refine br ?_
          refine br ?_
          refine nr ?_
          refine nr ?_
          refine br ?_
          refine nr ?_
          refine fin [_] ⟨rfl, trivial⟩ ?_
          refine congrArg (Value.int .i64) ?_
          rw [hres, if_pos ⟨u, List.mem_of_getElem? hu', c44⟩]
        refine SL_nil ?_
        refine nx ?_
        refine SWP_cf rfl ?_
        refine SWP_skip ?_
        refine nb ?_
        refine nx ?_
        refine SWP_region ?_
        first | refine pI rfl rfl ?_ | refine pu rfl rfl ?_
        first | refine pw rfl rfl (w64 (by omega) (by omega)) ?_ | refine pu rfl rfl ?_
        refine pI rfl rfl ?_
        refine SL_nil ?_
        refine nx ?_
        refine ⟨by repeat (first | exact Under.upds rfl (Under.hav _ _ _) | exact Under.hav _ _ _ | refine Under.upd rfl ?_ | refine Under.upds rfl ?_ | refine Under.hav2 rfl ?_), ?_, ?_⟩
        · refine ⟨k + 1, rfl, by omega, fun b hb => ?_, rfl, rfl⟩
          rw [take_snocA hu'] at hb
          rcases List.mem_append.1 hb with hb | hb
          · exact hcv b hb
          · rw [List.mem_singleton.1 hb]; exact c44
        · simp only [L_vals, List.map, List.getD]; show i - (k + 1) < i - k; omega
      refine SL_nil ?_
      refine nx ?_
      refine SWP_cf rfl ?_
      refine SWP_exit ?_
      refine ne ?_
      refine ne ?_
      refine be rfl ?_
      refine nb ?_
      refine nx ?_
      refine SWP_region ?_
      first | refine pI rfl rfl ?_ | refine pu rfl rfl ?_
      first | refine pw rfl rfl (w64 (by omega) (by omega)) ?_ | refine pu rfl rfl ?_
      refine pI rfl rfl ?_
      refine SL_nil ?_
      refine nx ?_
      refine ⟨by repeat (first | exact Under.upds rfl (Under.hav _ _ _) | exact Under.hav _ _ _ | refine Under.upd rfl ?_ | refine Under.upds rfl ?_ | refine Under.hav2 rfl ?_), ?_, ?_⟩
      · have e : k = i := by omega
        rw [e, List.take_take, Nat.min_self] at hcv
        refine ⟨i + 1, rfl, by omega, ?_, fun b hb => ?_, rfl, rfl⟩
        · rw [hres, if_neg (by rintro ⟨b, hb, hc⟩; exact hcv b hb hc), take_snocA ht]
        · rw [take_snocA ht] at hb
          rcases List.mem_append.1 hb with hb | hb
          · exact hz b hb
          · rw [List.mem_singleton.1 hb]; exact ht0
      · simp only [L_vals, List.map, List.getD]; show g.tiers.length - (i + 1) < g.tiers.length - i; omega
    refine SL_nil ?_
    refine nx ?_
    refine SWP_cf rfl ?_
    refine SWP_exit ?_
    refine ne ?_
    refine ne ?_
    refine be rfl ?_
    refine nx ?_
    refine SWP_seq ?_
    refine SWP_region ?_
    refine pI rfl rfl ?_
    refine SL_nil ?_
    refine nx ?_
    refine SWP_ret ?_
    refine fin [_] ⟨rfl, trivial⟩ ?_
    refine congrArg (Value.int .i64) ?_
    have e : i = g.tiers.length := by omega
    rw [hres, e, List.drop_length]; rfl
  refine pB rfl rfl ?_
  refine SL_nil ?_
  refine nx ?_
  refine SWP_ct rfl ?_
  refine SWP_seq ?_
  refine SWP_region ?_
  refine pI rfl rfl ?_
  refine SL_nil ?_
  refine nx ?_
  refine SWP_ret ?_
  refine nr ?_
  refine fin [_] ⟨rfl, trivial⟩ ?_
  refine congrArg (Value.int .i64) ?_
  unfold tiersErr
  rw [if_pos (by omega)]

def numG (g : Game) : List Int := [g.price, g.main, g.of, g.bonus, g.bonusOf, g.extra, g.draws, g.system, g.days, g.minute, g.close, g.cancel, g.expiry, g.pool, g.reserve, g.round, g.cap, g.rolls]
def lowL (o b k : Int) : List Int := [1, 1, o, 0, b, 0, 1, k, 1, 0, 0, 0, 1, 0, 0, 1, 0, 0]
def lowG (g : Game) : List Int := lowL (if g.kind = 2 then 2 else g.main) g.bonus g.main
def highL (o b p e k : Int) : List Int := [1000000, 10, o, b, p, e, 32, k, 127, 1439, 1440, 10080, 3660, 10000, 10000, 1000000, 1000000000000, 64]
def highG (g : Game) : List Int := highL (if g.kind = 2 then 10 else 80) (if g.kind = 2 then 0 else 4) (if g.bonus = 0 then 0 else 80) (if g.kind = 2 then 0 else min 4 (IntKind.wrap .i64 (g.of - g.main))) (if g.kind = 2 then g.main else min 14 g.of)

set_option maxRecDepth 100000 in
theorem numbersR {m : Mem} (g : Game) : CallsS Try.prog 35 [g.val].toArray [] m fun r σ' m' => σ' = [] ∧ RL m' intE 1 r (numG g) := by
  refine CallsS.ghost (R' := fun r σ' m' => RL m' intE 1 r (numG g)) ?_ ?h2
  case h2 =>
    rintro r σ' m' hr g0 W hC
    exact ⟨_, m', hC.sublist (List.nil_sublist _), Le.refl _, rfl, hr⟩
  dsimp only [Game.val]
  refine enter Try.func35 Try.ntmps35 rfl rfl ?_
  refine SWP_seq ?_
  refine SWP_region ?_
  refine bx (v := .agg _) rfl rfl (fun B1 => ?_)
  refine pL rfl rfl ?_
  refine SL_nil ?_
  refine nx ?_
  refine SWP_seq ?_
  refine SWP_region ?_
  refine pu rfl rfl ?_
  refine lw (v := .int .i64 _) B1 2 rfl rfl rfl rfl ?_
  refine pu rfl rfl ?_
  refine lw (v := .int .i64 _) B1 3 rfl rfl rfl rfl ?_
  refine pu rfl rfl ?_
  refine lw (v := .int .i64 _) B1 4 rfl rfl rfl rfl ?_
  refine pu rfl rfl ?_
  refine lw (v := .int .i64 _) B1 5 rfl rfl rfl rfl ?_
  refine pu rfl rfl ?_
  refine lw (v := .int .i64 _) B1 6 rfl rfl rfl rfl ?_
  refine pu rfl rfl ?_
  refine lw (v := .int .i64 _) B1 7 rfl rfl rfl rfl ?_
  refine pu rfl rfl ?_
  refine lw (v := .int .i64 _) B1 8 rfl rfl rfl rfl ?_
  refine pu rfl rfl ?_
  refine lw (v := .int .i64 _) B1 9 rfl rfl rfl rfl ?_
  refine pu rfl rfl ?_
  refine lw (v := .int .i64 _) B1 10 rfl rfl rfl rfl ?_
  refine pu rfl rfl ?_
  refine lw (v := .int .i64 _) B1 11 rfl rfl rfl rfl ?_
  refine pu rfl rfl ?_
  refine lw (v := .int .i64 _) B1 12 rfl rfl rfl rfl ?_
  refine pu rfl rfl ?_
  refine lw (v := .int .i64 _) B1 13 rfl rfl rfl rfl ?_
  refine pu rfl rfl ?_
  refine lw (v := .int .i64 _) B1 14 rfl rfl rfl rfl ?_
  refine pu rfl rfl ?_
  refine lw (v := .int .i64 _) B1 15 rfl rfl rfl rfl ?_
  refine pu rfl rfl ?_
  refine lw (v := .int .i64 _) B1 16 rfl rfl rfl rfl ?_
  refine pu rfl rfl ?_
  refine lw (v := .int .i64 _) B1 17 rfl rfl rfl rfl ?_
  refine pu rfl rfl ?_
  refine lw (v := .int .i64 _) B1 18 rfl rfl rfl rfl ?_
  refine pu rfl rfl ?_
  refine lw (v := .int .i64 _) B1 19 rfl rfl rfl rfl ?_
  refine bs (cs := (numG g).flatMap intE) rfl rfl rfl (by kernel_rfl) rfl (fun B39 => ?_)
  refine SL_freeze (fun m9 hl9 hat9 => ?_)
  first | refine pL rfl rfl ?_ | refine pu rfl rfl ?_
  refine SL_nil ?_
  refine nx ?_
  refine SWP_ret ?_
  refine fin [_] ⟨rfl, trivial⟩ ?_
  exact RL.of_at intE_len (numG g) rfl rfl hat9

set_option maxRecDepth 100000 in
theorem lowestR {m : Mem} (g : Game) : CallsS Try.prog 37 [g.val].toArray [] m fun r σ' m' => σ' = [] ∧ RL m' intE 1 r (lowG g) := by
  refine CallsS.ghost (R' := fun r σ' m' => RL m' intE 1 r (lowG g)) ?_ ?h2
  case h2 =>
    rintro r σ' m' hr g0 W hC
    exact ⟨_, m', hC.sublist (List.nil_sublist _), Le.refl _, rfl, hr⟩
  dsimp only [Game.val]
  refine enter Try.func37 Try.ntmps37 rfl rfl ?_
  refine SWP_seq ?_
  refine SWP_region ?_
  refine bx (v := .agg _) rfl rfl (fun B1 => ?_)
  refine pL rfl rfl ?_
  refine SL_nil ?_
  refine nx ?_
  refine SWP_seq ?_
  refine SWP_region ?_
  refine pu rfl rfl ?_
  refine lw (v := .int .i64 _) B1 3 rfl rfl rfl rfl ?_
  refine pI rfl rfl ?_
  refine SL_nil ?_
  refine nx ?_
  refine SWP_seq ?_
  refine SWP_region ?_
  refine pu rfl rfl ?_
  refine lw (v := .int .i64 _) B1 3 rfl rfl rfl rfl ?_
  refine pI rfl rfl ?_
  refine SL_nil ?_
  refine nx ?_
  refine SWP_seq ?_
  refine SWP_region ?_
  refine pu rfl rfl ?_
  refine lw (v := .int .i64 _) B1 5 rfl rfl rfl rfl ?_
  refine pI rfl rfl ?_
  refine SL_nil ?_
  refine nx ?_
  refine SWP_seq ?_
  refine SWP_seq ?_
  refine SWP_region ?_
  refine pu rfl rfl ?_
  refine lw (v := .int .i64 _) B1 1 rfl rfl rfl rfl ?_
  refine pc rfl rfl (fun c14 => ?_) (fun c14 => ?_)
  · skip
    refine SL_nil ?_
    refine nx ?_
    refine SWP_ct rfl ?_
    refine SWP_region ?_
    refine pI rfl rfl ?_
    refine SL_nil ?_
    refine nx ?_
    refine SWP_seq ?_
    refine SWP_region ?_
    refine pI rfl rfl ?_
    refine pI rfl rfl ?_
    refine pI rfl rfl ?_
    refine bs (cs := (lowL 2 g.bonus g.main).flatMap intE) rfl rfl rfl (by kernel_rfl) rfl (fun B18 => ?_)
    refine SL_freeze (fun m9 hl9 hat9 => ?_)
    first | refine pL rfl rfl ?_ | refine pu rfl rfl ?_
    refine SL_nil ?_
    refine nx ?_
    refine SWP_ret ?_
    refine fin [_] ⟨rfl, trivial⟩ ?_
    refine RL.of_at intE_len (lowG g) rfl ?_ hat9
    unfold lowG
    rw [if_pos c14]
  refine SL_nil ?_
  refine nx ?_
  refine SWP_cf rfl ?_
  refine SWP_skip ?_
  refine nx ?_
  refine SWP_seq ?_
  refine SWP_region ?_
  refine pI rfl rfl ?_
  refine pI rfl rfl ?_
  refine pI rfl rfl ?_
  refine bs (cs := (lowL g.main g.bonus g.main).flatMap intE) rfl rfl rfl (by kernel_rfl) rfl (fun B18 => ?_)
  refine SL_freeze (fun m9 hl9 hat9 => ?_)
  first | refine pL rfl rfl ?_ | refine pu rfl rfl ?_
  refine SL_nil ?_
  refine nx ?_
  refine SWP_ret ?_
  refine fin [_] ⟨rfl, trivial⟩ ?_
  refine RL.of_at intE_len (lowG g) rfl ?_ hat9
  unfold lowG
  rw [if_neg c14]

set_option maxRecDepth 100000 in
theorem highestR {m : Mem} (g : Game) : CallsS Try.prog 38 [g.val].toArray [] m fun r σ' m' => σ' = [] ∧ RL m' intE 1 r (highG g) := by
  refine CallsS.ghost (R' := fun r σ' m' => RL m' intE 1 r (highG g)) ?_ ?h2
  case h2 =>
    rintro r σ' m' hr g0 W hC
    exact ⟨_, m', hC.sublist (List.nil_sublist _), Le.refl _, rfl, hr⟩
  dsimp only [Game.val]
  refine enter Try.func38 Try.ntmps38 rfl rfl ?_
  refine SWP_seq ?_
  refine SWP_region ?_
  refine bx (v := .agg _) rfl rfl (fun B1 => ?_)
  refine pL rfl rfl ?_
  refine SL_nil ?_
  refine nx ?_
  refine SWP_seq ?_
  refine SWP_drawn [_] [0, 1, 2, 3, 4, 6, 7, 5, 8, 9, 10] (by kernel_rfl) (by kernel_rfl) (Sub.refl _) ?_
  refine pu rfl rfl ?_
  refine lw (v := .int .i64 _) B1 4 rfl rfl rfl rfl ?_
  refine pu rfl rfl ?_
  refine lw (v := .int .i64 _) B1 3 rfl rfl rfl rfl ?_
  first | refine pw rfl rfl (w64 (by omega) (by omega)) ?_ | refine pu rfl rfl ?_
  refine pu rfl rfl ?_
  refine lw (v := .int .i64 _) B1 4 rfl rfl rfl rfl ?_
  refine SL_pcall rfl rfl cb57 (leastR _ _) rfl ?_
  refine SL_pcall rfl rfl cb57 (leastR _ _) rfl ?_
  refine bs (cs := (highL 80 4 80 (min 4 (IntKind.wrap .i64 (g.of - g.main))) (min 14 g.of)).flatMap intE) rfl rfl rfl (by kernel_rfl) rfl (fun B13 => ?_)
  first | refine pL rfl rfl ?_ | refine pu rfl rfl ?_
  refine SL_nil ?_
  refine nx ?_
  refine SWP_seq ?_
  refine SWP_seq ?_
  refine SWP_region ?_
  refine pu rfl rfl ?_
  refine lw (v := .int .i64 _) B1 5 rfl rfl rfl rfl ?_
  refine pc rfl rfl (fun c16 => ?_) (fun c16 => ?_)
  · skip
    refine SL_nil ?_
    refine nx ?_
    refine SWP_ct rfl ?_
    refine SWP_region ?_
    first | refine pL rfl rfl ?_ | refine pu rfl rfl ?_
    refine ia (es := 1) (k := 4) rfl rfl rfl rfl rfl rfl (by omega) rfl ?_
    first | refine st (v := .int .i64 _) (off := 4) (σ₁ := []) rfl rfl rfl rfl rfl rfl rfl rfl ?_ | refine st (v := .int .i64 _) (off := 4) (σ₁ := [_]) rfl rfl rfl rfl rfl rfl rfl rfl ?_ | refine st (v := .int .i64 _) (off := 4) (σ₁ := [_, _]) rfl rfl rfl rfl rfl rfl rfl rfl ?_ | refine st (v := .int .i64 _) (off := 4) (σ₁ := [_, _, _]) rfl rfl rfl rfl rfl rfl rfl rfl ?_ | refine st (v := .int .i64 _) (off := 4) (σ₁ := [_, _, _, _]) rfl rfl rfl rfl rfl rfl rfl rfl ?_ | refine st (v := .int .i64 _) (off := 4) (σ₁ := [_, _, _, _, _]) rfl rfl rfl rfl rfl rfl rfl rfl ?_ | refine st (v := .int .i64 _) (off := 4) (σ₁ := [_, _, _, _, _, _]) rfl rfl rfl rfl rfl rfl rfl rfl ?_
    refine SL_nil ?_
    refine nx ?_
    refine SWP_seq ?_
    refine SWP_seq ?_
    refine SWP_region ?_
    refine pu rfl rfl ?_
    refine lw (v := .int .i64 _) B1 1 rfl rfl rfl rfl ?_
    refine pc rfl rfl (fun c21 => ?_) (fun c21 => ?_)
    · skip
      refine SL_nil ?_
      refine nx ?_
      refine SWP_ct rfl ?_
      refine SWP_seq ?_
      refine SWP_region ?_
      first | refine pL rfl rfl ?_ | refine pu rfl rfl ?_
      refine ia (es := 1) (k := 2) rfl rfl rfl rfl rfl rfl (by omega) rfl ?_
      first | refine st (v := .int .i64 _) (off := 2) (σ₁ := []) rfl rfl rfl rfl rfl rfl rfl rfl ?_ | refine st (v := .int .i64 _) (off := 2) (σ₁ := [_]) rfl rfl rfl rfl rfl rfl rfl rfl ?_ | refine st (v := .int .i64 _) (off := 2) (σ₁ := [_, _]) rfl rfl rfl rfl rfl rfl rfl rfl ?_ | refine st (v := .int .i64 _) (off := 2) (σ₁ := [_, _, _]) rfl rfl rfl rfl rfl rfl rfl rfl ?_ | refine st (v := .int .i64 _) (off := 2) (σ₁ := [_, _, _, _]) rfl rfl rfl rfl rfl rfl rfl rfl ?_ | refine st (v := .int .i64 _) (off := 2) (σ₁ := [_, _, _, _, _]) rfl rfl rfl rfl rfl rfl rfl rfl ?_ | refine st (v := .int .i64 _) (off := 2) (σ₁ := [_, _, _, _, _, _]) rfl rfl rfl rfl rfl rfl rfl rfl ?_
      refine SL_nil ?_
      refine nx ?_
      refine SWP_seq ?_
      refine SWP_region ?_
      first | refine pL rfl rfl ?_ | refine pu rfl rfl ?_
      refine ia (es := 1) (k := 3) rfl rfl rfl rfl rfl rfl (by omega) rfl ?_
      first | refine st (v := .int .i64 _) (off := 3) (σ₁ := []) rfl rfl rfl rfl rfl rfl rfl rfl ?_ | refine st (v := .int .i64 _) (off := 3) (σ₁ := [_]) rfl rfl rfl rfl rfl rfl rfl rfl ?_ | refine st (v := .int .i64 _) (off := 3) (σ₁ := [_, _]) rfl rfl rfl rfl rfl rfl rfl rfl ?_ | refine st (v := .int .i64 _) (off := 3) (σ₁ := [_, _, _]) rfl rfl rfl rfl rfl rfl rfl rfl ?_ | refine st (v := .int .i64 _) (off := 3) (σ₁ := [_, _, _, _]) rfl rfl rfl rfl rfl rfl rfl rfl ?_ | refine st (v := .int .i64 _) (off := 3) (σ₁ := [_, _, _, _, _]) rfl rfl rfl rfl rfl rfl rfl rfl ?_ | refine st (v := .int .i64 _) (off := 3) (σ₁ := [_, _, _, _, _, _]) rfl rfl rfl rfl rfl rfl rfl rfl ?_
      refine SL_nil ?_
      refine nx ?_
      refine SWP_seq ?_
      refine SWP_region ?_
      first | refine pL rfl rfl ?_ | refine pu rfl rfl ?_
      refine ia (es := 1) (k := 5) rfl rfl rfl rfl rfl rfl (by omega) rfl ?_
      first | refine st (v := .int .i64 _) (off := 5) (σ₁ := []) rfl rfl rfl rfl rfl rfl rfl rfl ?_ | refine st (v := .int .i64 _) (off := 5) (σ₁ := [_]) rfl rfl rfl rfl rfl rfl rfl rfl ?_ | refine st (v := .int .i64 _) (off := 5) (σ₁ := [_, _]) rfl rfl rfl rfl rfl rfl rfl rfl ?_ | refine st (v := .int .i64 _) (off := 5) (σ₁ := [_, _, _]) rfl rfl rfl rfl rfl rfl rfl rfl ?_ | refine st (v := .int .i64 _) (off := 5) (σ₁ := [_, _, _, _]) rfl rfl rfl rfl rfl rfl rfl rfl ?_ | refine st (v := .int .i64 _) (off := 5) (σ₁ := [_, _, _, _, _]) rfl rfl rfl rfl rfl rfl rfl rfl ?_ | refine st (v := .int .i64 _) (off := 5) (σ₁ := [_, _, _, _, _, _]) rfl rfl rfl rfl rfl rfl rfl rfl ?_
      refine SL_nil ?_
      refine nx ?_
      refine SWP_region ?_
      first | refine pL rfl rfl ?_ | refine pu rfl rfl ?_
      refine pu rfl rfl ?_
      refine lw (v := .int .i64 _) B1 3 rfl rfl rfl rfl ?_
      refine ia (es := 1) (k := 7) rfl rfl rfl rfl rfl rfl (by omega) rfl ?_
      first | refine st (v := .int .i64 _) (off := 7) (σ₁ := []) rfl rfl rfl rfl rfl rfl rfl rfl ?_ | refine st (v := .int .i64 _) (off := 7) (σ₁ := [_]) rfl rfl rfl rfl rfl rfl rfl rfl ?_ | refine st (v := .int .i64 _) (off := 7) (σ₁ := [_, _]) rfl rfl rfl rfl rfl rfl rfl rfl ?_ | refine st (v := .int .i64 _) (off := 7) (σ₁ := [_, _, _]) rfl rfl rfl rfl rfl rfl rfl rfl ?_ | refine st (v := .int .i64 _) (off := 7) (σ₁ := [_, _, _, _]) rfl rfl rfl rfl rfl rfl rfl rfl ?_ | refine st (v := .int .i64 _) (off := 7) (σ₁ := [_, _, _, _, _]) rfl rfl rfl rfl rfl rfl rfl rfl ?_ | refine st (v := .int .i64 _) (off := 7) (σ₁ := [_, _, _, _, _, _]) rfl rfl rfl rfl rfl rfl rfl rfl ?_
      refine SL_nil ?_
      refine nx ?_
      refine SWP_seq ?_
      refine SWP_region ?_
      refine SL_freeze (fun m9 hl9 hat9 => ?_)
      first | refine pu (v := .slice _ _ _) rfl rfl ?_ | refine pu rfl rfl ?_
      first | refine pL rfl rfl ?_ | refine pu rfl rfl ?_
      refine SL_nil ?_
      refine nx ?_
      refine SWP_ret ?_
      refine fin [_] ⟨rfl, trivial⟩ ?_
      refine RL.of_at intE_len (highG g) rfl ?_ hat9
      unfold highG
      simp only [if_pos c16, if_pos c21]
      try kernel_rfl
    refine SL_nil ?_
    refine nx ?_
    refine SWP_cf rfl ?_
    refine SWP_skip ?_
    refine nx ?_
    refine SWP_seq ?_
    refine SWP_region ?_
    refine SL_freeze (fun m9 hl9 hat9 => ?_)
    first | refine pu (v := .slice _ _ _) rfl rfl ?_ | refine pu rfl rfl ?_
    first | refine pL rfl rfl ?_ | refine pu rfl rfl ?_
    refine SL_nil ?_
    refine nx ?_
    refine SWP_ret ?_
    refine fin [_] ⟨rfl, trivial⟩ ?_
    refine RL.of_at intE_len (highG g) rfl ?_ hat9
    unfold highG
    simp only [if_pos c16, if_neg c21]
    try kernel_rfl
  refine SL_nil ?_
  refine nx ?_
  refine SWP_cf rfl ?_
  refine SWP_skip ?_
  refine nx ?_
  refine SWP_seq ?_
  refine SWP_seq ?_
  refine SWP_region ?_
  refine pu rfl rfl ?_
  refine lw (v := .int .i64 _) B1 1 rfl rfl rfl rfl ?_
  refine pc rfl rfl (fun c21 => ?_) (fun c21 => ?_)
  · skip
    refine SL_nil ?_
    refine nx ?_
    refine SWP_ct rfl ?_
    refine SWP_seq ?_
    refine SWP_region ?_
    first | refine pL rfl rfl ?_ | refine pu rfl rfl ?_
    refine ia (es := 1) (k := 2) rfl rfl rfl rfl rfl rfl (by omega) rfl ?_
    first | refine st (v := .int .i64 _) (off := 2) (σ₁ := []) rfl rfl rfl rfl rfl rfl rfl rfl ?_ | refine st (v := .int .i64 _) (off := 2) (σ₁ := [_]) rfl rfl rfl rfl rfl rfl rfl rfl ?_ | refine st (v := .int .i64 _) (off := 2) (σ₁ := [_, _]) rfl rfl rfl rfl rfl rfl rfl rfl ?_ | refine st (v := .int .i64 _) (off := 2) (σ₁ := [_, _, _]) rfl rfl rfl rfl rfl rfl rfl rfl ?_ | refine st (v := .int .i64 _) (off := 2) (σ₁ := [_, _, _, _]) rfl rfl rfl rfl rfl rfl rfl rfl ?_ | refine st (v := .int .i64 _) (off := 2) (σ₁ := [_, _, _, _, _]) rfl rfl rfl rfl rfl rfl rfl rfl ?_ | refine st (v := .int .i64 _) (off := 2) (σ₁ := [_, _, _, _, _, _]) rfl rfl rfl rfl rfl rfl rfl rfl ?_
    refine SL_nil ?_
    refine nx ?_
    refine SWP_seq ?_
    refine SWP_region ?_
    first | refine pL rfl rfl ?_ | refine pu rfl rfl ?_
    refine ia (es := 1) (k := 3) rfl rfl rfl rfl rfl rfl (by omega) rfl ?_
    first | refine st (v := .int .i64 _) (off := 3) (σ₁ := []) rfl rfl rfl rfl rfl rfl rfl rfl ?_ | refine st (v := .int .i64 _) (off := 3) (σ₁ := [_]) rfl rfl rfl rfl rfl rfl rfl rfl ?_ | refine st (v := .int .i64 _) (off := 3) (σ₁ := [_, _]) rfl rfl rfl rfl rfl rfl rfl rfl ?_ | refine st (v := .int .i64 _) (off := 3) (σ₁ := [_, _, _]) rfl rfl rfl rfl rfl rfl rfl rfl ?_ | refine st (v := .int .i64 _) (off := 3) (σ₁ := [_, _, _, _]) rfl rfl rfl rfl rfl rfl rfl rfl ?_ | refine st (v := .int .i64 _) (off := 3) (σ₁ := [_, _, _, _, _]) rfl rfl rfl rfl rfl rfl rfl rfl ?_ | refine st (v := .int .i64 _) (off := 3) (σ₁ := [_, _, _, _, _, _]) rfl rfl rfl rfl rfl rfl rfl rfl ?_
    refine SL_nil ?_
    refine nx ?_
    refine SWP_seq ?_
    refine SWP_region ?_
    first | refine pL rfl rfl ?_ | refine pu rfl rfl ?_
    refine ia (es := 1) (k := 5) rfl rfl rfl rfl rfl rfl (by omega) rfl ?_
    first | refine st (v := .int .i64 _) (off := 5) (σ₁ := []) rfl rfl rfl rfl rfl rfl rfl rfl ?_ | refine st (v := .int .i64 _) (off := 5) (σ₁ := [_]) rfl rfl rfl rfl rfl rfl rfl rfl ?_ | refine st (v := .int .i64 _) (off := 5) (σ₁ := [_, _]) rfl rfl rfl rfl rfl rfl rfl rfl ?_ | refine st (v := .int .i64 _) (off := 5) (σ₁ := [_, _, _]) rfl rfl rfl rfl rfl rfl rfl rfl ?_ | refine st (v := .int .i64 _) (off := 5) (σ₁ := [_, _, _, _]) rfl rfl rfl rfl rfl rfl rfl rfl ?_ | refine st (v := .int .i64 _) (off := 5) (σ₁ := [_, _, _, _, _]) rfl rfl rfl rfl rfl rfl rfl rfl ?_ | refine st (v := .int .i64 _) (off := 5) (σ₁ := [_, _, _, _, _, _]) rfl rfl rfl rfl rfl rfl rfl rfl ?_
    refine SL_nil ?_
    refine nx ?_
    refine SWP_region ?_
    first | refine pL rfl rfl ?_ | refine pu rfl rfl ?_
    refine pu rfl rfl ?_
    refine lw (v := .int .i64 _) B1 3 rfl rfl rfl rfl ?_
    refine ia (es := 1) (k := 7) rfl rfl rfl rfl rfl rfl (by omega) rfl ?_
    first | refine st (v := .int .i64 _) (off := 7) (σ₁ := []) rfl rfl rfl rfl rfl rfl rfl rfl ?_ | refine st (v := .int .i64 _) (off := 7) (σ₁ := [_]) rfl rfl rfl rfl rfl rfl rfl rfl ?_ | refine st (v := .int .i64 _) (off := 7) (σ₁ := [_, _]) rfl rfl rfl rfl rfl rfl rfl rfl ?_ | refine st (v := .int .i64 _) (off := 7) (σ₁ := [_, _, _]) rfl rfl rfl rfl rfl rfl rfl rfl ?_ | refine st (v := .int .i64 _) (off := 7) (σ₁ := [_, _, _, _]) rfl rfl rfl rfl rfl rfl rfl rfl ?_ | refine st (v := .int .i64 _) (off := 7) (σ₁ := [_, _, _, _, _]) rfl rfl rfl rfl rfl rfl rfl rfl ?_ | refine st (v := .int .i64 _) (off := 7) (σ₁ := [_, _, _, _, _, _]) rfl rfl rfl rfl rfl rfl rfl rfl ?_
    refine SL_nil ?_
    refine nx ?_
    refine SWP_seq ?_
    refine SWP_region ?_
    refine SL_freeze (fun m9 hl9 hat9 => ?_)
    first | refine pu (v := .slice _ _ _) rfl rfl ?_ | refine pu rfl rfl ?_
    first | refine pL rfl rfl ?_ | refine pu rfl rfl ?_
    refine SL_nil ?_
    refine nx ?_
    refine SWP_ret ?_
    refine fin [_] ⟨rfl, trivial⟩ ?_
    refine RL.of_at intE_len (highG g) rfl ?_ hat9
    unfold highG
    simp only [if_neg c16, if_pos c21]
    try kernel_rfl
  refine SL_nil ?_
  refine nx ?_
  refine SWP_cf rfl ?_
  refine SWP_skip ?_
  refine nx ?_
  refine SWP_seq ?_
  refine SWP_region ?_
  refine SL_freeze (fun m9 hl9 hat9 => ?_)
  first | refine pu (v := .slice _ _ _) rfl rfl ?_ | refine pu rfl rfl ?_
  first | refine pL rfl rfl ?_ | refine pu rfl rfl ?_
  refine SL_nil ?_
  refine nx ?_
  refine SWP_ret ?_
  refine fin [_] ⟨rfl, trivial⟩ ?_
  refine RL.of_at intE_len (highG g) rfl ?_ hat9
  unfold highG
  simp only [if_neg c16, if_neg c21]
  try kernel_rfl

end Go.Proofs.Ytkopdlglenejmaa

