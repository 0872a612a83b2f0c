/- rulecheck.Check. -/
import Derived.Test.YtkopdlglenejmaaGamJ
namespace Go.Proofs.Ytkopdlglenejmaa
open Eng

theorem Eng.RL.capI {α : Type} {m : Mem} {en : α → List Value} {size n c : Nat} {a : Option Addr} {l : List α} (h : RL m en size (.slice a n c) l) : l.length ≤ c ∧ n = l.length := by
  obtain ⟨a', cap, e, _, h2, _⟩ := h
  cases e
  exact ⟨h2, rfl⟩
def Game.enc (g : Game) : List Value := [.string g.name, .int .i64 g.kind, .int .i64 g.price, .int .i64 g.main, .int .i64 g.of, .int .i64 g.bonus, .int .i64 g.bonusOf, .int .i64 g.extra, .int .i64 g.draws, .int .i64 g.system, .int .i64 g.days, .int .i64 g.minute, .int .i64 g.close, .int .i64 g.cancel, .int .i64 g.expiry, .int .i64 g.pool, .int .i64 g.reserve, .int .i64 g.round, .int .i64 g.cap, .int .i64 g.rolls, .slice g.aa g.addons.length g.ac, .slice g.ta g.tiers.length g.tc]

set_option maxRecDepth 100000 in
theorem checkTiersI {m : Mem} {g : Game} (hin : g.In m) : PureCall Try.prog 46 [g.val] m (.int .i64 (tiersErr g)) := by
  refine CallsS.pure ?_
  obtain ⟨hcap, _⟩ := hin.trs.capI
  dsimp only [Game.val]
  refine enter Try.func46 Try.ntmps46 rfl rfl ?_
  refine SWP_seq ?_
  refine SWP_region ?_
  refine bx (v := .agg _) rfl rfl (fun B1 => ?_)
  refine pI rfl rfl ?_
  refine SL_nil ?_
  refine nx ?_
  refine SWP_scope ?_
  refine SWP_seq ?_
  refine SWP_seq ?_
  refine SWP_region ?_
  refine pu rfl rfl ?_
  refine lw (v := .slice _ _ _) B1 21 rfl rfl rfl rfl ?_
  refine pu rfl rfl ?_
  refine SL_pcall rfl rfl cb61 (withinI _ _ _) rfl ?_
  refine psp 11 rfl (fun c11 => ?_) (fun c11 => ?_)
  · skip
    refine pB rfl rfl ?_
    refine SL_nil ?_
    refine nx ?_
    refine SWP_cf rfl ?_
    refine SWP_skip ?_
    refine nx ?_
    refine SWP_seq ?_
    refine SWP_region ?_
    refine pI rfl rfl ?_
    refine SL_nil ?_
    refine nx ?_
    refine SWP_seq ?_
    refine SWP_label ?_
    refine nx ?_
    refine SWP_seq ?_
    refine SWP_seq ?_
    refine SWP_region ?_
    refine pu rfl rfl ?_
    refine lw (v := .slice _ _ _) B1 21 rfl rfl rfl rfl ?_
    refine pu rfl rfl ?_
    refine pI rfl rfl ?_
    refine SL_nil ?_
    refine nx ?_
    refine SWP_block ?_
    refine SWP_loop [3, 4, 5, 7, 16, 17, 18, 19, 20, 21, 22, 23, 24, 25, 26, 27, 28, 29, 30, 31, 32, 33, 34, 35, 36, 37, 38, 39, 40] [3, 16]
        (fun vs σ' m' => ∃ (i : Nat), vs = [.int .i64 0, .int .i64 (i : Nat)] ∧ i ≤ g.tiers.length ∧ tiersErr g = tiersFrom g (g.tiers.take i) (g.tiers.drop i) ∧ σ' = [(B1, Cells 25 g.enc)] ∧ m = m')
        (fun vs => g.tiers.length - nOf (vs.getD 1 undef)) rfl ?_ ?_
    · refine ⟨0, rfl, by omega, ?_, rfl, rfl⟩
      unfold tiersErr
      rw [if_neg (by omega)]; rfl
    intro u0 vs0 σ0 m0 hJ0 _
    obtain ⟨i, rfl, hi, hres, rfl, rfl⟩ := hJ0
    dsimp only [Game.enc]
    refine SWP_seq ?_
    refine SWP_region ?_
    refine pc rfl rfl (fun c17 => ?_) (fun c17 => ?_)
    · skip
      refine SL_nil ?_
      refine nx ?_
      refine SWP_seq ?_
      refine SWP_ct rfl ?_
      refine SWP_skip ?_
      refine nx ?_
      refine SWP_seq ?_
      refine SWP_block ?_
      refine SWP_seq ?_
      obtain ⟨t, ht⟩ : ∃ t, g.tiers[i]? = some t := ⟨_, List.getElem?_eq_getElem (by omega)⟩
      obtain ⟨ad, had, _, hat⟩ := hin.trs.atA Tier.enc_len ht
      rw [tiersFrom_at ht] at hres
      refine SWP_region ?_
      first | refine pI rfl rfl ?_ | refine pu rfl rfl ?_
      rw [had]
      first | refine ia (es := 6) rfl rfl rfl rfl rfl rfl (by omega) rfl ?_ | refine iai (es := 6) rfl rfl rfl rfl rfl rfl (by omega) (by omega) rfl ?_
      rw [← had]
      refine ldA (v := .agg _) rfl (by assumption) rfl rfl ?_
      refine al rfl rfl (fun B5 => ?_)
      first | refine pI rfl rfl ?_ | refine pu rfl rfl ?_
      refine sw (v := .agg _) B5 0 rfl rfl rfl rfl rfl rfl rfl ?_
      refine SL_nil ?_
      refine nx ?_
      refine SWP_seq ?_
      refine SWP_seq ?_
      refine SWP_region ?_
      refine lw (v := .agg _) B1 0 rfl rfl rfl rfl ?_
      refine lw (v := .agg _) B5 0 rfl rfl rfl rfl ?_
      refine SL_pcall rfl rfl cb63 (checkTierI g t) rfl ?_
      first | refine pI rfl rfl ?_ | refine pu rfl rfl ?_
      refine SL_nil ?_
      refine nx ?_
      refine SWP_seq ?_
      refine SWP_region ?_
      first | refine pI rfl rfl ?_ | refine pu rfl rfl ?_
      refine pc rfl rfl (fun c25 => ?_) (fun c25 => ?_)
      · skip
        refine SL_nil ?_
        refine nx ?_
        refine SWP_ct rfl ?_
        refine SWP_exit ?_
        refine ne ?_
        refine bo rfl ?_
        refine ne ?_
        refine ne ?_
        refine be rfl ?_
        refine nx ?_
        refine SWP_seq ?_
        refine SWP_region ?_
        first | refine pI rfl rfl ?_ | refine pu rfl rfl ?_
        first | refine pI rfl rfl ?_ | refine pu rfl rfl ?_
        refine SL_nil ?_
        refine nx ?_
        refine SWP_ret ?_
        refine sr ?_
        refine fin [_] ⟨rfl, trivial⟩ ?_
        refine congrArg (Value.int .i64) ?_
        rw [hres, if_pos (by omega)]
      refine SL_nil ?_
      refine nx ?_
      refine SWP_cf rfl ?_
      refine SWP_skip ?_
      refine nx ?_
      refine SWP_seq ?_
      rw [if_neg (by omega)] at hres
      have ht0 : tierErr g t = 0 := by omega
      rw [ht0]
      refine SWP_region ?_
      refine pu rfl rfl ?_
      refine lw (v := .slice _ _ _) B1 21 rfl rfl rfl rfl ?_
      first | refine pI rfl rfl ?_ | refine pu rfl rfl ?_
      refine slh (size := 6) rfl rfl rfl rfl rfl (by omega) (by omega) rfl ?_
      have hsub := RL.sub Tier.enc_len hin.trs (Nat.zero_le i) (by omega)
      rw [List.drop_zero] at hsub
      obtain ⟨pa, pcap, hsl⟩ := hsub.len
      rw [Int.toNat_natCast, hsl]
      rw [hsl] at hsub
      have hlt : (g.tiers.take i).length = i := by rw [List.length_take]; omega
      refine pu rfl rfl ?_
      refine pI rfl rfl ?_
      refine SL_nil ?_
      refine nx ?_
      refine SWP_block ?_
      refine SWP_loop [3, 7, 31, 32, 33, 34, 35, 36, 37, 38, 39] [3, 31]
          (fun vs σ' m' => ∃ (k : Nat), vs = [.int .i64 0, .int .i64 (k : Nat)] ∧ k ≤ i ∧ (∀ b ∈ (g.tiers.take i).take k, ¬ covP g b t) ∧ σ' = [(B5, Cells 70 t.enc), (B1, Cells 25 g.enc)] ∧ m = m')
          (fun vs => i - nOf (vs.getD 1 undef)) rfl ?_ ?_
      · exact ⟨0, rfl, by omega, by simp, rfl, rfl⟩
      intro u1 vs1 σ1 m1 hJ1 _
      obtain ⟨k, rfl, hk, hcv, rfl, rfl⟩ := hJ1
      dsimp only [Game.enc, Tier.enc]
      refine SWP_seq ?_
      refine SWP_region ?_
      refine pc rfl rfl (fun c32 => ?_) (fun c32 => ?_)
      · skip
        refine SL_nil ?_
        refine nx ?_
        refine SWP_seq ?_
        refine SWP_ct rfl ?_
        refine SWP_skip ?_
        refine nx ?_
        refine SWP_seq ?_
        refine SWP_block ?_
        refine SWP_seq ?_
        obtain ⟨u, hu⟩ : ∃ u, (g.tiers.take i)[k]? = some u := ⟨_, List.getElem?_eq_getElem (by omega)⟩
        obtain ⟨ad2, rfl, _, hat2⟩ := hsub.atA Tier.enc_len hu
        refine SWP_region ?_
        first | refine ia (es := 6) rfl rfl rfl rfl rfl rfl (by omega) rfl ?_ | refine iai (es := 6) rfl rfl rfl rfl rfl rfl (by omega) (by omega) rfl ?_
        refine ldA (v := .agg _) rfl (by assumption) rfl rfl ?_
        refine al rfl rfl (fun B7 => ?_)
        refine sw (v := .agg _) B7 0 rfl rfl rfl rfl rfl rfl rfl ?_
        refine SL_nil ?_
        refine nx ?_
        refine SWP_seq ?_
        refine SWP_region ?_
        refine lw (v := .agg _) B1 0 rfl rfl rfl rfl ?_
        refine lw (v := .agg _) B7 0 rfl rfl rfl rfl ?_
        refine lw (v := .agg _) B5 0 rfl rfl rfl rfl ?_
        refine SL_pcall rfl rfl cb64 (coversI g u t) rfl ?_
        refine psp 38 rfl (fun c38 => ?_) (fun c38 => ?_)
        · skip
          refine SL_nil ?_
          refine nx ?_
          refine SWP_ct rfl ?_
          refine SWP_seq ?_
          refine SWP_region ?_
          refine pI rfl rfl ?_
          refine SL_nil ?_
          refine nx ?_
          refine SWP_exit ?_
          refine bo rfl ?_
          refine ne ?_
          refine ne ?_
          refine bo rfl ?_
          refine bo rfl ?_
          refine ne ?_
          refine ne ?_
          refine be rfl ?_
          refine nx ?_
          refine SWP_seq ?_
          refine SWP_region ?_
          first | refine pI rfl rfl ?_ | refine pu rfl rfl ?_
          first | refine pI rfl rfl ?_ | refine pu rfl rfl ?_
          refine SL_nil ?_
          refine nx ?_
          refine SWP_ret ?_
          refine sr ?_
          refine fin [_] ⟨rfl, trivial⟩ ?_
          refine congrArg (Value.int .i64) ?_
          rw [hres, if_pos ⟨u, List.mem_of_getElem? hu, c38⟩]
        refine SL_nil ?_
        refine nx ?_
        refine SWP_cf rfl ?_
        refine SWP_skip ?_
        refine nb ?_
        refine nx ?_
        refine SWP_weak (List.sublist_cons_self _ _) ?_
        refine SWP_region ?_
        first | refine pw rfl rfl (w64 (by omega) (by omega)) ?_ | refine pu rfl rfl ?_
        refine pI rfl rfl ?_
        refine SL_nil ?_
        refine nx ?_
        refine ⟨by repeat (first | exact Under.upds rfl (Under.hav _ _ _) | exact Under.hav _ _ _ | refine Under.upd rfl ?_ | refine Under.upds rfl ?_ | refine Under.hav2 rfl ?_), ?_, ?_⟩
        · refine ⟨k + 1, rfl, by omega, fun b hb => ?_, rfl, rfl⟩
          rw [take_snocA hu] at hb
          rcases List.mem_append.1 hb with hb | hb
          · exact hcv b hb
          · rw [List.mem_singleton.1 hb]; exact c38
        · simp only [L_vals, List.map, List.getD]; show i - (k + 1) < i - k; omega
      refine SL_nil ?_
      refine nx ?_
      refine SWP_seq ?_
      refine SWP_cf rfl ?_
      refine SWP_exit ?_
      refine ne ?_
      refine ne ?_
      refine be rfl ?_
      refine nb ?_
      refine nx ?_
      refine SWP_weak (List.sublist_cons_self _ _) ?_
      refine SWP_region ?_
      first | refine pw rfl rfl (w64 (by omega) (by omega)) ?_ | refine pu rfl rfl ?_
      refine pI rfl rfl ?_
      refine SL_nil ?_
      refine nx ?_
      refine ⟨by repeat (first | exact Under.upds rfl (Under.hav _ _ _) | exact Under.hav _ _ _ | refine Under.upd rfl ?_ | refine Under.upds rfl ?_ | refine Under.hav2 rfl ?_), ?_, ?_⟩
      · refine ⟨i + 1, rfl, by omega, ?_, rfl, rfl⟩
        have e : k = i := by omega
        rw [e, List.take_take, Nat.min_self] at hcv
        rw [hres, if_neg (by rintro ⟨b, hb, hc⟩; exact hcv b hb hc), take_snocA ht]
      · simp only [L_vals, List.map, List.getD]; show g.tiers.length - (i + 1) < g.tiers.length - i; omega
    refine SL_nil ?_
    refine nx ?_
    refine SWP_seq ?_
    refine SWP_cf rfl ?_
    refine SWP_exit ?_
    refine ne ?_
    refine ne ?_
    refine be rfl ?_
    refine nx ?_
    refine SWP_seq ?_
    refine SWP_region ?_
    first | refine pI rfl rfl ?_ | refine pu rfl rfl ?_
    first | refine pI rfl rfl ?_ | refine pu rfl rfl ?_
    refine SL_nil ?_
    refine nx ?_
    refine SWP_ret ?_
    refine sr ?_
    refine fin [_] ⟨rfl, trivial⟩ ?_
    refine congrArg (Value.int .i64) ?_
    have e : i = g.tiers.length := by omega
    rw [hres, e, List.drop_length]; rfl
  refine pB rfl rfl ?_
  refine SL_nil ?_
  refine nx ?_
  refine SWP_ct rfl ?_
  refine SWP_seq ?_
  refine SWP_region ?_
  refine pI rfl rfl ?_
  refine SL_nil ?_
  refine nx ?_
  refine SWP_ret ?_
  refine nr ?_
  refine sr ?_
  refine fin [_] ⟨rfl, trivial⟩ ?_
  refine congrArg (Value.int .i64) ?_
  unfold tiersErr
  rw [if_pos (by omega)]

set_option maxRecDepth 100000 in
theorem checkI {m : Mem} {g : Game} (hin : g.In m) : CallsS Try.prog 20 [g.val].toArray [] m fun r σ' m' => σ' = [] ∧ m' = m ∧ ∃ s, r = .tuple #[.int .i64 (gameErr g), .string s] := by
  refine CallsS.ghost (R' := fun r σ' m' => m' = m ∧ ∃ s, r = .tuple #[.int .i64 (gameErr g), .string s]) ?_ ?h2
  case h2 =>
    rintro r σ' m' ⟨rfl, hr⟩ g0 W hC
    exact ⟨_, m', hC.sublist (List.nil_sublist _), Le.refl _, rfl, rfl, hr⟩
  dsimp only [Game.val]
  refine enter Try.func20 Try.ntmps20 rfl rfl ?_
  refine SWP_seq ?_
  refine SWP_region ?_
  refine bx (v := .agg _) rfl rfl (fun B1 => ?_)
  refine pI rfl rfl ?_
  refine pS rfl rfl ?_
  refine SL_nil ?_
  refine nx ?_
  refine SWP_seq ?_
  refine SWP_seq ?_
  refine SWP_region ?_
  refine pu rfl rfl ?_
  refine lw (v := .string _) B1 0 rfl rfl rfl rfl ?_
  refine SL_pcall rfl rfl cb42 (nameImpl _) rfl ?_
  refine bsp 10 rfl (fun b10 => ?_) (fun b10 => ?_)
  · skip
    refine pB rfl rfl ?_
    refine SL_nil ?_
    refine nx ?_
    refine SWP_cf rfl ?_
    refine SWP_skip ?_
    refine nx ?_
    refine SWP_seq ?_
    refine SWP_seq ?_
    refine SWP_region ?_
    refine pu rfl rfl ?_
    refine lw (v := .int .i64 _) B1 1 rfl rfl rfl rfl ?_
    refine pc rfl rfl (fun c14 => ?_) (fun c14 => ?_)
    · skip
      refine pB rfl rfl ?_
      refine SL_yes rfl ?_
      refine pu rfl rfl ?_
      refine SL_yes rfl ?_
      refine lw (v := .int .i64 _) B1 1 rfl rfl rfl rfl ?_
      refine SL_yes rfl ?_
      refine pc rfl rfl (fun c18 => ?_) (fun c18 => ?_)
      · skip
        refine pB rfl rfl ?_
        refine SL_nil ?_
        refine nx ?_
        refine SWP_ct rfl ?_
        refine SWP_seq ?_
        refine SWP_region ?_
        refine pI rfl rfl ?_
        refine pS rfl rfl ?_
        refine SL_nil ?_
        refine nx ?_
        refine SWP_ret ?_
        refine nr ?_
        refine fin [_, _] ⟨rfl, rfl, trivial⟩ ?_
        refine ⟨rfl, ?_⟩
        have hge : gameErr g = 7 := by
          unfold gameErr
          rw [if_neg (by rw [b10]; exact Bool.noConfusion), if_pos (by omega)]
        rw [hge]
        exact ⟨_, rfl⟩
      refine pB rfl rfl ?_
      refine SL_nil ?_
      refine nx ?_
      refine SWP_cf rfl ?_
      refine SWP_skip ?_
      refine nx ?_
      refine SWP_seq ?_
      refine SWP_seq ?_
      refine SWP_region ?_
      refine lw (v := .agg _) B1 0 rfl rfl rfl rfl ?_
      refine SL_call rfl rfl cb43 (CallsS.frame0 (badMatrixI g)) rfl (fun v5_1 σ5_1 m5_1 hl5_1 hR5_1 => ?_)
      obtain ⟨σ₁, rfl, rfl, hm5_1, s1, rfl, hs1⟩ := hR5_1
      have hn5_1 := hm5_1.symm
      subst hn5_1
      first | refine pS rfl rfl ?_ | refine pu rfl rfl ?_
      refine SL_nil ?_
      refine nx ?_
      refine SWP_seq ?_
      refine SWP_region ?_
      first | refine pS rfl rfl ?_ | refine pu rfl rfl ?_
      refine pc rfl rfl (fun c23 => ?_) (fun c23 => ?_)
      · skip
        refine SL_nil ?_
        refine nx ?_
        refine SWP_ct rfl ?_
        refine SWP_seq ?_
        refine SWP_region ?_
        first | refine pS rfl rfl ?_ | refine pu rfl rfl ?_
        refine pI rfl rfl ?_
        first | refine pS rfl rfl ?_ | refine pu rfl rfl ?_
        refine SL_nil ?_
        refine nx ?_
        refine SWP_ret ?_
        refine nr ?_
        refine fin [_, _] ⟨rfl, rfl, trivial⟩ ?_
        refine ⟨rfl, ?_⟩
        have hge : gameErr g = 2 := by
          unfold gameErr
          rw [if_neg (by rw [b10]; exact Bool.noConfusion), if_neg (by omega), okE_f (fun h => c23 (hs1.2 h.1))]
        rw [hge]
        exact ⟨_, rfl⟩
      refine SL_nil ?_
      refine nx ?_
      refine SWP_cf rfl ?_
      refine SWP_skip ?_
      refine nx ?_
      refine SWP_seq ?_
      refine SWP_seq ?_
      refine SWP_region ?_
      refine lw (v := .agg _) B1 0 rfl rfl rfl rfl ?_
      refine SL_call rfl rfl cb44 (CallsS.frame0 (badTermsI g)) rfl (fun v8_1 σ8_1 m8_1 hl8_1 hR8_1 => ?_)
      obtain ⟨σ₁, rfl, rfl, hm8_1, s2, rfl, hs2⟩ := hR8_1
      have hn8_1 := hm8_1.symm
      subst hn8_1
      first | refine pS rfl rfl ?_ | refine pu rfl rfl ?_
      refine SL_nil ?_
      refine nx ?_
      refine SWP_seq ?_
      refine SWP_region ?_
      first | refine pS rfl rfl ?_ | refine pu rfl rfl ?_
      refine pc rfl rfl (fun c28 => ?_) (fun c28 => ?_)
      · skip
        refine SL_nil ?_
        refine nx ?_
        refine SWP_ct rfl ?_
        refine SWP_seq ?_
        refine SWP_region ?_
        first | refine pS rfl rfl ?_ | refine pu rfl rfl ?_
        refine pI rfl rfl ?_
        first | refine pS rfl rfl ?_ | refine pu rfl rfl ?_
        refine SL_nil ?_
        refine nx ?_
        refine SWP_ret ?_
        refine nr ?_
        refine fin [_, _] ⟨rfl, rfl, trivial⟩ ?_
        refine ⟨rfl, ?_⟩
        have hge : gameErr g = 2 := by
          unfold gameErr
          rw [if_neg (by rw [b10]; exact Bool.noConfusion), if_neg (by omega), okE_f (fun h => c28 (hs2.2 h.2))]
        rw [hge]
        exact ⟨_, rfl⟩
      refine SL_nil ?_
      refine nx ?_
      refine SWP_cf rfl ?_
      refine SWP_skip ?_
      refine nx ?_
      refine SWP_seq ?_
      refine SWP_seq ?_
      refine SWP_region ?_
      refine pu rfl rfl ?_
      refine lw (v := .slice _ _ _) B1 20 rfl rfl rfl rfl ?_
      refine SL_pcall rfl rfl cb45 (checkAddonsI hin.ads hin.each) rfl ?_
      first | refine pI rfl rfl ?_ | refine pu rfl rfl ?_
      refine SL_nil ?_
      refine nx ?_
      refine SWP_seq ?_
      refine SWP_region ?_
      first | refine pI rfl rfl ?_ | refine pu rfl rfl ?_
      refine pc rfl rfl (fun c34 => ?_) (fun c34 => ?_)
      · skip
        refine SL_nil ?_
        refine nx ?_
        refine SWP_ct rfl ?_
        refine SWP_seq ?_
        refine SWP_region ?_
        first | refine pI rfl rfl ?_ | refine pu rfl rfl ?_
        first | refine pI rfl rfl ?_ | refine pu rfl rfl ?_
        refine pS rfl rfl ?_
        refine SL_nil ?_
        refine nx ?_
        refine SWP_ret ?_
        refine nr ?_
        refine fin [_, _] ⟨rfl, rfl, trivial⟩ ?_
        refine ⟨rfl, ?_⟩
        have hge : gameErr g = addonsErr g.addons := by
          unfold gameErr
          rw [if_neg (by rw [b10]; exact Bool.noConfusion), if_neg (by omega), okE_t ⟨hs1.1 (Classical.not_not.1 c23), hs2.1 (Classical.not_not.1 c28)⟩, if_pos c34]
        rw [hge]
        exact ⟨_, rfl⟩
      refine SL_nil ?_
      refine nx ?_
      refine SWP_cf rfl ?_
      refine SWP_skip ?_
      refine nx ?_
      refine SWP_seq ?_
      refine SWP_seq ?_
      refine SWP_region ?_
      refine lw (v := .agg _) B1 0 rfl rfl rfl rfl ?_
      refine SL_pcall rfl rfl cb46 (checkTiersI hin) rfl ?_
      first | refine pI rfl rfl ?_ | refine pu rfl rfl ?_
      refine SL_nil ?_
      refine nx ?_
      refine SWP_seq ?_
      refine SWP_region ?_
      first | refine pI rfl rfl ?_ | refine pu rfl rfl ?_
      refine pc rfl rfl (fun c39 => ?_) (fun c39 => ?_)
      · skip
        refine SL_nil ?_
        refine nx ?_
        refine SWP_ct rfl ?_
        refine SWP_seq ?_
        refine SWP_region ?_
        first | refine pI rfl rfl ?_ | refine pu rfl rfl ?_
        first | refine pI rfl rfl ?_ | refine pu rfl rfl ?_
        refine pS rfl rfl ?_
        refine SL_nil ?_
        refine nx ?_
        refine SWP_ret ?_
        refine nr ?_
        refine fin [_, _] ⟨rfl, rfl, trivial⟩ ?_
        refine ⟨rfl, ?_⟩
        have hge : gameErr g = tiersErr g := by
          unfold gameErr
          rw [if_neg (by rw [b10]; exact Bool.noConfusion), if_neg (by omega), okE_t ⟨hs1.1 (Classical.not_not.1 c23), hs2.1 (Classical.not_not.1 c28)⟩, if_neg c34]
        rw [hge]
        exact ⟨_, rfl⟩
      refine SL_nil ?_
      refine nx ?_
      refine SWP_cf rfl ?_
      refine SWP_skip ?_
      refine nx ?_
      refine SWP_seq ?_
      refine SWP_region ?_
      refine pI rfl rfl ?_
      refine pS rfl rfl ?_
      refine SL_nil ?_
      refine nx ?_
      refine SWP_ret ?_
      refine fin [_, _] ⟨rfl, rfl, trivial⟩ ?_
      refine ⟨rfl, ?_⟩
      have hge : gameErr g = 0 := by
        unfold gameErr
        rw [if_neg (by rw [b10]; exact Bool.noConfusion), if_neg (by omega), okE_t ⟨hs1.1 (Classical.not_not.1 c23), hs2.1 (Classical.not_not.1 c28)⟩, if_neg c34]; omega
      rw [hge]
      exact ⟨_, rfl⟩
    refine pB rfl rfl ?_
    refine SL_no rfl rfl ?_
    refine SL_no rfl rfl ?_
    refine SL_no rfl rfl ?_
    refine pB rfl rfl ?_
    refine SL_nil ?_
    refine nx ?_
    refine SWP_cf rfl ?_
    refine SWP_skip ?_
    refine nx ?_
    refine SWP_seq ?_
    refine SWP_seq ?_
    refine SWP_region ?_
    refine lw (v := .agg _) B1 0 rfl rfl rfl rfl ?_
    refine SL_call rfl rfl cb43 (CallsS.frame0 (badMatrixI g)) rfl (fun v5_1 σ5_1 m5_1 hl5_1 hR5_1 => ?_)
    obtain ⟨σ₁, rfl, rfl, hm5_1, s1, rfl, hs1⟩ := hR5_1
    have hn5_1 := hm5_1.symm
    subst hn5_1
    first | refine pS rfl rfl ?_ | refine pu rfl rfl ?_
    refine SL_nil ?_
    refine nx ?_
    refine SWP_seq ?_
    refine SWP_region ?_
    first | refine pS rfl rfl ?_ | refine pu rfl rfl ?_
    refine pc rfl rfl (fun c23 => ?_) (fun c23 => ?_)
    · skip
      refine SL_nil ?_
      refine nx ?_
      refine SWP_ct rfl ?_
      refine SWP_seq ?_
      refine SWP_region ?_
      first | refine pS rfl rfl ?_ | refine pu rfl rfl ?_
      refine pI rfl rfl ?_
      first | refine pS rfl rfl ?_ | refine pu rfl rfl ?_
      refine SL_nil ?_
      refine nx ?_
      refine SWP_ret ?_
      refine nr ?_
      refine fin [_, _] ⟨rfl, rfl, trivial⟩ ?_
      refine ⟨rfl, ?_⟩
      have hge : gameErr g = 2 := by
        unfold gameErr
        rw [if_neg (by rw [b10]; exact Bool.noConfusion), if_neg (by omega), okE_f (fun h => c23 (hs1.2 h.1))]
      rw [hge]
      exact ⟨_, rfl⟩
    refine SL_nil ?_
    refine nx ?_
    refine SWP_cf rfl ?_
    refine SWP_skip ?_
    refine nx ?_
    refine SWP_seq ?_
    refine SWP_seq ?_
    refine SWP_region ?_
    refine lw (v := .agg _) B1 0 rfl rfl rfl rfl ?_
    refine SL_call rfl rfl cb44 (CallsS.frame0 (badTermsI g)) rfl (fun v8_1 σ8_1 m8_1 hl8_1 hR8_1 => ?_)
    obtain ⟨σ₁, rfl, rfl, hm8_1, s2, rfl, hs2⟩ := hR8_1
    have hn8_1 := hm8_1.symm
    subst hn8_1
    first | refine pS rfl rfl ?_ | refine pu rfl rfl ?_
    refine SL_nil ?_
    refine nx ?_
    refine SWP_seq ?_
    refine SWP_region ?_
    first | refine pS rfl rfl ?_ | refine pu rfl rfl ?_
    refine pc rfl rfl (fun c28 => ?_) (fun c28 => ?_)
    · skip
      refine SL_nil ?_
      refine nx ?_
      refine SWP_ct rfl ?_
      refine SWP_seq ?_
      refine SWP_region ?_
      first | refine pS rfl rfl ?_ | refine pu rfl rfl ?_
      refine pI rfl rfl ?_
      first | refine pS rfl rfl ?_ | refine pu rfl rfl ?_
      refine SL_nil ?_
      refine nx ?_
      refine SWP_ret ?_
      refine nr ?_
      refine fin [_, _] ⟨rfl, rfl, trivial⟩ ?_
      refine ⟨rfl, ?_⟩
      have hge : gameErr g = 2 := by
        unfold gameErr
        rw [if_neg (by rw [b10]; exact Bool.noConfusion), if_neg (by omega), okE_f (fun h => c28 (hs2.2 h.2))]
      rw [hge]
      exact ⟨_, rfl⟩
    refine SL_nil ?_
    refine nx ?_
    refine SWP_cf rfl ?_
    refine SWP_skip ?_
    refine nx ?_
    refine SWP_seq ?_
    refine SWP_seq ?_
    refine SWP_region ?_
    refine pu rfl rfl ?_
    refine lw (v := .slice _ _ _) B1 20 rfl rfl rfl rfl ?_
    refine SL_pcall rfl rfl cb45 (checkAddonsI hin.ads hin.each) rfl ?_
    first | refine pI rfl rfl ?_ | refine pu rfl rfl ?_
    refine SL_nil ?_
    refine nx ?_
    refine SWP_seq ?_
    refine SWP_region ?_
    first | refine pI rfl rfl ?_ | refine pu rfl rfl ?_
    refine pc rfl rfl (fun c34 => ?_) (fun c34 => ?_)
    · skip
      refine SL_nil ?_
      refine nx ?_
      refine SWP_ct rfl ?_
      refine SWP_seq ?_
      refine SWP_region ?_
      first | refine pI rfl rfl ?_ | refine pu rfl rfl ?_
      first | refine pI rfl rfl ?_ | refine pu rfl rfl ?_
      refine pS rfl rfl ?_
      refine SL_nil ?_
      refine nx ?_
      refine SWP_ret ?_
      refine nr ?_
      refine fin [_, _] ⟨rfl, rfl, trivial⟩ ?_
      refine ⟨rfl, ?_⟩
      have hge : gameErr g = addonsErr g.addons := by
        unfold gameErr
        rw [if_neg (by rw [b10]; exact Bool.noConfusion), if_neg (by omega), okE_t ⟨hs1.1 (Classical.not_not.1 c23), hs2.1 (Classical.not_not.1 c28)⟩, if_pos c34]
      rw [hge]
      exact ⟨_, rfl⟩
    refine SL_nil ?_
    refine nx ?_
    refine SWP_cf rfl ?_
    refine SWP_skip ?_
    refine nx ?_
    refine SWP_seq ?_
    refine SWP_seq ?_
    refine SWP_region ?_
    refine lw (v := .agg _) B1 0 rfl rfl rfl rfl ?_
    refine SL_pcall rfl rfl cb46 (checkTiersI hin) rfl ?_
    first | refine pI rfl rfl ?_ | refine pu rfl rfl ?_
    refine SL_nil ?_
    refine nx ?_
    refine SWP_seq ?_
    refine SWP_region ?_
    first | refine pI rfl rfl ?_ | refine pu rfl rfl ?_
    refine pc rfl rfl (fun c39 => ?_) (fun c39 => ?_)
    · skip
      refine SL_nil ?_
      refine nx ?_
      refine SWP_ct rfl ?_
      refine SWP_seq ?_
      refine SWP_region ?_
      first | refine pI rfl rfl ?_ | refine pu rfl rfl ?_
      first | refine pI rfl rfl ?_ | refine pu rfl rfl ?_
      refine pS rfl rfl ?_
      refine SL_nil ?_
      refine nx ?_
      refine SWP_ret ?_
      refine nr ?_
      refine fin [_, _] ⟨rfl, rfl, trivial⟩ ?_
      refine ⟨rfl, ?_⟩
      have hge : gameErr g = tiersErr g := by
        unfold gameErr
        rw [if_neg (by rw [b10]; exact Bool.noConfusion), if_neg (by omega), okE_t ⟨hs1.1 (Classical.not_not.1 c23), hs2.1 (Classical.not_not.1 c28)⟩, if_neg c34]
      rw [hge]
      exact ⟨_, rfl⟩
    refine SL_nil ?_
    refine nx ?_
    refine SWP_cf rfl ?_
    refine SWP_skip ?_
    refine nx ?_
    refine SWP_seq ?_
    refine SWP_region ?_
    refine pI rfl rfl ?_
    refine pS rfl rfl ?_
    refine SL_nil ?_
    refine nx ?_
    refine SWP_ret ?_
    refine fin [_, _] ⟨rfl, rfl, trivial⟩ ?_
    refine ⟨rfl, ?_⟩
    have hge : gameErr g = 0 := by
      unfold gameErr
      rw [if_neg (by rw [b10]; exact Bool.noConfusion), if_neg (by omega), okE_t ⟨hs1.1 (Classical.not_not.1 c23), hs2.1 (Classical.not_not.1 c28)⟩, if_neg c34]; omega
    rw [hge]
    exact ⟨_, rfl⟩
  refine pB rfl rfl ?_
  refine SL_nil ?_
  refine nx ?_
  refine SWP_ct rfl ?_
  refine SWP_seq ?_
  refine SWP_region ?_
  refine pI rfl rfl ?_
  refine pS rfl rfl ?_
  refine SL_nil ?_
  refine nx ?_
  refine SWP_ret ?_
  refine nr ?_
  refine fin [_, _] ⟨rfl, rfl, trivial⟩ ?_
  refine ⟨rfl, ?_⟩
  have hge : gameErr g = 4 := by
    unfold gameErr
    rw [if_pos b10]
  rw [hge]
  exact ⟨_, rfl⟩

end Go.Proofs.Ytkopdlglenejmaa

