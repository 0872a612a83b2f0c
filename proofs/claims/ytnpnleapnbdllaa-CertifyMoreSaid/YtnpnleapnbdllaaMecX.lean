/- lotteryref29.Result. -/
import Derived.Test.YtnpnleapnbdllaaMecW
namespace Go.Proofs.Ytnpnleapnbdllaa
open Eng

theorem ballErr_zero {g : Game} {pre : List Ball} {b : Ball} (h : ballErr g pre b = 0) : inB g b ∧ (cntD b.drum pre : Int) < mostD g b.drum ∧ ¬ (g.kind = 1 ∧ ∃ a ∈ pre, repB a b) := by
  unfold ballErr at h
  by_cases h1 : ¬ inB g b
  · rw [if_pos h1] at h; exact absurd h (by decide)
  · rw [if_neg h1] at h
    by_cases h2 : g.kind = 1 ∧ ∃ a ∈ pre, repB a b
    · rw [if_pos h2] at h; exact absurd h (by decide)
    · rw [if_neg h2] at h
      by_cases h3 : mostD g b.drum ≤ cntD b.drum pre
      · rw [if_pos h3] at h; exact absurd h (by decide)
      · exact ⟨Classical.not_not.1 h1, by omega, h2⟩
def capOk (g : Game) (pre : List Ball) : Prop := (cntD 1 pre : Int) ≤ g.main ∧ (cntD 2 pre : Int) ≤ g.bonus ∧ (cntD 3 pre : Int) ≤ g.extra
theorem capOk_snoc {g : Game} {pre : List Ball} {b : Ball} (h : capOk g pre) (hb : ballErr g pre b = 0) : capOk g (pre ++ [b]) := by
  obtain ⟨h1, h2, _⟩ := ballErr_zero hb
  have hd := inB_drum h1
  unfold capOk at *
  rw [cntD_snoc, cntD_snoc, cntD_snoc]
  unfold mostD at h2
  rcases hd with hd | hd | hd
  · rw [hd] at h2 ⊢
    simp only [if_true, if_neg (show ¬ ((1 : Int) = 2) by omega), if_neg (show ¬ ((1 : Int) = 3) by omega)] at h2 ⊢
    omega
  · rw [hd] at h2 ⊢
    simp only [if_true, if_neg (show ¬ ((2 : Int) = 1) by omega), if_neg (show ¬ ((2 : Int) = 3) by omega)] at h2 ⊢
    omega
  · rw [hd] at h2 ⊢
    simp only [if_true, if_neg (show ¬ ((3 : Int) = 1) by omega), if_neg (show ¬ ((3 : Int) = 2) by omega)] at h2 ⊢
    omega

set_option maxRecDepth 100000 in
theorem resultR {m : Mem} {g : Game} {v : Value} {l : List Ball} (hin : g.In m) (h : RL m Ball.enc 3 v l) (hl : l.length ≤ 4000000) : CallsS Try.prog 26 [g.val, v].toArray [] m fun r σ' m' => σ' = [] ∧ ResOf r m' (mechE g l) (mechO g l) := by
  refine CallsS.ghost (R' := fun r σ' m' => ResOf r m' (mechE g l) (mechO g l)) ?_ ?h2
  case h2 =>
    intro r σ' m' hR g0 W hC
    exact ⟨_, m', hC.sublist (List.nil_sublist _), Le.refl _, rfl, hR⟩
  obtain ⟨pa, pcap, rfl⟩ := h.len
  dsimp only [Game.val]
  refine enter Try.func26 Try.ntmps26 rfl rfl ?_
  refine SWP_seq ?_
  refine SWP_region ?_
  refine bx (v := .agg _) rfl rfl (fun B2 => ?_)
  refine al rfl rfl (fun B4 => ?_)
  refine pI rfl rfl ?_
  refine SL_nil ?_
  refine nx ?_
  refine SWP_seq ?_
  refine SWP_region ?_
  refine lw (v := .agg _) B2 0 rfl rfl rfl rfl ?_
  refine SL_call rfl rfl cb24 (CallsS.frame0 (checkR hin)) rfl (fun v1_1 σ1_1 m1_1 hl1_1 hR1_1 => ?_)
  obtain ⟨σc, rfl, rfl, hm1_1, s, rfl⟩ := hR1_1
  have hn1_1 := hm1_1.symm
  subst hn1_1
  refine pu rfl rfl ?_
  first | refine pI rfl rfl ?_ | refine pu rfl rfl ?_
  first | refine pS rfl rfl ?_ | refine pu rfl rfl ?_
  first | refine pI rfl rfl ?_ | refine pu rfl rfl ?_
  first | refine pS rfl rfl ?_ | refine pu rfl rfl ?_
  refine SL_nil ?_
  refine nx ?_
  refine SWP_seq ?_
  refine SWP_seq ?_
  refine SWP_region ?_
  first | refine pI rfl rfl ?_ | refine pu rfl rfl ?_
  refine pc rfl rfl (fun c18 => ?_) (fun c18 => ?_)
  · skip
    refine SL_nil ?_
    refine nx ?_
    refine SWP_ct rfl ?_
    refine SWP_seq ?_
    refine SWP_region ?_
    refine pA rfl rfl ?_
    first | refine pI rfl rfl ?_ | refine pu rfl rfl ?_
    refine sw (v := .agg _) B4 0 rfl rfl rfl rfl rfl rfl rfl ?_
    first | refine pI rfl rfl ?_ | refine pu rfl rfl ?_
    refine SL_nil ?_
    refine nx ?_
    refine SWP_ret ?_
    refine nr ?_
    refine fin [_, _] ⟨⟨_, _, rfl, Rd.of_cells (MemO.mem (B := B4)), rfl⟩, rfl, trivial⟩ ?_
    have e : mechE g l = gameErr g := if_pos (by assumption)
    have o : mechO g l = ([], [], []) := by unfold mechO; rw [e]; exact if_pos (by assumption)
    rw [e, o]
    exact ⟨zeroR, rfl, zeroR_in _, zeroR_out⟩
  refine SL_nil ?_
  refine nx ?_
  refine SWP_cf rfl ?_
  refine SWP_skip ?_
  refine nx ?_
  refine SWP_seq ?_
  refine SWP_region ?_
  refine al rfl rfl (fun B8 => ?_)
  refine SL_nil ?_
  refine nx ?_
  refine SWP_seq ?_
  refine SWP_seq ?_
  refine SWP_region ?_
  refine pI rfl rfl ?_
  refine SL_nil ?_
  refine nx ?_
  refine SWP_block ?_
  refine SWP_loop [5, 9, 10, 11, 21, 22, 23, 24, 25, 26, 27, 28, 29, 30, 31, 32, 33, 34, 35, 36, 37, 38, 39, 40, 41] [9]
      (fun vs σ' m' => ∃ (i : Nat) (x : Res), vs = [.int .i64 (i : Nat)] ∧ i ≤ l.length ∧ x.In m' ∧ OutIs x (numsD 1 (l.take i)) (numsD 2 (l.take i)) (numsD 3 (l.take i)) ∧ (∀ a ∈ l.take i, inB g a) ∧ ballsFrom g [] l = ballsFrom g (l.take i) (l.drop i) ∧ capOk g (l.take i) ∧ σ' = [(B8, Cells 30 x.enc), (B4, Cells 30 zeroR.enc), (B2, Cells 25 g.enc)] ∧ Le m m')
      (fun vs => l.length - nOf (vs.getD 0 undef)) rfl ?_ ?_
  · refine ⟨0, zeroR, rfl, by omega, zeroR_in _, zeroR_out, fun a ha => (by simp at ha), rfl, ?_, rfl, Le.refl _⟩
    have hok := gameOk (Classical.not_not.1 (by assumption : ¬ gameErr g ≠ 0))
    have a1 := hok.mx.h2
    have a2 := hok.mx.h5
    have a3 := hok.mx.h10
    exact ⟨by show (0 : Int) ≤ _; omega, by show (0 : Int) ≤ _; omega, by show (0 : Int) ≤ _; omega⟩
  intro u0 vs0 σ0 m0 hJ0 _
  obtain ⟨i, x, rfl, hi, hx, ho, hpre, hres, hcap, rfl, hle⟩ := hJ0
  dsimp only [Game.enc, Res.enc]
  refine SWP_seq ?_
  refine SWP_seq ?_
  refine SWP_region ?_
  first | refine pI rfl rfl ?_ | refine pu rfl rfl ?_
  first | refine pL rfl rfl ?_ | refine pu rfl rfl ?_
  refine pu rfl rfl ?_
  refine pc rfl rfl (fun c24 => ?_) (fun c24 => ?_)
  · skip
    refine SL_nil ?_
    refine nx ?_
    refine SWP_ct rfl ?_
    refine SWP_skip ?_
    refine nx ?_
    refine SWP_seq ?_
    refine SWP_block ?_
    refine SWP_seq ?_
    obtain ⟨b, hb⟩ : ∃ b, l[i]? = some b := ⟨_, List.getElem?_eq_getElem (by omega)⟩
    obtain ⟨ad, e1, _, hat⟩ := (h.mono hle).atA Ball.enc_len hb
    rw [ballsFrom_at hb] at hres
    refine SWP_tree [(B8, Cells 30 x.enc), (B4, Cells 30 zeroR.enc), (B2, Cells 25 g.enc)] 13 (.one 0 (.one 1 (.one 2 (.one 3 (.one 4 (.one 5 (.fork (.alt 6 (.one 7 (.one 8 (.one 9 (.one 10 (.one 11 (.one 12 (.fin))))))) (.alt 10 (.one 6 (.one 7 (.one 8 (.one 9 (.one 11 (.one 12 (.fin))))))) (.none)))))))))) (by kernel_rfl) (by kernel_rfl) (by repeat (first | exact Sub.refl _ | exact Sub.nil _ | refine Sub.cons2 _ ?_ | refine Sub.cons _ ?_)) ?_
    refine T1 rfl ?_
    refine lw (v := .agg _) B2 0 rfl rfl rfl rfl ?_
    refine SL_nil ?_
    refine T1 rfl ?_
    refine lw (v := .agg _) B8 0 rfl rfl rfl rfl ?_
    refine SL_nil ?_
    refine T1 rfl ?_
    first | refine pL rfl rfl ?_ | refine pu rfl rfl ?_
    refine SL_nil ?_
    refine T1 rfl ?_
    first | refine pI rfl rfl ?_ | refine pu rfl rfl ?_
    refine SL_nil ?_
    refine T1 rfl ?_
    rw [e1]
    refine ia (es := 3) rfl rfl rfl rfl rfl rfl (by omega) rfl ?_
    rw [← e1]
    refine SL_nil ?_
    refine T1 rfl ?_
    refine ldA (v := .agg _) rfl (by assumption) rfl rfl ?_
    refine SL_nil ?_
    refine TF ?_
    refine TA rfl ?_ ?_
    · skip
      refine SL_call rfl rfl cb42 (CallsS.frame0 (addR (b := b) hx ho hpre (by rw [List.length_take]; omega))) rfl (fun v8_6 σ8_6 m8_6 hl8_6 hR8_6 => ?_)
      obtain ⟨σa, rfl, rfl, x2, rfl, hx2, ho2⟩ := hR8_6
      dsimp only [Res.val]
      refine SL_nil ?_
      refine T1 rfl ?_
      refine pu rfl rfl ?_
      refine SL_nil ?_
      refine T1 rfl ?_
      first | refine pA rfl rfl ?_ | refine pu rfl rfl ?_
      refine SL_nil ?_
      refine T1 rfl ?_
      first | refine pI rfl rfl ?_ | refine pu rfl rfl ?_
      refine SL_nil ?_
      refine T1 rfl ?_
      refine al rfl rfl (fun B10 => ?_)
      refine SL_nil ?_
      refine T1 rfl ?_
      refine sw (v := .agg _) B10 0 rfl rfl rfl rfl rfl rfl rfl ?_
      refine SL_nil ?_
      refine T1 rfl ?_
      first | refine pI rfl rfl ?_ | refine pu rfl rfl ?_
      refine SL_nil ?_
      refine nx ?_
      refine SWP_seq ?_
      refine SWP_seq ?_
      refine SWP_region ?_
      first | refine pI rfl rfl ?_ | refine pu rfl rfl ?_
      refine pc rfl rfl (fun c38 => ?_) (fun c38 => ?_)
      · skip
        refine SL_nil ?_
        refine nx ?_
        refine SWP_ct rfl ?_
        refine SWP_seq ?_
        refine SWP_region ?_
        refine pA rfl rfl ?_
        first | refine pI rfl rfl ?_ | refine pu rfl rfl ?_
        refine sw (v := .agg _) B4 0 rfl rfl rfl rfl rfl rfl rfl ?_
        first | refine pI rfl rfl ?_ | refine pu rfl rfl ?_
        refine SL_nil ?_
        refine nx ?_
        refine SWP_ret ?_
        refine nr ?_
        refine br ?_
        refine nr ?_
        refine nr ?_
        refine br ?_
        refine nr ?_
        refine fin [_, _] ⟨⟨_, _, rfl, Rd.of_cells (MemO.mem (B := B4)), rfl⟩, rfl, trivial⟩ ?_
        rw [if_pos (by assumption)] at hres
        have e : mechE g l = ballErr g (l.take i) b := (if_neg (by assumption)).trans (by unfold ballsErr; rw [if_pos (by rw [hres]; assumption), hres])
        have o : mechO g l = ([], [], []) := by unfold mechO; rw [e]; exact if_pos (by assumption)
        rw [e, o]
        exact ⟨zeroR, rfl, zeroR_in _, zeroR_out⟩
      refine SL_nil ?_
      refine nx ?_
      refine SWP_cf rfl ?_
      refine SWP_skip ?_
      refine nx ?_
      refine SWP_region ?_
      refine lw (v := .agg _) B10 0 rfl rfl rfl rfl ?_
      refine sw (v := .agg _) B8 0 rfl rfl rfl rfl rfl rfl rfl ?_
      refine SL_nil ?_
      refine nb ?_
      refine nx ?_
      refine SWP_weak (List.sublist_cons_self _ _) ?_
      refine SWP_region ?_
      first | refine pI rfl rfl ?_ | refine pu rfl rfl ?_
      first | refine pw rfl rfl (w64 (by omega) (by omega)) ?_ | refine pu rfl rfl ?_
      refine pI rfl rfl ?_
      refine SL_nil ?_
      refine nx ?_
      refine ⟨by repeat (first | exact Under.upds rfl (Under.hav _ _ _) | exact Under.hav _ _ _ | refine Under.upd rfl ?_ | refine Under.upds rfl ?_ | refine Under.hav2 rfl ?_), ?_, ?_⟩
      · have hz9 : ballErr g (l.take i) b = 0 := Classical.not_not.1 (by assumption)
        refine ⟨i + 1, x2, rfl, by omega, hx2, ?_, ?_, ?_, ?_, rfl, hle.trans hl8_6⟩
        · rw [take_snocA hb]; exact ho2 hz9
        · intro a ha
          rw [take_snocA hb] at ha
          rcases List.mem_append.1 ha with ha | ha
          · exact hpre a ha
          · rw [List.mem_singleton.1 ha]; exact (ballErr_zero hz9).1
        · rw [hres, if_neg (by rw [hz9]; decide), take_snocA hb]
        · rw [take_snocA hb]; exact capOk_snoc hcap hz9
      · simp only [L_vals, List.map, List.getD]; show l.length - (i + 1) < l.length - i; omega
    refine TA rfl ?_ ?_
    · skip
      refine al rfl rfl (fun B10 => ?_)
      refine SL_nil ?_
      refine T1 rfl ?_
      refine SL_call rfl rfl cb42 (CallsS.frame0 (addR (b := b) hx ho hpre (by rw [List.length_take]; omega))) rfl (fun v8_6 σ8_6 m8_6 hl8_6 hR8_6 => ?_)
      obtain ⟨σa, rfl, rfl, x2, rfl, hx2, ho2⟩ := hR8_6
      dsimp only [Res.val]
      refine SL_nil ?_
      refine T1 rfl ?_
      refine pu rfl rfl ?_
      refine SL_nil ?_
      refine T1 rfl ?_
      first | refine pA rfl rfl ?_ | refine pu rfl rfl ?_
      refine SL_nil ?_
      refine T1 rfl ?_
      first | refine pI rfl rfl ?_ | refine pu rfl rfl ?_
      refine SL_nil ?_
      refine T1 rfl ?_
      refine sw (v := .agg _) B10 0 rfl rfl rfl rfl rfl rfl rfl ?_
      refine SL_nil ?_
      refine T1 rfl ?_
      first | refine pI rfl rfl ?_ | refine pu rfl rfl ?_
      refine SL_nil ?_
      refine nx ?_
      refine SWP_seq ?_
      refine SWP_seq ?_
      refine SWP_region ?_
      first | refine pI rfl rfl ?_ | refine pu rfl rfl ?_
      refine pc rfl rfl (fun c38 => ?_) (fun c38 => ?_)
      · skip
        refine SL_nil ?_
        refine nx ?_
        refine SWP_ct rfl ?_
        refine SWP_seq ?_
        refine SWP_region ?_
        refine pA rfl rfl ?_
        first | refine pI rfl rfl ?_ | refine pu rfl rfl ?_
        refine sw (v := .agg _) B4 0 rfl rfl rfl rfl rfl rfl rfl ?_
        first | refine pI rfl rfl ?_ | refine pu rfl rfl ?_
        refine SL_nil ?_
        refine nx ?_
        refine SWP_ret ?_
        refine nr ?_
        refine br ?_
        refine nr ?_
        refine nr ?_
        refine br ?_
        refine nr ?_
        refine fin [_, _] ⟨⟨_, _, rfl, Rd.of_cells (MemO.mem (B := B4)), rfl⟩, rfl, trivial⟩ ?_
        rw [if_pos (by assumption)] at hres
        have e : mechE g l = ballErr g (l.take i) b := (if_neg (by assumption)).trans (by unfold ballsErr; rw [if_pos (by rw [hres]; assumption), hres])
        have o : mechO g l = ([], [], []) := by unfold mechO; rw [e]; exact if_pos (by assumption)
        rw [e, o]
        exact ⟨zeroR, rfl, zeroR_in _, zeroR_out⟩
      refine SL_nil ?_
      refine nx ?_
      refine SWP_cf rfl ?_
      refine SWP_skip ?_
      refine nx ?_
      refine SWP_region ?_
      refine lw (v := .agg _) B10 0 rfl rfl rfl rfl ?_
      refine sw (v := .agg _) B8 0 rfl rfl rfl rfl rfl rfl rfl ?_
      refine SL_nil ?_
      refine nb ?_
      refine nx ?_
      refine SWP_weak (List.sublist_cons_self _ _) ?_
      refine SWP_region ?_
      first | refine pI rfl rfl ?_ | refine pu rfl rfl ?_
      first | refine pw rfl rfl (w64 (by omega) (by omega)) ?_ | refine pu rfl rfl ?_
      refine pI rfl rfl ?_
      refine SL_nil ?_
      refine nx ?_
      refine ⟨by repeat (first | exact Under.upds rfl (Under.hav _ _ _) | exact Under.hav _ _ _ | refine Under.upd rfl ?_ | refine Under.upds rfl ?_ | refine Under.hav2 rfl ?_), ?_, ?_⟩
      · have hz9 : ballErr g (l.take i) b = 0 := Classical.not_not.1 (by assumption)
        refine ⟨i + 1, x2, rfl, by omega, hx2, ?_, ?_, ?_, ?_, rfl, hle.trans hl8_6⟩
        · rw [take_snocA hb]; exact ho2 hz9
        · intro a ha
          rw [take_snocA hb] at ha
          rcases List.mem_append.1 ha with ha | ha
          · exact hpre a ha
          · rw [List.mem_singleton.1 ha]; exact (ballErr_zero hz9).1
        · rw [hres, if_neg (by rw [hz9]; decide), take_snocA hb]
        · rw [take_snocA hb]; exact capOk_snoc hcap hz9
      · simp only [L_vals, List.map, List.getD]; show l.length - (i + 1) < l.length - i; omega
    exact True.intro
  refine SL_nil ?_
  refine nx ?_
  refine SWP_cf rfl ?_
  refine SWP_exit ?_
  refine ne ?_
  refine ne ?_
  refine be rfl ?_
  refine nx ?_
  have el : l.take i = l := List.take_of_length_le (by omega)
  have hd0 : l.drop i = [] := List.drop_eq_nil_of_le (by omega)
  have hz : ballsFrom g [] l = 0 := by rw [hres, hd0]; rfl
  rw [el] at ho hcap
  have g1 : cntD 1 l = x.main.length := by rw [ho.mn]; rfl
  have g2 : cntD 2 l = x.bonus.length := by rw [ho.bn]; rfl
  have g3 : cntD 3 l = x.extra.length := by rw [ho.xn]; rfl
  have c1 := cntD_le 1 l
  have c2 := cntD_le 2 l
  have c3 := cntD_le 3 l
  unfold capOk at hcap
  refine SWP_merge1 [5, 42, 43, 44, 45, 46, 47, 48, 49, 50, 51, 52, 53, 54, 55, 56, 57, 58, 59, 60, 61, 62, 63, 64] []
      (fun vs σ' m' => vs = [] ∧ fullB g l ∧ σ' = [(B8, Cells 30 x.enc), (B4, Cells 30 zeroR.enc), (B2, Cells 25 g.enc)] ∧ m' = m0)
      rfl ?_ ?_
  · skip
    refine SWP_seq ?_
    refine SWP_region ?_
    refine pu rfl rfl ?_
    refine lw (v := .slice _ _ _) B8 0 rfl rfl rfl rfl ?_
    refine pu rfl rfl ?_
    refine pu rfl rfl ?_
    refine lw (v := .int .i64 _) B2 3 rfl rfl rfl rfl ?_
    refine pc rfl rfl (fun c47 => ?_) (fun c47 => ?_)
    · skip
      refine pB rfl rfl ?_
      refine SL_no rfl rfl ?_
      refine SL_no rfl rfl ?_
      refine SL_no rfl rfl ?_
      refine SL_no rfl rfl ?_
      refine SL_no rfl rfl ?_
      refine SL_no rfl rfl ?_
      refine pB rfl rfl ?_
      refine pB rfl rfl ?_
      refine SL_no rfl rfl ?_
      refine SL_no rfl rfl ?_
      refine SL_no rfl rfl ?_
      refine SL_no rfl rfl ?_
      refine SL_no rfl rfl ?_
      refine SL_no rfl rfl ?_
      refine pB rfl rfl ?_
      refine SL_nil ?_
      refine nx ?_
      refine SWP_ct rfl ?_
      refine SWP_seq ?_
      refine SWP_region ?_
      refine pA rfl rfl ?_
      refine sw (v := .agg _) B4 0 rfl rfl rfl rfl rfl rfl rfl ?_
      refine pI rfl rfl ?_
      refine SL_nil ?_
      refine nx ?_
      refine SWP_ret ?_
      refine nr ?_
      refine fin [_, _] ⟨⟨_, _, rfl, Rd.of_cells (MemO.mem (B := B4)), rfl⟩, rfl, trivial⟩ ?_
      have e : mechE g l = 8 := (if_neg (by assumption)).trans (by unfold ballsErr; rw [if_neg (by rw [hz]; decide), if_neg (show ¬ fullB g l by unfold fullB; omega)])
      have o : mechO g l = ([], [], []) := by unfold mechO; rw [e]; exact if_pos (by decide)
      rw [e, o]
      exact ⟨zeroR, rfl, zeroR_in _, zeroR_out⟩
    refine pB rfl rfl ?_
    refine SL_yes rfl ?_
    refine pu rfl rfl ?_
    refine SL_yes rfl ?_
    refine lw (v := .slice _ _ _) B8 1 rfl rfl rfl rfl ?_
    refine SL_yes rfl ?_
    refine pu rfl rfl ?_
    refine SL_yes rfl ?_
    refine pu rfl rfl ?_
    refine SL_yes rfl ?_
    refine lw (v := .int .i64 _) B2 5 rfl rfl rfl rfl ?_
    refine SL_yes rfl ?_
    refine pc rfl rfl (fun c54 => ?_) (fun c54 => ?_)
    · skip
      refine pB rfl rfl ?_
      refine pB rfl rfl ?_
      refine SL_no rfl rfl ?_
      refine SL_no rfl rfl ?_
      refine SL_no rfl rfl ?_
      refine SL_no rfl rfl ?_
      refine SL_no rfl rfl ?_
      refine SL_no rfl rfl ?_
      refine pB rfl rfl ?_
      refine SL_nil ?_
      refine nx ?_
      refine SWP_ct rfl ?_
      refine SWP_seq ?_
      refine SWP_region ?_
      refine pA rfl rfl ?_
      refine sw (v := .agg _) B4 0 rfl rfl rfl rfl rfl rfl rfl ?_
      refine pI rfl rfl ?_
      refine SL_nil ?_
      refine nx ?_
      refine SWP_ret ?_
      refine nr ?_
      refine fin [_, _] ⟨⟨_, _, rfl, Rd.of_cells (MemO.mem (B := B4)), rfl⟩, rfl, trivial⟩ ?_
      have e : mechE g l = 8 := (if_neg (by assumption)).trans (by unfold ballsErr; rw [if_neg (by rw [hz]; decide), if_neg (show ¬ fullB g l by unfold fullB; omega)])
      have o : mechO g l = ([], [], []) := by unfold mechO; rw [e]; exact if_pos (by decide)
      rw [e, o]
      exact ⟨zeroR, rfl, zeroR_in _, zeroR_out⟩
    refine pB rfl rfl ?_
    refine pB rfl rfl ?_
    refine SL_yes rfl ?_
    refine pu rfl rfl ?_
    refine SL_yes rfl ?_
    refine lw (v := .slice _ _ _) B8 2 rfl rfl rfl rfl ?_
    refine SL_yes rfl ?_
    refine pu rfl rfl ?_
    refine SL_yes rfl ?_
    refine pu rfl rfl ?_
    refine SL_yes rfl ?_
    refine lw (v := .int .i64 _) B2 7 rfl rfl rfl rfl ?_
    refine SL_yes rfl ?_
    refine pc rfl rfl (fun c62 => ?_) (fun c62 => ?_)
    · skip
      refine pB rfl rfl ?_
      refine SL_nil ?_
      refine nx ?_
      refine SWP_ct rfl ?_
      refine SWP_seq ?_
      refine SWP_region ?_
      refine pA rfl rfl ?_
      refine sw (v := .agg _) B4 0 rfl rfl rfl rfl rfl rfl rfl ?_
      refine pI rfl rfl ?_
      refine SL_nil ?_
      refine nx ?_
      refine SWP_ret ?_
      refine nr ?_
      refine fin [_, _] ⟨⟨_, _, rfl, Rd.of_cells (MemO.mem (B := B4)), rfl⟩, rfl, trivial⟩ ?_
      have e : mechE g l = 8 := (if_neg (by assumption)).trans (by unfold ballsErr; rw [if_neg (by rw [hz]; decide), if_neg (show ¬ fullB g l by unfold fullB; omega)])
      have o : mechO g l = ([], [], []) := by unfold mechO; rw [e]; exact if_pos (by decide)
      rw [e, o]
      exact ⟨zeroR, rfl, zeroR_in _, zeroR_out⟩
    refine pB rfl rfl ?_
    refine SL_nil ?_
    refine nx ?_
    refine SWP_cf rfl ?_
    refine SWP_skip ?_
    refine nx ?_
    refine ⟨by repeat (first | with_reducible exact Under.refl _ _ | exact Under.upds rfl (Under.hav _ _ _) | exact Under.hav _ _ _ | refine Under.upd rfl ?_ | refine Under.upds rfl ?_ | refine Under.hav2 rfl ?_), ?_⟩
    exact ⟨rfl, ⟨by omega, by omega, by omega⟩, rfl, rfl⟩
  intro uM0 vM0 σM0 mM0 hM0 _
  obtain ⟨rfl, hfull, rfl, rfl⟩ := hM0
  dsimp only [Game.enc, Res.enc]
  refine SWP_seq ?_
  refine SWP_seq ?_
  refine SWP_region ?_
  refine pu rfl rfl ?_
  refine lw (v := .int .i64 _) B2 1 rfl rfl rfl rfl ?_
  refine pc rfl rfl (fun c67 => ?_) (fun c67 => ?_)
  · skip
    refine SL_nil ?_
    refine nx ?_
    refine SWP_ct rfl ?_
    refine SWP_tree [(B8, Cells 30 x.enc), (B4, Cells 30 zeroR.enc), (B2, Cells 25 g.enc)] 10 (.one 0 (.one 1 (.one 3 (.one 4 (.one 6 (.one 7 (.one 2 (.one 5 (.one 8 (.one 9 (.tail [10]))))))))))) (by kernel_rfl) (by kernel_rfl) (by repeat (first | exact Sub.refl _ | exact Sub.nil _ | refine Sub.cons2 _ ?_ | refine Sub.cons _ ?_)) ?_
    refine T1 rfl ?_
    refine pu rfl rfl ?_
    refine SL_nil ?_
    refine T1 rfl ?_
    refine lw (v := .slice _ _ _) B8 0 rfl rfl rfl rfl ?_
    refine SL_nil ?_
    refine T1 rfl ?_
    refine pu rfl rfl ?_
    refine SL_nil ?_
    refine T1 rfl ?_
    refine lw (v := .slice _ _ _) B8 1 rfl rfl rfl rfl ?_
    refine SL_nil ?_
    refine T1 rfl ?_
    refine pu rfl rfl ?_
    refine SL_nil ?_
    refine T1 rfl ?_
    refine lw (v := .slice _ _ _) B8 2 rfl rfl rfl rfl ?_
    refine SL_nil ?_
    refine T1 rfl ?_
    refine SL_call rfl rfl cb43 (CallsS.frame0 (sortedR (hx.mn.mono (Le.refl _)) (by omega))) rfl (fun v15_2 σ15_2 m15_2 hl15_2 hR15_2 => ?_)
    obtain ⟨σs15_2, rfl, rfl, hs15_2⟩ := hR15_2
    obtain ⟨as15_2, ks15_2, rfl⟩ := hs15_2.len
    refine SL_nil ?_
    refine T1 rfl ?_
    refine SL_call rfl rfl cb43 (CallsS.frame0 (sortedR (hx.bn.mono hl15_2) (by omega))) rfl (fun v15_5 σ15_5 m15_5 hl15_5 hR15_5 => ?_)
    obtain ⟨σs15_5, rfl, rfl, hs15_5⟩ := hR15_5
    obtain ⟨as15_5, ks15_5, rfl⟩ := hs15_5.len
    refine SL_nil ?_
    refine T1 rfl ?_
    refine SL_call rfl rfl cb43 (CallsS.frame0 (sortedR (hx.xn.mono (hl15_2.trans hl15_5)) (by omega))) rfl (fun v15_8 σ15_8 m15_8 hl15_8 hR15_8 => ?_)
    obtain ⟨σs15_8, rfl, rfl, hs15_8⟩ := hR15_8
    obtain ⟨as15_8, ks15_8, rfl⟩ := hs15_8.len
    refine SL_nil ?_
    refine T1 rfl ?_
    refine pA rfl rfl ?_
    refine SL_nil ?_
    refine TT ?_
    refine sw (v := .agg _) B8 0 rfl rfl rfl rfl rfl rfl rfl ?_
    refine SL_nil ?_
    refine on_ ?_
    refine nx ?_
    refine SWP_seq ?_
    refine SWP_region ?_
    refine lw (v := .agg _) B8 0 rfl rfl rfl rfl ?_
    refine sw (v := .agg _) B4 0 rfl rfl rfl rfl rfl rfl rfl ?_
    refine pI rfl rfl ?_
    refine SL_nil ?_
    refine nx ?_
    refine SWP_ret ?_
    refine fin [_, _] ⟨⟨_, _, rfl, Rd.of_cells (MemO.mem (B := B4)), rfl⟩, rfl, trivial⟩ ?_
    have e : mechE g l = 0 := (if_neg (by assumption)).trans (by unfold ballsErr; rw [if_neg (by rw [hz]; decide), if_pos hfull])
    have o : mechO g l = srtO l := by unfold mechO; rw [if_neg (by rw [e]; decide), if_pos (by assumption)]
    rw [e, o]
    refine ⟨⟨as15_2, ks15_2, _, as15_5, ks15_5, _, as15_8, ks15_8, _, 0, ⟨#[]⟩⟩, rfl, ⟨hs15_2.mono (hl15_5.trans hl15_8), hs15_5.mono hl15_8, hs15_8⟩, ⟨?_, ?_, ?_, rfl, rfl⟩⟩
    · rw [ho.mn]; rfl
    · rw [ho.bn]; rfl
    · rw [ho.xn]; rfl
  refine SL_nil ?_
  refine nx ?_
  refine SWP_cf rfl ?_
  refine SWP_skip ?_
  refine nx ?_
  refine SWP_seq ?_
  refine SWP_region ?_
  refine lw (v := .agg _) B8 0 rfl rfl rfl rfl ?_
  refine sw (v := .agg _) B4 0 rfl rfl rfl rfl rfl rfl rfl ?_
  refine pI rfl rfl ?_
  refine SL_nil ?_
  refine nx ?_
  refine SWP_ret ?_
  refine fin [_, _] ⟨⟨_, _, rfl, Rd.of_cells (MemO.mem (B := B4)), rfl⟩, rfl, trivial⟩ ?_
  have e : mechE g l = 0 := (if_neg (by assumption)).trans (by unfold ballsErr; rw [if_neg (by rw [hz]; decide), if_pos hfull])
  have o : mechO g l = rawO l := by unfold mechO; rw [if_neg (by rw [e]; decide), if_neg (by assumption)]
  rw [e, o]
  exact ⟨x, rfl, hx, ho⟩

end Go.Proofs.Ytnpnleapnbdllaa

