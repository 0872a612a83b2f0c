/- lotteryref30: against, Certify; the laws CertifyResults, CertifySame. -/
import Derived.Test.YtnpnleapnbdllaaCerB
namespace Go.Proofs.Ytnpnleapnbdllaa
open Eng

theorem dissB_ref {g : Game} {l : List Ball} {w : Int} {r x : Res} (hx : x.key = outKey (mechO g (ofB l w))) : dissB r.key (keyOf g l w) = true ↔ mechE g (ofB l w) ≠ 0 ∨ ¬ sameR x r := by
  show (!decide (mechE g (ofB l w) = 0) || !decide (outKey (mechO g (ofB l w)) = r.key)) = true ↔ _
  rw [Bool.or_eq_true, Bool.not_eq_true', Bool.not_eq_true', decide_eq_false_iff_not, decide_eq_false_iff_not, sameR_key, hx]
theorem winB_ref {q : Int} {g : Game} {l : List Ball} {w : Int} {x : Res} (hx : x.key = outKey (mechO g (ofB l w))) {K : List PK} : winB q K (keyOf g l w) = true ↔ mechE g (ofB l w) = 0 ∧ (K.length : Int) < 2 * (agreeN x.key K : Int) ∧ q ≤ (agreeN x.key K : Int) := by
  rw [hx]
  show (decide (mechE g (ofB l w) = 0) && decide ((K.length : Int) < 2 * (agreeN (outKey (mechO g (ofB l w))) K : Int) ∧ q ≤ (agreeN (outKey (mechO g (ofB l w))) K : Int))) = true ↔ _
  rw [Bool.and_eq_true, decide_eq_true_eq, decide_eq_true_eq]
theorem dissB_not (k : RK) (x : PK) : dissB k x = !agreeB k x := by
  show (!x.2.1 || !decide (x.2.2 = k)) = !(x.2.1 && decide (k = x.2.2))
  rw [Bool.not_and]
  congr 2
  exact decide_eq_decide.2 ⟨Eq.symm, Eq.symm⟩
theorem agree_diss (k : RK) : ∀ K : List PK, agreeN k K + (dissN k K).length = K.length
  | [] => rfl
  | x :: K => by
    have ih := agree_diss k K
    unfold agreeN dissN at *
    rw [List.length_map] at *
    have e := dissB_not k x
    by_cases h : agreeB k x = true
    · rw [h] at e
      rw [List.filter_cons_of_pos h, List.filter_cons_of_neg (by rw [e]; decide), List.length_cons, List.length_cons]; omega
    · rw [Bool.not_eq_true] at h
      rw [h] at e
      rw [List.filter_cons_of_neg (by rw [h]; decide), List.filter_cons_of_pos (by rw [e]; rfl), List.length_cons, List.length_cons]; omega

set_option maxRecDepth 100000 in
theorem againstR {m : Mem} {g : Game} {v : Value} {l : List Ball} (hin : g.In m) (h : RL m Ball.enc 3 v l) (hl : l.length ≤ 4000000) {wv : Value} (hw : RL m intE 1 wv (wits l)) {r : Res} (hr : r.In m) : CallsS Try.prog 28 [g.val, v, wv, r.val].toArray [] m fun u σ' m' => σ' = [] ∧ RL m' intE 1 u (dissN r.key (reps g l)) := by
  refine CallsS.ghost (R' := fun u σ' m' => ∃ σe τ, σ' = σe ++ τ ∧ OwnS 3 1 u ((dissN r.key (reps g l)).flatMap intE) σe) ?_ ?h2
  case h2 =>
    rintro u σ' m' ⟨σe, τ, rfl, hR⟩ g0 W hC
    obtain ⟨m2, h1, h2, h3⟩ := hR.freezeL (by omega) intE_len hC
    exact ⟨[], m2, h2.sublist (List.nil_sublist _), h1, rfl, h3⟩
  obtain ⟨pa, pcap, rfl⟩ := h.len
  obtain ⟨wa, wc, rfl⟩ := hw.len
  have hwl := wits_len l
  dsimp only [Game.val, Res.val]
  refine enter Try.func28 Try.ntmps28 rfl rfl ?_
  refine SWP_seq ?_
  refine SWP_region ?_
  refine bx (v := .agg _) rfl rfl (fun B4 => ?_)
  refine bx (v := .agg _) rfl rfl (fun B7 => ?_)
  refine pL rfl rfl ?_
  refine SL_nil ?_
  refine nx ?_
  refine SWP_seq ?_
  refine SWP_region ?_
  refine pL rfl rfl ?_
  refine SL_nil ?_
  refine nx ?_
  refine SWP_seq ?_
  refine SWP_seq ?_
  refine SWP_region ?_
  refine pI rfl rfl ?_
  refine SL_nil ?_
  refine nx ?_
  refine SWP_block ?_
  refine SWP_loop [9, 10, 11, 12, 13, 14, 15, 16, 17, 18, 19, 20, 21, 22, 23, 24, 25, 26, 27, 28, 29, 30, 31, 32, 33, 34, 35, 36, 37, 38, 39, 40, 41, 42, 43, 44] [9, 10]
      (fun vs σ' m' => ∃ (i : Nat) (w5 : Value) (σ1 : Sig), vs = [w5, .int .i64 (i : Nat)] ∧ i ≤ (wits l).length ∧ OwnS 3 1 w5 ((dissN r.key ((reps g l).take i)).flatMap intE) σ1 ∧ σ' = σ1 ++ [(B7, Cells 30 r.enc), (B4, Cells 25 g.enc)] ∧ Le m m')
      (fun vs => (wits l).length - nOf (vs.getD 1 undef)) rfl ?_ ?_
  · exact ⟨0, _, [], rfl, by omega, .nil, rfl, Le.refl _⟩
  intro u0 vs0 σ0 m0 hJ0 _
  obtain ⟨i, w5, σ1, rfl, hi, hown, rfl, hle⟩ := hJ0
  obtain ⟨wa9, wk9, rfl⟩ := hown.lenL (by omega) intE_len
  refine SWP_seq ?_
  refine SWP_seq ?_
  refine SWP_region ?_
  first | refine pI rfl rfl ?_ | refine pu rfl rfl ?_
  first | refine pL rfl rfl ?_ | refine pu rfl rfl ?_
  refine pu rfl rfl ?_
  refine pc rfl rfl (fun c16 => ?_) (fun c16 => ?_)
  · skip
    refine SL_nil ?_
    refine nx ?_
    refine SWP_ct rfl ?_
    refine SWP_skip ?_
    refine nx ?_
    refine SWP_seq ?_
    refine SWP_block ?_
    refine SWP_seq ?_
    obtain ⟨w, hwi⟩ : ∃ w, (wits l)[i]? = some w := ⟨_, List.getElem?_eq_getElem (by omega)⟩
    obtain ⟨ad, e1, _, hat⟩ := hw.atI hwi
    cases e1
    have hKi := reps_at (g := g) hwi
    refine SWP_tree (σ1 ++ [(B7, Cells 30 r.enc), (B4, Cells 25 g.enc)]) 14 (.one 0 (.one 1 (.one 2 (.one 3 (.one 4 (.one 5 (.fork (.alt 6 (.fork (.alt 7 (.one 8 (.one 9 (.one 10 (.one 11 (.one 12 (.one 13 (.fin))))))) (.alt 11 (.one 7 (.one 8 (.one 9 (.one 10 (.one 12 (.one 13 (.fin))))))) (.none)))) (.alt 11 (.one 6 (.one 7 (.one 8 (.one 9 (.one 10 (.one 12 (.one 13 (.fin)))))))) (.none)))))))))) (by kernel_rfl) (by kernel_rfl) (by repeat (first | exact Sub.refl _ | exact Sub.nil _ | refine Sub.cons2 _ ?_ | refine Sub.cons _ ?_)) ?_
    refine T1 rfl ?_
    refine lw (v := .agg _) B4 0 rfl rfl rfl rfl ?_
    refine SL_nil ?_
    refine T1 rfl ?_
    first | refine pL rfl rfl ?_ | refine pu rfl rfl ?_
    refine SL_nil ?_
    refine T1 rfl ?_
    first | refine pL rfl rfl ?_ | refine pu rfl rfl ?_
    refine SL_nil ?_
    refine T1 rfl ?_
    first | refine pI rfl rfl ?_ | refine pu rfl rfl ?_
    refine SL_nil ?_
    refine T1 rfl ?_
    first | refine ia (es := 1) rfl rfl rfl (Nat.mul_one _) rfl rfl (by omega) rfl ?_ | refine iai (es := 1) rfl rfl rfl (Nat.mul_one _) rfl rfl (by omega) (by omega) rfl ?_
    refine SL_nil ?_
    refine T1 rfl ?_
    refine ldA (v := .int .i64 w) rfl (hat.mono hle) rfl rfl ?_
    refine SL_nil ?_
    refine TF ?_
    refine TA rfl ?_ ?_
    · skip
      refine SL_call rfl rfl cb27 (CallsS.frame0 (refOf _ (h.mono hle) hl)) rfl (fun v5_6 σ5_6 m5_6 hl5_6 hR5_6 => ?_)
      obtain ⟨σo, rfl, rfl, ho⟩ := hR5_6
      refine SL_nil ?_
      refine TF ?_
      refine TA rfl ?_ ?_
      · skip
        refine SL_call rfl rfl cb26 (CallsS.frame0 (resultR (hin.mono (hle.trans hl5_6)) ho (Nat.le_trans (ofB_small l w) hl))) rfl (fun v5_7 σ5_7 m5_7 hl5_7 hR5_7 => ?_)
        obtain ⟨σr, rfl, rfl, x, rfl, hx, ox⟩ := hR5_7
        dsimp only [Res.val]
        refine SL_nil ?_
        refine T1 rfl ?_
        refine pu rfl rfl ?_
        refine SL_nil ?_
        refine T1 rfl ?_
        first | refine pA rfl rfl ?_ | refine pu rfl rfl ?_
        refine SL_nil ?_
        refine T1 rfl ?_
        first | refine pI rfl rfl ?_ | refine pu rfl rfl ?_
        refine SL_nil ?_
        refine T1 rfl ?_
        refine al rfl rfl (fun B11 => ?_)
        refine SL_nil ?_
        refine T1 rfl ?_
        refine sw (v := .agg _) B11 0 rfl rfl rfl rfl rfl rfl rfl ?_
        refine SL_nil ?_
        refine T1 rfl ?_
        first | refine pI rfl rfl ?_ | refine pu rfl rfl ?_
        refine SL_nil ?_
        refine nx ?_
        refine SWP_seq ?_
        refine SWP_region ?_
        first | refine pI rfl rfl ?_ | refine pu rfl rfl ?_
        refine pc rfl rfl (fun c31 => ?_) (fun c31 => ?_)
        · skip
          refine pB rfl rfl ?_
          refine SL_no rfl rfl ?_
          refine SL_no rfl rfl ?_
          refine SL_no rfl rfl ?_
          refine SL_no rfl rfl ?_
          refine pB rfl rfl ?_
          refine SL_nil ?_
          refine nx ?_
          refine SWP_ct rfl ?_
          refine SWP_region ?_
          first | refine pL rfl rfl ?_ | refine pu rfl rfl ?_
          first | refine pL rfl rfl ?_ | refine pu rfl rfl ?_
          first | refine pI rfl rfl ?_ | refine pu rfl rfl ?_
          first | refine ia (es := 1) rfl rfl rfl (Nat.mul_one _) rfl rfl (by omega) rfl ?_ | refine iai (es := 1) rfl rfl rfl (Nat.mul_one _) rfl rfl (by omega) (by omega) rfl ?_
          refine ldA (v := .int .i64 w) rfl (hat.mono (hle.trans (hl5_6.trans hl5_7))) rfl rfl ?_
          refine bs rfl rfl rfl rfl rfl (fun B43 => ?_)
          refine ap (e := 3) (size := 1) (bytes := 8) rfl rfl rfl rfl rfl rfl rfl hown (permX [_, _] σ1 _) rfl (Rd.of_cells (.head _)) rfl rfl (by have h1 := dissN_le r.key ((reps g l).take i); rw [List.length_take] at h1; have h2 := reps_len g l; rw [flatMap_len intE_len]; omega) rfl rfl (fun w9 σw howw => ?_)
          have hown9 : OwnS 3 1 w9 ((dissN r.key ((reps g l).take i) ++ [w]).flatMap intE) σw := by
            rw [List.flatMap_append]; exact howw
          refine SL_weak (List.Sublist.append_left (.cons _ (.cons _ (.refl _))) _) ?_
          first | refine pL rfl rfl ?_ | refine pu rfl rfl ?_
          refine SL_nil ?_
          refine nb ?_
          refine nx ?_
          refine SWP_region ?_
          first | refine pI rfl rfl ?_ | refine pu rfl rfl ?_
          first | refine pw rfl rfl (w64 (by omega) (by omega)) ?_ | refine pu rfl rfl ?_
          refine pI rfl rfl ?_
          refine SL_nil ?_
          refine nx ?_
          refine ⟨by repeat (first | exact Under.upds rfl (Under.hav _ _ _) | exact Under.hav _ _ _ | refine Under.upd rfl ?_), ?_, ?_⟩
          · have hlz := hle.trans (hl5_6.trans hl5_7)
            first
              | refine ⟨i + 1, _, σw, rfl, by omega, ?_, rfl, hlz⟩
                rw [dissN_snoc hKi]
                first
                  | (rw [if_pos ((dissB_ref ox.key).2 (.inl (by assumption)))]; exact hown9)
                  | (rw [if_pos ((dissB_ref ox.key).2 (.inr (by assumption)))]; exact hown9)
              | refine ⟨i + 1, _, σ1, rfl, by omega, ?_, rfl, hlz⟩
                rw [dissN_snoc hKi, if_neg (fun h => by rcases (dissB_ref ox.key).1 h with h | h <;> first | exact absurd h (by assumption) | exact h (by assumption))]
                exact hown
          · simp only [L_vals, List.map, List.getD]; show (wits l).length - (i + 1) < (wits l).length - i; omega
        refine pB rfl rfl ?_
        refine SL_yes rfl ?_
        refine lw (v := .agg _) B11 0 rfl rfl rfl rfl ?_
        refine SL_yes rfl ?_
        refine lw (v := .agg _) B7 0 rfl rfl rfl rfl ?_
        refine SL_yes rfl ?_
        refine SL_pcall rfl rfl cb12 (same30 (a := x) (b := r) hx (hr.mono (hle.trans (hl5_6.trans hl5_7)))) rfl ?_
        refine psp 35 rfl (fun c35 => ?_) (fun c35 => ?_)
        · skip
          refine SL_yes rfl ?_
          refine pB rfl rfl ?_
          refine pB rfl rfl ?_
          refine SL_nil ?_
          refine nx ?_
          refine SWP_cf rfl ?_
          refine SWP_skip ?_
          refine nb ?_
          refine nx ?_
          refine SWP_weak (List.sublist_cons_self _ _) ?_
          refine SWP_region ?_
          first | refine pI rfl rfl ?_ | refine pu rfl rfl ?_
          first | refine pw rfl rfl (w64 (by omega) (by omega)) ?_ | refine pu rfl rfl ?_
          refine pI rfl rfl ?_
          refine SL_nil ?_
          refine nx ?_
          refine ⟨by repeat (first | exact Under.upds rfl (Under.hav _ _ _) | exact Under.hav _ _ _ | refine Under.upd rfl ?_), ?_, ?_⟩
          · have hlz := hle.trans (hl5_6.trans hl5_7)
            first
              | refine ⟨i + 1, _, σw, rfl, by omega, ?_, rfl, hlz⟩
                rw [dissN_snoc hKi]
                first
                  | (rw [if_pos ((dissB_ref ox.key).2 (.inl (by assumption)))]; exact hown9)
                  | (rw [if_pos ((dissB_ref ox.key).2 (.inr (by assumption)))]; exact hown9)
              | refine ⟨i + 1, _, σ1, rfl, by omega, ?_, rfl, hlz⟩
                rw [dissN_snoc hKi, if_neg (fun h => by rcases (dissB_ref ox.key).1 h with h | h <;> first | exact absurd h (by assumption) | exact h (by assumption))]
                exact hown
          · simp only [L_vals, List.map, List.getD]; show (wits l).length - (i + 1) < (wits l).length - i; omega
        refine SL_yes rfl ?_
        refine pB rfl rfl ?_
        refine pB rfl rfl ?_
        refine SL_nil ?_
        refine nx ?_
        refine SWP_ct rfl ?_
        refine SWP_region ?_
        first | refine pL rfl rfl ?_ | refine pu rfl rfl ?_
        first | refine pL rfl rfl ?_ | refine pu rfl rfl ?_
        first | refine pI rfl rfl ?_ | refine pu rfl rfl ?_
        first | refine ia (es := 1) rfl rfl rfl (Nat.mul_one _) rfl rfl (by omega) rfl ?_ | refine iai (es := 1) rfl rfl rfl (Nat.mul_one _) rfl rfl (by omega) (by omega) rfl ?_
        refine ldA (v := .int .i64 w) rfl (hat.mono (hle.trans (hl5_6.trans hl5_7))) rfl rfl ?_
        refine bs rfl rfl rfl rfl rfl (fun B43 => ?_)
        refine ap (e := 3) (size := 1) (bytes := 8) rfl rfl rfl rfl rfl rfl rfl hown (permX [_, _] σ1 _) rfl (Rd.of_cells (.head _)) rfl rfl (by have h1 := dissN_le r.key ((reps g l).take i); rw [List.length_take] at h1; have h2 := reps_len g l; rw [flatMap_len intE_len]; omega) rfl rfl (fun w9 σw howw => ?_)
        have hown9 : OwnS 3 1 w9 ((dissN r.key ((reps g l).take i) ++ [w]).flatMap intE) σw := by
          rw [List.flatMap_append]; exact howw
        refine SL_weak (List.Sublist.append_left (.cons _ (.cons _ (.refl _))) _) ?_
        first | refine pL rfl rfl ?_ | refine pu rfl rfl ?_
        refine SL_nil ?_
        refine nb ?_
        refine nx ?_
        refine SWP_region ?_
        first | refine pI rfl rfl ?_ | refine pu rfl rfl ?_
        first | refine pw rfl rfl (w64 (by omega) (by omega)) ?_ | refine pu rfl rfl ?_
        refine pI rfl rfl ?_
        refine SL_nil ?_
        refine nx ?_
        refine ⟨by repeat (first | exact Under.upds rfl (Under.hav _ _ _) | exact Under.hav _ _ _ | refine Under.upd rfl ?_), ?_, ?_⟩
        · have hlz := hle.trans (hl5_6.trans hl5_7)
          first
            | refine ⟨i + 1, _, σw, rfl, by omega, ?_, rfl, hlz⟩
              rw [dissN_snoc hKi]
              first
                | (rw [if_pos ((dissB_ref ox.key).2 (.inl (by assumption)))]; exact hown9)
                | (rw [if_pos ((dissB_ref ox.key).2 (.inr (by assumption)))]; exact hown9)
            | refine ⟨i + 1, _, σ1, rfl, by omega, ?_, rfl, hlz⟩
              rw [dissN_snoc hKi, if_neg (fun h => by rcases (dissB_ref ox.key).1 h with h | h <;> first | exact absurd h (by assumption) | exact h (by assumption))]
              exact hown
        · simp only [L_vals, List.map, List.getD]; show (wits l).length - (i + 1) < (wits l).length - i; omega
      refine TA rfl ?_ ?_
      · skip
        refine al rfl rfl (fun B11 => ?_)
        refine SL_nil ?_
        refine T1 rfl ?_
        refine SL_call rfl rfl cb26 (CallsS.frame0 (resultR (hin.mono (hle.trans hl5_6)) ho (Nat.le_trans (ofB_small l w) hl))) rfl (fun v5_7 σ5_7 m5_7 hl5_7 hR5_7 => ?_)
        obtain ⟨σr, rfl, rfl, x, rfl, hx, ox⟩ := hR5_7
        dsimp only [Res.val]
        refine SL_nil ?_
        refine T1 rfl ?_
        refine pu rfl rfl ?_
        refine SL_nil ?_
        refine T1 rfl ?_
        first | refine pA rfl rfl ?_ | refine pu rfl rfl ?_
        refine SL_nil ?_
        refine T1 rfl ?_
        first | refine pI rfl rfl ?_ | refine pu rfl rfl ?_
        refine SL_nil ?_
        refine T1 rfl ?_
        refine sw (v := .agg _) B11 0 rfl rfl rfl rfl rfl rfl rfl ?_
        refine SL_nil ?_
        refine T1 rfl ?_
        first | refine pI rfl rfl ?_ | refine pu rfl rfl ?_
        refine SL_nil ?_
        refine nx ?_
        refine SWP_seq ?_
        refine SWP_region ?_
        first | refine pI rfl rfl ?_ | refine pu rfl rfl ?_
        refine pc rfl rfl (fun c31 => ?_) (fun c31 => ?_)
        · skip
          refine pB rfl rfl ?_
          refine SL_no rfl rfl ?_
          refine SL_no rfl rfl ?_
          refine SL_no rfl rfl ?_
          refine SL_no rfl rfl ?_
          refine pB rfl rfl ?_
          refine SL_nil ?_
          refine nx ?_
          refine SWP_ct rfl ?_
          refine SWP_region ?_
          first | refine pL rfl rfl ?_ | refine pu rfl rfl ?_
          first | refine pL rfl rfl ?_ | refine pu rfl rfl ?_
          first | refine pI rfl rfl ?_ | refine pu rfl rfl ?_
          first | refine ia (es := 1) rfl rfl rfl (Nat.mul_one _) rfl rfl (by omega) rfl ?_ | refine iai (es := 1) rfl rfl rfl (Nat.mul_one _) rfl rfl (by omega) (by omega) rfl ?_
          refine ldA (v := .int .i64 w) rfl (hat.mono (hle.trans (hl5_6.trans hl5_7))) rfl rfl ?_
          refine bs rfl rfl rfl rfl rfl (fun B43 => ?_)
          refine ap (e := 3) (size := 1) (bytes := 8) rfl rfl rfl rfl rfl rfl rfl hown (permX [_, _] σ1 _) rfl (Rd.of_cells (.head _)) rfl rfl (by have h1 := dissN_le r.key ((reps g l).take i); rw [List.length_take] at h1; have h2 := reps_len g l; rw [flatMap_len intE_len]; omega) rfl rfl (fun w9 σw howw => ?_)
          have hown9 : OwnS 3 1 w9 ((dissN r.key ((reps g l).take i) ++ [w]).flatMap intE) σw := by
            rw [List.flatMap_append]; exact howw
          refine SL_weak (List.Sublist.append_left (.cons _ (.cons _ (.refl _))) _) ?_
          first | refine pL rfl rfl ?_ | refine pu rfl rfl ?_
          refine SL_nil ?_
          refine nb ?_
          refine nx ?_
          refine SWP_region ?_
          first | refine pI rfl rfl ?_ | refine pu rfl rfl ?_
          first | refine pw rfl rfl (w64 (by omega) (by omega)) ?_ | refine pu rfl rfl ?_
          refine pI rfl rfl ?_
          refine SL_nil ?_
          refine nx ?_
          refine ⟨by repeat (first | exact Under.upds rfl (Under.hav _ _ _) | exact Under.hav _ _ _ | refine Under.upd rfl ?_), ?_, ?_⟩
          · have hlz := hle.trans (hl5_6.trans hl5_7)
            first
              | refine ⟨i + 1, _, σw, rfl, by omega, ?_, rfl, hlz⟩
                rw [dissN_snoc hKi]
                first
                  | (rw [if_pos ((dissB_ref ox.key).2 (.inl (by assumption)))]; exact hown9)
                  | (rw [if_pos ((dissB_ref ox.key).2 (.inr (by assumption)))]; exact hown9)
              | refine ⟨i + 1, _, σ1, rfl, by omega, ?_, rfl, hlz⟩
                rw [dissN_snoc hKi, if_neg (fun h => by rcases (dissB_ref ox.key).1 h with h | h <;> first | exact absurd h (by assumption) | exact h (by assumption))]
                exact hown
          · simp only [L_vals, List.map, List.getD]; show (wits l).length - (i + 1) < (wits l).length - i; omega
        refine pB rfl rfl ?_
        refine SL_yes rfl ?_
        refine lw (v := .agg _) B11 0 rfl rfl rfl rfl ?_
        refine SL_yes rfl ?_
        refine lw (v := .agg _) B7 0 rfl rfl rfl rfl ?_
        refine SL_yes rfl ?_
        refine SL_pcall rfl rfl cb12 (same30 (a := x) (b := r) hx (hr.mono (hle.trans (hl5_6.trans hl5_7)))) rfl ?_
        refine psp 35 rfl (fun c35 => ?_) (fun c35 => ?_)
        · skip
          refine SL_yes rfl ?_
          refine pB rfl rfl ?_
          refine pB rfl rfl ?_
          refine SL_nil ?_
          refine nx ?_
          refine SWP_cf rfl ?_
          refine SWP_skip ?_
          refine nb ?_
          refine nx ?_
          refine SWP_weak (List.sublist_cons_self _ _) ?_
          refine SWP_region ?_
          first | refine pI rfl rfl ?_ | refine pu rfl rfl ?_
          first | refine pw rfl rfl (w64 (by omega) (by omega)) ?_ | refine pu rfl rfl ?_
          refine pI rfl rfl ?_
          refine SL_nil ?_
          refine nx ?_
          refine ⟨by repeat (first | exact Under.upds rfl (Under.hav _ _ _) | exact Under.hav _ _ _ | refine Under.upd rfl ?_), ?_, ?_⟩
          · have hlz := hle.trans (hl5_6.trans hl5_7)
            first
              | refine ⟨i + 1, _, σw, rfl, by omega, ?_, rfl, hlz⟩
                rw [dissN_snoc hKi]
                first
                  | (rw [if_pos ((dissB_ref ox.key).2 (.inl (by assumption)))]; exact hown9)
                  | (rw [if_pos ((dissB_ref ox.key).2 (.inr (by assumption)))]; exact hown9)
              | refine ⟨i + 1, _, σ1, rfl, by omega, ?_, rfl, hlz⟩
                rw [dissN_snoc hKi, if_neg (fun h => by rcases (dissB_ref ox.key).1 h with h | h <;> first | exact absurd h (by assumption) | exact h (by assumption))]
                exact hown
          · simp only [L_vals, List.map, List.getD]; show (wits l).length - (i + 1) < (wits l).length - i; omega
        refine SL_yes rfl ?_
        refine pB rfl rfl ?_
        refine pB rfl rfl ?_
        refine SL_nil ?_
        refine nx ?_
        refine SWP_ct rfl ?_
        refine SWP_region ?_
        first | refine pL rfl rfl ?_ | refine pu rfl rfl ?_
        first | refine pL rfl rfl ?_ | refine pu rfl rfl ?_
        first | refine pI rfl rfl ?_ | refine pu rfl rfl ?_
        first | refine ia (es := 1) rfl rfl rfl (Nat.mul_one _) rfl rfl (by omega) rfl ?_ | refine iai (es := 1) rfl rfl rfl (Nat.mul_one _) rfl rfl (by omega) (by omega) rfl ?_
        refine ldA (v := .int .i64 w) rfl (hat.mono (hle.trans (hl5_6.trans hl5_7))) rfl rfl ?_
        refine bs rfl rfl rfl rfl rfl (fun B43 => ?_)
        refine ap (e := 3) (size := 1) (bytes := 8) rfl rfl rfl rfl rfl rfl rfl hown (permX [_, _] σ1 _) rfl (Rd.of_cells (.head _)) rfl rfl (by have h1 := dissN_le r.key ((reps g l).take i); rw [List.length_take] at h1; have h2 := reps_len g l; rw [flatMap_len intE_len]; omega) rfl rfl (fun w9 σw howw => ?_)
        have hown9 : OwnS 3 1 w9 ((dissN r.key ((reps g l).take i) ++ [w]).flatMap intE) σw := by
          rw [List.flatMap_append]; exact howw
        refine SL_weak (List.Sublist.append_left (.cons _ (.cons _ (.refl _))) _) ?_
        first | refine pL rfl rfl ?_ | refine pu rfl rfl ?_
        refine SL_nil ?_
        refine nb ?_
        refine nx ?_
        refine SWP_region ?_
        first | refine pI rfl rfl ?_ | refine pu rfl rfl ?_
        first | refine pw rfl rfl (w64 (by omega) (by omega)) ?_ | refine pu rfl rfl ?_
        refine pI rfl rfl ?_
        refine SL_nil ?_
        refine nx ?_
        refine ⟨by repeat (first | exact Under.upds rfl (Under.hav _ _ _) | exact Under.hav _ _ _ | refine Under.upd rfl ?_), ?_, ?_⟩
        · have hlz := hle.trans (hl5_6.trans hl5_7)
          first
            | refine ⟨i + 1, _, σw, rfl, by omega, ?_, rfl, hlz⟩
              rw [dissN_snoc hKi]
              first
                | (rw [if_pos ((dissB_ref ox.key).2 (.inl (by assumption)))]; exact hown9)
                | (rw [if_pos ((dissB_ref ox.key).2 (.inr (by assumption)))]; exact hown9)
            | refine ⟨i + 1, _, σ1, rfl, by omega, ?_, rfl, hlz⟩
              rw [dissN_snoc hKi, if_neg (fun h => by rcases (dissB_ref ox.key).1 h with h | h <;> first | exact absurd h (by assumption) | exact h (by assumption))]
              exact hown
        · simp only [L_vals, List.map, List.getD]; show (wits l).length - (i + 1) < (wits l).length - i; omega
      exact True.intro
    refine TA rfl ?_ ?_
    · skip
      refine al rfl rfl (fun B11 => ?_)
      refine SL_nil ?_
      refine T1 rfl ?_
      refine SL_call rfl rfl cb27 (CallsS.frame0 (refOf _ (h.mono hle) hl)) rfl (fun v5_6 σ5_6 m5_6 hl5_6 hR5_6 => ?_)
      obtain ⟨σo, rfl, rfl, ho⟩ := hR5_6
      refine SL_nil ?_
      refine T1 rfl ?_
      refine SL_call rfl rfl cb26 (CallsS.frame0 (resultR (hin.mono (hle.trans hl5_6)) ho (Nat.le_trans (ofB_small l w) hl))) rfl (fun v5_7 σ5_7 m5_7 hl5_7 hR5_7 => ?_)
      obtain ⟨σr, rfl, rfl, x, rfl, hx, ox⟩ := hR5_7
      dsimp only [Res.val]
      refine SL_nil ?_
      refine T1 rfl ?_
      refine pu rfl rfl ?_
      refine SL_nil ?_
      refine T1 rfl ?_
      first | refine pA rfl rfl ?_ | refine pu rfl rfl ?_
      refine SL_nil ?_
      refine T1 rfl ?_
      first | refine pI rfl rfl ?_ | refine pu rfl rfl ?_
      refine SL_nil ?_
      refine T1 rfl ?_
      refine sw (v := .agg _) B11 0 rfl rfl rfl rfl rfl rfl rfl ?_
      refine SL_nil ?_
      refine T1 rfl ?_
      first | refine pI rfl rfl ?_ | refine pu rfl rfl ?_
      refine SL_nil ?_
      refine nx ?_
      refine SWP_seq ?_
      refine SWP_region ?_
      first | refine pI rfl rfl ?_ | refine pu rfl rfl ?_
      refine pc rfl rfl (fun c31 => ?_) (fun c31 => ?_)
      · skip
        refine pB rfl rfl ?_
        refine SL_no rfl rfl ?_
        refine SL_no rfl rfl ?_
        refine SL_no rfl rfl ?_
        refine SL_no rfl rfl ?_
        refine pB rfl rfl ?_
        refine SL_nil ?_
        refine nx ?_
        refine SWP_ct rfl ?_
        refine SWP_region ?_
        first | refine pL rfl rfl ?_ | refine pu rfl rfl ?_
        first | refine pL rfl rfl ?_ | refine pu rfl rfl ?_
        first | refine pI rfl rfl ?_ | refine pu rfl rfl ?_
        first | refine ia (es := 1) rfl rfl rfl (Nat.mul_one _) rfl rfl (by omega) rfl ?_ | refine iai (es := 1) rfl rfl rfl (Nat.mul_one _) rfl rfl (by omega) (by omega) rfl ?_
        refine ldA (v := .int .i64 w) rfl (hat.mono (hle.trans (hl5_6.trans hl5_7))) rfl rfl ?_
        refine bs rfl rfl rfl rfl rfl (fun B43 => ?_)
        refine ap (e := 3) (size := 1) (bytes := 8) rfl rfl rfl rfl rfl rfl rfl hown (permX [_, _] σ1 _) rfl (Rd.of_cells (.head _)) rfl rfl (by have h1 := dissN_le r.key ((reps g l).take i); rw [List.length_take] at h1; have h2 := reps_len g l; rw [flatMap_len intE_len]; omega) rfl rfl (fun w9 σw howw => ?_)
        have hown9 : OwnS 3 1 w9 ((dissN r.key ((reps g l).take i) ++ [w]).flatMap intE) σw := by
          rw [List.flatMap_append]; exact howw
        refine SL_weak (List.Sublist.append_left (.cons _ (.cons _ (.refl _))) _) ?_
        first | refine pL rfl rfl ?_ | refine pu rfl rfl ?_
        refine SL_nil ?_
        refine nb ?_
        refine nx ?_
        refine SWP_region ?_
        first | refine pI rfl rfl ?_ | refine pu rfl rfl ?_
        first | refine pw rfl rfl (w64 (by omega) (by omega)) ?_ | refine pu rfl rfl ?_
        refine pI rfl rfl ?_
        refine SL_nil ?_
        refine nx ?_
        refine ⟨by repeat (first | exact Under.upds rfl (Under.hav _ _ _) | exact Under.hav _ _ _ | refine Under.upd rfl ?_), ?_, ?_⟩
        · have hlz := hle.trans (hl5_6.trans hl5_7)
          first
            | refine ⟨i + 1, _, σw, rfl, by omega, ?_, rfl, hlz⟩
              rw [dissN_snoc hKi]
              first
                | (rw [if_pos ((dissB_ref ox.key).2 (.inl (by assumption)))]; exact hown9)
                | (rw [if_pos ((dissB_ref ox.key).2 (.inr (by assumption)))]; exact hown9)
            | refine ⟨i + 1, _, σ1, rfl, by omega, ?_, rfl, hlz⟩
              rw [dissN_snoc hKi, if_neg (fun h => by rcases (dissB_ref ox.key).1 h with h | h <;> first | exact absurd h (by assumption) | exact h (by assumption))]
              exact hown
        · simp only [L_vals, List.map, List.getD]; show (wits l).length - (i + 1) < (wits l).length - i; omega
      refine pB rfl rfl ?_
      refine SL_yes rfl ?_
      refine lw (v := .agg _) B11 0 rfl rfl rfl rfl ?_
      refine SL_yes rfl ?_
      refine lw (v := .agg _) B7 0 rfl rfl rfl rfl ?_
      refine SL_yes rfl ?_
      refine SL_pcall rfl rfl cb12 (same30 (a := x) (b := r) hx (hr.mono (hle.trans (hl5_6.trans hl5_7)))) rfl ?_
      refine psp 35 rfl (fun c35 => ?_) (fun c35 => ?_)
      · skip
        refine SL_yes rfl ?_
        refine pB rfl rfl ?_
        refine pB rfl rfl ?_
        refine SL_nil ?_
        refine nx ?_
        refine SWP_cf rfl ?_
        refine SWP_skip ?_
        refine nb ?_
        refine nx ?_
        refine SWP_weak (List.sublist_cons_self _ _) ?_
        refine SWP_region ?_
        first | refine pI rfl rfl ?_ | refine pu rfl rfl ?_
        first | refine pw rfl rfl (w64 (by omega) (by omega)) ?_ | refine pu rfl rfl ?_
        refine pI rfl rfl ?_
        refine SL_nil ?_
        refine nx ?_
        refine ⟨by repeat (first | exact Under.upds rfl (Under.hav _ _ _) | exact Under.hav _ _ _ | refine Under.upd rfl ?_), ?_, ?_⟩
        · have hlz := hle.trans (hl5_6.trans hl5_7)
          first
            | refine ⟨i + 1, _, σw, rfl, by omega, ?_, rfl, hlz⟩
              rw [dissN_snoc hKi]
              first
                | (rw [if_pos ((dissB_ref ox.key).2 (.inl (by assumption)))]; exact hown9)
                | (rw [if_pos ((dissB_ref ox.key).2 (.inr (by assumption)))]; exact hown9)
            | refine ⟨i + 1, _, σ1, rfl, by omega, ?_, rfl, hlz⟩
              rw [dissN_snoc hKi, if_neg (fun h => by rcases (dissB_ref ox.key).1 h with h | h <;> first | exact absurd h (by assumption) | exact h (by assumption))]
              exact hown
        · simp only [L_vals, List.map, List.getD]; show (wits l).length - (i + 1) < (wits l).length - i; omega
      refine SL_yes rfl ?_
      refine pB rfl rfl ?_
      refine pB rfl rfl ?_
      refine SL_nil ?_
      refine nx ?_
      refine SWP_ct rfl ?_
      refine SWP_region ?_
      first | refine pL rfl rfl ?_ | refine pu rfl rfl ?_
      first | refine pL rfl rfl ?_ | refine pu rfl rfl ?_
      first | refine pI rfl rfl ?_ | refine pu rfl rfl ?_
      first | refine ia (es := 1) rfl rfl rfl (Nat.mul_one _) rfl rfl (by omega) rfl ?_ | refine iai (es := 1) rfl rfl rfl (Nat.mul_one _) rfl rfl (by omega) (by omega) rfl ?_
      refine ldA (v := .int .i64 w) rfl (hat.mono (hle.trans (hl5_6.trans hl5_7))) rfl rfl ?_
      refine bs rfl rfl rfl rfl rfl (fun B43 => ?_)
      refine ap (e := 3) (size := 1) (bytes := 8) rfl rfl rfl rfl rfl rfl rfl hown (permX [_, _] σ1 _) rfl (Rd.of_cells (.head _)) rfl rfl (by have h1 := dissN_le r.key ((reps g l).take i); rw [List.length_take] at h1; have h2 := reps_len g l; rw [flatMap_len intE_len]; omega) rfl rfl (fun w9 σw howw => ?_)
      have hown9 : OwnS 3 1 w9 ((dissN r.key ((reps g l).take i) ++ [w]).flatMap intE) σw := by
        rw [List.flatMap_append]; exact howw
      refine SL_weak (List.Sublist.append_left (.cons _ (.cons _ (.refl _))) _) ?_
      first | refine pL rfl rfl ?_ | refine pu rfl rfl ?_
      refine SL_nil ?_
      refine nb ?_
      refine nx ?_
      refine SWP_region ?_
      first | refine pI rfl rfl ?_ | refine pu rfl rfl ?_
      first | refine pw rfl rfl (w64 (by omega) (by omega)) ?_ | refine pu rfl rfl ?_
      refine pI rfl rfl ?_
      refine SL_nil ?_
      refine nx ?_
      refine ⟨by repeat (first | exact Under.upds rfl (Under.hav _ _ _) | exact Under.hav _ _ _ | refine Under.upd rfl ?_), ?_, ?_⟩
      · have hlz := hle.trans (hl5_6.trans hl5_7)
        first
          | refine ⟨i + 1, _, σw, rfl, by omega, ?_, rfl, hlz⟩
            rw [dissN_snoc hKi]
            first
              | (rw [if_pos ((dissB_ref ox.key).2 (.inl (by assumption)))]; exact hown9)
              | (rw [if_pos ((dissB_ref ox.key).2 (.inr (by assumption)))]; exact hown9)
          | refine ⟨i + 1, _, σ1, rfl, by omega, ?_, rfl, hlz⟩
            rw [dissN_snoc hKi, if_neg (fun h => by rcases (dissB_ref ox.key).1 h with h | h <;> first | exact absurd h (by assumption) | exact h (by assumption))]
            exact hown
      · simp only [L_vals, List.map, List.getD]; show (wits l).length - (i + 1) < (wits l).length - i; omega
    exact True.intro
  refine SL_nil ?_
  refine nx ?_
  refine SWP_cf rfl ?_
  refine SWP_exit ?_
  refine ne ?_
  refine ne ?_
  refine be rfl ?_
  refine nx ?_
  refine SWP_seq ?_
  refine SWP_region ?_
  first | refine pL rfl rfl ?_ | refine pu rfl rfl ?_
  first | refine pL rfl rfl ?_ | refine pu rfl rfl ?_
  refine SL_nil ?_
  refine nx ?_
  refine SWP_ret ?_
  refine fin [_] ⟨rfl, trivial⟩ ?_
  obtain rfl : i = (wits l).length := by omega
  have eK : (reps g l).take (wits l).length = reps g l := List.take_of_length_le (by unfold reps; rw [List.length_map]; exact Nat.le_refl _)
  refine ⟨σ1, _, rfl, ?_⟩
  show OwnS 3 1 (.slice wa9 (dissN r.key ((reps g l).take (wits l).length)).length wk9) ((dissN r.key (reps g l)).flatMap intE) σ1
  rw [eK] at hown ⊢
  exact hown

set_option maxRecDepth 100000 in
theorem certR {m : Mem} {g : Game} {v : Value} {l : List Ball} (hin : g.In m) (h : RL m Ball.enc 3 v l) (hl : l.length ≤ 4000000) (q : Int) : CallsS Try.prog 11 [g.val, v, .int .i64 q].toArray [] m fun r σ' m' => σ' = [] ∧ CertOf r m' (certF g l q) := by
  refine CallsS.ghost (R' := fun r σ' m' => CertOf r m' (certF g l q)) ?_ ?h2
  case h2 =>
    intro r σ' m' hR g0 W hC
    exact ⟨[], m', hC.sublist (List.nil_sublist _), Le.refl _, rfl, hR⟩
  obtain ⟨pa, pcap, rfl⟩ := h.len
  dsimp only [Game.val]
  refine enter Try.func11 Try.ntmps11 rfl rfl ?_
  refine SWP_seq ?_
  refine SWP_region ?_
  refine bx (v := .agg _) rfl rfl (fun B3 => ?_)
  refine al rfl rfl (fun B6 => ?_)
  refine pL rfl rfl ?_
  refine pI rfl rfl ?_
  refine SL_nil ?_
  refine nx ?_
  refine SWP_seq ?_
  refine SWP_region ?_
  refine lw (v := .agg _) B3 0 rfl rfl rfl rfl ?_
  refine SL_call rfl rfl cb24 (CallsS.frame0 (checkR hin)) rfl (fun v1_1 σ1_1 m1_1 hl1_1 hR1_1 => ?_)
  obtain ⟨σc, rfl, rfl, hm1_1, s, rfl⟩ := hR1_1
  have hn1_1 := hm1_1.symm
  subst hn1_1
  refine pu rfl rfl ?_
  first | refine pI rfl rfl ?_ | refine pu rfl rfl ?_
  first | refine pS rfl rfl ?_ | refine pu rfl rfl ?_
  first | refine pI rfl rfl ?_ | refine pu rfl rfl ?_
  first | refine pS rfl rfl ?_ | refine pu rfl rfl ?_
  refine SL_nil ?_
  refine nx ?_
  refine SWP_seq ?_
  refine SWP_seq ?_
  refine SWP_region ?_
  first | refine pI rfl rfl ?_ | refine pu rfl rfl ?_
  refine pc rfl rfl (fun c23 => ?_) (fun c23 => ?_)
  · skip
    refine SL_nil ?_
    refine nx ?_
    refine SWP_ct rfl ?_
    refine SWP_seq ?_
    refine SWP_region ?_
    refine pA rfl rfl ?_
    first | refine pI rfl rfl ?_ | refine pu rfl rfl ?_
    refine sw (v := .agg _) B6 0 rfl rfl rfl rfl rfl rfl rfl ?_
    refine pL rfl rfl ?_
    first | refine pI rfl rfl ?_ | refine pu rfl rfl ?_
    refine SL_nil ?_
    refine nx ?_
    refine SWP_ret ?_
    refine nr ?_
    refine fin [_, _, _] ⟨⟨_, _, rfl, Rd.of_cells (MemO.mem (B := B6)), rfl⟩, rfl, rfl, trivial⟩ ?_
    rw [certF_err (by assumption)]
    exact ⟨zeroR, _, rfl, zeroR_in _, rfl, RL.nil _ _⟩
  refine SL_nil ?_
  refine nx ?_
  refine SWP_cf rfl ?_
  refine SWP_skip ?_
  refine nx ?_
  refine SWP_seq ?_
  refine SWP_seq ?_
  refine SWP_region ?_
  first | refine pI rfl rfl ?_ | refine pu rfl rfl ?_
  refine pc rfl rfl (fun c27 => ?_) (fun c27 => ?_)
  · skip
    refine pB rfl rfl ?_
    refine SL_no rfl rfl ?_
    refine SL_no rfl rfl ?_
    refine pB rfl rfl ?_
    refine SL_nil ?_
    refine nx ?_
    refine SWP_ct rfl ?_
    refine SWP_seq ?_
    refine SWP_region ?_
    refine pA rfl rfl ?_
    refine sw (v := .agg _) B6 0 rfl rfl rfl rfl rfl rfl rfl ?_
    refine pL rfl rfl ?_
    refine pI rfl rfl ?_
    refine SL_nil ?_
    refine nx ?_
    refine SWP_ret ?_
    refine nr ?_
    refine fin [_, _, _] ⟨⟨_, _, rfl, Rd.of_cells (MemO.mem (B := B6)), rfl⟩, rfl, rfl, trivial⟩ ?_
    rw [certF_rng (by assumption) (by omega)]
    exact ⟨zeroR, _, rfl, zeroR_in _, rfl, RL.nil _ _⟩
  refine pB rfl rfl ?_
  refine SL_yes rfl ?_
  first | refine pI rfl rfl ?_ | refine pu rfl rfl ?_
  refine SL_yes rfl ?_
  refine pc rfl rfl (fun c30 => ?_) (fun c30 => ?_)
  · skip
    refine pB rfl rfl ?_
    refine SL_nil ?_
    refine nx ?_
    refine SWP_ct rfl ?_
    refine SWP_seq ?_
    refine SWP_region ?_
    refine pA rfl rfl ?_
    refine sw (v := .agg _) B6 0 rfl rfl rfl rfl rfl rfl rfl ?_
    refine pL rfl rfl ?_
    refine pI rfl rfl ?_
    refine SL_nil ?_
    refine nx ?_
    refine SWP_ret ?_
    refine nr ?_
    refine fin [_, _, _] ⟨⟨_, _, rfl, Rd.of_cells (MemO.mem (B := B6)), rfl⟩, rfl, rfl, trivial⟩ ?_
    rw [certF_rng (by assumption) (by omega)]
    exact ⟨zeroR, _, rfl, zeroR_in _, rfl, RL.nil _ _⟩
  refine pB rfl rfl ?_
  refine SL_nil ?_
  refine nx ?_
  refine SWP_cf rfl ?_
  refine SWP_skip ?_
  refine nx ?_
  refine SWP_seq ?_
  refine SWP_region ?_
  first | refine pL rfl rfl ?_ | refine pu rfl rfl ?_
  refine SL_call rfl rfl cb25 (CallsS.frame0 (refWits h hl)) rfl (fun v6_1 σ6_1 m6_1 hl6_1 hR6_1 => ?_)
  obtain ⟨σw, rfl, rfl, hw⟩ := hR6_1
  have hwl := wits_len l
  obtain ⟨wa, wc, rfl⟩ := hw.len
  first | refine pL rfl rfl ?_ | refine pu rfl rfl ?_
  refine SL_nil ?_
  refine nx ?_
  refine SWP_seq ?_
  refine SWP_seq ?_
  refine SWP_region ?_
  refine pI rfl rfl ?_
  refine SL_nil ?_
  refine nx ?_
  refine SWP_block ?_
  refine SWP_loop [7, 8, 12, 13, 14, 15, 16, 35, 36, 37, 38, 39, 40, 41, 42, 43, 44, 45, 46, 47, 48, 49, 50, 51, 52, 53, 54, 55, 56, 57, 58, 59, 60, 61, 62, 63, 64, 65, 66, 67, 68, 69, 70, 71, 72, 73, 74, 75] [12]
      (fun vs σ' m' => ∃ (i : Nat), vs = [.int .i64 (i : Nat)] ∧ i ≤ (wits l).length ∧ (∀ j a, j < i → (reps g l)[j]? = some a → winB q (reps g l) a = false) ∧ σ' = [(B6, Cells 30 zeroR.enc), (B3, Cells 25 g.enc)] ∧ Le m6_1 m')
      (fun vs => (wits l).length - nOf (vs.getD 0 undef)) rfl ?_ ?_
  · exact ⟨0, rfl, by omega, fun j a hj => (by omega), rfl, Le.refl _⟩
  intro u0 vs0 σ0 m0 hJ0 _
  obtain ⟨i, rfl, hi, hno, rfl, hle⟩ := hJ0
  refine SWP_seq ?_
  refine SWP_seq ?_
  refine SWP_region ?_
  first | refine pI rfl rfl ?_ | refine pu rfl rfl ?_
  first | refine pL rfl rfl ?_ | refine pu rfl rfl ?_
  refine pu rfl rfl ?_
  refine pc rfl rfl (fun c38 => ?_) (fun c38 => ?_)
  · skip
    refine SL_nil ?_
    refine nx ?_
    refine SWP_ct rfl ?_
    refine SWP_skip ?_
    refine nx ?_
    refine SWP_seq ?_
    refine SWP_block ?_
    refine SWP_seq ?_
    obtain ⟨w, hwi⟩ : ∃ w, (wits l)[i]? = some w := ⟨_, List.getElem?_eq_getElem (by omega)⟩
    obtain ⟨ad, e1, _, hat⟩ := (hw.mono hle).atI hwi
    cases e1
    have hKi := reps_at (g := g) hwi
    refine SWP_tree [(B6, Cells 30 zeroR.enc), (B3, Cells 25 g.enc)] 14 (.one 0 (.one 1 (.one 2 (.one 3 (.one 4 (.one 5 (.fork (.alt 6 (.fork (.alt 7 (.one 8 (.one 9 (.one 10 (.one 11 (.one 12 (.one 13 (.fin))))))) (.alt 11 (.one 7 (.one 8 (.one 9 (.one 10 (.one 12 (.one 13 (.fin))))))) (.none)))) (.alt 11 (.one 6 (.one 7 (.one 8 (.one 9 (.one 10 (.one 12 (.one 13 (.fin)))))))) (.none)))))))))) (by kernel_rfl) (by kernel_rfl) (by repeat (first | exact Sub.refl _ | exact Sub.nil _ | refine Sub.cons2 _ ?_ | refine Sub.cons _ ?_)) ?_
    refine T1 rfl ?_
    refine lw (v := .agg _) B3 0 rfl rfl rfl rfl ?_
    refine SL_nil ?_
    refine T1 rfl ?_
    first | refine pL rfl rfl ?_ | refine pu rfl rfl ?_
    refine SL_nil ?_
    refine T1 rfl ?_
    first | refine pL rfl rfl ?_ | refine pu rfl rfl ?_
    refine SL_nil ?_
    refine T1 rfl ?_
    first | refine pI rfl rfl ?_ | refine pu rfl rfl ?_
    refine SL_nil ?_
    refine T1 rfl ?_
    first | refine ia (es := 1) rfl rfl rfl (Nat.mul_one _) rfl rfl (by omega) rfl ?_ | refine iai (es := 1) rfl rfl rfl (Nat.mul_one _) rfl rfl (by omega) (by omega) rfl ?_
    refine SL_nil ?_
    refine T1 rfl ?_
    refine ldA (v := .int .i64 w) rfl hat rfl rfl ?_
    refine SL_nil ?_
    refine TF ?_
    refine TA rfl ?_ ?_
    · skip
      refine SL_call rfl rfl cb27 (CallsS.frame0 (refOf _ (h.mono (hl6_1.trans hle)) hl)) rfl (fun v10_6 σ10_6 m10_6 hl10_6 hR10_6 => ?_)
      obtain ⟨σo, rfl, rfl, ho⟩ := hR10_6
      refine SL_nil ?_
      refine TF ?_
      refine TA rfl ?_ ?_
      · skip
        refine SL_call rfl rfl cb26 (CallsS.frame0 (resultR (hin.mono (hl6_1.trans (hle.trans hl10_6))) ho (Nat.le_trans (ofB_small l w) hl))) rfl (fun v10_7 σ10_7 m10_7 hl10_7 hR10_7 => ?_)
        obtain ⟨σr, rfl, rfl, x, rfl, hx, ox⟩ := hR10_7
        dsimp only [Res.val]
        refine SL_nil ?_
        refine T1 rfl ?_
        refine pu rfl rfl ?_
        refine SL_nil ?_
        refine T1 rfl ?_
        first | refine pA rfl rfl ?_ | refine pu rfl rfl ?_
        refine SL_nil ?_
        refine T1 rfl ?_
        first | refine pI rfl rfl ?_ | refine pu rfl rfl ?_
        refine SL_nil ?_
        refine T1 rfl ?_
        refine al rfl rfl (fun B13 => ?_)
        refine SL_nil ?_
        refine T1 rfl ?_
        refine sw (v := .agg _) B13 0 rfl rfl rfl rfl rfl rfl rfl ?_
        refine SL_nil ?_
        refine T1 rfl ?_
        first | refine pI rfl rfl ?_ | refine pu rfl rfl ?_
        refine SL_nil ?_
        refine nx ?_
        refine SWP_seq ?_
        refine SWP_seq ?_
        refine SWP_region ?_
        first | refine pI rfl rfl ?_ | refine pu rfl rfl ?_
        refine pc rfl rfl (fun c53 => ?_) (fun c53 => ?_)
        · skip
          refine SL_nil ?_
          refine nx ?_
          refine SWP_ct rfl ?_
          refine SWP_exit ?_
          refine ne ?_
          refine be rfl ?_
          refine nx ?_
          refine SWP_weak (List.sublist_cons_self _ _) ?_
          refine SWP_region ?_
          first | refine pI rfl rfl ?_ | refine pu rfl rfl ?_
          first | refine pw rfl rfl (w64 (by omega) (by omega)) ?_ | refine pu rfl rfl ?_
          refine pI rfl rfl ?_
          refine SL_nil ?_
          refine nx ?_
          refine ⟨by repeat (first | exact Under.upds rfl (Under.hav _ _ _) | exact Under.hav _ _ _ | refine Under.upd rfl ?_), ?_, ?_⟩
          · refine ⟨i + 1, rfl, by omega, fun j a hj ha => ?_, rfl, by first | exact hle.trans (hl10_6.trans hl10_7) | exact hle.trans (hl10_6.trans (hl10_7.trans hl12_4))⟩
            by_cases e : j = i
            · subst e
              rw [hKi] at ha
              cases ha
              refine Bool.eq_false_iff.2 fun hh => ?_
              obtain ⟨hw1, hw2, hw3⟩ := (winB_ref ox.key).1 hh
              first
                | exact absurd hw1 (by assumption)
                | (have had := agree_diss x.key (reps g l); have hln : (reps g l).length = (wits l).length := (by unfold reps; rw [List.length_map]); omega)
            · exact hno j a (by omega) ha
          · simp only [L_vals, List.map, List.getD]; show (wits l).length - (i + 1) < (wits l).length - i; omega
        refine SL_nil ?_
        refine nx ?_
        refine SWP_cf rfl ?_
        refine SWP_skip ?_
        refine nx ?_
        refine SWP_seq ?_
        refine SWP_region ?_
        refine lw (v := .agg _) B3 0 rfl rfl rfl rfl ?_
        first | refine pL rfl rfl ?_ | refine pu rfl rfl ?_
        first | refine pL rfl rfl ?_ | refine pu rfl rfl ?_
        refine lw (v := .agg _) B13 0 rfl rfl rfl rfl ?_
        refine SL_call rfl rfl cb28 (CallsS.frame0 (againstR (r := x) (hin.mono (hl6_1.trans (hle.trans (hl10_6.trans hl10_7)))) (h.mono (hl6_1.trans (hle.trans (hl10_6.trans hl10_7)))) hl (hw.mono (hle.trans (hl10_6.trans hl10_7))) hx)) rfl (fun v12_4 σ12_4 m12_4 hl12_4 hR12_4 => ?_)
        obtain ⟨σd, rfl, rfl, hd⟩ := hR12_4
        have hdl := dissN_le x.key (reps g l)
        have hrl := reps_len g l
        obtain ⟨da, dc, rfl⟩ := hd.len
        first | refine pL rfl rfl ?_ | refine pu rfl rfl ?_
        refine SL_nil ?_
        refine nx ?_
        refine SWP_seq ?_
        refine SWP_region ?_
        first | refine pL rfl rfl ?_ | refine pu rfl rfl ?_
        refine pu rfl rfl ?_
        first | refine pL rfl rfl ?_ | refine pu rfl rfl ?_
        refine pu rfl rfl ?_
        first | refine pw rfl rfl (w64 (by omega) (by omega)) ?_ | refine pu rfl rfl ?_
        refine pI rfl rfl ?_
        refine SL_nil ?_
        refine nx ?_
        refine SWP_seq ?_
        refine SWP_region ?_
        refine pI rfl rfl ?_
        first | refine pw rfl rfl (w64 (by omega) (by omega)) ?_ | refine pu rfl rfl ?_
        first | refine pL rfl rfl ?_ | refine pu rfl rfl ?_
        refine pu rfl rfl ?_
        refine pc rfl rfl (fun c68 => ?_) (fun c68 => ?_)
        · skip
          refine pB rfl rfl ?_
          refine SL_yes rfl ?_
          refine pI rfl rfl ?_
          refine SL_yes rfl ?_
          first | refine pI rfl rfl ?_ | refine pu rfl rfl ?_
          refine SL_yes rfl ?_
          refine pc rfl rfl (fun c72 => ?_) (fun c72 => ?_)
          · skip
            refine pB rfl rfl ?_
            refine SL_nil ?_
            refine nx ?_
            refine SWP_ct rfl ?_
            refine SWP_seq ?_
            refine SWP_region ?_
            refine lw (v := .agg _) B13 0 rfl rfl rfl rfl ?_
            first | refine pL rfl rfl ?_ | refine pu rfl rfl ?_
            refine sw (v := .agg _) B6 0 rfl rfl rfl rfl rfl rfl rfl ?_
            first | refine pL rfl rfl ?_ | refine pu rfl rfl ?_
            refine pI rfl rfl ?_
            refine SL_nil ?_
            refine nx ?_
            refine SWP_ret ?_
            refine br ?_
            refine nr ?_
            refine nr ?_
            refine br ?_
            refine nr ?_
            refine fin [_, _, _] ⟨⟨_, _, rfl, Rd.of_cells (MemO.mem (B := B6)), rfl⟩, rfl, rfl, trivial⟩ ?_
            have had := agree_diss x.key (reps g l)
            have hln : (reps g l).length = (wits l).length := (by unfold reps; rw [List.length_map])
            have hz : mechE g (ofB l w) = 0 := Classical.not_not.1 (by assumption)
            rw [certF_ok (by assumption) (by omega), certK_some (find_at hno hKi ((winB_ref ox.key).2 ⟨hz, by omega, by omega⟩))]
            exact ⟨x, _, rfl, hx.mono hl12_4, ox.key, by show RL _ intE 1 _ (dissN (outKey (mechO g (ofB l w))) (reps g l)); rw [← ox.key]; exact hd⟩
          refine pB rfl rfl ?_
          refine SL_nil ?_
          refine nx ?_
          refine SWP_cf rfl ?_
          refine SWP_skip ?_
          refine nb ?_
          refine nx ?_
          refine SWP_weak (List.sublist_cons_self _ _) ?_
          refine SWP_region ?_
          first | refine pI rfl rfl ?_ | refine pu rfl rfl ?_
          first | refine pw rfl rfl (w64 (by omega) (by omega)) ?_ | refine pu rfl rfl ?_
          refine pI rfl rfl ?_
          refine SL_nil ?_
          refine nx ?_
          refine ⟨by repeat (first | exact Under.upds rfl (Under.hav _ _ _) | exact Under.hav _ _ _ | refine Under.upd rfl ?_), ?_, ?_⟩
          · refine ⟨i + 1, rfl, by omega, fun j a hj ha => ?_, rfl, by first | exact hle.trans (hl10_6.trans hl10_7) | exact hle.trans (hl10_6.trans (hl10_7.trans hl12_4))⟩
            by_cases e : j = i
            · subst e
              rw [hKi] at ha
              cases ha
              refine Bool.eq_false_iff.2 fun hh => ?_
              obtain ⟨hw1, hw2, hw3⟩ := (winB_ref ox.key).1 hh
              first
                | exact absurd hw1 (by assumption)
                | (have had := agree_diss x.key (reps g l); have hln : (reps g l).length = (wits l).length := (by unfold reps; rw [List.length_map]); omega)
            · exact hno j a (by omega) ha
          · simp only [L_vals, List.map, List.getD]; show (wits l).length - (i + 1) < (wits l).length - i; omega
        refine pB rfl rfl ?_
        refine SL_no rfl rfl ?_
        refine SL_no rfl rfl ?_
        refine SL_no rfl rfl ?_
        refine pB rfl rfl ?_
        refine SL_nil ?_
        refine nx ?_
        refine SWP_cf rfl ?_
        refine SWP_skip ?_
        refine nb ?_
        refine nx ?_
        refine SWP_weak (List.sublist_cons_self _ _) ?_
        refine SWP_region ?_
        first | refine pI rfl rfl ?_ | refine pu rfl rfl ?_
        first | refine pw rfl rfl (w64 (by omega) (by omega)) ?_ | refine pu rfl rfl ?_
        refine pI rfl rfl ?_
        refine SL_nil ?_
        refine nx ?_
        refine ⟨by repeat (first | exact Under.upds rfl (Under.hav _ _ _) | exact Under.hav _ _ _ | refine Under.upd rfl ?_), ?_, ?_⟩
        · refine ⟨i + 1, rfl, by omega, fun j a hj ha => ?_, rfl, by first | exact hle.trans (hl10_6.trans hl10_7) | exact hle.trans (hl10_6.trans (hl10_7.trans hl12_4))⟩
          by_cases e : j = i
          · subst e
            rw [hKi] at ha
            cases ha
            refine Bool.eq_false_iff.2 fun hh => ?_
            obtain ⟨hw1, hw2, hw3⟩ := (winB_ref ox.key).1 hh
            first
              | exact absurd hw1 (by assumption)
              | (have had := agree_diss x.key (reps g l); have hln : (reps g l).length = (wits l).length := (by unfold reps; rw [List.length_map]); omega)
          · exact hno j a (by omega) ha
        · simp only [L_vals, List.map, List.getD]; show (wits l).length - (i + 1) < (wits l).length - i; omega
      refine TA rfl ?_ ?_
      · skip
        refine al rfl rfl (fun B13 => ?_)
        refine SL_nil ?_
        refine T1 rfl ?_
        refine SL_call rfl rfl cb26 (CallsS.frame0 (resultR (hin.mono (hl6_1.trans (hle.trans hl10_6))) ho (Nat.le_trans (ofB_small l w) hl))) rfl (fun v10_7 σ10_7 m10_7 hl10_7 hR10_7 => ?_)
        obtain ⟨σr, rfl, rfl, x, rfl, hx, ox⟩ := hR10_7
        dsimp only [Res.val]
        refine SL_nil ?_
        refine T1 rfl ?_
        refine pu rfl rfl ?_
        refine SL_nil ?_
        refine T1 rfl ?_
        first | refine pA rfl rfl ?_ | refine pu rfl rfl ?_
        refine SL_nil ?_
        refine T1 rfl ?_
        first | refine pI rfl rfl ?_ | refine pu rfl rfl ?_
        refine SL_nil ?_
        refine T1 rfl ?_
        refine sw (v := .agg _) B13 0 rfl rfl rfl rfl rfl rfl rfl ?_
        refine SL_nil ?_
        refine T1 rfl ?_
        first | refine pI rfl rfl ?_ | refine pu rfl rfl ?_
        refine SL_nil ?_
        refine nx ?_
        refine SWP_seq ?_
        refine SWP_seq ?_
        refine SWP_region ?_
        first | refine pI rfl rfl ?_ | refine pu rfl rfl ?_
        refine pc rfl rfl (fun c53 => ?_) (fun c53 => ?_)
        · skip
          refine SL_nil ?_
          refine nx ?_
          refine SWP_ct rfl ?_
          refine SWP_exit ?_
          refine ne ?_
          refine be rfl ?_
          refine nx ?_
          refine SWP_weak (List.sublist_cons_self _ _) ?_
          refine SWP_region ?_
          first | refine pI rfl rfl ?_ | refine pu rfl rfl ?_
          first | refine pw rfl rfl (w64 (by omega) (by omega)) ?_ | refine pu rfl rfl ?_
          refine pI rfl rfl ?_
          refine SL_nil ?_
          refine nx ?_
          refine ⟨by repeat (first | exact Under.upds rfl (Under.hav _ _ _) | exact Under.hav _ _ _ | refine Under.upd rfl ?_), ?_, ?_⟩
          · refine ⟨i + 1, rfl, by omega, fun j a hj ha => ?_, rfl, by first | exact hle.trans (hl10_6.trans hl10_7) | exact hle.trans (hl10_6.trans (hl10_7.trans hl12_4))⟩
            by_cases e : j = i
            · subst e
              rw [hKi] at ha
              cases ha
              refine Bool.eq_false_iff.2 fun hh => ?_
              obtain ⟨hw1, hw2, hw3⟩ := (winB_ref ox.key).1 hh
              first
                | exact absurd hw1 (by assumption)
                | (have had := agree_diss x.key (reps g l); have hln : (reps g l).length = (wits l).length := (by unfold reps; rw [List.length_map]); omega)
            · exact hno j a (by omega) ha
          · simp only [L_vals, List.map, List.getD]; show (wits l).length - (i + 1) < (wits l).length - i; omega
        refine SL_nil ?_
        refine nx ?_
        refine SWP_cf rfl ?_
        refine SWP_skip ?_
        refine nx ?_
        refine SWP_seq ?_
        refine SWP_region ?_
        refine lw (v := .agg _) B3 0 rfl rfl rfl rfl ?_
        first | refine pL rfl rfl ?_ | refine pu rfl rfl ?_
        first | refine pL rfl rfl ?_ | refine pu rfl rfl ?_
        refine lw (v := .agg _) B13 0 rfl rfl rfl rfl ?_
        refine SL_call rfl rfl cb28 (CallsS.frame0 (againstR (r := x) (hin.mono (hl6_1.trans (hle.trans (hl10_6.trans hl10_7)))) (h.mono (hl6_1.trans (hle.trans (hl10_6.trans hl10_7)))) hl (hw.mono (hle.trans (hl10_6.trans hl10_7))) hx)) rfl (fun v12_4 σ12_4 m12_4 hl12_4 hR12_4 => ?_)
        obtain ⟨σd, rfl, rfl, hd⟩ := hR12_4
        have hdl := dissN_le x.key (reps g l)
        have hrl := reps_len g l
        obtain ⟨da, dc, rfl⟩ := hd.len
        first | refine pL rfl rfl ?_ | refine pu rfl rfl ?_
        refine SL_nil ?_
        refine nx ?_
        refine SWP_seq ?_
        refine SWP_region ?_
        first | refine pL rfl rfl ?_ | refine pu rfl rfl ?_
        refine pu rfl rfl ?_
        first | refine pL rfl rfl ?_ | refine pu rfl rfl ?_
        refine pu rfl rfl ?_
        first | refine pw rfl rfl (w64 (by omega) (by omega)) ?_ | refine pu rfl rfl ?_
        refine pI rfl rfl ?_
        refine SL_nil ?_
        refine nx ?_
        refine SWP_seq ?_
        refine SWP_region ?_
        refine pI rfl rfl ?_
        first | refine pw rfl rfl (w64 (by omega) (by omega)) ?_ | refine pu rfl rfl ?_
        first | refine pL rfl rfl ?_ | refine pu rfl rfl ?_
        refine pu rfl rfl ?_
        refine pc rfl rfl (fun c68 => ?_) (fun c68 => ?_)
        · skip
          refine pB rfl rfl ?_
          refine SL_yes rfl ?_
          refine pI rfl rfl ?_
          refine SL_yes rfl ?_
          first | refine pI rfl rfl ?_ | refine pu rfl rfl ?_
          refine SL_yes rfl ?_
          refine pc rfl rfl (fun c72 => ?_) (fun c72 => ?_)
          · skip
            refine pB rfl rfl ?_
            refine SL_nil ?_
            refine nx ?_
            refine SWP_ct rfl ?_
            refine SWP_seq ?_
            refine SWP_region ?_
            refine lw (v := .agg _) B13 0 rfl rfl rfl rfl ?_
            first | refine pL rfl rfl ?_ | refine pu rfl rfl ?_
            refine sw (v := .agg _) B6 0 rfl rfl rfl rfl rfl rfl rfl ?_
            first | refine pL rfl rfl ?_ | refine pu rfl rfl ?_
            refine pI rfl rfl ?_
            refine SL_nil ?_
            refine nx ?_
            refine SWP_ret ?_
            refine br ?_
            refine nr ?_
            refine nr ?_
            refine br ?_
            refine nr ?_
            refine fin [_, _, _] ⟨⟨_, _, rfl, Rd.of_cells (MemO.mem (B := B6)), rfl⟩, rfl, rfl, trivial⟩ ?_
            have had := agree_diss x.key (reps g l)
            have hln : (reps g l).length = (wits l).length := (by unfold reps; rw [List.length_map])
            have hz : mechE g (ofB l w) = 0 := Classical.not_not.1 (by assumption)
            rw [certF_ok (by assumption) (by omega), certK_some (find_at hno hKi ((winB_ref ox.key).2 ⟨hz, by omega, by omega⟩))]
            exact ⟨x, _, rfl, hx.mono hl12_4, ox.key, by show RL _ intE 1 _ (dissN (outKey (mechO g (ofB l w))) (reps g l)); rw [← ox.key]; exact hd⟩
          refine pB rfl rfl ?_
          refine SL_nil ?_
          refine nx ?_
          refine SWP_cf rfl ?_
          refine SWP_skip ?_
          refine nb ?_
          refine nx ?_
          refine SWP_weak (List.sublist_cons_self _ _) ?_
          refine SWP_region ?_
          first | refine pI rfl rfl ?_ | refine pu rfl rfl ?_
          first | refine pw rfl rfl (w64 (by omega) (by omega)) ?_ | refine pu rfl rfl ?_
          refine pI rfl rfl ?_
          refine SL_nil ?_
          refine nx ?_
          refine ⟨by repeat (first | exact Under.upds rfl (Under.hav _ _ _) | exact Under.hav _ _ _ | refine Under.upd rfl ?_), ?_, ?_⟩
          · refine ⟨i + 1, rfl, by omega, fun j a hj ha => ?_, rfl, by first | exact hle.trans (hl10_6.trans hl10_7) | exact hle.trans (hl10_6.trans (hl10_7.trans hl12_4))⟩
            by_cases e : j = i
            · subst e
              rw [hKi] at ha
              cases ha
              refine Bool.eq_false_iff.2 fun hh => ?_
              obtain ⟨hw1, hw2, hw3⟩ := (winB_ref ox.key).1 hh
              first
                | exact absurd hw1 (by assumption)
                | (have had := agree_diss x.key (reps g l); have hln : (reps g l).length = (wits l).length := (by unfold reps; rw [List.length_map]); omega)
            · exact hno j a (by omega) ha
          · simp only [L_vals, List.map, List.getD]; show (wits l).length - (i + 1) < (wits l).length - i; omega
        refine pB rfl rfl ?_
        refine SL_no rfl rfl ?_
        refine SL_no rfl rfl ?_
        refine SL_no rfl rfl ?_
        refine pB rfl rfl ?_
        refine SL_nil ?_
        refine nx ?_
        refine SWP_cf rfl ?_
        refine SWP_skip ?_
        refine nb ?_
        refine nx ?_
        refine SWP_weak (List.sublist_cons_self _ _) ?_
        refine SWP_region ?_
        first | refine pI rfl rfl ?_ | refine pu rfl rfl ?_
        first | refine pw rfl rfl (w64 (by omega) (by omega)) ?_ | refine pu rfl rfl ?_
        refine pI rfl rfl ?_
        refine SL_nil ?_
        refine nx ?_
        refine ⟨by repeat (first | exact Under.upds rfl (Under.hav _ _ _) | exact Under.hav _ _ _ | refine Under.upd rfl ?_), ?_, ?_⟩
        · refine ⟨i + 1, rfl, by omega, fun j a hj ha => ?_, rfl, by first | exact hle.trans (hl10_6.trans hl10_7) | exact hle.trans (hl10_6.trans (hl10_7.trans hl12_4))⟩
          by_cases e : j = i
          · subst e
            rw [hKi] at ha
            cases ha
            refine Bool.eq_false_iff.2 fun hh => ?_
            obtain ⟨hw1, hw2, hw3⟩ := (winB_ref ox.key).1 hh
            first
              | exact absurd hw1 (by assumption)
              | (have had := agree_diss x.key (reps g l); have hln : (reps g l).length = (wits l).length := (by unfold reps; rw [List.length_map]); omega)
          · exact hno j a (by omega) ha
        · simp only [L_vals, List.map, List.getD]; show (wits l).length - (i + 1) < (wits l).length - i; omega
      exact True.intro
    refine TA rfl ?_ ?_
    · skip
      refine al rfl rfl (fun B13 => ?_)
      refine SL_nil ?_
      refine T1 rfl ?_
      refine SL_call rfl rfl cb27 (CallsS.frame0 (refOf _ (h.mono (hl6_1.trans hle)) hl)) rfl (fun v10_6 σ10_6 m10_6 hl10_6 hR10_6 => ?_)
      obtain ⟨σo, rfl, rfl, ho⟩ := hR10_6
      refine SL_nil ?_
      refine T1 rfl ?_
      refine SL_call rfl rfl cb26 (CallsS.frame0 (resultR (hin.mono (hl6_1.trans (hle.trans hl10_6))) ho (Nat.le_trans (ofB_small l w) hl))) rfl (fun v10_7 σ10_7 m10_7 hl10_7 hR10_7 => ?_)
      obtain ⟨σr, rfl, rfl, x, rfl, hx, ox⟩ := hR10_7
      dsimp only [Res.val]
      refine SL_nil ?_
      refine T1 rfl ?_
      refine pu rfl rfl ?_
      refine SL_nil ?_
      refine T1 rfl ?_
      first | refine pA rfl rfl ?_ | refine pu rfl rfl ?_
      refine SL_nil ?_
      refine T1 rfl ?_
      first | refine pI rfl rfl ?_ | refine pu rfl rfl ?_
      refine SL_nil ?_
      refine T1 rfl ?_
      refine sw (v := .agg _) B13 0 rfl rfl rfl rfl rfl rfl rfl ?_
      refine SL_nil ?_
      refine T1 rfl ?_
      first | refine pI rfl rfl ?_ | refine pu rfl rfl ?_
      refine SL_nil ?_
      refine nx ?_
      refine SWP_seq ?_
      refine SWP_seq ?_
      refine SWP_region ?_
      first | refine pI rfl rfl ?_ | refine pu rfl rfl ?_
      refine pc rfl rfl (fun c53 => ?_) (fun c53 => ?_)
      · skip
        refine SL_nil ?_
        refine nx ?_
        refine SWP_ct rfl ?_
        refine SWP_exit ?_
        refine ne ?_
        refine be rfl ?_
        refine nx ?_
        refine SWP_weak (List.sublist_cons_self _ _) ?_
        refine SWP_region ?_
        first | refine pI rfl rfl ?_ | refine pu rfl rfl ?_
        first | refine pw rfl rfl (w64 (by omega) (by omega)) ?_ | refine pu rfl rfl ?_
        refine pI rfl rfl ?_
        refine SL_nil ?_
        refine nx ?_
        refine ⟨by repeat (first | exact Under.upds rfl (Under.hav _ _ _) | exact Under.hav _ _ _ | refine Under.upd rfl ?_), ?_, ?_⟩
        · refine ⟨i + 1, rfl, by omega, fun j a hj ha => ?_, rfl, by first | exact hle.trans (hl10_6.trans hl10_7) | exact hle.trans (hl10_6.trans (hl10_7.trans hl12_4))⟩
          by_cases e : j = i
          · subst e
            rw [hKi] at ha
            cases ha
            refine Bool.eq_false_iff.2 fun hh => ?_
            obtain ⟨hw1, hw2, hw3⟩ := (winB_ref ox.key).1 hh
            first
              | exact absurd hw1 (by assumption)
              | (have had := agree_diss x.key (reps g l); have hln : (reps g l).length = (wits l).length := (by unfold reps; rw [List.length_map]); omega)
          · exact hno j a (by omega) ha
        · simp only [L_vals, List.map, List.getD]; show (wits l).length - (i + 1) < (wits l).length - i; omega
      refine SL_nil ?_
      refine nx ?_
      refine SWP_cf rfl ?_
      refine SWP_skip ?_
      refine nx ?_
      refine SWP_seq ?_
      refine SWP_region ?_
      refine lw (v := .agg _) B3 0 rfl rfl rfl rfl ?_
      first | refine pL rfl rfl ?_ | refine pu rfl rfl ?_
      first | refine pL rfl rfl ?_ | refine pu rfl rfl ?_
      refine lw (v := .agg _) B13 0 rfl rfl rfl rfl ?_
      refine SL_call rfl rfl cb28 (CallsS.frame0 (againstR (r := x) (hin.mono (hl6_1.trans (hle.trans (hl10_6.trans hl10_7)))) (h.mono (hl6_1.trans (hle.trans (hl10_6.trans hl10_7)))) hl (hw.mono (hle.trans (hl10_6.trans hl10_7))) hx)) rfl (fun v12_4 σ12_4 m12_4 hl12_4 hR12_4 => ?_)
      obtain ⟨σd, rfl, rfl, hd⟩ := hR12_4
      have hdl := dissN_le x.key (reps g l)
      have hrl := reps_len g l
      obtain ⟨da, dc, rfl⟩ := hd.len
      first | refine pL rfl rfl ?_ | refine pu rfl rfl ?_
      refine SL_nil ?_
      refine nx ?_
      refine SWP_seq ?_
      refine SWP_region ?_
      first | refine pL rfl rfl ?_ | refine pu rfl rfl ?_
      refine pu rfl rfl ?_
      first | refine pL rfl rfl ?_ | refine pu rfl rfl ?_
      refine pu rfl rfl ?_
      first | refine pw rfl rfl (w64 (by omega) (by omega)) ?_ | refine pu rfl rfl ?_
      refine pI rfl rfl ?_
      refine SL_nil ?_
      refine nx ?_
      refine SWP_seq ?_
      refine SWP_region ?_
      refine pI rfl rfl ?_
      first | refine pw rfl rfl (w64 (by omega) (by omega)) ?_ | refine pu rfl rfl ?_
      first | refine pL rfl rfl ?_ | refine pu rfl rfl ?_
      refine pu rfl rfl ?_
      refine pc rfl rfl (fun c68 => ?_) (fun c68 => ?_)
      · skip
        refine pB rfl rfl ?_
        refine SL_yes rfl ?_
        refine pI rfl rfl ?_
        refine SL_yes rfl ?_
        first | refine pI rfl rfl ?_ | refine pu rfl rfl ?_
        refine SL_yes rfl ?_
        refine pc rfl rfl (fun c72 => ?_) (fun c72 => ?_)
        · skip
          refine pB rfl rfl ?_
          refine SL_nil ?_
          refine nx ?_
          refine SWP_ct rfl ?_
          refine SWP_seq ?_
          refine SWP_region ?_
          refine lw (v := .agg _) B13 0 rfl rfl rfl rfl ?_
          first | refine pL rfl rfl ?_ | refine pu rfl rfl ?_
          refine sw (v := .agg _) B6 0 rfl rfl rfl rfl rfl rfl rfl ?_
          first | refine pL rfl rfl ?_ | refine pu rfl rfl ?_
          refine pI rfl rfl ?_
          refine SL_nil ?_
          refine nx ?_
          refine SWP_ret ?_
          refine br ?_
          refine nr ?_
          refine nr ?_
          refine br ?_
          refine nr ?_
          refine fin [_, _, _] ⟨⟨_, _, rfl, Rd.of_cells (MemO.mem (B := B6)), rfl⟩, rfl, rfl, trivial⟩ ?_
          have had := agree_diss x.key (reps g l)
          have hln : (reps g l).length = (wits l).length := (by unfold reps; rw [List.length_map])
          have hz : mechE g (ofB l w) = 0 := Classical.not_not.1 (by assumption)
          rw [certF_ok (by assumption) (by omega), certK_some (find_at hno hKi ((winB_ref ox.key).2 ⟨hz, by omega, by omega⟩))]
          exact ⟨x, _, rfl, hx.mono hl12_4, ox.key, by show RL _ intE 1 _ (dissN (outKey (mechO g (ofB l w))) (reps g l)); rw [← ox.key]; exact hd⟩
        refine pB rfl rfl ?_
        refine SL_nil ?_
        refine nx ?_
        refine SWP_cf rfl ?_
        refine SWP_skip ?_
        refine nb ?_
        refine nx ?_
        refine SWP_weak (List.sublist_cons_self _ _) ?_
        refine SWP_region ?_
        first | refine pI rfl rfl ?_ | refine pu rfl rfl ?_
        first | refine pw rfl rfl (w64 (by omega) (by omega)) ?_ | refine pu rfl rfl ?_
        refine pI rfl rfl ?_
        refine SL_nil ?_
        refine nx ?_
        refine ⟨by repeat (first | exact Under.upds rfl (Under.hav _ _ _) | exact Under.hav _ _ _ | refine Under.upd rfl ?_), ?_, ?_⟩
        · refine ⟨i + 1, rfl, by omega, fun j a hj ha => ?_, rfl, by first | exact hle.trans (hl10_6.trans hl10_7) | exact hle.trans (hl10_6.trans (hl10_7.trans hl12_4))⟩
          by_cases e : j = i
          · subst e
            rw [hKi] at ha
            cases ha
            refine Bool.eq_false_iff.2 fun hh => ?_
            obtain ⟨hw1, hw2, hw3⟩ := (winB_ref ox.key).1 hh
            first
              | exact absurd hw1 (by assumption)
              | (have had := agree_diss x.key (reps g l); have hln : (reps g l).length = (wits l).length := (by unfold reps; rw [List.length_map]); omega)
          · exact hno j a (by omega) ha
        · simp only [L_vals, List.map, List.getD]; show (wits l).length - (i + 1) < (wits l).length - i; omega
      refine pB rfl rfl ?_
      refine SL_no rfl rfl ?_
      refine SL_no rfl rfl ?_
      refine SL_no rfl rfl ?_
      refine pB rfl rfl ?_
      refine SL_nil ?_
      refine nx ?_
      refine SWP_cf rfl ?_
      refine SWP_skip ?_
      refine nb ?_
      refine nx ?_
      refine SWP_weak (List.sublist_cons_self _ _) ?_
      refine SWP_region ?_
      first | refine pI rfl rfl ?_ | refine pu rfl rfl ?_
      first | refine pw rfl rfl (w64 (by omega) (by omega)) ?_ | refine pu rfl rfl ?_
      refine pI rfl rfl ?_
      refine SL_nil ?_
      refine nx ?_
      refine ⟨by repeat (first | exact Under.upds rfl (Under.hav _ _ _) | exact Under.hav _ _ _ | refine Under.upd rfl ?_), ?_, ?_⟩
      · refine ⟨i + 1, rfl, by omega, fun j a hj ha => ?_, rfl, by first | exact hle.trans (hl10_6.trans hl10_7) | exact hle.trans (hl10_6.trans (hl10_7.trans hl12_4))⟩
        by_cases e : j = i
        · subst e
          rw [hKi] at ha
          cases ha
          refine Bool.eq_false_iff.2 fun hh => ?_
          obtain ⟨hw1, hw2, hw3⟩ := (winB_ref ox.key).1 hh
          first
            | exact absurd hw1 (by assumption)
            | (have had := agree_diss x.key (reps g l); have hln : (reps g l).length = (wits l).length := (by unfold reps; rw [List.length_map]); omega)
        · exact hno j a (by omega) ha
      · simp only [L_vals, List.map, List.getD]; show (wits l).length - (i + 1) < (wits l).length - i; omega
    exact True.intro
  refine SL_nil ?_
  refine nx ?_
  refine SWP_cf rfl ?_
  refine SWP_exit ?_
  refine ne ?_
  refine ne ?_
  refine be rfl ?_
  refine nx ?_
  refine SWP_seq ?_
  refine SWP_region ?_
  refine pA rfl rfl ?_
  refine sw (v := .agg _) B6 0 rfl rfl rfl rfl rfl rfl rfl ?_
  refine pL rfl rfl ?_
  refine pI rfl rfl ?_
  refine SL_nil ?_
  refine nx ?_
  refine SWP_ret ?_
  refine fin [_, _, _] ⟨⟨_, _, rfl, Rd.of_cells (MemO.mem (B := B6)), rfl⟩, rfl, rfl, trivial⟩ ?_
  rw [certF_ok (by assumption) (by omega), certK_none (find_nil fun j a hj ha => hno j a (by have hln : (reps g l).length = (wits l).length := (by unfold reps; rw [List.length_map]); omega) ha)]
  exact ⟨zeroR, _, rfl, zeroR_in _, rfl, RL.nil _ _⟩

end Go.Proofs.Ytnpnleapnbdllaa

