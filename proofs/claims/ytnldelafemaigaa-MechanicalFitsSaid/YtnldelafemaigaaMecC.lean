/- lotteryref29.Balls; the balls of a result; MechanicalBalls, MechanicalResults. -/
import Derived.Test.YtnldelafemaigaaMecB
import Derived.Test.YtnldelafemaigaaMatH
namespace Go.Proofs.Ytnldelafemaigaa
open Eng

theorem b_room1 {w d : Int} {l : List Int} (h : l.length ≤ 10) (i : Nat) : ((((l.take i).map (mkB w d)).flatMap Ball.enc).length + 1 * 3) * 24 ≤ 140737488355328 * 3 := by
  rw [flatMap_len Ball.enc_len, List.length_map, List.length_take]; omega

set_option maxRecDepth 100000 in
theorem ballsF {m : Mem} {v : Value} {l : List Int} (w d : Int) (h : RL m intE 1 v l) (hl : l.length ≤ 10) : CallsS Try.prog 35 [.int .i64 w, .int .i64 d, v].toArray [] m fun r σ' m' => m' = m ∧ OwnS 30 3 r ((l.map (mkB w d)).flatMap Ball.enc) σ' := by
  obtain ⟨pa, qc, rfl⟩ := h.len
  refine enter Try.func35 Try.ntmps35 rfl rfl ?_
  refine SWP_seq ?_
  refine SWP_region ?_
  refine pL rfl rfl ?_
  refine SL_nil ?_
  refine nx ?_
  refine SWP_seq ?_
  refine SWP_region ?_
  refine pL rfl rfl ?_
  refine SL_nil ?_
  refine nx ?_
  refine SWP_seq ?_
  refine SWP_seq ?_
  refine SWP_region ?_
  refine pI rfl rfl ?_
  refine SL_nil ?_
  refine nx ?_
  refine SWP_block ?_
  refine SWP_loop [7, 8, 9, 10, 11, 12, 13, 14, 15, 16, 17, 18, 19, 20, 21, 22, 23, 24] [7, 8]
      (fun vs σ' m' => ∃ (i : Nat) (v : Value), vs = [v, .int .i64 (i : Nat)] ∧ i ≤ l.length ∧ OwnS 30 3 v (((l.take i).map (mkB w d)).flatMap Ball.enc) σ' ∧ m = m')
      (fun vs => l.length - nOf (vs.getD 1 undef)) rfl ?_ ?_
  · exact ⟨0, _, rfl, by omega, .nil, rfl⟩
  intro u0 vs0 σ0 m0 hJ0 _
  obtain ⟨i, v, rfl, hi, hown, rfl⟩ := hJ0
  refine SWP_seq ?_
  refine SWP_seq ?_
  refine SWP_region ?_
  first | refine pI rfl rfl ?_ | refine pu rfl rfl ?_
  first | refine pL rfl rfl ?_ | refine pu rfl rfl ?_
  refine pu rfl rfl ?_
  refine pc rfl rfl (fun c12 => ?_) (fun c12 => ?_)
  · skip
    refine SL_nil ?_
    refine nx ?_
    refine SWP_ct rfl ?_
    refine SWP_skip ?_
    refine nx ?_
    refine SWP_seq ?_
    refine SWP_block ?_
    obtain ⟨n, hn⟩ : ∃ n, l[i]? = some n := ⟨_, List.getElem?_eq_getElem (by omega)⟩
    obtain ⟨ad, e1, _, hat⟩ := h.atI hn
    cases e1
    refine SWP_region ?_
    first | refine pL rfl rfl ?_ | refine pu rfl rfl ?_
    first | refine pI rfl rfl ?_ | refine pu rfl rfl ?_
    first | refine pI rfl rfl ?_ | refine pu rfl rfl ?_
    first | refine pL rfl rfl ?_ | refine pu rfl rfl ?_
    first | refine pI rfl rfl ?_ | refine pu rfl rfl ?_
    first | refine ia (es := 1) rfl rfl rfl (Nat.mul_one _) rfl rfl (by omega) rfl ?_ | refine iai (es := 1) rfl rfl rfl (Nat.mul_one _) rfl rfl (by omega) (by omega) rfl ?_
    refine ldA (v := .int .i64 _) rfl (by assumption) rfl rfl ?_
    refine pA rfl rfl ?_
    refine bs rfl rfl rfl rfl rfl (fun B23 => ?_)
    refine ap (e := 30) (size := 3) (bytes := 24) rfl rfl rfl rfl rfl rfl rfl hown (List.perm_append_comm (l₁ := [_])) rfl (Rd.of_cells (.head _)) rfl rfl (b_room1 hl i) rfl rfl (fun v24 σ24 hown24 => ?_)
    refine SL_weak (List.sublist_append_left _ _) ?_
    have hown9 : OwnS 30 3 v24 (((l.take (i + 1)).map (mkB w d)).flatMap Ball.enc) σ24 := by
      rw [map_snocI hn, List.flatMap_append]
      exact hown24
    first | refine pL rfl rfl ?_ | refine pu rfl rfl ?_
    refine SL_nil ?_
    refine nb ?_
    refine nx ?_
    refine SWP_region ?_
    first | refine pI rfl rfl ?_ | refine pu rfl rfl ?_
    first | refine pw rfl rfl (w64 (by omega) (by omega)) ?_ | refine pu rfl rfl ?_
    refine pI rfl rfl ?_
    refine SL_nil ?_
    refine nx ?_
    refine ⟨by repeat (first | exact Under.upds rfl (Under.hav _ _ _) | exact Under.hav _ _ _ | refine Under.upd rfl ?_), ?_, ?_⟩
    · exact ⟨i + 1, _, rfl, by omega, hown9, rfl⟩
    · simp only [L_vals, List.map, List.getD]; show l.length - (i + 1) < l.length - i; omega
  refine SL_nil ?_
  refine nx ?_
  refine SWP_cf rfl ?_
  refine SWP_exit ?_
  refine ne ?_
  refine ne ?_
  refine be rfl ?_
  refine nx ?_
  refine SWP_seq ?_
  refine SWP_region ?_
  first | refine pL rfl rfl ?_ | refine pu rfl rfl ?_
  first | refine pL rfl rfl ?_ | refine pu rfl rfl ?_
  refine SL_nil ?_
  refine nx ?_
  refine SWP_ret ?_
  refine fin [_] ⟨rfl, trivial⟩ ?_
  rw [List.take_of_length_le (by omega)] at hown
  exact ⟨rfl, hown⟩

theorem prefB3 (w : Int) (r : Res) : prefB w r 3 = r.main.map (mkB w 1) ++ r.bonus.map (mkB w 2) ++ r.extra.map (mkB w 3) := by
  rw [prefB_succ, prefB_succ, prefB_succ]; rfl
theorem b_room2 {a b : List Ball} (h : a.length ≤ 20) (h' : b.length ≤ 10) : ((a.flatMap Ball.enc).length + (b.flatMap Ball.enc).length) * 24 ≤ 140737488355328 * 3 := by
  rw [flatMap_len Ball.enc_len, flatMap_len Ball.enc_len]; omega

set_option maxRecDepth 100000 in
theorem ballsX {m : Mem} {g : Game} {r : Res} (hin : g.In m) (w : Int) (hr : r.In m) (hs : r.serial.size ≤ 9223372036854775807) : CallsS Try.prog 21 [g.val, .int .i64 w, r.val].toArray [] m fun r' σ' m' => σ' = [] ∧ ∃ v, r' = .tuple #[v, .int .i64 (outE g w r)] ∧ RL m' Ball.enc 3 v (outB g w r) := by
  refine CallsS.ghost (R' := fun r' σ' m' => ∃ v σ1 τ, r' = .tuple #[v, .int .i64 (outE g w r)] ∧ σ'.Perm (σ1 ++ τ) ∧ OwnS 30 3 v ((outB g w r).flatMap Ball.enc) σ1) ?_ ?h2
  case h2 =>
    rintro r' σ' m' ⟨v, σ1, τ, rfl, hp, hown⟩ g0 W hC
    obtain ⟨m2, h1, h2, h3⟩ := hown.freezeL (by omega) Ball.enc_len (hC.perm hp)
    exact ⟨[], m2, h2.sublist (List.nil_sublist _), h1, rfl, v, rfl, h3⟩
  dsimp only [Game.val, Res.val]
  refine enter Try.func21 Try.ntmps21 rfl rfl ?_
  refine SWP_seq ?_
  refine SWP_region ?_
  refine bx (v := .agg _) rfl rfl (fun B3 => ?_)
  refine bx (v := .agg _) rfl rfl (fun B5 => ?_)
  refine pL rfl rfl ?_
  refine pI rfl rfl ?_
  refine SL_nil ?_
  refine nx ?_
  refine SWP_seq ?_
  refine SWP_region ?_
  refine lw (v := .agg _) B3 0 rfl rfl rfl rfl ?_
  refine SL_call rfl rfl cb26 (CallsS.frame0 (checkR hin)) rfl (fun v1_1 σ1_1 m1_1 hl1_1 hR1_1 => ?_)
  obtain ⟨σc, rfl, rfl, hm1_1, s, rfl⟩ := hR1_1
  have hn1_1 := hm1_1.symm
  subst hn1_1
  refine pu rfl rfl ?_
  first | refine pI rfl rfl ?_ | refine pu rfl rfl ?_
  first | refine pS rfl rfl ?_ | refine pu rfl rfl ?_
  first | refine pI rfl rfl ?_ | refine pu rfl rfl ?_
  first | refine pS rfl rfl ?_ | refine pu rfl rfl ?_
  refine SL_nil ?_
  refine nx ?_
  refine SWP_seq ?_
  refine SWP_seq ?_
  refine SWP_region ?_
  first | refine pI rfl rfl ?_ | refine pu rfl rfl ?_
  refine pc rfl rfl (fun c17 => ?_) (fun c17 => ?_)
  · skip
    refine SL_nil ?_
    refine nx ?_
    refine SWP_ct rfl ?_
    refine SWP_seq ?_
    refine SWP_region ?_
    first | refine pI rfl rfl ?_ | refine pu rfl rfl ?_
    refine pL rfl rfl ?_
    first | refine pI rfl rfl ?_ | refine pu rfl rfl ?_
    refine SL_nil ?_
    refine nx ?_
    refine SWP_ret ?_
    refine nr ?_
    refine fin [_, _] ⟨rfl, rfl, trivial⟩ ?_
    have e : outE g w r = gameErr g := if_pos (by assumption)
    have o : outB g w r = [] := by unfold outB; rw [e]; exact if_pos (by first | assumption | decide)
    rw [e, o]
    exact ⟨_, [], _, rfl, .refl _, .nil⟩
  refine SL_nil ?_
  refine nx ?_
  refine SWP_cf rfl ?_
  refine SWP_skip ?_
  refine nx ?_
  refine SWP_merge1 [6, 7, 19, 20, 21, 22, 23, 24] []
      (fun vs σ' m' => vs = [] ∧ (1 ≤ w ∧ w ≤ 8) ∧ σ' = [(B5, Cells 37 r.enc), (B3, Cells 35 g.enc)] ∧ m = m')
      rfl ?_ ?_
  · skip
    refine SWP_seq ?_
    refine SWP_region ?_
    first | refine pI rfl rfl ?_ | refine pu rfl rfl ?_
    refine pc rfl rfl (fun c20 => ?_) (fun c20 => ?_)
    · skip
      refine pB rfl rfl ?_
      refine SL_no rfl rfl ?_
      refine SL_no rfl rfl ?_
      refine pB rfl rfl ?_
      refine SL_nil ?_
      refine nx ?_
      refine SWP_ct rfl ?_
      refine SWP_seq ?_
      refine SWP_region ?_
      refine pL rfl rfl ?_
      refine pI rfl rfl ?_
      refine SL_nil ?_
      refine nx ?_
      refine SWP_ret ?_
      refine nr ?_
      refine fin [_, _] ⟨rfl, rfl, trivial⟩ ?_
      have e : outE g w r = 2 := (if_neg (by assumption)).trans (if_pos (by omega))
      have o : outB g w r = [] := by unfold outB; rw [e]; exact if_pos (by first | assumption | decide)
      rw [e, o]
      exact ⟨_, [], _, rfl, .refl _, .nil⟩
    refine pB rfl rfl ?_
    refine SL_yes rfl ?_
    first | refine pI rfl rfl ?_ | refine pu rfl rfl ?_
    refine SL_yes rfl ?_
    refine pc rfl rfl (fun c23 => ?_) (fun c23 => ?_)
    · skip
      refine pB rfl rfl ?_
      refine SL_nil ?_
      refine nx ?_
      refine SWP_ct rfl ?_
      refine SWP_seq ?_
      refine SWP_region ?_
      refine pL rfl rfl ?_
      refine pI rfl rfl ?_
      refine SL_nil ?_
      refine nx ?_
      refine SWP_ret ?_
      refine nr ?_
      refine fin [_, _] ⟨rfl, rfl, trivial⟩ ?_
      have e : outE g w r = 2 := (if_neg (by assumption)).trans (if_pos (by omega))
      have o : outB g w r = [] := by unfold outB; rw [e]; exact if_pos (by first | assumption | decide)
      rw [e, o]
      exact ⟨_, [], _, rfl, .refl _, .nil⟩
    refine pB rfl rfl ?_
    refine SL_nil ?_
    refine nx ?_
    refine SWP_cf rfl ?_
    refine SWP_skip ?_
    refine nx ?_
    refine ⟨by repeat (first | with_reducible exact Under.refl _ _ | exact Under.upds rfl (Under.hav _ _ _) | exact Under.hav _ _ _ | refine Under.upd rfl ?_ | refine Under.upds rfl ?_ | refine Under.hav2 rfl ?_), ?_⟩
    exact ⟨rfl, by omega, rfl, rfl⟩
  intro uM0 vM0 σM0 mM0 hM0 _
  obtain ⟨rfl, hw, rfl, rfl⟩ := hM0
  dsimp only [Game.enc, Res.enc]
  refine SWP_seq ?_
  refine SWP_region ?_
  refine lw (v := .agg _) B3 0 rfl rfl rfl rfl ?_
  refine lw (v := .agg _) B5 0 rfl rfl rfl rfl ?_
  refine SL_pcall rfl rfl cb34 (resR hin hr hs) rfl ?_
  first | refine pI rfl rfl ?_ | refine pu rfl rfl ?_
  refine SL_nil ?_
  refine nx ?_
  refine SWP_seq ?_
  refine SWP_seq ?_
  refine SWP_region ?_
  first | refine pI rfl rfl ?_ | refine pu rfl rfl ?_
  refine pc rfl rfl (fun c29 => ?_) (fun c29 => ?_)
  · skip
    refine SL_nil ?_
    refine nx ?_
    refine SWP_ct rfl ?_
    refine SWP_seq ?_
    refine SWP_region ?_
    first | refine pI rfl rfl ?_ | refine pu rfl rfl ?_
    refine pL rfl rfl ?_
    first | refine pI rfl rfl ?_ | refine pu rfl rfl ?_
    refine SL_nil ?_
    refine nx ?_
    refine SWP_ret ?_
    refine nr ?_
    refine fin [_, _] ⟨rfl, rfl, trivial⟩ ?_
    have e : outE g w r = resErr g r := (if_neg (by assumption)).trans (if_neg (by omega))
    have o : outB g w r = [] := by unfold outB; rw [e]; exact if_pos (by first | assumption | decide)
    rw [e, o]
    exact ⟨_, [], _, rfl, .refl _, .nil⟩
  refine SL_nil ?_
  refine nx ?_
  refine SWP_cf rfl ?_
  refine SWP_skip ?_
  refine nx ?_
  refine SWP_seq ?_
  have hsm := smallR (g := g) (r := r) (Classical.not_not.1 (by assumption))
  have hsm1 := hsm.m
  have hsm2 := hsm.b
  have hsm3 := hsm.x
  refine SWP_region ?_
  first | refine pI rfl rfl ?_ | refine pu rfl rfl ?_
  refine pu rfl rfl ?_
  refine lw (v := .slice _ _ _) B5 0 rfl rfl rfl rfl ?_
  refine SL_call rfl rfl cb35 (CallsS.frame0 (ballsF w 1 hr.mn hsm.m)) rfl (fun v9_3 σ9_3 m9_3 hl9_3 hR9_3 => ?_)
  obtain ⟨σb1, rfl, hm9_3, hb1⟩ := hR9_3
  have hn9_3 := hm9_3.symm
  subst hn9_3
  first | refine pL rfl rfl ?_ | refine pu rfl rfl ?_
  refine SL_nil ?_
  refine nx ?_
  refine SWP_seq ?_
  refine SWP_region ?_
  first | refine pL rfl rfl ?_ | refine pu rfl rfl ?_
  first | refine pI rfl rfl ?_ | refine pu rfl rfl ?_
  refine pu rfl rfl ?_
  refine lw (v := .slice _ _ _) B5 1 rfl rfl rfl rfl ?_
  refine SL_call rfl rfl cb35 (CallsS.frame0 (ballsF w 2 hr.bn hsm.b)) rfl (fun v10_4 σ10_4 m10_4 hl10_4 hR10_4 => ?_)
  obtain ⟨σb2, rfl, hm10_4, hb2⟩ := hR10_4
  have hn10_4 := hm10_4.symm
  subst hn10_4
  refine apO (e := 30) (size := 3) (bytes := 24) rfl rfl rfl rfl rfl rfl rfl hb1 (permX σb2 σb1 _) rfl hb2 (fun c hc => List.mem_append_left _ hc) (all_ballE _) (b_room2 (by simp only [List.length_append, List.length_map]; omega) (by rw [List.length_map]; omega)) rfl rfl (fun w40 σw40 hw40 => ?_)
  refine SL_weak (List.Sublist.append_left (List.sublist_append_right _ _) _) ?_
  rw [← List.flatMap_append] at hw40
  first | refine pL rfl rfl ?_ | refine pu rfl rfl ?_
  refine SL_nil ?_
  refine nx ?_
  refine SWP_seq ?_
  refine SWP_region ?_
  first | refine pL rfl rfl ?_ | refine pu rfl rfl ?_
  first | refine pI rfl rfl ?_ | refine pu rfl rfl ?_
  refine pu rfl rfl ?_
  refine lw (v := .slice _ _ _) B5 2 rfl rfl rfl rfl ?_
  refine SL_call rfl rfl cb35 (CallsS.frame0 (ballsF w 3 hr.xn hsm.x)) rfl (fun v11_4 σ11_4 m11_4 hl11_4 hR11_4 => ?_)
  obtain ⟨σb3, rfl, hm11_4, hb3⟩ := hR11_4
  have hn11_4 := hm11_4.symm
  subst hn11_4
  refine apO (e := 30) (size := 3) (bytes := 24) rfl rfl rfl rfl rfl rfl rfl hw40 (permX σb3 σw40 _) rfl hb3 (fun c hc => List.mem_append_left _ hc) (all_ballE _) (b_room2 (by simp only [List.length_append, List.length_map]; omega) (by rw [List.length_map]; omega)) rfl rfl (fun w46 σw46 hw46 => ?_)
  refine SL_weak (List.Sublist.append_left (List.sublist_append_right _ _) _) ?_
  rw [← List.flatMap_append] at hw46
  first | refine pL rfl rfl ?_ | refine pu rfl rfl ?_
  refine pI rfl rfl ?_
  refine SL_nil ?_
  refine nx ?_
  refine SWP_ret ?_
  refine fin [_, _] ⟨rfl, rfl, trivial⟩ ?_
  have e : outE g w r = 0 := (if_neg (by assumption)).trans ((if_neg (by omega)).trans (Classical.not_not.1 (by assumption)))
  have o : outB g w r = prefB w r 3 := by unfold outB; rw [if_neg (by rw [e]; decide)]
  rw [e, o]
  rw [prefB3]
  exact ⟨_, _, _, rfl, .refl _, hw46⟩

theorem outB_len (g : Game) (w : Int) (r : Res) : (outB g w r).length ≤ 4000000 := by
  unfold outB
  by_cases h : outE g w r ≠ 0
  · rw [if_pos h]; simp
  · rw [if_neg h]
    have h0 := Classical.not_not.1 h
    unfold outE at h0
    by_cases h1 : gameErr g ≠ 0
    · rw [if_pos h1] at h0; exact absurd h0 h1
    · rw [if_neg h1] at h0
      by_cases h2 : ¬ (1 ≤ w ∧ w ≤ 8)
      · rw [if_pos h2] at h0; exact absurd h0 (by decide)
      · rw [if_neg h2] at h0
        have := prefB_len (w := w) (smallR h0) 3
        omega

set_option maxRecDepth 100000 in
theorem lawMechBalls {m : Mem} {g : Game} {r : Res} (hin : g.In m) (w : Int) (hr : r.In m) (hs : r.serial.size ≤ 9223372036854775807) : CallsS Try.prog 7 [g.val, .int .i64 w, r.val].toArray [] m fun r _ _ => r = .bool true := by
  dsimp only [Game.val, Res.val]
  refine enter Try.func7 Try.ntmps7 rfl rfl ?_
  refine SWP_seq ?_
  refine SWP_region ?_
  refine bx (v := .agg _) rfl rfl (fun B3 => ?_)
  refine bx (v := .agg _) rfl rfl (fun B5 => ?_)
  refine pB rfl rfl ?_
  refine SL_nil ?_
  refine nx ?_
  refine SWP_seq ?_
  refine SWP_region ?_
  refine lw (v := .agg _) B3 0 rfl rfl rfl rfl ?_
  first | refine pI rfl rfl ?_ | refine pu rfl rfl ?_
  refine lw (v := .agg _) B5 0 rfl rfl rfl rfl ?_
  refine SL_call rfl rfl cb20 (CallsS.frame0 (ballsI hin w hr hs)) rfl (fun v1_3 σ1_3 m1_3 hl1_3 hR1_3 => ?_)
  obtain ⟨σa, rfl, rfl, va, rfl, ha⟩ := hR1_3
  refine pu rfl rfl ?_
  first | refine pL rfl rfl ?_ | refine pu rfl rfl ?_
  first | refine pI rfl rfl ?_ | refine pu rfl rfl ?_
  first | refine pL rfl rfl ?_ | refine pu rfl rfl ?_
  first | refine pI rfl rfl ?_ | refine pu rfl rfl ?_
  refine SL_nil ?_
  refine nx ?_
  refine SWP_seq ?_
  refine SWP_region ?_
  refine lw (v := .agg _) B3 0 rfl rfl rfl rfl ?_
  first | refine pI rfl rfl ?_ | refine pu rfl rfl ?_
  refine lw (v := .agg _) B5 0 rfl rfl rfl rfl ?_
  refine SL_call rfl rfl cb21 (CallsS.frame0 (ballsX (hin.mono hl1_3) w (hr.mono hl1_3) hs)) rfl (fun v2_3 σ2_3 m2_3 hl2_3 hR2_3 => ?_)
  obtain ⟨σb, rfl, rfl, vb, rfl, hb⟩ := hR2_3
  refine pu rfl rfl ?_
  first | refine pL rfl rfl ?_ | refine pu rfl rfl ?_
  first | refine pI rfl rfl ?_ | refine pu rfl rfl ?_
  first | refine pL rfl rfl ?_ | refine pu rfl rfl ?_
  first | refine pI rfl rfl ?_ | refine pu rfl rfl ?_
  refine SL_nil ?_
  refine nx ?_
  refine SWP_seq ?_
  refine SWP_region ?_
  first | refine pI rfl rfl ?_ | refine pu rfl rfl ?_
  first | refine pI rfl rfl ?_ | refine pu rfl rfl ?_
  refine pt rfl rfl (rfl) ?_
  refine pB rfl rfl ?_
  refine SL_yes rfl ?_
  first | refine pL rfl rfl ?_ | refine pu rfl rfl ?_
  refine SL_yes rfl ?_
  first | refine pL rfl rfl ?_ | refine pu rfl rfl ?_
  refine SL_yes rfl ?_
  refine SL_pcall rfl rfl cb12 (refSame29 (ha.mono hl2_3) hb (outB_len g w r) (outB_len g w r)) rfl ?_
  rw [decide_eq_true rfl]
  refine pB rfl rfl ?_
  refine pB rfl rfl ?_
  refine SL_yes rfl ?_
  refine SL_pcall rfl rfl cb15 (lives9) rfl ?_
  refine pB rfl rfl ?_
  refine pB rfl rfl ?_
  refine SL_nil ?_
  refine nx ?_
  refine SWP_ret ?_
  refine fin [_] ⟨rfl, trivial⟩ ?_
  rfl

end Go.Proofs.Ytnldelafemaigaa

