/- lotterylaw30: the law CertifyAgrees. -/
import Derived.Test.YtnpnleapnbdllaaCerL
namespace Go.Proofs.Ytnpnleapnbdllaa
open Eng

theorem dissB_keyOf {g : Game} {l : List Ball} {w : Int} {x y : Res} (hy : y.key = outKey (mechO g (ofB l w))) : dissB x.key (keyOf g l w) = true ↔ mechE g (ofB l w) ≠ 0 ∨ ¬ sameR y x := by
  show (!decide (mechE g (ofB l w) = 0) || !decide (outKey (mechO g (ofB l w)) = x.key)) = true ↔ _
  rw [Bool.or_eq_true, Bool.not_eq_true', Bool.not_eq_true', decide_eq_false_iff_not, decide_eq_false_iff_not, sameR_key, hy]
theorem agreeN_small (k : RK) (g : Game) (l : List Ball) (i : Nat) : agreeN k ((reps g l).take i) ≤ 9 := by
  have h1 := agreeN_le k ((reps g l).take i)
  have h2 := reps_len g l
  rw [List.length_take] at h1
  omega
theorem reps_all (g : Game) (l : List Ball) {k : Nat} (h : (wits l).length ≤ k) : (reps g l).take k = reps g l := List.take_of_length_le (by unfold reps; rw [List.length_map]; exact h)
theorem diss_room (k : RK) (g : Game) (l : List Ball) (i : Nat) : (((dissN k ((reps g l).take i)).flatMap intE).length + 1 * 1) * 8 ≤ 140737488355328 * 1 := by
  have h1 := dissN_le k ((reps g l).take i)
  have h2 := reps_len g l
  rw [List.length_take] at h1
  rw [flatMap_len intE_len]; omega

set_option maxRecDepth 100000 in
theorem lawCertAgrees {m : Mem} {g : Game} {v : Value} {l : List Ball} (hin : g.In m) (h : RL m Ball.enc 3 v l) (q : Int) : CallsS Try.prog 5 [g.val, v, .int .i64 q].toArray [] m fun r _ _ => r = .bool true := by
  dsimp only [Game.val]
  obtain ⟨pa, pcap, rfl⟩ := h.len
  refine enter Try.func5 Try.ntmps5 rfl rfl ?_
  refine SWP_seq ?_
  refine SWP_region ?_
  refine bx (v := .agg _) rfl rfl (fun B3 => ?_)
  refine pB rfl rfl ?_
  refine SL_nil ?_
  refine nx ?_
  refine SWP_seq ?_
  refine SWP_seq ?_
  refine SWP_region ?_
  first | refine pL rfl rfl ?_ | refine pu rfl rfl ?_
  refine pu rfl rfl ?_
  refine pc rfl rfl (fun c22 => ?_) (fun c22 => ?_)
  · skip
    refine SL_nil ?_
    refine nx ?_
    refine SWP_ct rfl ?_
    refine SWP_seq ?_
    refine SWP_region ?_
    refine SL_pcall rfl rfl cb9 (lives30) rfl ?_
    first | refine pB rfl rfl ?_ | refine pu rfl rfl ?_
    refine SL_nil ?_
    refine nx ?_
    refine SWP_ret ?_
    refine nr ?_
    refine fin [_] ⟨rfl, trivial⟩ ?_
    rfl
  refine SL_nil ?_
  refine nx ?_
  refine SWP_cf rfl ?_
  refine SWP_skip ?_
  refine nx ?_
  refine SWP_seq ?_
  refine SWP_region ?_
  refine lw (v := .agg _) B3 0 rfl rfl rfl rfl ?_
  first | refine pL rfl rfl ?_ | refine pu rfl rfl ?_
  first | refine pI rfl rfl ?_ | refine pu rfl rfl ?_
  refine SL_call rfl rfl cb10 (CallsS.frame0 (certI hin h (by omega) q)) rfl (fun v3_3 σ3_3 m3_3 hl3_3 hR3_3 => ?_)
  obtain ⟨σa, rfl, rfl, x, xv, rfl, hx, kx, dx⟩ := hR3_3
  obtain ⟨xa, xc, rfl⟩ := dx.len
  dsimp only [Res.val]
  refine pu rfl rfl ?_
  first | refine pA rfl rfl ?_ | refine pu rfl rfl ?_
  first | refine pL rfl rfl ?_ | refine pu rfl rfl ?_
  first | refine pI rfl rfl ?_ | refine pu rfl rfl ?_
  refine al rfl rfl (fun B7 => ?_)
  refine swE B7 0 x.enc (v := x.val) rfl rfl rfl rfl rfl rfl rfl rfl ?_
  first | refine pL rfl rfl ?_ | refine pu rfl rfl ?_
  first | refine pI rfl rfl ?_ | refine pu rfl rfl ?_
  refine SL_nil ?_
  refine nx ?_
  refine SWP_merge1 [6, 32, 33, 34, 35, 36, 37, 38, 39, 40, 41, 42, 43] []
      (fun vs σ' m' => ((certF g l q).1 = 0 ∨ (certF g l q).1 = 23) ∧ σ' = [(B7, Cells 30 x.enc), (B3, Cells 25 g.enc)] ∧ m3_3 = m')
      rfl ?_ ?_
  · skip
    refine SWP_seq ?_
    refine SWP_region ?_
    first | refine pI rfl rfl ?_ | refine pu rfl rfl ?_
    refine pc rfl rfl (fun c33 => ?_) (fun c33 => ?_)
    · skip
      refine pB rfl rfl ?_
      refine SL_yes rfl ?_
      first | refine pI rfl rfl ?_ | refine pu rfl rfl ?_
      refine SL_yes rfl ?_
      refine pc rfl rfl (fun c36 => ?_) (fun c36 => ?_)
      · skip
        refine pB rfl rfl ?_
        refine SL_nil ?_
        refine nx ?_
        refine SWP_ct rfl ?_
        refine SWP_seq ?_
        refine SWP_region ?_
        first | refine pL rfl rfl ?_ | refine pu rfl rfl ?_
        refine pu rfl rfl ?_
        refine pt rfl rfl (by rw [certF_no (by assumption)]; rfl) ?_
        refine pB rfl rfl ?_
        refine SL_yes rfl ?_
        refine SL_pcall rfl rfl cb9 (lives30) rfl ?_
        refine pB rfl rfl ?_
        refine pB rfl rfl ?_
        refine SL_nil ?_
        refine nx ?_
        refine SWP_ret ?_
        refine nr ?_
        refine fin [_] ⟨rfl, trivial⟩ ?_
        rfl
      refine pB rfl rfl ?_
      refine SL_nil ?_
      refine nx ?_
      refine SWP_cf rfl ?_
      refine SWP_skip ?_
      refine nx ?_
      refine ⟨by repeat (first | with_reducible exact Under.refl _ _ | exact Under.upds rfl (Under.hav _ _ _) | exact Under.hav _ _ _ | refine Under.upd rfl ?_ | refine Under.upds rfl ?_ | refine Under.hav2 rfl ?_), ?_⟩
      exact ⟨by omega, rfl, rfl⟩
    refine pB rfl rfl ?_
    refine SL_no rfl rfl ?_
    refine SL_no rfl rfl ?_
    refine pB rfl rfl ?_
    refine SL_nil ?_
    refine nx ?_
    refine SWP_cf rfl ?_
    refine SWP_skip ?_
    refine nx ?_
    refine ⟨by repeat (first | with_reducible exact Under.refl _ _ | exact Under.upds rfl (Under.hav _ _ _) | exact Under.hav _ _ _ | refine Under.upd rfl ?_ | refine Under.upds rfl ?_ | refine Under.hav2 rfl ?_), ?_⟩
    exact ⟨by omega, rfl, rfl⟩
  intro uM0 vM0 σM0 mM0 hM0 _
  obtain ⟨hz, rfl, rfl⟩ := hM0
  refine SWP_seq ?_
  refine SWP_region ?_
  first | refine pL rfl rfl ?_ | refine pu rfl rfl ?_
  refine SL_call rfl rfl cb15 (CallsS.frame0 (mechWits (h.mono hl3_3) (by omega))) rfl (fun v6_1 σ6_1 m6_1 hl6_1 hR6_1 => ?_)
  obtain ⟨σw, rfl, rfl, hw⟩ := hR6_1
  obtain ⟨wa, wc, rfl⟩ := hw.len
  have hwl := wits_len l
  first | refine pL rfl rfl ?_ | refine pu rfl rfl ?_
  refine SL_nil ?_
  refine nx ?_
  refine SWP_seq ?_
  refine SWP_region ?_
  first | refine pL rfl rfl ?_ | refine pu rfl rfl ?_
  refine SL_nil ?_
  refine nx ?_
  refine SWP_seq ?_
  refine SWP_seq ?_
  refine SWP_region ?_
  first | refine pI rfl rfl ?_ | refine pu rfl rfl ?_
  refine SL_nil ?_
  refine nx ?_
  refine SWP_block ?_
  refine SWP_loop [6, 11, 12, 13, 14, 15, 16, 17, 18, 46, 47, 48, 49, 50, 51, 52, 53, 54, 55, 56, 57, 58, 59, 60, 61, 62, 63, 64, 65, 66, 67, 68, 69, 70, 71, 72, 73, 74, 75, 76, 77, 78, 79, 80, 81, 82, 83, 84, 85, 86, 87, 88, 89, 90, 91, 92, 93, 94, 95, 96, 97, 98, 99, 100, 101, 102, 103, 104, 105, 106, 107, 108, 109, 110, 111, 112, 113, 114, 115, 116, 117, 118, 119, 120, 121] [11, 12]
      (fun vs σ' m' => ∃ (i : Nat) (w11 : Value) (σ1 : Sig), vs = [w11, .int .i64 (i : Nat)] ∧ i ≤ (wits l).length ∧ OwnS 3 1 w11 ((dissN x.key ((reps g l).take i)).flatMap intE) σ1 ∧ σ' = σ1 ++ [(B7, Cells 30 x.enc), (B3, Cells 25 g.enc)] ∧ Le m6_1 m')
      (fun vs => (wits l).length - nOf (vs.getD 1 undef)) rfl ?_ ?_
  · exact ⟨0, _, [], rfl, by omega, .nil, rfl, Le.refl _⟩
  intro u0 vs0 σ0 m0 hJ0 _
  obtain ⟨i, w11, σ1, rfl, hi, hown, rfl, hle⟩ := hJ0
  have hA := (hl3_3.trans hl6_1).trans hle
  refine SWP_seq ?_
  refine SWP_seq ?_
  refine SWP_region ?_
  first | refine pI rfl rfl ?_ | refine pu rfl rfl ?_
  first | refine pL rfl rfl ?_ | refine pu rfl rfl ?_
  refine pu rfl rfl ?_
  refine pc rfl rfl (fun c49 => ?_) (fun c49 => ?_)
  · skip
    refine SL_nil ?_
    refine nx ?_
    refine SWP_ct rfl ?_
    refine SWP_skip ?_
    refine nx ?_
    refine SWP_seq ?_
    refine SWP_block ?_
    obtain ⟨w, hwiw⟩ : ∃ w, (wits l)[i]? = some w := ⟨_, List.getElem?_eq_getElem (by omega)⟩
    obtain ⟨adw, ew, _, hat⟩ := hw.atI hwiw
    cases ew
    have hk := reps_at (g := g) hwiw
    refine SWP_merge1 [13, 14, 52, 53, 54, 55, 56, 57, 58, 59, 60, 61, 62] [13, 14]
        (fun vs σ' m' => ∃ (B13 : Nat) (y : Res), vs = [.pointer (some ⟨B13, 0, none⟩), .int .i64 (mechE g (ofB l w))] ∧ y.In m' ∧ y.key = outKey (mechO g (ofB l w)) ∧ σ'.Perm (σ1 ++ (B13, Cells 30 y.enc) :: [(B7, Cells 30 x.enc), (B3, Cells 25 g.enc)]) ∧ Le m0 m')
        rfl ?_ ?_
    · skip
      refine SWP_tree (σ1 ++ [(B7, Cells 30 x.enc), (B3, Cells 25 g.enc)]) 14 (.one 0 (.one 1 (.one 2 (.one 3 (.one 4 (.one 5 (.fork (.alt 6 (.fork (.alt 7 (.one 8 (.one 9 (.one 10 (.one 11 (.one 12 (.one 13 (.fin))))))) (.alt 11 (.one 7 (.one 8 (.one 9 (.one 10 (.one 12 (.one 13 (.fin))))))) (.none)))) (.alt 11 (.one 6 (.one 7 (.one 8 (.one 9 (.one 10 (.one 12 (.one 13 (.fin)))))))) (.none)))))))))) (by kernel_rfl) (by kernel_rfl) (by repeat (first | exact Sub.refl _ | exact Sub.nil _ | refine Sub.cons2 _ ?_ | refine Sub.cons _ ?_)) ?_
      refine T1 rfl ?_
      refine lw (v := .agg _) B3 0 rfl rfl rfl rfl ?_
      refine SL_nil ?_
      refine T1 rfl ?_
      first | refine pL rfl rfl ?_ | refine pu rfl rfl ?_
      refine SL_nil ?_
      refine T1 rfl ?_
      first | refine pL rfl rfl ?_ | refine pu rfl rfl ?_
      refine SL_nil ?_
      refine T1 rfl ?_
      first | refine pI rfl rfl ?_ | refine pu rfl rfl ?_
      refine SL_nil ?_
      refine T1 rfl ?_
      first | refine ia (es := 1) rfl rfl rfl (Nat.mul_one _) rfl rfl (by omega) rfl ?_ | refine iai (es := 1) rfl rfl rfl (Nat.mul_one _) rfl rfl (by omega) (by omega) rfl ?_
      refine SL_nil ?_
      refine T1 rfl ?_
      refine ldA (v := .int .i64 w) rfl (hat.mono hle) rfl rfl ?_
      refine SL_nil ?_
      refine TF ?_
      refine TA rfl ?_ ?_
      · skip
        refine SL_call rfl rfl cb17 (CallsS.frame0 (mechOf _ (h.mono hA) (by omega))) rfl (fun v11_6 σ11_6 m11_6 hl11_6 hR11_6 => ?_)
        obtain ⟨σo, rfl, rfl, ho⟩ := hR11_6
        refine SL_nil ?_
        refine TF ?_
        refine TA rfl ?_ ?_
        · skip
          refine SL_call rfl rfl cb16 (CallsS.frame0 (resultI (hin.mono ((hA).trans hl11_6)) ho (Nat.le_trans (ofB_small l w) (by omega)))) rfl (fun v11_7 σ11_7 m11_7 hl11_7 hR11_7 => ?_)
          obtain ⟨σr, rfl, rfl, y, rfl, hy, oy⟩ := hR11_7
          dsimp only [Res.val]
          refine SL_nil ?_
          refine T1 rfl ?_
          refine pu rfl rfl ?_
          refine SL_nil ?_
          refine T1 rfl ?_
          first | refine pA rfl rfl ?_ | refine pu rfl rfl ?_
          refine SL_nil ?_
          refine T1 rfl ?_
          first | refine pI rfl rfl ?_ | refine pu rfl rfl ?_
          refine SL_nil ?_
          refine T1 rfl ?_
          refine al rfl rfl (fun B13 => ?_)
          refine SL_nil ?_
          refine T1 rfl ?_
          refine swE B13 0 y.enc (v := y.val) rfl rfl rfl rfl rfl rfl rfl rfl ?_
          refine SL_nil ?_
          refine T1 rfl ?_
          first | refine pI rfl rfl ?_ | refine pu rfl rfl ?_
          refine SL_nil ?_
          refine nx ?_
          refine ⟨by repeat (first | with_reducible exact Under.refl _ _ | exact Under.upds rfl (Under.hav _ _ _) | exact Under.hav _ _ _ | refine Under.upd rfl ?_ | refine Under.upds rfl ?_ | refine Under.hav2 rfl ?_), ?_⟩
          exact ⟨B13, y, rfl, hy, oy.key, permX [_] σ1 _, hl11_6.trans hl11_7⟩
        refine TA rfl ?_ ?_
        · skip
          refine al rfl rfl (fun B13 => ?_)
          refine SL_nil ?_
          refine T1 rfl ?_
          refine SL_call rfl rfl cb16 (CallsS.frame0 (resultI (hin.mono ((hA).trans hl11_6)) ho (Nat.le_trans (ofB_small l w) (by omega)))) rfl (fun v11_7 σ11_7 m11_7 hl11_7 hR11_7 => ?_)
          obtain ⟨σr, rfl, rfl, y, rfl, hy, oy⟩ := hR11_7
          dsimp only [Res.val]
          refine SL_nil ?_
          refine T1 rfl ?_
          refine pu rfl rfl ?_
          refine SL_nil ?_
          refine T1 rfl ?_
          first | refine pA rfl rfl ?_ | refine pu rfl rfl ?_
          refine SL_nil ?_
          refine T1 rfl ?_
          first | refine pI rfl rfl ?_ | refine pu rfl rfl ?_
          refine SL_nil ?_
          refine T1 rfl ?_
          refine swE B13 0 y.enc (v := y.val) rfl rfl rfl rfl rfl rfl rfl rfl ?_
          refine SL_nil ?_
          refine T1 rfl ?_
          first | refine pI rfl rfl ?_ | refine pu rfl rfl ?_
          refine SL_nil ?_
          refine nx ?_
          refine ⟨by repeat (first | with_reducible exact Under.refl _ _ | exact Under.upds rfl (Under.hav _ _ _) | exact Under.hav _ _ _ | refine Under.upd rfl ?_ | refine Under.upds rfl ?_ | refine Under.hav2 rfl ?_), ?_⟩
          exact ⟨B13, y, rfl, hy, oy.key, permX [_] σ1 _, hl11_6.trans hl11_7⟩
        exact True.intro
      refine TA rfl ?_ ?_
      · skip
        refine al rfl rfl (fun B13 => ?_)
        refine SL_nil ?_
        refine T1 rfl ?_
        refine SL_call rfl rfl cb17 (CallsS.frame0 (mechOf _ (h.mono hA) (by omega))) rfl (fun v11_6 σ11_6 m11_6 hl11_6 hR11_6 => ?_)
        obtain ⟨σo, rfl, rfl, ho⟩ := hR11_6
        refine SL_nil ?_
        refine T1 rfl ?_
        refine SL_call rfl rfl cb16 (CallsS.frame0 (resultI (hin.mono ((hA).trans hl11_6)) ho (Nat.le_trans (ofB_small l w) (by omega)))) rfl (fun v11_7 σ11_7 m11_7 hl11_7 hR11_7 => ?_)
        obtain ⟨σr, rfl, rfl, y, rfl, hy, oy⟩ := hR11_7
        dsimp only [Res.val]
        refine SL_nil ?_
        refine T1 rfl ?_
        refine pu rfl rfl ?_
        refine SL_nil ?_
        refine T1 rfl ?_
        first | refine pA rfl rfl ?_ | refine pu rfl rfl ?_
        refine SL_nil ?_
        refine T1 rfl ?_
        first | refine pI rfl rfl ?_ | refine pu rfl rfl ?_
        refine SL_nil ?_
        refine T1 rfl ?_
        refine swE B13 0 y.enc (v := y.val) rfl rfl rfl rfl rfl rfl rfl rfl ?_
        refine SL_nil ?_
        refine T1 rfl ?_
        first | refine pI rfl rfl ?_ | refine pu rfl rfl ?_
        refine SL_nil ?_
        refine nx ?_
        refine ⟨by repeat (first | with_reducible exact Under.refl _ _ | exact Under.upds rfl (Under.hav _ _ _) | exact Under.hav _ _ _ | refine Under.upd rfl ?_ | refine Under.upds rfl ?_ | refine Under.hav2 rfl ?_), ?_⟩
        exact ⟨B13, y, rfl, hy, oy.key, permX [_] σ1 _, hl11_6.trans hl11_7⟩
      exact True.intro
    intro uM1 vM1 σM1 mM1 hM1 _
    obtain ⟨B13, y, rfl, hy, ky, hp, hle2⟩ := hM1
    refine SWP_perm hp ?_
    refine SWP_merge1 [11, 63, 64, 65, 66, 67, 68, 69, 70, 71, 72, 73, 74, 75, 76, 77] [11]
        (fun vs σ' m' => ∃ (wn : Value) (σ2 : Sig), vs = [wn] ∧ OwnS 3 1 wn ((dissN x.key ((reps g l).take (i + 1))).flatMap intE) σ2 ∧ σ' = σ2 ++ (B13, Cells 30 y.enc) :: [(B7, Cells 30 x.enc), (B3, Cells 25 g.enc)] ∧ mM1 = m')
        rfl ?_ ?_
    · skip
      refine SWP_seq ?_
      refine SWP_region ?_
      first | refine pI rfl rfl ?_ | refine pu rfl rfl ?_
      refine pc rfl rfl (fun c64 => ?_) (fun c64 => ?_)
      · skip
        refine pB rfl rfl ?_
        refine SL_no rfl rfl ?_
        refine SL_no rfl rfl ?_
        refine SL_no rfl rfl ?_
        refine SL_no rfl rfl ?_
        refine pB rfl rfl ?_
        refine SL_nil ?_
        refine nx ?_
        refine SWP_ct rfl ?_
        refine SWP_region ?_
        first | refine pL rfl rfl ?_ | refine pu rfl rfl ?_
        first | refine pL rfl rfl ?_ | refine pu rfl rfl ?_
        first | refine pI rfl rfl ?_ | refine pu rfl rfl ?_
        first | refine ia (es := 1) rfl rfl rfl (Nat.mul_one _) rfl rfl (by omega) rfl ?_ | refine iai (es := 1) rfl rfl rfl (Nat.mul_one _) rfl rfl (by omega) (by omega) rfl ?_
        refine ldA (v := .int .i64 w) rfl (hat.mono (hle.trans hle2)) rfl rfl ?_
        refine bs rfl rfl rfl rfl rfl (fun B76 => ?_)
        refine ap (e := 3) (size := 1) (bytes := 8) rfl rfl rfl rfl rfl rfl rfl hown (permX [_] σ1 _) rfl (Rd.of_cells (.head _)) rfl rfl (diss_room _ g l i) rfl rfl (fun wn σn hownn => ?_)
        have hown8 : OwnS 3 1 wn ((dissN x.key ((reps g l).take (i + 1))).flatMap intE) σn := by
          rw [dissN_snoc hk, if_pos ((dissB_keyOf ky).2 (by first | exact .inl (by assumption) | exact .inr (by assumption))), List.flatMap_append]; exact hownn
        refine SL_weak (List.Sublist.append_left (.cons _ (.refl _)) _) ?_
        first | refine pL rfl rfl ?_ | refine pu rfl rfl ?_
        refine SL_nil ?_
        refine nx ?_
        refine ⟨by repeat (first | with_reducible exact Under.refl _ _ | exact Under.upds rfl (Under.hav _ _ _) | exact Under.hav _ _ _ | refine Under.upd rfl ?_ | refine Under.upds rfl ?_ | refine Under.hav2 rfl ?_), ?_⟩
        first
          | exact ⟨wn, σn, rfl, hown8, rfl, rfl⟩
          | (refine ⟨_, σ1, rfl, ?_, rfl, rfl⟩
             rw [dissN_snoc hk, if_neg (fun hd => by
               rcases (dissB_keyOf ky).1 hd with hd | hd
               · exact hd (Classical.not_not.1 (by assumption))
               · exact hd (by assumption))]
             exact hown)
      refine pB rfl rfl ?_
      refine SL_yes rfl ?_
      refine lw (v := .agg _) B13 0 rfl rfl rfl rfl ?_
      refine SL_yes rfl ?_
      refine lw (v := .agg _) B7 0 rfl rfl rfl rfl ?_
      refine SL_yes rfl ?_
      refine SL_pcall rfl rfl cb14 (sameC (a := y) (b := x) hy (hx.mono (hl6_1.trans (hle.trans hle2)))) rfl ?_
      refine psp 68 rfl (fun c68 => ?_) (fun c68 => ?_)
      · skip
        refine SL_yes rfl ?_
        refine pB rfl rfl ?_
        refine pB rfl rfl ?_
        refine SL_nil ?_
        refine nx ?_
        refine SWP_cf rfl ?_
        refine SWP_skip ?_
        refine nx ?_
        refine ⟨by repeat (first | with_reducible exact Under.refl _ _ | exact Under.upds rfl (Under.hav _ _ _) | exact Under.hav _ _ _ | refine Under.upd rfl ?_ | refine Under.upds rfl ?_ | refine Under.hav2 rfl ?_), ?_⟩
        first
          | exact ⟨wn, σn, rfl, hown8, rfl, rfl⟩
          | (refine ⟨_, σ1, rfl, ?_, rfl, rfl⟩
             rw [dissN_snoc hk, if_neg (fun hd => by
               rcases (dissB_keyOf ky).1 hd with hd | hd
               · exact hd (Classical.not_not.1 (by assumption))
               · exact hd (by assumption))]
             exact hown)
      refine SL_yes rfl ?_
      refine pB rfl rfl ?_
      refine pB rfl rfl ?_
      refine SL_nil ?_
      refine nx ?_
      refine SWP_ct rfl ?_
      refine SWP_region ?_
      first | refine pL rfl rfl ?_ | refine pu rfl rfl ?_
      first | refine pL rfl rfl ?_ | refine pu rfl rfl ?_
      first | refine pI rfl rfl ?_ | refine pu rfl rfl ?_
      first | refine ia (es := 1) rfl rfl rfl (Nat.mul_one _) rfl rfl (by omega) rfl ?_ | refine iai (es := 1) rfl rfl rfl (Nat.mul_one _) rfl rfl (by omega) (by omega) rfl ?_
      refine ldA (v := .int .i64 w) rfl (hat.mono (hle.trans hle2)) rfl rfl ?_
      refine bs rfl rfl rfl rfl rfl (fun B76 => ?_)
      refine ap (e := 3) (size := 1) (bytes := 8) rfl rfl rfl rfl rfl rfl rfl hown (permX [_] σ1 _) rfl (Rd.of_cells (.head _)) rfl rfl (diss_room _ g l i) rfl rfl (fun wn σn hownn => ?_)
      have hown8 : OwnS 3 1 wn ((dissN x.key ((reps g l).take (i + 1))).flatMap intE) σn := by
        rw [dissN_snoc hk, if_pos ((dissB_keyOf ky).2 (by first | exact .inl (by assumption) | exact .inr (by assumption))), List.flatMap_append]; exact hownn
      refine SL_weak (List.Sublist.append_left (.cons _ (.refl _)) _) ?_
      first | refine pL rfl rfl ?_ | refine pu rfl rfl ?_
      refine SL_nil ?_
      refine nx ?_
      refine ⟨by repeat (first | with_reducible exact Under.refl _ _ | exact Under.upds rfl (Under.hav _ _ _) | exact Under.hav _ _ _ | refine Under.upd rfl ?_ | refine Under.upds rfl ?_ | refine Under.hav2 rfl ?_), ?_⟩
      first
        | exact ⟨wn, σn, rfl, hown8, rfl, rfl⟩
        | (refine ⟨_, σ1, rfl, ?_, rfl, rfl⟩
           rw [dissN_snoc hk, if_neg (fun hd => by
             rcases (dissB_keyOf ky).1 hd with hd | hd
             · exact hd (Classical.not_not.1 (by assumption))
             · exact hd (by assumption))]
           exact hown)
    intro uM2 vM2 σM2 mM2 hM2 _
    obtain ⟨wn, σ2, rfl, hown2, rfl, rfl⟩ := hM2
    refine SWP_seq ?_
    refine SWP_region ?_
    first | refine pI rfl rfl ?_ | refine pu rfl rfl ?_
    refine SL_nil ?_
    refine nx ?_
    refine SWP_seq ?_
    refine SWP_seq ?_
    refine SWP_region ?_
    first | refine pI rfl rfl ?_ | refine pu rfl rfl ?_
    refine SL_nil ?_
    refine nx ?_
    refine SWP_block ?_
    refine SWP_loop [15, 16, 17, 18, 78, 79, 80, 81, 82, 83, 84, 85, 86, 87, 88, 89, 90, 91, 92, 93, 94, 95, 96, 97, 98, 99, 100, 101, 102, 103, 104, 105, 106, 107] [15, 16]
        (fun vs σ' m' => ∃ (k : Nat), vs = [.int .i64 (agreeN y.key ((reps g l).take k) : Nat), .int .i64 (k : Nat)] ∧ k ≤ (wits l).length ∧ (mechE g (ofB l w) ≠ 0 → k = 0) ∧ σ' = σ2 ++ (B13, Cells 30 y.enc) :: [(B7, Cells 30 x.enc), (B3, Cells 25 g.enc)] ∧ Le mM1 m')
        (fun vs => (wits l).length - nOf (vs.getD 1 undef)) rfl ?_ ?_
    · exact ⟨0, rfl, by omega, fun _ => rfl, rfl, Le.refl _⟩
    intro u1 vs1 σ1 m1 hJ1 _
    obtain ⟨k, rfl, hkl, hkz, rfl, hle3⟩ := hJ1
    refine SWP_seq ?_
    refine SWP_seq ?_
    refine SWP_region ?_
    first | refine pI rfl rfl ?_ | refine pu rfl rfl ?_
    first | refine pL rfl rfl ?_ | refine pu rfl rfl ?_
    refine pu rfl rfl ?_
    refine pc rfl rfl (fun c81 => ?_) (fun c81 => ?_)
    · skip
      refine pB rfl rfl ?_
      refine SL_yes rfl ?_
      first | refine pI rfl rfl ?_ | refine pu rfl rfl ?_
      refine SL_yes rfl ?_
      refine pc rfl rfl (fun c84 => ?_) (fun c84 => ?_)
      · skip
        refine pB rfl rfl ?_
        refine SL_nil ?_
        refine nx ?_
        refine SWP_ct rfl ?_
        refine SWP_skip ?_
        refine nx ?_
        refine SWP_seq ?_
        refine SWP_block ?_
        obtain ⟨w2, hwiw2⟩ : ∃ w, (wits l)[k]? = some w := ⟨_, List.getElem?_eq_getElem (by omega)⟩
        obtain ⟨adw2, ew2, _, hat2⟩ := hw.atI hwiw2
        cases ew2
        have hk2 := reps_at (g := g) hwiw2
        refine SWP_merge1 [17, 18, 88, 89, 90, 91, 92, 93, 94, 95, 96, 97, 98] [17, 18]
            (fun vs σ' m' => ∃ (B17 : Nat) (z : Res), vs = [.pointer (some ⟨B17, 0, none⟩), .int .i64 (mechE g (ofB l w2))] ∧ z.In m' ∧ z.key = outKey (mechO g (ofB l w2)) ∧ σ' = (B17, Cells 30 z.enc) :: (σ2 ++ (B13, Cells 30 y.enc) :: [(B7, Cells 30 x.enc), (B3, Cells 25 g.enc)]) ∧ Le m1 m')
            rfl ?_ ?_
        · skip
          refine SWP_tree (σ2 ++ (B13, Cells 30 y.enc) :: [(B7, Cells 30 x.enc), (B3, Cells 25 g.enc)]) 14 (.one 0 (.one 1 (.one 2 (.one 3 (.one 4 (.one 5 (.fork (.alt 6 (.fork (.alt 7 (.one 8 (.one 9 (.one 10 (.one 11 (.one 12 (.one 13 (.fin))))))) (.alt 11 (.one 7 (.one 8 (.one 9 (.one 10 (.one 12 (.one 13 (.fin))))))) (.none)))) (.alt 11 (.one 6 (.one 7 (.one 8 (.one 9 (.one 10 (.one 12 (.one 13 (.fin)))))))) (.none)))))))))) (by kernel_rfl) (by kernel_rfl) (by repeat (first | exact Sub.refl _ | exact Sub.nil _ | refine Sub.cons2 _ ?_ | refine Sub.cons _ ?_)) ?_
          refine T1 rfl ?_
          refine lw (v := .agg _) B3 0 rfl rfl rfl rfl ?_
          refine SL_nil ?_
          refine T1 rfl ?_
          first | refine pL rfl rfl ?_ | refine pu rfl rfl ?_
          refine SL_nil ?_
          refine T1 rfl ?_
          first | refine pL rfl rfl ?_ | refine pu rfl rfl ?_
          refine SL_nil ?_
          refine T1 rfl ?_
          first | refine pI rfl rfl ?_ | refine pu rfl rfl ?_
          refine SL_nil ?_
          refine T1 rfl ?_
          first | refine ia (es := 1) rfl rfl rfl (Nat.mul_one _) rfl rfl (by omega) rfl ?_ | refine iai (es := 1) rfl rfl rfl (Nat.mul_one _) rfl rfl (by omega) (by omega) rfl ?_
          refine SL_nil ?_
          refine T1 rfl ?_
          refine ldA (v := .int .i64 w2) rfl (hat2.mono (hle.trans (hle2.trans hle3))) rfl rfl ?_
          refine SL_nil ?_
          refine TF ?_
          refine TA rfl ?_ ?_
          · skip
            refine SL_call rfl rfl cb17 (CallsS.frame0 (mechOf _ (h.mono (hA.trans (hle2.trans hle3))) (by omega))) rfl (fun v18_6 σ18_6 m18_6 hl18_6 hR18_6 => ?_)
            obtain ⟨σo, rfl, rfl, ho⟩ := hR18_6
            refine SL_nil ?_
            refine TF ?_
            refine TA rfl ?_ ?_
            · skip
              refine SL_call rfl rfl cb16 (CallsS.frame0 (resultI (hin.mono (((hA.trans (hle2.trans hle3))).trans hl18_6)) ho (Nat.le_trans (ofB_small l w2) (by omega)))) rfl (fun v18_7 σ18_7 m18_7 hl18_7 hR18_7 => ?_)
              obtain ⟨σr, rfl, rfl, z, rfl, hz, oz⟩ := hR18_7
              dsimp only [Res.val]
              refine SL_nil ?_
              refine T1 rfl ?_
              refine pu rfl rfl ?_
              refine SL_nil ?_
              refine T1 rfl ?_
              first | refine pA rfl rfl ?_ | refine pu rfl rfl ?_
              refine SL_nil ?_
              refine T1 rfl ?_
              first | refine pI rfl rfl ?_ | refine pu rfl rfl ?_
              refine SL_nil ?_
              refine T1 rfl ?_
              refine al rfl rfl (fun B17 => ?_)
              refine SL_nil ?_
              refine T1 rfl ?_
              refine swE B17 0 z.enc (v := z.val) rfl rfl rfl rfl rfl rfl rfl rfl ?_
              refine SL_nil ?_
              refine T1 rfl ?_
              first | refine pI rfl rfl ?_ | refine pu rfl rfl ?_
              refine SL_nil ?_
              refine nx ?_
              refine ⟨by repeat (first | with_reducible exact Under.refl _ _ | exact Under.upds rfl (Under.hav _ _ _) | exact Under.hav _ _ _ | refine Under.upd rfl ?_ | refine Under.upds rfl ?_ | refine Under.hav2 rfl ?_), ?_⟩
              exact ⟨B17, z, rfl, hz, oz.key, rfl, hl18_6.trans hl18_7⟩
            refine TA rfl ?_ ?_
            · skip
              refine al rfl rfl (fun B17 => ?_)
              refine SL_nil ?_
              refine T1 rfl ?_
              refine SL_call rfl rfl cb16 (CallsS.frame0 (resultI (hin.mono (((hA.trans (hle2.trans hle3))).trans hl18_6)) ho (Nat.le_trans (ofB_small l w2) (by omega)))) rfl (fun v18_7 σ18_7 m18_7 hl18_7 hR18_7 => ?_)
              obtain ⟨σr, rfl, rfl, z, rfl, hz, oz⟩ := hR18_7
              dsimp only [Res.val]
              refine SL_nil ?_
              refine T1 rfl ?_
              refine pu rfl rfl ?_
              refine SL_nil ?_
              refine T1 rfl ?_
              first | refine pA rfl rfl ?_ | refine pu rfl rfl ?_
              refine SL_nil ?_
              refine T1 rfl ?_
              first | refine pI rfl rfl ?_ | refine pu rfl rfl ?_
              refine SL_nil ?_
              refine T1 rfl ?_
              refine swE B17 0 z.enc (v := z.val) rfl rfl rfl rfl rfl rfl rfl rfl ?_
              refine SL_nil ?_
              refine T1 rfl ?_
              first | refine pI rfl rfl ?_ | refine pu rfl rfl ?_
              refine SL_nil ?_
              refine nx ?_
              refine ⟨by repeat (first | with_reducible exact Under.refl _ _ | exact Under.upds rfl (Under.hav _ _ _) | exact Under.hav _ _ _ | refine Under.upd rfl ?_ | refine Under.upds rfl ?_ | refine Under.hav2 rfl ?_), ?_⟩
              exact ⟨B17, z, rfl, hz, oz.key, rfl, hl18_6.trans hl18_7⟩
            exact True.intro
          refine TA rfl ?_ ?_
          · skip
            refine al rfl rfl (fun B17 => ?_)
            refine SL_nil ?_
            refine T1 rfl ?_
            refine SL_call rfl rfl cb17 (CallsS.frame0 (mechOf _ (h.mono (hA.trans (hle2.trans hle3))) (by omega))) rfl (fun v18_6 σ18_6 m18_6 hl18_6 hR18_6 => ?_)
            obtain ⟨σo, rfl, rfl, ho⟩ := hR18_6
            refine SL_nil ?_
            refine T1 rfl ?_
            refine SL_call rfl rfl cb16 (CallsS.frame0 (resultI (hin.mono (((hA.trans (hle2.trans hle3))).trans hl18_6)) ho (Nat.le_trans (ofB_small l w2) (by omega)))) rfl (fun v18_7 σ18_7 m18_7 hl18_7 hR18_7 => ?_)
            obtain ⟨σr, rfl, rfl, z, rfl, hz, oz⟩ := hR18_7
            dsimp only [Res.val]
            refine SL_nil ?_
            refine T1 rfl ?_
            refine pu rfl rfl ?_
            refine SL_nil ?_
            refine T1 rfl ?_
            first | refine pA rfl rfl ?_ | refine pu rfl rfl ?_
            refine SL_nil ?_
            refine T1 rfl ?_
            first | refine pI rfl rfl ?_ | refine pu rfl rfl ?_
            refine SL_nil ?_
            refine T1 rfl ?_
            refine swE B17 0 z.enc (v := z.val) rfl rfl rfl rfl rfl rfl rfl rfl ?_
            refine SL_nil ?_
            refine T1 rfl ?_
            first | refine pI rfl rfl ?_ | refine pu rfl rfl ?_
            refine SL_nil ?_
            refine nx ?_
            refine ⟨by repeat (first | with_reducible exact Under.refl _ _ | exact Under.upds rfl (Under.hav _ _ _) | exact Under.hav _ _ _ | refine Under.upd rfl ?_ | refine Under.upds rfl ?_ | refine Under.hav2 rfl ?_), ?_⟩
            exact ⟨B17, z, rfl, hz, oz.key, rfl, hl18_6.trans hl18_7⟩
          exact True.intro
        intro uM3 vM3 σM3 mM3 hM3 _
        obtain ⟨B17, z, rfl, hz, kz, rfl, hle4⟩ := hM3
        refine SWP_seq ?_
        refine SWP_region ?_
        first | refine pI rfl rfl ?_ | refine pu rfl rfl ?_
        refine pc rfl rfl (fun c100 => ?_) (fun c100 => ?_)
        · skip
          refine pB rfl rfl ?_
          refine SL_yes rfl ?_
          refine lw (v := .agg _) B13 0 rfl rfl rfl rfl ?_
          refine SL_yes rfl ?_
          refine lw (v := .agg _) B17 0 rfl rfl rfl rfl ?_
          refine SL_yes rfl ?_
          refine SL_pcall rfl rfl cb14 (sameC (a := y) (b := z) (hy.mono (hle3.trans hle4)) hz) rfl ?_
          refine psp 104 rfl (fun c104 => ?_) (fun c104 => ?_)
          · skip
            refine pB rfl rfl ?_
            refine SL_nil ?_
            refine nx ?_
            refine SWP_ct rfl ?_
            have hag := agreeN_small y.key g l k
            refine SWP_region ?_
            first | refine pI rfl rfl ?_ | refine pu rfl rfl ?_
            first | refine pw rfl rfl (w64 (by omega) (by omega)) ?_ | refine pu rfl rfl ?_
            refine pI rfl rfl ?_
            refine SL_nil ?_
            refine nb ?_
            refine nx ?_
            refine SWP_weak (List.sublist_cons_self _ _) ?_
            refine SWP_region ?_
            first | refine pI rfl rfl ?_ | refine pu rfl rfl ?_
            first | refine pw rfl rfl (w64 (by omega) (by omega)) ?_ | refine pu rfl rfl ?_
            refine pI rfl rfl ?_
            refine SL_nil ?_
            refine nx ?_
            refine ⟨by repeat (first | exact Under.upds rfl (Under.hav _ _ _) | exact Under.hav _ _ _ | refine Under.upd rfl ?_ | refine Under.upds rfl ?_ | refine Under.hav2 rfl ?_), ?_, ?_⟩
            · refine ⟨k + 1, ?_, by omega, fun hne => absurd (by assumption) hne, rfl, hle3.trans hle4⟩
              first
                | (rw [agreeN_snoc hk2, if_pos ((agreeB_ref kz).2 ⟨by assumption, by assumption⟩)]; rfl)
                | (rw [agreeN_snoc hk2, if_neg (fun hd => absurd (agreeB_ref (x := y) kz |>.1 hd).2 (by assumption))]; rfl)
                | (rw [agreeN_snoc hk2, if_neg (fun hd => absurd (agreeB_ref (x := y) kz |>.1 hd).1 (by assumption))]; rfl)
            · simp only [L_vals, List.map, List.getD]; show (wits l).length - (k + 1) < (wits l).length - k; omega
          refine pB rfl rfl ?_
          refine SL_nil ?_
          refine nx ?_
          refine SWP_cf rfl ?_
          refine SWP_skip ?_
          refine nb ?_
          refine nx ?_
          refine SWP_weak (List.sublist_cons_self _ _) ?_
          refine SWP_region ?_
          first | refine pI rfl rfl ?_ | refine pu rfl rfl ?_
          first | refine pw rfl rfl (w64 (by omega) (by omega)) ?_ | refine pu rfl rfl ?_
          refine pI rfl rfl ?_
          refine SL_nil ?_
          refine nx ?_
          refine ⟨by repeat (first | exact Under.upds rfl (Under.hav _ _ _) | exact Under.hav _ _ _ | refine Under.upd rfl ?_ | refine Under.upds rfl ?_ | refine Under.hav2 rfl ?_), ?_, ?_⟩
          · refine ⟨k + 1, ?_, by omega, fun hne => absurd (by assumption) hne, rfl, hle3.trans hle4⟩
            first
              | (rw [agreeN_snoc hk2, if_pos ((agreeB_ref kz).2 ⟨by assumption, by assumption⟩)]; rfl)
              | (rw [agreeN_snoc hk2, if_neg (fun hd => absurd (agreeB_ref (x := y) kz |>.1 hd).2 (by assumption))]; rfl)
              | (rw [agreeN_snoc hk2, if_neg (fun hd => absurd (agreeB_ref (x := y) kz |>.1 hd).1 (by assumption))]; rfl)
          · simp only [L_vals, List.map, List.getD]; show (wits l).length - (k + 1) < (wits l).length - k; omega
        refine pB rfl rfl ?_
        refine SL_no rfl rfl ?_
        refine SL_no rfl rfl ?_
        refine SL_no rfl rfl ?_
        refine pB rfl rfl ?_
        refine SL_nil ?_
        refine nx ?_
        refine SWP_cf rfl ?_
        refine SWP_skip ?_
        refine nb ?_
        refine nx ?_
        refine SWP_weak (List.sublist_cons_self _ _) ?_
        refine SWP_region ?_
        first | refine pI rfl rfl ?_ | refine pu rfl rfl ?_
        first | refine pw rfl rfl (w64 (by omega) (by omega)) ?_ | refine pu rfl rfl ?_
        refine pI rfl rfl ?_
        refine SL_nil ?_
        refine nx ?_
        refine ⟨by repeat (first | exact Under.upds rfl (Under.hav _ _ _) | exact Under.hav _ _ _ | refine Under.upd rfl ?_ | refine Under.upds rfl ?_ | refine Under.hav2 rfl ?_), ?_, ?_⟩
        · refine ⟨k + 1, ?_, by omega, fun hne => absurd (by assumption) hne, rfl, hle3.trans hle4⟩
          first
            | (rw [agreeN_snoc hk2, if_pos ((agreeB_ref kz).2 ⟨by assumption, by assumption⟩)]; rfl)
            | (rw [agreeN_snoc hk2, if_neg (fun hd => absurd (agreeB_ref (x := y) kz |>.1 hd).2 (by assumption))]; rfl)
            | (rw [agreeN_snoc hk2, if_neg (fun hd => absurd (agreeB_ref (x := y) kz |>.1 hd).1 (by assumption))]; rfl)
        · simp only [L_vals, List.map, List.getD]; show (wits l).length - (k + 1) < (wits l).length - k; omega
      refine pB rfl rfl ?_
      refine SL_nil ?_
      refine nx ?_
      refine SWP_cf rfl ?_
      refine SWP_exit ?_
      refine ne ?_
      refine ne ?_
      refine be rfl ?_
      refine nx ?_
      refine SWP_seq ?_
      have hag := agreeN_small y.key g l k
      refine SWP_region ?_
      first | refine pI rfl rfl ?_ | refine pu rfl rfl ?_
      refine pc rfl rfl (fun c109 => ?_) (fun c109 => ?_)
      · skip
        refine pB rfl rfl ?_
        refine SL_yes rfl ?_
        first | refine pI rfl rfl ?_ | refine pu rfl rfl ?_
        refine SL_yes rfl ?_
        first | refine pw rfl rfl (w64 (by omega) (by omega)) ?_ | refine pu rfl rfl ?_
        refine SL_yes rfl ?_
        first | refine pL rfl rfl ?_ | refine pu rfl rfl ?_
        refine SL_yes rfl ?_
        refine pu rfl rfl ?_
        refine SL_yes rfl ?_
        refine pc rfl rfl (fun c115 => ?_) (fun c115 => ?_)
        · skip
          refine pB rfl rfl ?_
          refine pB rfl rfl ?_
          refine SL_yes rfl ?_
          first | refine pI rfl rfl ?_ | refine pu rfl rfl ?_
          refine SL_yes rfl ?_
          first | refine pI rfl rfl ?_ | refine pu rfl rfl ?_
          refine SL_yes rfl ?_
          refine pc rfl rfl (fun c120 => ?_) (fun c120 => ?_)
          · skip
            refine pB rfl rfl ?_
            refine SL_nil ?_
            refine nx ?_
            refine SWP_ct rfl ?_
            refine SWP_seq ?_
            refine SWP_region ?_
            exfalso
            by_cases hz0 : mechE g (ofB l w) = 0
            · rw [reps_all g l (by first | omega | exact absurd hz0 (by assumption))] at c115 c120
              exact lost_not ky hz0 (List.mem_of_getElem? hwiw) (by assumption) ⟨by omega, by omega⟩
            · have hk0 := hkz hz0
              subst hk0
              have e0 : agreeN y.key ((reps g l).take 0) = 0 := rfl
              omega
          refine pB rfl rfl ?_
          refine SL_nil ?_
          refine nx ?_
          refine SWP_cf rfl ?_
          refine SWP_skip ?_
          refine nb ?_
          refine nx ?_
          refine SWP_weak (List.Sublist.append_left (List.sublist_cons_self _ _) _) ?_
          refine SWP_region ?_
          first | refine pI rfl rfl ?_ | refine pu rfl rfl ?_
          first | refine pw rfl rfl (w64 (by omega) (by omega)) ?_ | refine pu rfl rfl ?_
          refine pI rfl rfl ?_
          refine SL_nil ?_
          refine nx ?_
          refine ⟨by repeat (first | exact Under.upds rfl (Under.hav _ _ _) | exact Under.hav _ _ _ | refine Under.upd rfl ?_ | refine Under.upds rfl ?_ | refine Under.hav2 rfl ?_), ?_, ?_⟩
          · exact ⟨i + 1, wn, σ2, rfl, by omega, hown2, rfl, (hle.trans hle2).trans hle3⟩
          · simp only [L_vals, List.map, List.getD]; show (wits l).length - (i + 1) < (wits l).length - i; omega
        refine pB rfl rfl ?_
        refine pB rfl rfl ?_
        refine SL_no rfl rfl ?_
        refine SL_no rfl rfl ?_
        refine SL_no rfl rfl ?_
        refine pB rfl rfl ?_
        refine SL_nil ?_
        refine nx ?_
        refine SWP_cf rfl ?_
        refine SWP_skip ?_
        refine nb ?_
        refine nx ?_
        refine SWP_weak (List.Sublist.append_left (List.sublist_cons_self _ _) _) ?_
        refine SWP_region ?_
        first | refine pI rfl rfl ?_ | refine pu rfl rfl ?_
        first | refine pw rfl rfl (w64 (by omega) (by omega)) ?_ | refine pu rfl rfl ?_
        refine pI rfl rfl ?_
        refine SL_nil ?_
        refine nx ?_
        refine ⟨by repeat (first | exact Under.upds rfl (Under.hav _ _ _) | exact Under.hav _ _ _ | refine Under.upd rfl ?_ | refine Under.upds rfl ?_ | refine Under.hav2 rfl ?_), ?_, ?_⟩
        · exact ⟨i + 1, wn, σ2, rfl, by omega, hown2, rfl, (hle.trans hle2).trans hle3⟩
        · simp only [L_vals, List.map, List.getD]; show (wits l).length - (i + 1) < (wits l).length - i; omega
      refine pB rfl rfl ?_
      refine SL_no rfl rfl ?_
      refine SL_no rfl rfl ?_
      refine SL_no rfl rfl ?_
      refine SL_no rfl rfl ?_
      refine SL_no rfl rfl ?_
      refine pB rfl rfl ?_
      refine pB rfl rfl ?_
      refine SL_no rfl rfl ?_
      refine SL_no rfl rfl ?_
      refine SL_no rfl rfl ?_
      refine pB rfl rfl ?_
      refine SL_nil ?_
      refine nx ?_
      refine SWP_cf rfl ?_
      refine SWP_skip ?_
      refine nb ?_
      refine nx ?_
      refine SWP_weak (List.Sublist.append_left (List.sublist_cons_self _ _) _) ?_
      refine SWP_region ?_
      first | refine pI rfl rfl ?_ | refine pu rfl rfl ?_
      first | refine pw rfl rfl (w64 (by omega) (by omega)) ?_ | refine pu rfl rfl ?_
      refine pI rfl rfl ?_
      refine SL_nil ?_
      refine nx ?_
      refine ⟨by repeat (first | exact Under.upds rfl (Under.hav _ _ _) | exact Under.hav _ _ _ | refine Under.upd rfl ?_ | refine Under.upds rfl ?_ | refine Under.hav2 rfl ?_), ?_, ?_⟩
      · exact ⟨i + 1, wn, σ2, rfl, by omega, hown2, rfl, (hle.trans hle2).trans hle3⟩
      · simp only [L_vals, List.map, List.getD]; show (wits l).length - (i + 1) < (wits l).length - i; omega
    refine pB rfl rfl ?_
    refine SL_no rfl rfl ?_
    refine SL_no rfl rfl ?_
    refine pB rfl rfl ?_
    refine SL_nil ?_
    refine nx ?_
    refine SWP_cf rfl ?_
    refine SWP_exit ?_
    refine ne ?_
    refine ne ?_
    refine be rfl ?_
    refine nx ?_
    refine SWP_seq ?_
    have hag := agreeN_small y.key g l k
    refine SWP_region ?_
    first | refine pI rfl rfl ?_ | refine pu rfl rfl ?_
    refine pc rfl rfl (fun c109 => ?_) (fun c109 => ?_)
    · skip
      refine pB rfl rfl ?_
      refine SL_yes rfl ?_
      first | refine pI rfl rfl ?_ | refine pu rfl rfl ?_
      refine SL_yes rfl ?_
      first | refine pw rfl rfl (w64 (by omega) (by omega)) ?_ | refine pu rfl rfl ?_
      refine SL_yes rfl ?_
      first | refine pL rfl rfl ?_ | refine pu rfl rfl ?_
      refine SL_yes rfl ?_
      refine pu rfl rfl ?_
      refine SL_yes rfl ?_
      refine pc rfl rfl (fun c115 => ?_) (fun c115 => ?_)
      · skip
        refine pB rfl rfl ?_
        refine pB rfl rfl ?_
        refine SL_yes rfl ?_
        first | refine pI rfl rfl ?_ | refine pu rfl rfl ?_
        refine SL_yes rfl ?_
        first | refine pI rfl rfl ?_ | refine pu rfl rfl ?_
        refine SL_yes rfl ?_
        refine pc rfl rfl (fun c120 => ?_) (fun c120 => ?_)
        · skip
          refine pB rfl rfl ?_
          refine SL_nil ?_
          refine nx ?_
          refine SWP_ct rfl ?_
          refine SWP_seq ?_
          refine SWP_region ?_
          exfalso
          by_cases hz0 : mechE g (ofB l w) = 0
          · rw [reps_all g l (by first | omega | exact absurd hz0 (by assumption))] at c115 c120
            exact lost_not ky hz0 (List.mem_of_getElem? hwiw) (by assumption) ⟨by omega, by omega⟩
          · have hk0 := hkz hz0
            subst hk0
            have e0 : agreeN y.key ((reps g l).take 0) = 0 := rfl
            omega
        refine pB rfl rfl ?_
        refine SL_nil ?_
        refine nx ?_
        refine SWP_cf rfl ?_
        refine SWP_skip ?_
        refine nb ?_
        refine nx ?_
        refine SWP_weak (List.Sublist.append_left (List.sublist_cons_self _ _) _) ?_
        refine SWP_region ?_
        first | refine pI rfl rfl ?_ | refine pu rfl rfl ?_
        first | refine pw rfl rfl (w64 (by omega) (by omega)) ?_ | refine pu rfl rfl ?_
        refine pI rfl rfl ?_
        refine SL_nil ?_
        refine nx ?_
        refine ⟨by repeat (first | exact Under.upds rfl (Under.hav _ _ _) | exact Under.hav _ _ _ | refine Under.upd rfl ?_ | refine Under.upds rfl ?_ | refine Under.hav2 rfl ?_), ?_, ?_⟩
        · exact ⟨i + 1, wn, σ2, rfl, by omega, hown2, rfl, (hle.trans hle2).trans hle3⟩
        · simp only [L_vals, List.map, List.getD]; show (wits l).length - (i + 1) < (wits l).length - i; omega
      refine pB rfl rfl ?_
      refine pB rfl rfl ?_
      refine SL_no rfl rfl ?_
      refine SL_no rfl rfl ?_
      refine SL_no rfl rfl ?_
      refine pB rfl rfl ?_
      refine SL_nil ?_
      refine nx ?_
      refine SWP_cf rfl ?_
      refine SWP_skip ?_
      refine nb ?_
      refine nx ?_
      refine SWP_weak (List.Sublist.append_left (List.sublist_cons_self _ _) _) ?_
      refine SWP_region ?_
      first | refine pI rfl rfl ?_ | refine pu rfl rfl ?_
      first | refine pw rfl rfl (w64 (by omega) (by omega)) ?_ | refine pu rfl rfl ?_
      refine pI rfl rfl ?_
      refine SL_nil ?_
      refine nx ?_
      refine ⟨by repeat (first | exact Under.upds rfl (Under.hav _ _ _) | exact Under.hav _ _ _ | refine Under.upd rfl ?_ | refine Under.upds rfl ?_ | refine Under.hav2 rfl ?_), ?_, ?_⟩
      · exact ⟨i + 1, wn, σ2, rfl, by omega, hown2, rfl, (hle.trans hle2).trans hle3⟩
      · simp only [L_vals, List.map, List.getD]; show (wits l).length - (i + 1) < (wits l).length - i; omega
    refine pB rfl rfl ?_
    refine SL_no rfl rfl ?_
    refine SL_no rfl rfl ?_
    refine SL_no rfl rfl ?_
    refine SL_no rfl rfl ?_
    refine SL_no rfl rfl ?_
    refine pB rfl rfl ?_
    refine pB rfl rfl ?_
    refine SL_no rfl rfl ?_
    refine SL_no rfl rfl ?_
    refine SL_no rfl rfl ?_
    refine pB rfl rfl ?_
    refine SL_nil ?_
    refine nx ?_
    refine SWP_cf rfl ?_
    refine SWP_skip ?_
    refine nb ?_
    refine nx ?_
    refine SWP_weak (List.Sublist.append_left (List.sublist_cons_self _ _) _) ?_
    refine SWP_region ?_
    first | refine pI rfl rfl ?_ | refine pu rfl rfl ?_
    first | refine pw rfl rfl (w64 (by omega) (by omega)) ?_ | refine pu rfl rfl ?_
    refine pI rfl rfl ?_
    refine SL_nil ?_
    refine nx ?_
    refine ⟨by repeat (first | exact Under.upds rfl (Under.hav _ _ _) | exact Under.hav _ _ _ | refine Under.upd rfl ?_ | refine Under.upds rfl ?_ | refine Under.hav2 rfl ?_), ?_, ?_⟩
    · exact ⟨i + 1, wn, σ2, rfl, by omega, hown2, rfl, (hle.trans hle2).trans hle3⟩
    · simp only [L_vals, List.map, List.getD]; show (wits l).length - (i + 1) < (wits l).length - i; omega
  refine SL_nil ?_
  refine nx ?_
  refine SWP_cf rfl ?_
  refine SWP_exit ?_
  refine ne ?_
  refine ne ?_
  refine be rfl ?_
  refine nx ?_
  refine SWP_seq ?_
  refine SWP_seq ?_
  refine SWP_region ?_
  first | refine pI rfl rfl ?_ | refine pu rfl rfl ?_
  refine pc rfl rfl (fun c123 => ?_) (fun c123 => ?_)
  · skip
    refine SL_nil ?_
    refine nx ?_
    refine SWP_ct rfl ?_
    refine SWP_seq ?_
    refine SWP_region ?_
    first | refine pL rfl rfl ?_ | refine pu rfl rfl ?_
    refine pu rfl rfl ?_
    refine pt rfl rfl (by rw [certF_no (by omega)]; rfl) ?_
    refine pB rfl rfl ?_
    refine SL_yes rfl ?_
    refine SL_pcall rfl rfl cb9 (lives30) rfl ?_
    refine pB rfl rfl ?_
    refine pB rfl rfl ?_
    refine SL_nil ?_
    refine nx ?_
    refine SWP_ret ?_
    refine nr ?_
    refine fin [_] ⟨rfl, trivial⟩ ?_
    rfl
  refine SL_nil ?_
  refine nx ?_
  refine SWP_cf rfl ?_
  refine SWP_skip ?_
  refine nx ?_
  refine SWP_seq ?_
  have hwon := certF_won (g := g) (l := l) (q := q) (by omega) kx
  refine SWP_region ?_
  first | refine pL rfl rfl ?_ | refine pu rfl rfl ?_
  refine pu rfl rfl ?_
  first | refine pL rfl rfl ?_ | refine pu rfl rfl ?_
  refine pu rfl rfl ?_
  first | refine pw rfl rfl (w64 (by omega) (by omega)) ?_ | refine pu rfl rfl ?_
  refine pI rfl rfl ?_
  refine SL_nil ?_
  refine nx ?_
  refine SWP_seq ?_
  refine SWP_region ?_
  refine SL_freezeL (by omega) intE_len hown (fun m9 hl9 hb9 => ?_)
  refine pu rfl rfl ?_
  first | refine pL rfl rfl ?_ | refine pu rfl rfl ?_
  refine SL_pcall rfl rfl cb13 (intsR (dx.mono ((hl6_1.trans hle).trans hl9)) hb9) rfl ?_
  rw [reps_all g l (by omega), decide_eq_true hwon.1]
  first | refine pB rfl rfl ?_ | refine pu rfl rfl ?_
  refine SL_yes rfl ?_
  refine pI rfl rfl ?_
  refine SL_yes rfl ?_
  first | refine pw rfl rfl (w64 (by omega) (by omega)) ?_ | refine pu rfl rfl ?_
  refine SL_yes rfl ?_
  first | refine pL rfl rfl ?_ | refine pu rfl rfl ?_
  refine SL_yes rfl ?_
  refine pu rfl rfl ?_
  refine SL_yes rfl ?_
  refine pt rfl rfl (hwon.2.1) ?_
  refine pB rfl rfl ?_
  refine pB rfl rfl ?_
  refine SL_yes rfl ?_
  refine pI rfl rfl ?_
  refine SL_yes rfl ?_
  first | refine pI rfl rfl ?_ | refine pu rfl rfl ?_
  refine SL_yes rfl ?_
  refine pt rfl rfl (hwon.2.2) ?_
  refine pB rfl rfl ?_
  refine pB rfl rfl ?_
  refine SL_yes rfl ?_
  refine SL_pcall rfl rfl cb9 (lives30) rfl ?_
  refine pB rfl rfl ?_
  refine pB rfl rfl ?_
  refine SL_nil ?_
  refine nx ?_
  refine SWP_ret ?_
  refine fin [_] ⟨rfl, trivial⟩ ?_
  rfl

end Go.Proofs.Ytnpnleapnbdllaa

