/- certify.collect, certify.Certify. -/
import Derived.Test.YtnpnleapnbdllaaCerA
namespace Go.Proofs.Ytnpnleapnbdllaa
open Eng

set_option maxRecDepth 100000 in
theorem collectI {m : Mem} {g : Game} {v : Value} {l : List Ball} (hin : g.In m) (h : RL m Ball.enc 3 v l) (hl : l.length ≤ 4000000) : CallsS Try.prog 21 [g.val, v].toArray [] m fun u σ' m' => σ' = [] ∧ ∃ X : List Rep, RL m' Rep.enc 7 u X ∧ (∀ y ∈ X, y.rs.In m') ∧ X.map Rep.key = reps g l := by
  refine CallsS.ghost (R' := fun u σ' m' => ∃ (X : List Rep) (σe τ : Sig), σ' = σe ++ τ ∧ OwnS 51 7 u (X.flatMap Rep.enc) σe ∧ (∀ y ∈ X, y.rs.In m') ∧ X.map Rep.key = reps g l) ?_ ?h2
  case h2 =>
    rintro u σ' m' ⟨X, σe, τ, rfl, hR, hX, hK⟩ g0 W hC
    obtain ⟨m2, h1, h2, h3⟩ := hR.freezeL (by omega) Rep.enc_len hC
    exact ⟨[], m2, h2.sublist (List.nil_sublist _), h1, rfl, X, h3, fun y hy => (hX y hy).mono h1, hK⟩
  obtain ⟨pa, pcap, rfl⟩ := h.len
  dsimp only [Game.val]
  refine enter Try.func21 Try.ntmps21 rfl rfl ?_
  refine SWP_seq ?_
  refine SWP_region ?_
  refine bx (v := .agg _) rfl rfl (fun B2 => ?_)
  refine pL rfl rfl ?_
  refine SL_nil ?_
  refine nx ?_
  refine SWP_seq ?_
  refine SWP_region ?_
  refine pL rfl rfl ?_
  refine SL_nil ?_
  refine nx ?_
  refine SWP_seq ?_
  refine SWP_seq ?_
  refine SWP_region ?_
  first | refine pL rfl rfl ?_ | refine pu rfl rfl ?_
  refine SL_call rfl rfl cb15 (CallsS.frame0 (mechWits h hl)) rfl (fun v2_1 σ2_1 m2_1 hl2_1 hR2_1 => ?_)
  obtain ⟨σw, rfl, rfl, hw⟩ := hR2_1
  have hwl := wits_len l
  obtain ⟨wa, wc, rfl⟩ := hw.len
  refine pu rfl rfl ?_
  refine pI rfl rfl ?_
  refine SL_nil ?_
  refine nx ?_
  refine SWP_block ?_
  refine SWP_loop [5, 7, 8, 9, 13, 14, 15, 16, 17, 18, 19, 20, 21, 22, 23, 24, 25, 26, 27, 28, 29, 30, 31, 32, 33] [5, 13]
      (fun vs σ' m' => ∃ (i : Nat) (w5 : Value) (σ1 : Sig) (X : List Rep), vs = [w5, .int .i64 (i : Nat)] ∧ i ≤ (wits l).length ∧ OwnS 51 7 w5 (X.flatMap Rep.enc) σ1 ∧ X.map Rep.key = (reps g l).take i ∧ (∀ y ∈ X, y.rs.In m') ∧ σ' = σ1 ++ [(B2, Cells 25 g.enc)] ∧ Le m m' ∧ Le m2_1 m')
      (fun vs => (wits l).length - nOf (vs.getD 1 undef)) rfl ?_ ?_
  · exact ⟨0, _, [], [], rfl, by omega, .nil, rfl, fun y hy => (by cases hy), rfl, hl2_1, Le.refl _⟩
  intro u0 vs0 σ0 m0 hJ0 _
  obtain ⟨i, w5, σ1, X, rfl, hi, hown, hXk, hXi, rfl, hle, hlw⟩ := hJ0
  refine SWP_seq ?_
  refine SWP_region ?_
  refine pc rfl rfl (fun c14 => ?_) (fun c14 => ?_)
  · skip
    refine SL_nil ?_
    refine nx ?_
    refine SWP_seq ?_
    refine SWP_ct rfl ?_
    refine SWP_skip ?_
    refine nx ?_
    refine SWP_seq ?_
    refine SWP_block ?_
    refine SWP_seq ?_
    obtain ⟨w, hwi⟩ : ∃ w, (wits l)[i]? = some w := ⟨_, List.getElem?_eq_getElem (by omega)⟩
    obtain ⟨ad, e1, _, hat⟩ := hw.atI hwi
    cases e1
    refine SWP_region ?_
    first | refine ia (es := 1) rfl rfl rfl (Nat.mul_one _) rfl rfl (by omega) rfl ?_ | refine iai (es := 1) rfl rfl rfl (Nat.mul_one _) rfl rfl (by omega) (by omega) rfl ?_
    refine ldA (v := .int .i64 w) rfl (hat.mono hlw) rfl rfl ?_
    first | refine pI rfl rfl ?_ | refine pu rfl rfl ?_
    refine SL_nil ?_
    refine nx ?_
    refine SWP_seq ?_
    refine SWP_tree (σ1 ++ [(B2, Cells 25 g.enc)]) 11 (.one 0 (.one 1 (.one 2 (.fork (.alt 3 (.fork (.alt 4 (.one 5 (.one 6 (.one 7 (.one 8 (.one 9 (.one 10 (.fin))))))) (.alt 8 (.one 4 (.one 5 (.one 6 (.one 7 (.one 9 (.one 10 (.fin))))))) (.none)))) (.alt 8 (.one 3 (.one 4 (.one 5 (.one 6 (.one 7 (.one 9 (.one 10 (.fin)))))))) (.none))))))) (by kernel_rfl) (by kernel_rfl) (by repeat (first | exact Sub.refl _ | exact Sub.nil _ | refine Sub.cons2 _ ?_ | refine Sub.cons _ ?_)) ?_
    refine T1 rfl ?_
    refine lw (v := .agg _) B2 0 rfl rfl rfl rfl ?_
    refine SL_nil ?_
    refine T1 rfl ?_
    first | refine pL rfl rfl ?_ | refine pu rfl rfl ?_
    refine SL_nil ?_
    refine T1 rfl ?_
    first | refine pI rfl rfl ?_ | refine pu rfl rfl ?_
    refine SL_nil ?_
    refine TF ?_
    refine TA rfl ?_ ?_
    · skip
      refine SL_call rfl rfl cb17 (CallsS.frame0 (mechOf _ (h.mono hle) hl)) rfl (fun v5_3 σ5_3 m5_3 hl5_3 hR5_3 => ?_)
      obtain ⟨σo, rfl, rfl, ho⟩ := hR5_3
      refine SL_nil ?_
      refine TF ?_
      refine TA rfl ?_ ?_
      · skip
        refine SL_call rfl rfl cb16 (CallsS.frame0 (resultI (hin.mono (hle.trans hl5_3)) ho (Nat.le_trans (ofB_small l w) hl))) rfl (fun v5_4 σ5_4 m5_4 hl5_4 hR5_4 => ?_)
        obtain ⟨σr, rfl, rfl, x, rfl, hx, ox⟩ := hR5_4
        dsimp only [Res.val]
        refine SL_nil ?_
        refine T1 rfl ?_
        refine pu rfl rfl ?_
        refine SL_nil ?_
        refine T1 rfl ?_
        first | refine pA rfl rfl ?_ | refine pu rfl rfl ?_
        refine SL_nil ?_
        refine T1 rfl ?_
        first | refine pI rfl rfl ?_ | refine pu rfl rfl ?_
        refine SL_nil ?_
        refine T1 rfl ?_
        refine al rfl rfl (fun B8 => ?_)
        refine SL_nil ?_
        refine T1 rfl ?_
        refine sw (v := .agg _) B8 0 rfl rfl rfl rfl rfl rfl rfl ?_
        refine SL_nil ?_
        refine T1 rfl ?_
        first | refine pI rfl rfl ?_ | refine pu rfl rfl ?_
        refine SL_nil ?_
        refine nx ?_
        refine SWP_region ?_
        first | refine pL rfl rfl ?_ | refine pu rfl rfl ?_
        first | refine pI rfl rfl ?_ | refine pu rfl rfl ?_
        refine lw (v := .agg _) B8 0 rfl rfl rfl rfl ?_
        first | refine pI rfl rfl ?_ | refine pu rfl rfl ?_
        refine pu rfl rfl ?_
        refine pA rfl rfl ?_
        refine bs (cs := Rep.enc ⟨w, x, decide (mechE g (ofB l w) = 0)⟩) rfl rfl rfl rfl rfl (fun B31 => ?_)
        have hXl : X.length ≤ 9 := by
          have h1 := congrArg List.length hXk
          rw [List.length_map, List.length_take] at h1
          have h2 := reps_len g l
          omega
        refine ap (e := 51) (size := 7) (bytes := 112) rfl rfl rfl rfl rfl rfl rfl hown (permX [_, _] σ1 _) rfl (Rd.of_cells (.head _)) rfl rfl (by rw [flatMap_len Rep.enc_len]; omega) rfl rfl (fun w9 σ9 hown9 => ?_)
        have hown8 : OwnS 51 7 w9 ((X ++ [(⟨w, x, decide (mechE g (ofB l w) = 0)⟩ : Rep)]).flatMap Rep.enc) σ9 := by
          rw [List.flatMap_append]; exact hown9
        refine SL_weak (List.Sublist.append_left (.cons _ (.cons _ (.refl _))) _) ?_
        first | refine pL rfl rfl ?_ | refine pu rfl rfl ?_
        refine SL_nil ?_
        refine nb ?_
        refine nx ?_
        refine SWP_region ?_
        first | refine pw rfl rfl (w64 (by omega) (by omega)) ?_ | refine pu rfl rfl ?_
        refine pI rfl rfl ?_
        refine SL_nil ?_
        refine nx ?_
        refine ⟨by repeat (first | exact Under.upds rfl (Under.hav _ _ _) | exact Under.hav _ _ _ | refine Under.upd rfl ?_), ?_, ?_⟩
        · exact ⟨i + 1, w9, σ9, X ++ [(⟨w, x, decide (mechE g (ofB l w) = 0)⟩ : Rep)], rfl, by omega, hown8, keys_snoc hXk (reps_at hwi) (show (w, decide (mechE g (ofB l w) = 0), x.key) = _ by rw [ox.key]; rfl), fun y hy => by
          rcases List.mem_append.1 hy with hy | hy
          · exact (hXi y hy).mono (hl5_3.trans hl5_4)
          · rw [List.mem_singleton.1 hy]; exact hx, rfl, hle.trans (hl5_3.trans hl5_4), hlw.trans (hl5_3.trans hl5_4)⟩
        · simp only [L_vals, List.map, List.getD]; show (wits l).length - (i + 1) < (wits l).length - i; omega
      refine TA rfl ?_ ?_
      · skip
        refine al rfl rfl (fun B8 => ?_)
        refine SL_nil ?_
        refine T1 rfl ?_
        refine SL_call rfl rfl cb16 (CallsS.frame0 (resultI (hin.mono (hle.trans hl5_3)) ho (Nat.le_trans (ofB_small l w) hl))) rfl (fun v5_4 σ5_4 m5_4 hl5_4 hR5_4 => ?_)
        obtain ⟨σr, rfl, rfl, x, rfl, hx, ox⟩ := hR5_4
        dsimp only [Res.val]
        refine SL_nil ?_
        refine T1 rfl ?_
        refine pu rfl rfl ?_
        refine SL_nil ?_
        refine T1 rfl ?_
        first | refine pA rfl rfl ?_ | refine pu rfl rfl ?_
        refine SL_nil ?_
        refine T1 rfl ?_
        first | refine pI rfl rfl ?_ | refine pu rfl rfl ?_
        refine SL_nil ?_
        refine T1 rfl ?_
        refine sw (v := .agg _) B8 0 rfl rfl rfl rfl rfl rfl rfl ?_
        refine SL_nil ?_
        refine T1 rfl ?_
        first | refine pI rfl rfl ?_ | refine pu rfl rfl ?_
        refine SL_nil ?_
        refine nx ?_
        refine SWP_region ?_
        first | refine pL rfl rfl ?_ | refine pu rfl rfl ?_
        first | refine pI rfl rfl ?_ | refine pu rfl rfl ?_
        refine lw (v := .agg _) B8 0 rfl rfl rfl rfl ?_
        first | refine pI rfl rfl ?_ | refine pu rfl rfl ?_
        refine pu rfl rfl ?_
        refine pA rfl rfl ?_
        refine bs (cs := Rep.enc ⟨w, x, decide (mechE g (ofB l w) = 0)⟩) rfl rfl rfl rfl rfl (fun B31 => ?_)
        have hXl : X.length ≤ 9 := by
          have h1 := congrArg List.length hXk
          rw [List.length_map, List.length_take] at h1
          have h2 := reps_len g l
          omega
        refine ap (e := 51) (size := 7) (bytes := 112) rfl rfl rfl rfl rfl rfl rfl hown (permX [_, _] σ1 _) rfl (Rd.of_cells (.head _)) rfl rfl (by rw [flatMap_len Rep.enc_len]; omega) rfl rfl (fun w9 σ9 hown9 => ?_)
        have hown8 : OwnS 51 7 w9 ((X ++ [(⟨w, x, decide (mechE g (ofB l w) = 0)⟩ : Rep)]).flatMap Rep.enc) σ9 := by
          rw [List.flatMap_append]; exact hown9
        refine SL_weak (List.Sublist.append_left (.cons _ (.cons _ (.refl _))) _) ?_
        first | refine pL rfl rfl ?_ | refine pu rfl rfl ?_
        refine SL_nil ?_
        refine nb ?_
        refine nx ?_
        refine SWP_region ?_
        first | refine pw rfl rfl (w64 (by omega) (by omega)) ?_ | refine pu rfl rfl ?_
        refine pI rfl rfl ?_
        refine SL_nil ?_
        refine nx ?_
        refine ⟨by repeat (first | exact Under.upds rfl (Under.hav _ _ _) | exact Under.hav _ _ _ | refine Under.upd rfl ?_), ?_, ?_⟩
        · exact ⟨i + 1, w9, σ9, X ++ [(⟨w, x, decide (mechE g (ofB l w) = 0)⟩ : Rep)], rfl, by omega, hown8, keys_snoc hXk (reps_at hwi) (show (w, decide (mechE g (ofB l w) = 0), x.key) = _ by rw [ox.key]; rfl), fun y hy => by
          rcases List.mem_append.1 hy with hy | hy
          · exact (hXi y hy).mono (hl5_3.trans hl5_4)
          · rw [List.mem_singleton.1 hy]; exact hx, rfl, hle.trans (hl5_3.trans hl5_4), hlw.trans (hl5_3.trans hl5_4)⟩
        · simp only [L_vals, List.map, List.getD]; show (wits l).length - (i + 1) < (wits l).length - i; omega
      exact True.intro
    refine TA rfl ?_ ?_
    · skip
      refine al rfl rfl (fun B8 => ?_)
      refine SL_nil ?_
      refine T1 rfl ?_
      refine SL_call rfl rfl cb17 (CallsS.frame0 (mechOf _ (h.mono hle) hl)) rfl (fun v5_3 σ5_3 m5_3 hl5_3 hR5_3 => ?_)
      obtain ⟨σo, rfl, rfl, ho⟩ := hR5_3
      refine SL_nil ?_
      refine T1 rfl ?_
      refine SL_call rfl rfl cb16 (CallsS.frame0 (resultI (hin.mono (hle.trans hl5_3)) ho (Nat.le_trans (ofB_small l w) hl))) rfl (fun v5_4 σ5_4 m5_4 hl5_4 hR5_4 => ?_)
      obtain ⟨σr, rfl, rfl, x, rfl, hx, ox⟩ := hR5_4
      dsimp only [Res.val]
      refine SL_nil ?_
      refine T1 rfl ?_
      refine pu rfl rfl ?_
      refine SL_nil ?_
      refine T1 rfl ?_
      first | refine pA rfl rfl ?_ | refine pu rfl rfl ?_
      refine SL_nil ?_
      refine T1 rfl ?_
      first | refine pI rfl rfl ?_ | refine pu rfl rfl ?_
      refine SL_nil ?_
      refine T1 rfl ?_
      refine sw (v := .agg _) B8 0 rfl rfl rfl rfl rfl rfl rfl ?_
      refine SL_nil ?_
      refine T1 rfl ?_
      first | refine pI rfl rfl ?_ | refine pu rfl rfl ?_
      refine SL_nil ?_
      refine nx ?_
      refine SWP_region ?_
      first | refine pL rfl rfl ?_ | refine pu rfl rfl ?_
      first | refine pI rfl rfl ?_ | refine pu rfl rfl ?_
      refine lw (v := .agg _) B8 0 rfl rfl rfl rfl ?_
      first | refine pI rfl rfl ?_ | refine pu rfl rfl ?_
      refine pu rfl rfl ?_
      refine pA rfl rfl ?_
      refine bs (cs := Rep.enc ⟨w, x, decide (mechE g (ofB l w) = 0)⟩) rfl rfl rfl rfl rfl (fun B31 => ?_)
      have hXl : X.length ≤ 9 := by
        have h1 := congrArg List.length hXk
        rw [List.length_map, List.length_take] at h1
        have h2 := reps_len g l
        omega
      refine ap (e := 51) (size := 7) (bytes := 112) rfl rfl rfl rfl rfl rfl rfl hown (permX [_, _] σ1 _) rfl (Rd.of_cells (.head _)) rfl rfl (by rw [flatMap_len Rep.enc_len]; omega) rfl rfl (fun w9 σ9 hown9 => ?_)
      have hown8 : OwnS 51 7 w9 ((X ++ [(⟨w, x, decide (mechE g (ofB l w) = 0)⟩ : Rep)]).flatMap Rep.enc) σ9 := by
        rw [List.flatMap_append]; exact hown9
      refine SL_weak (List.Sublist.append_left (.cons _ (.cons _ (.refl _))) _) ?_
      first | refine pL rfl rfl ?_ | refine pu rfl rfl ?_
      refine SL_nil ?_
      refine nb ?_
      refine nx ?_
      refine SWP_region ?_
      first | refine pw rfl rfl (w64 (by omega) (by omega)) ?_ | refine pu rfl rfl ?_
      refine pI rfl rfl ?_
      refine SL_nil ?_
      refine nx ?_
      refine ⟨by repeat (first | exact Under.upds rfl (Under.hav _ _ _) | exact Under.hav _ _ _ | refine Under.upd rfl ?_), ?_, ?_⟩
      · exact ⟨i + 1, w9, σ9, X ++ [(⟨w, x, decide (mechE g (ofB l w) = 0)⟩ : Rep)], rfl, by omega, hown8, keys_snoc hXk (reps_at hwi) (show (w, decide (mechE g (ofB l w) = 0), x.key) = _ by rw [ox.key]; rfl), fun y hy => by
        rcases List.mem_append.1 hy with hy | hy
        · exact (hXi y hy).mono (hl5_3.trans hl5_4)
        · rw [List.mem_singleton.1 hy]; exact hx, rfl, hle.trans (hl5_3.trans hl5_4), hlw.trans (hl5_3.trans hl5_4)⟩
      · simp only [L_vals, List.map, List.getD]; show (wits l).length - (i + 1) < (wits l).length - i; omega
    exact True.intro
  refine SL_nil ?_
  refine nx ?_
  refine SWP_seq ?_
  refine SWP_cf rfl ?_
  refine SWP_exit ?_
  refine ne ?_
  refine ne ?_
  refine be rfl ?_
  refine nx ?_
  refine SWP_seq ?_
  refine SWP_region ?_
  first | refine pL rfl rfl ?_ | refine pu rfl rfl ?_
  first | refine pL rfl rfl ?_ | refine pu rfl rfl ?_
  refine SL_nil ?_
  refine nx ?_
  refine SWP_ret ?_
  refine fin [_] ⟨rfl, trivial⟩ ?_
  obtain rfl : i = (wits l).length := by omega
  rw [List.take_of_length_le (by unfold reps; rw [List.length_map]; exact Nat.le_refl _)] at hXk
  exact ⟨X, σ1, _, rfl, hown, hXi, hXk⟩

theorem winB_iff {q : Int} {K : List PK} {y : Rep} : winB q K y.key = true ↔ y.ok = true ∧ (K.length : Int) < 2 * (agreeN y.rs.key K : Int) ∧ q ≤ (agreeN y.rs.key K : Int) := by
  show (y.ok && decide ((K.length : Int) < 2 * (agreeN y.rs.key K : Int) ∧ q ≤ (agreeN y.rs.key K : Int))) = true ↔ _
  rw [Bool.and_eq_true, decide_eq_true_eq]
theorem certF_err {g : Game} {l : List Ball} {q : Int} (h : gameErr g ≠ 0) : certF g l q = (gameErr g, zeroK, []) := if_pos h
theorem certF_rng {g : Game} {l : List Ball} {q : Int} (h : ¬ gameErr g ≠ 0) (hq : q < 1 ∨ 8 < q) : certF g l q = (2, zeroK, []) := by unfold certF; rw [if_neg h, if_pos hq]
theorem certF_ok {g : Game} {l : List Ball} {q : Int} (h : ¬ gameErr g ≠ 0) (hq : ¬ (q < 1 ∨ 8 < q)) : certF g l q = certK q (reps g l) := by unfold certF; rw [if_neg h, if_neg hq]
theorem certK_some {q : Int} {K : List PK} {x : PK} (h : K.find? (winB q K) = some x) : certK q K = (0, x.2.2, dissN x.2.2 K) := by unfold certK; rw [h]
theorem certK_none {q : Int} {K : List PK} (h : K.find? (winB q K) = none) : certK q K = (23, zeroK, []) := by unfold certK; rw [h]

set_option maxRecDepth 100000 in
theorem certI {m : Mem} {g : Game} {v : Value} {l : List Ball} (hin : g.In m) (h : RL m Ball.enc 3 v l) (hl : l.length ≤ 4000000) (q : Int) : CallsS Try.prog 10 [g.val, v, .int .i64 q].toArray [] m fun r σ' m' => σ' = [] ∧ CertOf r m' (certF g l q) := by
  refine CallsS.ghost (R' := fun r σ' m' => CertOf r m' (certF g l q)) ?_ ?h2
  case h2 =>
    intro r σ' m' hR g0 W hC
    exact ⟨[], m', hC.sublist (List.nil_sublist _), Le.refl _, rfl, hR⟩
  obtain ⟨pa, pcap, rfl⟩ := h.len
  dsimp only [Game.val]
  refine enter Try.func10 Try.ntmps10 rfl rfl ?_
  refine SWP_seq ?_
  refine SWP_region ?_
  refine bx (v := .agg _) rfl rfl (fun B3 => ?_)
  refine al rfl rfl (fun B6 => ?_)
  refine pL rfl rfl ?_
  refine pI rfl rfl ?_
  refine SL_nil ?_
  refine nx ?_
  refine SWP_seq ?_
  refine SWP_seq ?_
  refine SWP_region ?_
  refine lw (v := .agg _) B3 0 rfl rfl rfl rfl ?_
  refine SL_call rfl rfl cb16 (CallsS.frame0 (resultI (l := []) hin (RL.nil _ _) (by decide))) rfl (fun v1_1 σ1_1 m1_1 hl1_1 hR1_1 => ?_)
  obtain ⟨σa, rfl, rfl, x0, rfl, hx0, ox0⟩ := hR1_1
  dsimp only [Res.val]
  refine pu rfl rfl ?_
  first | refine pA rfl rfl ?_ | refine pu rfl rfl ?_
  first | refine pI rfl rfl ?_ | refine pu rfl rfl ?_
  refine al rfl rfl (fun B9 => ?_)
  refine sw (v := .agg _) B9 0 rfl rfl rfl rfl rfl rfl rfl ?_
  first | refine pI rfl rfl ?_ | refine pu rfl rfl ?_
  refine SL_nil ?_
  refine nx ?_
  refine SWP_seq ?_
  refine SWP_region ?_
  first | refine pI rfl rfl ?_ | refine pu rfl rfl ?_
  refine pc rfl rfl (fun c22 => ?_) (fun c22 => ?_)
  · skip
    refine SL_nil ?_
    refine nx ?_
    refine SWP_ct rfl ?_
    refine SWP_seq ?_
    refine SWP_region ?_
    refine pA rfl rfl ?_
    first | refine pI rfl rfl ?_ | refine pu rfl rfl ?_
    refine sw (v := .agg _) B6 0 rfl rfl rfl rfl rfl rfl rfl ?_
    refine pL rfl rfl ?_
    first | refine pI rfl rfl ?_ | refine pu rfl rfl ?_
    refine SL_nil ?_
    refine nx ?_
    refine SWP_ret ?_
    refine nr ?_
    refine fin [_, _, _] ⟨⟨_, _, rfl, Rd.of_cells (MemO.mem (B := B6)), rfl⟩, rfl, rfl, trivial⟩ ?_
    have e := (mechE_nil g).1 (by assumption)
    rw [certF_err e]
    exact ⟨zeroR, _, by rw [← mechE_nil_eq e]; rfl, zeroR_in _, rfl, RL.nil _ _⟩
  refine SL_nil ?_
  refine nx ?_
  refine SWP_cf rfl ?_
  refine SWP_skip ?_
  refine nx ?_
  refine SWP_seq ?_
  refine SWP_seq ?_
  refine SWP_region ?_
  first | refine pI rfl rfl ?_ | refine pu rfl rfl ?_
  refine pc rfl rfl (fun c26 => ?_) (fun c26 => ?_)
  · skip
    refine pB rfl rfl ?_
    refine SL_no rfl rfl ?_
    refine SL_no rfl rfl ?_
    refine pB rfl rfl ?_
    refine SL_nil ?_
    refine nx ?_
    refine SWP_ct rfl ?_
    refine SWP_seq ?_
    refine SWP_region ?_
    refine pA rfl rfl ?_
    refine sw (v := .agg _) B6 0 rfl rfl rfl rfl rfl rfl rfl ?_
    refine pL rfl rfl ?_
    refine pI rfl rfl ?_
    refine SL_nil ?_
    refine nx ?_
    refine SWP_ret ?_
    refine nr ?_
    refine fin [_, _, _] ⟨⟨_, _, rfl, Rd.of_cells (MemO.mem (B := B6)), rfl⟩, rfl, rfl, trivial⟩ ?_
    have hg : ¬ gameErr g ≠ 0 := fun h => absurd ((mechE_nil g).2 h) (by assumption)
    rw [certF_rng hg (by omega)]
    exact ⟨zeroR, _, rfl, zeroR_in _, rfl, RL.nil _ _⟩
  refine pB rfl rfl ?_
  refine SL_yes rfl ?_
  first | refine pI rfl rfl ?_ | refine pu rfl rfl ?_
  refine SL_yes rfl ?_
  refine pc rfl rfl (fun c29 => ?_) (fun c29 => ?_)
  · skip
    refine pB rfl rfl ?_
    refine SL_nil ?_
    refine nx ?_
    refine SWP_ct rfl ?_
    refine SWP_seq ?_
    refine SWP_region ?_
    refine pA rfl rfl ?_
    refine sw (v := .agg _) B6 0 rfl rfl rfl rfl rfl rfl rfl ?_
    refine pL rfl rfl ?_
    refine pI rfl rfl ?_
    refine SL_nil ?_
    refine nx ?_
    refine SWP_ret ?_
    refine nr ?_
    refine fin [_, _, _] ⟨⟨_, _, rfl, Rd.of_cells (MemO.mem (B := B6)), rfl⟩, rfl, rfl, trivial⟩ ?_
    have hg : ¬ gameErr g ≠ 0 := fun h => absurd ((mechE_nil g).2 h) (by assumption)
    rw [certF_rng hg (by omega)]
    exact ⟨zeroR, _, rfl, zeroR_in _, rfl, RL.nil _ _⟩
  refine pB rfl rfl ?_
  refine SL_nil ?_
  refine nx ?_
  refine SWP_cf rfl ?_
  refine SWP_skip ?_
  refine nx ?_
  refine SWP_seq ?_
  refine SWP_region ?_
  refine lw (v := .agg _) B3 0 rfl rfl rfl rfl ?_
  first | refine pL rfl rfl ?_ | refine pu rfl rfl ?_
  refine SL_call rfl rfl cb21 (CallsS.frame0 (collectI (hin.mono hl1_1) (h.mono hl1_1) hl)) rfl (fun v6_2 σ6_2 m6_2 hl6_2 hR6_2 => ?_)
  obtain ⟨σc, rfl, rfl, X, hr, hX, hK⟩ := hR6_2
  obtain ⟨xa, xc, rfl⟩ := hr.len
  have hXl : X.length ≤ 9 := by
    have h1 := congrArg List.length hK
    rw [List.length_map] at h1
    have h2 := reps_len g l
    omega
  have hKl : (reps g l).length = X.length := by rw [← hK, List.length_map]
  refine al rfl rfl (fun B11 => ?_)
  refine sw (v := .slice _ _ _) B11 0 rfl rfl rfl rfl rfl rfl rfl ?_
  refine SL_nil ?_
  refine nx ?_
  refine SWP_seq ?_
  refine SWP_region ?_
  refine pu rfl rfl ?_
  refine pu rfl rfl ?_
  refine SL_nil ?_
  refine nx ?_
  refine SWP_seq ?_
  refine SWP_seq ?_
  refine SWP_region ?_
  refine lw (v := .slice _ _ _) B11 0 rfl rfl rfl rfl ?_
  refine pu rfl rfl ?_
  refine pI rfl rfl ?_
  refine SL_nil ?_
  refine nx ?_
  refine SWP_block ?_
  refine SWP_loop [7, 8, 14, 15, 38, 39, 40, 41, 42, 43, 44, 45, 46, 47, 48, 49, 50, 51, 52, 53, 54, 55, 56, 57, 58, 59, 60, 61, 62, 63, 64] [38]
      (fun vs σ' m' => ∃ (i : Nat), vs = [.int .i64 (i : Nat)] ∧ i ≤ X.length ∧ (∀ j a, j < i → (reps g l)[j]? = some a → winB q (reps g l) a = false) ∧ σ' = [(B11, Cells 48 [.slice xa X.length xc]), (B9, Cells 30 x0.enc), (B6, Cells 30 zeroR.enc), (B3, Cells 25 g.enc)] ∧ m6_2 = m')
      (fun vs => X.length - nOf (vs.getD 0 undef)) rfl ?_ ?_
  · exact ⟨0, rfl, by omega, fun j a hj => (by omega), rfl, rfl⟩
  intro u0 vs0 σ0 m0 hJ0 _
  obtain ⟨i, rfl, hi, hno, rfl, rfl⟩ := hJ0
  refine SWP_seq ?_
  refine SWP_region ?_
  refine pc rfl rfl (fun c39 => ?_) (fun c39 => ?_)
  · skip
    refine SL_nil ?_
    refine nx ?_
    refine SWP_seq ?_
    refine SWP_ct rfl ?_
    refine SWP_skip ?_
    refine nx ?_
    refine SWP_seq ?_
    refine SWP_block ?_
    refine SWP_seq ?_
    obtain ⟨y, hy⟩ : ∃ y, X[i]? = some y := ⟨_, List.getElem?_eq_getElem (by omega)⟩
    obtain ⟨ad, e1, _, hat⟩ := hr.atA Rep.enc_len hy
    have hKi : (reps g l)[i]? = some y.key := by rw [← hK]; exact map_at hy
    have hyi := hX y (List.mem_of_getElem? hy)
    rw [e1]
    refine SWP_region ?_
    first | refine ia (es := 7) rfl rfl rfl rfl rfl rfl (by omega) rfl ?_ | refine iai (es := 7) rfl rfl rfl rfl rfl rfl (by omega) (by omega) rfl ?_
    refine ldA (v := .agg _) rfl (by assumption) rfl rfl ?_
    refine al rfl rfl (fun B14 => ?_)
    refine sw (v := .agg _) B14 0 rfl rfl rfl rfl rfl rfl rfl ?_
    refine SL_nil ?_
    refine nx ?_
    refine SWP_seq ?_
    refine SWP_seq ?_
    rw [← e1]
    refine SWP_region ?_
    refine pu rfl rfl ?_
    refine lw (v := .bool _) B14 6 rfl rfl rfl rfl ?_
    refine bsp 43 rfl (fun b43 => ?_) (fun b43 => ?_)
    · skip
      refine pB rfl rfl ?_
      refine SL_nil ?_
      refine nx ?_
      refine SWP_cf rfl ?_
      refine SWP_skip ?_
      refine nx ?_
      refine SWP_seq ?_
      refine SWP_region ?_
      refine pu rfl rfl ?_
      refine lw (v := .agg _) B14 0 rfl rfl rfl rfl ?_
      refine SL_pcallC rfl rfl cb22 (CallsS.pureIn (agreeI (x := y) hr hX hXl hyi) (Sub.cons _ (Sub.cons2 _ (Sub.nil _)))) rfl rfl ?_
      have hag := agreeN_le y.rs.key (X.map Rep.key)
      rw [List.length_map] at hag
      first | refine pI rfl rfl ?_ | refine pu rfl rfl ?_
      refine SL_nil ?_
      refine nx ?_
      refine SWP_seq ?_
      refine SWP_region ?_
      first | refine pI rfl rfl ?_ | refine pu rfl rfl ?_
      first | refine pw rfl rfl (w64 (by omega) (by omega)) ?_ | refine pu rfl rfl ?_
      refine lw (v := .slice _ _ _) B11 0 rfl rfl rfl rfl ?_
      refine pu rfl rfl ?_
      refine pc rfl rfl (fun c52 => ?_) (fun c52 => ?_)
      · skip
        refine pB rfl rfl ?_
        refine SL_yes rfl ?_
        first | refine pI rfl rfl ?_ | refine pu rfl rfl ?_
        refine SL_yes rfl ?_
        first | refine pI rfl rfl ?_ | refine pu rfl rfl ?_
        refine SL_yes rfl ?_
        refine pc rfl rfl (fun c56 => ?_) (fun c56 => ?_)
        · skip
          refine pB rfl rfl ?_
          refine SL_nil ?_
          refine nx ?_
          refine SWP_ct rfl ?_
          refine SWP_seq ?_
          refine SWP_tree [(B14, Cells 51 y.enc), (B11, Cells 48 [.slice xa X.length xc])] 9 (.one 0 (.one 1 (.one 2 (.one 3 (.one 4 (.one 5 (.one 6 (.one 7 (.one 8 (.fin)))))))))) (by kernel_rfl) (by kernel_rfl) (by repeat (first | exact Sub.refl _ | exact Sub.nil _ | refine Sub.cons2 _ ?_ | refine Sub.cons _ ?_)) ?_
          refine T1 rfl ?_
          refine pu rfl rfl ?_
          refine SL_nil ?_
          refine T1 rfl ?_
          refine lw (v := .agg _) B14 1 rfl rfl rfl rfl ?_
          refine SL_nil ?_
          refine T1 rfl ?_
          refine lw (v := .slice _ _ _) B11 0 rfl rfl rfl rfl ?_
          refine SL_nil ?_
          refine T1 rfl ?_
          refine pu rfl rfl ?_
          refine SL_nil ?_
          refine T1 rfl ?_
          refine lw (v := .agg _) B14 1 rfl rfl rfl rfl ?_
          refine SL_nil ?_
          refine T1 rfl ?_
          refine SL_call rfl rfl cb23 (CallsS.frame0 (dissI (r := y.rs) hr hX hXl hyi)) rfl (fun v14_5 σ14_5 m14_5 hl14_5 hR14_5 => ?_)
          obtain ⟨σd, rfl, rfl, hd⟩ := hR14_5
          refine SL_nil ?_
          refine T1 rfl ?_
          refine sw (v := .agg _) B6 0 rfl rfl rfl rfl rfl rfl rfl ?_
          refine SL_nil ?_
          refine T1 rfl ?_
          first | refine pL rfl rfl ?_ | refine pu rfl rfl ?_
          refine SL_nil ?_
          refine T1 rfl ?_
          refine pI rfl rfl ?_
          refine SL_nil ?_
          refine nx ?_
          refine SWP_ret ?_
          refine br ?_
          refine nr ?_
          refine nr ?_
          refine br ?_
          refine nr ?_
          refine fin [_, _, _] ⟨⟨_, _, rfl, Rd.of_cells (MemO.mem (B := B6)), rfl⟩, rfl, rfl, trivial⟩ ?_
          have hg : ¬ gameErr g ≠ 0 := fun h => absurd ((mechE_nil g).2 h) (by assumption)
          have hc1 : (X.length : Int) < 2 * (agreeN y.rs.key (reps g l) : Int) := by rw [← hK]; omega
          have hc2 : q ≤ (agreeN y.rs.key (reps g l) : Int) := by rw [← hK]; omega
          rw [certF_ok hg (by omega), certK_some (find_at hno hKi (winB_iff.2 ⟨by assumption, by rw [hKl]; exact hc1, hc2⟩))]
          exact ⟨y.rs, _, rfl, hyi.mono hl14_5, rfl, by rw [← hK]; exact hd⟩
        refine pB rfl rfl ?_
        refine SL_nil ?_
        refine nx ?_
        refine SWP_cf rfl ?_
        refine SWP_skip ?_
        refine nb ?_
        refine nx ?_
        refine SWP_weak (List.sublist_cons_self _ _) ?_
        refine SWP_region ?_
        first | refine pw rfl rfl (w64 (by omega) (by omega)) ?_ | refine pu rfl rfl ?_
        refine pI rfl rfl ?_
        refine SL_nil ?_
        refine nx ?_
        refine ⟨by repeat (first | exact Under.upds rfl (Under.hav _ _ _) | exact Under.hav _ _ _ | refine Under.upd rfl ?_), ?_, ?_⟩
        · refine ⟨i + 1, rfl, by omega, fun j a hj ha => ?_, rfl, rfl⟩
          by_cases e : j = i
          · subst e
            rw [hKi] at ha
            cases ha
            refine Bool.eq_false_iff.2 fun hh => ?_
            have hw := winB_iff.1 hh
            first
              | (obtain ⟨_, hw2, hw3⟩ := hw; rw [hKl] at hw2; rw [← hK] at hw2 hw3; omega)
              | exact absurd hw.1 (by simp_all)
          · exact hno j a (by omega) ha
        · simp only [L_vals, List.map, List.getD]; show X.length - (i + 1) < X.length - i; omega
      refine pB rfl rfl ?_
      refine SL_no rfl rfl ?_
      refine SL_no rfl rfl ?_
      refine SL_no rfl rfl ?_
      refine pB rfl rfl ?_
      refine SL_nil ?_
      refine nx ?_
      refine SWP_cf rfl ?_
      refine SWP_skip ?_
      refine nb ?_
      refine nx ?_
      refine SWP_weak (List.sublist_cons_self _ _) ?_
      refine SWP_region ?_
      first | refine pw rfl rfl (w64 (by omega) (by omega)) ?_ | refine pu rfl rfl ?_
      refine pI rfl rfl ?_
      refine SL_nil ?_
      refine nx ?_
      refine ⟨by repeat (first | exact Under.upds rfl (Under.hav _ _ _) | exact Under.hav _ _ _ | refine Under.upd rfl ?_), ?_, ?_⟩
      · refine ⟨i + 1, rfl, by omega, fun j a hj ha => ?_, rfl, rfl⟩
        by_cases e : j = i
        · subst e
          rw [hKi] at ha
          cases ha
          refine Bool.eq_false_iff.2 fun hh => ?_
          have hw := winB_iff.1 hh
          first
            | (obtain ⟨_, hw2, hw3⟩ := hw; rw [hKl] at hw2; rw [← hK] at hw2 hw3; omega)
            | exact absurd hw.1 (by simp_all)
        · exact hno j a (by omega) ha
      · simp only [L_vals, List.map, List.getD]; show X.length - (i + 1) < X.length - i; omega
    refine pB rfl rfl ?_
    refine SL_nil ?_
    refine nx ?_
    refine SWP_ct rfl ?_
    refine SWP_exit ?_
    refine ne ?_
    refine be rfl ?_
    refine nx ?_
    refine SWP_weak (List.sublist_cons_self _ _) ?_
    refine SWP_region ?_
    first | refine pw rfl rfl (w64 (by omega) (by omega)) ?_ | refine pu rfl rfl ?_
    refine pI rfl rfl ?_
    refine SL_nil ?_
    refine nx ?_
    refine ⟨by repeat (first | exact Under.upds rfl (Under.hav _ _ _) | exact Under.hav _ _ _ | refine Under.upd rfl ?_), ?_, ?_⟩
    · refine ⟨i + 1, rfl, by omega, fun j a hj ha => ?_, rfl, rfl⟩
      by_cases e : j = i
      · subst e
        rw [hKi] at ha
        cases ha
        refine Bool.eq_false_iff.2 fun hh => ?_
        have hw := winB_iff.1 hh
        first
          | (obtain ⟨_, hw2, hw3⟩ := hw; rw [hKl] at hw2; rw [← hK] at hw2 hw3; omega)
          | exact absurd hw.1 (by simp_all)
      · exact hno j a (by omega) ha
    · simp only [L_vals, List.map, List.getD]; show X.length - (i + 1) < X.length - i; omega
  refine SL_nil ?_
  refine nx ?_
  refine SWP_seq ?_
  refine SWP_cf rfl ?_
  refine SWP_exit ?_
  refine ne ?_
  refine ne ?_
  refine be rfl ?_
  refine nx ?_
  refine SWP_seq ?_
  refine SWP_region ?_
  refine pA rfl rfl ?_
  refine sw (v := .agg _) B6 0 rfl rfl rfl rfl rfl rfl rfl ?_
  refine pL rfl rfl ?_
  refine pI rfl rfl ?_
  refine SL_nil ?_
  refine nx ?_
  refine SWP_ret ?_
  refine fin [_, _, _] ⟨⟨_, _, rfl, Rd.of_cells (MemO.mem (B := B6)), rfl⟩, rfl, rfl, trivial⟩ ?_
  have hg : ¬ gameErr g ≠ 0 := fun h => absurd ((mechE_nil g).2 h) (by assumption)
  rw [certF_ok hg (by omega), certK_none (find_nil fun j a hj ha => hno j a (by omega) ha)]
  exact ⟨zeroR, _, rfl, zeroR_in _, rfl, RL.nil _ _⟩

end Go.Proofs.Ytnpnleapnbdllaa

