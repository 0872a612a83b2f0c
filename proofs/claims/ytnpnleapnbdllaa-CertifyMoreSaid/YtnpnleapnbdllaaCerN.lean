/- lotterylaw30: the law CertifyMore. -/
import Derived.Test.YtnpnleapnbdllaaCerJ
import Derived.Test.YtnpnleapnbdllaaCerL
import Derived.Test.YtnpnleapnbdllaaEngInt
namespace Go.Proofs.Ytnpnleapnbdllaa
open Eng

theorem more_serial {g : Game} {l : List Ball} {q : Int} {x : Res} (h : (certF g l q).1 = 0) (kx : x.key = (certF g l q).2.1) : x.serial.size ≤ 9223372036854775807 := by
  obtain ⟨hg, hq1, hq2, y, hy, e⟩ := certF_zero h
  obtain ⟨hm, hw⟩ := find_some hy
  unfold reps at hm
  obtain ⟨w0, _, rfl⟩ := List.mem_map.1 hm
  rw [e] at kx
  have kx' : x.key = outKey (mechO g (ofB l w0)) := kx
  unfold Res.key outKey at kx'
  simp only [Prod.mk.injEq] at kx'
  rw [kx'.2.2.2.2]; decide
theorem prefB_wit {w : Int} {r : Res} {k : Nat} : ∀ y ∈ prefB w r k, y.wit = w := fun y hy => by
  unfold prefB at hy
  obtain ⟨d, _, hd⟩ := List.mem_flatMap.1 hy
  obtain ⟨z, _, rfl⟩ := List.mem_map.1 hd
  rfl
theorem outB_wit {g : Game} {w : Int} {r : Res} : ∀ y ∈ outB g w r, y.wit = w := fun y hy => by
  unfold outB at hy
  split at hy
  · cases hy
  · exact prefB_wit y hy
theorem more_put {g : Game} {l : List Ball} {q : Int} {x : Res} {n : Nat} (h : (certF g l q).1 = 0) (kx : x.key = (certF g l q).2.1) (h1 : 1 ≤ n) (h8 : n ≤ 8) (hw : ofB l (n : Int) = []) :
    outE g (n : Int) x = 0 ∧ certF g (l ++ outB g (n : Int) x) q = certF g l q := by
  obtain ⟨e1, e2, e3⟩ := more_balls (w := (n : Int)) h kx (by omega) (by omega)
  refine ⟨e1, certF_put h1 h8 hw outB_wit ?_ h e2 e3⟩
  refine Nat.pos_of_ne_zero fun h0 => ?_
  have hn : outB g (n : Int) x = [] := List.eq_nil_of_length_eq_zero h0
  rw [hn] at e2
  have h3 := (mechE_nil g).1 (by rw [e2]; decide)
  exact h3 (certF_zero h).1
theorem outB_few (g : Game) (w : Int) (r : Res) : (outB g w r).length ≤ 30 := by
  unfold outB
  by_cases h : outE g w r ≠ 0
  · rw [if_pos h]; simp
  · rw [if_neg h]
    have h0 := Classical.not_not.1 h
    unfold outE at h0
    by_cases h1 : gameErr g ≠ 0
    · rw [if_pos h1] at h0; exact absurd h0 h1
    · rw [if_neg h1] at h0
      by_cases h2 : ¬ (1 ≤ w ∧ w ≤ 8)
      · rw [if_pos h2] at h0; exact absurd h0 (by decide)
      · rw [if_neg h2] at h0
        have := prefB_len (w := w) (smallR h0) 3
        omega
theorem wit_of {b : Int} (h : (Lit.int .u8 b).wf = true) : 0 ≤ b ∧ b ≤ 255 := by
  simp only [Lit.wf, Bool.and_eq_true, decide_eq_true_eq] at h
  exact ⟨Int.le_trans (by decide) h.1, Int.le_trans h.2 (by decide)⟩
theorem mod8 (b : Int) (h : 0 ≤ b) : ∃ n : Nat, b.tmod 8 = (n : Int) ∧ n ≤ 7 := by
  refine ⟨(b % 8).toNat, ?_, by omega⟩
  rw [Int.tmod_eq_emod_of_nonneg h]; omega

set_option maxRecDepth 100000 in
theorem lawCertMore {m : Mem} {g : Game} {v : Value} {l : List Ball} (hin : g.In m) (h : RL m Ball.enc 3 v l) (q b : Int) (hwt : 0 ≤ b ∧ b ≤ 255) : CallsS Try.prog 8 [g.val, v, .int .i64 q, .int .u8 b].toArray [] m fun r _ _ => r = .bool true := by
  dsimp only [Game.val]
  obtain ⟨pa, pcap, rfl⟩ := h.len
  obtain ⟨n, hn, hn7⟩ := mod8 b hwt.1
  refine enter Try.func8 Try.ntmps8 rfl rfl ?_
  refine SWP_seq ?_
  refine SWP_region ?_
  refine bx (v := .agg _) rfl rfl (fun B4 => ?_)
  refine pB rfl rfl ?_
  refine SL_nil ?_
  refine nx ?_
  refine SWP_seq ?_
  refine SWP_region ?_
  first | refine pI rfl rfl ?_ | refine pu rfl rfl ?_
  refine pw rfl rfl (w64 (by omega) (by omega)) ?_
  refine prm rfl rfl (by decide) hn rfl ?_
  refine pw rfl rfl (w64 (by omega) (by omega)) ?_
  rw [show (1 : Int) + (n : Int) = ((n + 1 : Nat) : Int) by omega]
  first | refine pI rfl rfl ?_ | refine pu rfl rfl ?_
  refine SL_nil ?_
  refine nx ?_
  refine SWP_seq ?_
  refine SWP_seq ?_
  refine SWP_region ?_
  first | refine pL rfl rfl ?_ | refine pu rfl rfl ?_
  refine pu rfl rfl ?_
  refine pc rfl rfl (fun c25 => ?_) (fun c25 => ?_)
  · skip
    refine pB rfl rfl ?_
    refine SL_no rfl rfl ?_
    refine SL_no rfl rfl ?_
    refine SL_no rfl rfl ?_
    refine SL_no rfl rfl ?_
    refine SL_no rfl rfl ?_
    refine pB rfl rfl ?_
    refine SL_nil ?_
    refine nx ?_
    refine SWP_ct rfl ?_
    refine SWP_seq ?_
    refine SWP_region ?_
    refine SL_pcall rfl rfl cb9 (lives30) rfl ?_
    first | refine pB rfl rfl ?_ | refine pu rfl rfl ?_
    refine SL_nil ?_
    refine nx ?_
    refine SWP_ret ?_
    refine nr ?_
    refine fin [_] ⟨rfl, trivial⟩ ?_
    rfl
  refine pB rfl rfl ?_
  refine SL_yes rfl ?_
  first | refine pL rfl rfl ?_ | refine pu rfl rfl ?_
  refine SL_yes rfl ?_
  first | refine pI rfl rfl ?_ | refine pu rfl rfl ?_
  refine SL_yes rfl ?_
  refine SL_call rfl rfl cb17 (CallsS.frame0 (mechOf _ h (by omega))) rfl (fun v2_6 σ2_6 m2_6 hl2_6 hR2_6 => ?_)
  obtain ⟨σo, rfl, rfl, ho⟩ := hR2_6
  obtain ⟨oa, oc, rfl⟩ := ho.len
  refine SL_yes rfl ?_
  refine pu rfl rfl ?_
  refine SL_yes rfl ?_
  refine pc rfl rfl (fun c31 => ?_) (fun c31 => ?_)
  · skip
    refine pB rfl rfl ?_
    refine SL_nil ?_
    refine nx ?_
    refine SWP_ct rfl ?_
    refine SWP_seq ?_
    refine SWP_region ?_
    refine SL_pcall rfl rfl cb9 (lives30) rfl ?_
    first | refine pB rfl rfl ?_ | refine pu rfl rfl ?_
    refine SL_nil ?_
    refine nx ?_
    refine SWP_ret ?_
    refine nr ?_
    refine fin [_] ⟨rfl, trivial⟩ ?_
    rfl
  refine pB rfl rfl ?_
  refine SL_nil ?_
  refine nx ?_
  refine SWP_cf rfl ?_
  refine SWP_skip ?_
  refine nx ?_
  refine SWP_seq ?_
  refine SWP_region ?_
  refine lw (v := .agg _) B4 0 rfl rfl rfl rfl ?_
  first | refine pL rfl rfl ?_ | refine pu rfl rfl ?_
  first | refine pI rfl rfl ?_ | refine pu rfl rfl ?_
  refine SL_call rfl rfl cb10 (CallsS.frame0 (certI (hin.mono hl2_6) (h.mono hl2_6) (by omega) q)) rfl (fun v4_3 σ4_3 m4_3 hl4_3 hR4_3 => ?_)
  obtain ⟨σa, rfl, rfl, x, xv, rfl, hx, kx, dx⟩ := hR4_3
  obtain ⟨xa, xc, rfl⟩ := dx.len
  dsimp only [Res.val]
  refine pu rfl rfl ?_
  first | refine pA rfl rfl ?_ | refine pu rfl rfl ?_
  first | refine pL rfl rfl ?_ | refine pu rfl rfl ?_
  first | refine pI rfl rfl ?_ | refine pu rfl rfl ?_
  refine al rfl rfl (fun B10 => ?_)
  refine swE B10 0 x.enc (v := x.val) rfl rfl rfl rfl rfl rfl rfl rfl ?_
  first | refine pL rfl rfl ?_ | refine pu rfl rfl ?_
  first | refine pI rfl rfl ?_ | refine pu rfl rfl ?_
  refine SL_nil ?_
  refine nx ?_
  refine SWP_seq ?_
  refine SWP_seq ?_
  refine SWP_region ?_
  first | refine pI rfl rfl ?_ | refine pu rfl rfl ?_
  refine pc rfl rfl (fun c43 => ?_) (fun c43 => ?_)
  · skip
    refine SL_nil ?_
    refine nx ?_
    refine SWP_ct rfl ?_
    refine SWP_seq ?_
    refine SWP_region ?_
    refine SL_pcall rfl rfl cb9 (lives30) rfl ?_
    first | refine pB rfl rfl ?_ | refine pu rfl rfl ?_
    refine SL_nil ?_
    refine nx ?_
    refine SWP_ret ?_
    refine nr ?_
    refine fin [_] ⟨rfl, trivial⟩ ?_
    rfl
  refine SL_nil ?_
  refine nx ?_
  refine SWP_cf rfl ?_
  refine SWP_skip ?_
  refine nx ?_
  refine SWP_seq ?_
  have hz : (certF g l q).1 = 0 := Classical.not_not.1 (by assumption)
  have hof : ofB l ((n + 1 : Nat) : Int) = [] := List.eq_nil_of_length_eq_zero (by omega)
  obtain ⟨hE, hput⟩ := more_put (n := n + 1) hz kx (by omega) (by omega) hof
  refine SWP_region ?_
  refine lw (v := .agg _) B4 0 rfl rfl rfl rfl ?_
  first | refine pI rfl rfl ?_ | refine pu rfl rfl ?_
  refine lw (v := .agg _) B10 0 rfl rfl rfl rfl ?_
  refine SL_call rfl rfl cb18 (CallsS.frame0 (ballsI (hin.mono (hl2_6.trans hl4_3)) _ hx (more_serial hz kx))) rfl (fun v7_3 σ7_3 m7_3 hl7_3 hR7_3 => ?_)
  obtain ⟨σb, rfl, rfl, bv, rfl, hb⟩ := hR7_3
  refine pu rfl rfl ?_
  first | refine pL rfl rfl ?_ | refine pu rfl rfl ?_
  first | refine pI rfl rfl ?_ | refine pu rfl rfl ?_
  first | refine pL rfl rfl ?_ | refine pu rfl rfl ?_
  first | refine pI rfl rfl ?_ | refine pu rfl rfl ?_
  refine SL_nil ?_
  refine nx ?_
  refine SWP_seq ?_
  refine SWP_region ?_
  refine bs rfl rfl rfl rfl rfl (fun B52 => ?_)
  refine SL_imp (row_nil _ 3) ?_
  first | refine pL rfl rfl ?_ | refine pu rfl rfl ?_
  refine apR (e := 42) (size := 3) (bytes := 24) rfl rfl rfl rfl rfl rfl rfl (.row B52 0 0 [] rfl (Nat.le_refl _) (Nat.zero_le _)) (.refl _) rfl (h.mono (hl2_6.trans (hl4_3.trans hl7_3))) (all_ballE l) (by simp; omega) rfl rfl (fun v54 σ54 hown54 => ?_)
  first | refine pL rfl rfl ?_ | refine pu rfl rfl ?_
  refine SL_nil ?_
  refine nx ?_
  refine SWP_seq ?_
  refine SWP_region ?_
  first | refine pL rfl rfl ?_ | refine pu rfl rfl ?_
  first | refine pL rfl rfl ?_ | refine pu rfl rfl ?_
  refine apR (e := 42) (size := 3) (bytes := 24) rfl rfl rfl rfl rfl rfl rfl hown54 (.refl _) rfl hb (all_ballE _) (by have := outB_few g ((n + 1 : Nat) : Int) x; rw [List.nil_append, flatMap_len Ball.enc_len]; omega) rfl rfl (fun v57 σ57 hown57 => ?_)
  have hown9 : OwnS 42 3 v57 ((l ++ outB g ((n + 1 : Nat) : Int) x).flatMap Ball.enc) σ57 := by
    rw [List.flatMap_append]; exact hown57
  first | refine pL rfl rfl ?_ | refine pu rfl rfl ?_
  refine SL_nil ?_
  refine nx ?_
  refine SWP_seq ?_
  refine SWP_region ?_
  refine SL_freezeL (by omega) Ball.enc_len hown9 (fun m9 hl9 hb9 => ?_)
  refine lw (v := .agg _) B4 0 rfl rfl rfl rfl ?_
  first | refine pL rfl rfl ?_ | refine pu rfl rfl ?_
  first | refine pI rfl rfl ?_ | refine pu rfl rfl ?_
  refine SL_call rfl rfl cb10 (CallsS.frame0 (certI (hin.mono ((hl2_6.trans (hl4_3.trans hl7_3)).trans hl9)) hb9 (by rw [List.length_append]; have := outB_few g ((n + 1 : Nat) : Int) x; omega) q)) rfl (fun v10_3 σ10_3 m10_3 hl10_3 hR10_3 => ?_)
  obtain ⟨σc, rfl, rfl, y, yv, rfl, hy, ky, dy⟩ := hR10_3
  rw [hput] at ky dy
  rw [hput]
  obtain ⟨ya, yc, rfl⟩ := dy.len
  dsimp only [Res.val]
  refine pu rfl rfl ?_
  first | refine pA rfl rfl ?_ | refine pu rfl rfl ?_
  first | refine pL rfl rfl ?_ | refine pu rfl rfl ?_
  first | refine pI rfl rfl ?_ | refine pu rfl rfl ?_
  refine al rfl rfl (fun B16 => ?_)
  refine swE B16 0 y.enc (v := y.val) rfl rfl rfl rfl rfl rfl rfl rfl ?_
  first | refine pL rfl rfl ?_ | refine pu rfl rfl ?_
  first | refine pI rfl rfl ?_ | refine pu rfl rfl ?_
  refine SL_nil ?_
  refine nx ?_
  refine SWP_seq ?_
  refine SWP_region ?_
  first | refine pI rfl rfl ?_ | refine pu rfl rfl ?_
  refine pt rfl rfl (hE) ?_
  refine pB rfl rfl ?_
  refine SL_yes rfl ?_
  first | refine pI rfl rfl ?_ | refine pu rfl rfl ?_
  refine SL_yes rfl ?_
  refine pt rfl rfl (hz) ?_
  refine pB rfl rfl ?_
  refine pB rfl rfl ?_
  refine SL_yes rfl ?_
  refine lw (v := .agg _) B10 0 rfl rfl rfl rfl ?_
  refine SL_yes rfl ?_
  refine lw (v := .agg _) B16 0 rfl rfl rfl rfl ?_
  refine SL_yes rfl ?_
  refine SL_pcall rfl rfl cb12 (same30 (a := x) (b := y) (hx.mono (hl7_3.trans (hl9.trans hl10_3))) hy) rfl ?_
  rw [decide_eq_true (sameR_key.2 (kx.trans ky.symm))]
  refine pB rfl rfl ?_
  refine pB rfl rfl ?_
  refine SL_yes rfl ?_
  first | refine pL rfl rfl ?_ | refine pu rfl rfl ?_
  refine SL_yes rfl ?_
  first | refine pL rfl rfl ?_ | refine pu rfl rfl ?_
  refine SL_yes rfl ?_
  refine SL_pcall rfl rfl cb13 (intsR (dx.mono (hl7_3.trans (hl9.trans hl10_3))) dy) rfl ?_
  rw [decide_eq_true rfl]
  refine pB rfl rfl ?_
  refine pB rfl rfl ?_
  refine SL_yes rfl ?_
  refine SL_pcall rfl rfl cb9 (lives30) rfl ?_
  refine pB rfl rfl ?_
  refine pB rfl rfl ?_
  refine SL_nil ?_
  refine nx ?_
  refine SWP_ret ?_
  refine fin [_] ⟨rfl, trivial⟩ ?_
  rfl

end Go.Proofs.Ytnpnleapnbdllaa

