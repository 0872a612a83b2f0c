/- lotterylaw30: the law CertifyOrders. -/
import Derived.Test.YtnpnleapnbdllaaCerH
namespace Go.Proofs.Ytnpnleapnbdllaa
open Eng

theorem ordD_len (l : List Ball) (hl : l.length ≤ 100) : ∀ n : Nat, (ordD l n).length ≤ n * 100
  | 0 => Nat.le_refl _
  | n + 1 => by
    have ih := ordD_len l hl n
    have h1 := ofB_small l (8 - (n : Int))
    unfold ordD
    rw [List.length_append]; omega
theorem ord_room (l : List Ball) (hl : l.length ≤ 100) {n : Nat} (hn : n ≤ 8) (i : Nat) (x : Int) : (((ordD l n ++ ofB (l.take i) x).flatMap Ball.enc).length + 1 * 3) * 24 ≤ 140737488355328 * 3 := by
  rw [flatMap_len Ball.enc_len, List.length_append]
  have h1 := ordD_len l hl n
  have h2 := ofB_small (l.take i) x
  rw [List.length_take] at h2
  omega

set_option maxRecDepth 100000 in
theorem lawCertOrders {m : Mem} {g : Game} {v : Value} {l : List Ball} (hin : g.In m) (h : RL m Ball.enc 3 v l) (q : Int) : CallsS Try.prog 6 [g.val, v, .int .i64 q].toArray [] m fun r _ _ => r = .bool true := by
  dsimp only [Game.val]
  obtain ⟨pa, pcap, rfl⟩ := h.len
  refine enter Try.func6 Try.ntmps6 rfl rfl ?_
  refine SWP_seq ?_
  refine SWP_region ?_
  refine bx (v := .agg _) rfl rfl (fun B3 => ?_)
  refine pB rfl rfl ?_
  refine SL_nil ?_
  refine nx ?_
  refine SWP_seq ?_
  refine SWP_seq ?_
  refine SWP_region ?_
  first | refine pL rfl rfl ?_ | refine pu rfl rfl ?_
  refine pu rfl rfl ?_
  refine pc rfl rfl (fun c18 => ?_) (fun c18 => ?_)
  · skip
    refine SL_nil ?_
    refine nx ?_
    refine SWP_ct rfl ?_
    refine SWP_seq ?_
    refine SWP_region ?_
    refine SL_pcall rfl rfl cb9 (lives30) rfl ?_
    first | refine pB rfl rfl ?_ | refine pu rfl rfl ?_
    refine SL_nil ?_
    refine nx ?_
    refine SWP_ret ?_
    refine nr ?_
    refine fin [_] ⟨rfl, trivial⟩ ?_
    rfl
  refine SL_nil ?_
  refine nx ?_
  refine SWP_cf rfl ?_
  refine SWP_skip ?_
  refine nx ?_
  refine SWP_seq ?_
  refine SWP_region ?_
  refine pL rfl rfl ?_
  refine SL_nil ?_
  refine nx ?_
  refine SWP_seq ?_
  refine SWP_seq ?_
  refine SWP_region ?_
  refine pI rfl rfl ?_
  refine SL_nil ?_
  refine nx ?_
  refine SWP_block ?_
  refine SWP_loop [7, 8, 9, 20, 21, 22, 23, 24, 25, 26, 27, 28, 29, 30, 31, 32, 33, 34, 35, 36, 37, 38, 39, 40, 41, 42, 43] [7, 8]
      (fun vs σ' m' => ∃ (n : Nat) (w7 : Value) (σ1 : Sig), vs = [w7, .int .i64 (8 - (n : Int))] ∧ n ≤ 8 ∧ OwnS 42 3 w7 ((ordD l n).flatMap Ball.enc) σ1 ∧ σ' = σ1 ++ [(B3, Cells 25 g.enc)] ∧ m = m')
      (fun vs => (match vs.getD 1 undef with | .int _ n => n.toNat | _ => 0)) rfl ?_ ?_
  · exact ⟨0, _, [], rfl, by omega, .nil, rfl, rfl⟩
  intro u0 vs0 σ0 m0 hJ0 _
  obtain ⟨n, w7, σ1, rfl, hn, hown, rfl, rfl⟩ := hJ0
  refine SWP_seq ?_
  refine SWP_seq ?_
  refine SWP_region ?_
  first | refine pI rfl rfl ?_ | refine pu rfl rfl ?_
  refine pc rfl rfl (fun c21 => ?_) (fun c21 => ?_)
  · skip
    refine SL_nil ?_
    refine nx ?_
    refine SWP_ct rfl ?_
    refine SWP_skip ?_
    refine nx ?_
    refine SWP_seq ?_
    refine SWP_block ?_
    refine SWP_seq ?_
    refine SWP_region ?_
    refine pI rfl rfl ?_
    refine SL_nil ?_
    refine nx ?_
    refine SWP_block ?_
    refine SWP_loop [7, 9, 24, 25, 26, 27, 28, 29, 30, 31, 32, 33, 34, 35, 36, 37, 38, 39, 40, 41, 42, 43] [7, 9]
        (fun vs σ' m' => ∃ (i : Nat) (w7 : Value) (σ2 : Sig), vs = [w7, .int .i64 (i : Nat)] ∧ i ≤ l.length ∧ OwnS 42 3 w7 ((ordD l n ++ ofB (l.take i) (8 - (n : Int))).flatMap Ball.enc) σ2 ∧ σ' = σ2 ++ [(B3, Cells 25 g.enc)] ∧ m = m')
        (fun vs => l.length - nOf (vs.getD 1 undef)) rfl ?_ ?_
    · exact ⟨0, _, σ1, rfl, by omega, by rw [List.take_zero]; show OwnS _ _ _ ((ordD l n ++ []).flatMap Ball.enc) _; rw [List.append_nil]; exact hown, rfl, rfl⟩
    intro u1 vs1 σ1 m1 hJ1 _
    obtain ⟨i, w7, σ2, rfl, hi, hown, rfl, rfl⟩ := hJ1
    refine SWP_seq ?_
    refine SWP_seq ?_
    refine SWP_region ?_
    first | refine pI rfl rfl ?_ | refine pu rfl rfl ?_
    first | refine pL rfl rfl ?_ | refine pu rfl rfl ?_
    refine pu rfl rfl ?_
    refine pc rfl rfl (fun c27 => ?_) (fun c27 => ?_)
    · skip
      refine SL_nil ?_
      refine nx ?_
      refine SWP_ct rfl ?_
      refine SWP_skip ?_
      refine nx ?_
      refine SWP_seq ?_
      refine SWP_block ?_
      refine SWP_seq ?_
      obtain ⟨b, hb⟩ : ∃ b, l[i]? = some b := ⟨_, List.getElem?_eq_getElem (by omega)⟩
      obtain ⟨ad, e1, _, hat⟩ := h.atA Ball.enc_len hb
      rw [e1]
      refine SWP_region ?_
      first | refine pL rfl rfl ?_ | refine pu rfl rfl ?_
      first | refine pI rfl rfl ?_ | refine pu rfl rfl ?_
      first | refine ia (es := 3) rfl rfl rfl rfl rfl rfl (by omega) rfl ?_ | refine iai (es := 3) rfl rfl rfl rfl rfl rfl (by omega) (by omega) rfl ?_
      refine pu rfl rfl ?_
      refine ldF (v := .int .i64 _) rfl rfl (by assumption) rfl rfl ?_
      first | refine pI rfl rfl ?_ | refine pu rfl rfl ?_
      refine pc rfl rfl (fun c36 => ?_) (fun c36 => ?_)
      · skip
        refine SL_nil ?_
        refine nx ?_
        refine SWP_ct rfl ?_
        refine SWP_region ?_
        first | refine pL rfl rfl ?_ | refine pu rfl rfl ?_
        first | refine pL rfl rfl ?_ | refine pu rfl rfl ?_
        first | refine pI rfl rfl ?_ | refine pu rfl rfl ?_
        first | refine ia (es := 3) rfl rfl rfl rfl rfl rfl (by omega) rfl ?_ | refine iai (es := 3) rfl rfl rfl rfl rfl rfl (by omega) (by omega) rfl ?_
        refine ldA (v := .agg _) rfl (by assumption) rfl rfl ?_
        refine bs rfl rfl rfl rfl rfl (fun B42 => ?_)
        rw [← e1]
        refine ap (e := 42) (size := 3) (bytes := 24) rfl rfl rfl rfl rfl rfl rfl hown (permX [_] σ2 _) rfl (Rd.of_cells (.head _)) rfl rfl (ord_room l (by omega) hn i _) rfl rfl (fun w9 σ9 hown9 => ?_)
        have hown8 : OwnS 42 3 w9 ((ordD l n ++ ofB (l.take (i + 1)) (8 - (n : Int))).flatMap Ball.enc) σ9 := by
          rw [ofB_snoc l _ i b hb, if_pos (by omega), ← List.append_assoc, List.flatMap_append]
          exact hown9
        refine SL_weak (List.Sublist.append_left (List.sublist_cons_self _ _) _) ?_
        first | refine pL rfl rfl ?_ | refine pu rfl rfl ?_
        refine SL_nil ?_
        refine nb ?_
        refine nx ?_
        refine SWP_region ?_
        first | refine pI rfl rfl ?_ | refine pu rfl rfl ?_
        first | refine pw rfl rfl (w64 (by omega) (by omega)) ?_ | refine pu rfl rfl ?_
        refine pI rfl rfl ?_
        refine SL_nil ?_
        refine nx ?_
        refine ⟨by repeat (first | exact Under.upds rfl (Under.hav _ _ _) | exact Under.hav _ _ _ | refine Under.upd rfl ?_ | refine Under.upds rfl ?_ | refine Under.hav2 rfl ?_), ?_, ?_⟩
        · first
            | exact ⟨i + 1, _, σ9, rfl, by omega, hown8, rfl, rfl⟩
            | (refine ⟨i + 1, _, σ2, rfl, by omega, ?_, rfl, rfl⟩
               rw [ofB_snoc l _ i b hb, if_neg (by omega)]
               exact hown)
        · simp only [L_vals, List.map, List.getD]; show l.length - (i + 1) < l.length - i; omega
      refine SL_nil ?_
      refine nx ?_
      refine SWP_cf rfl ?_
      refine SWP_skip ?_
      refine nb ?_
      refine nx ?_
      refine SWP_region ?_
      first | refine pI rfl rfl ?_ | refine pu rfl rfl ?_
      first | refine pw rfl rfl (w64 (by omega) (by omega)) ?_ | refine pu rfl rfl ?_
      refine pI rfl rfl ?_
      refine SL_nil ?_
      refine nx ?_
      refine ⟨by repeat (first | exact Under.upds rfl (Under.hav _ _ _) | exact Under.hav _ _ _ | refine Under.upd rfl ?_ | refine Under.upds rfl ?_ | refine Under.hav2 rfl ?_), ?_, ?_⟩
      · first
          | exact ⟨i + 1, _, σ9, rfl, by omega, hown8, rfl, rfl⟩
          | (refine ⟨i + 1, _, σ2, rfl, by omega, ?_, rfl, rfl⟩
             rw [ofB_snoc l _ i b hb, if_neg (by omega)]
             exact hown)
      · simp only [L_vals, List.map, List.getD]; show l.length - (i + 1) < l.length - i; omega
    refine SL_nil ?_
    refine nx ?_
    refine SWP_cf rfl ?_
    refine SWP_exit ?_
    refine ne ?_
    refine ne ?_
    refine be rfl ?_
    refine nb ?_
    refine nx ?_
    obtain rfl : i = l.length := by omega
    have hown7 : OwnS 42 3 w7 ((ordD l (n + 1)).flatMap Ball.enc) σ2 := by
      show OwnS 42 3 w7 ((ordD l n ++ ofB l (8 - (n : Int))).flatMap Ball.enc) σ2
      rw [List.take_length] at hown
      exact hown
    refine SWP_region ?_
    first | refine pI rfl rfl ?_ | refine pu rfl rfl ?_
    first | refine pw rfl rfl (w64 (by omega) (by omega)) ?_ | refine pu rfl rfl ?_
    refine pI rfl rfl ?_
    refine SL_nil ?_
    refine nx ?_
    refine ⟨by repeat (first | exact Under.upds rfl (Under.hav _ _ _) | exact Under.hav _ _ _ | refine Under.upd rfl ?_ | refine Under.upds rfl ?_ | refine Under.hav2 rfl ?_), ?_, ?_⟩
    · refine ⟨n + 1, w7, σ2, ?_, by omega, hown7, rfl, rfl⟩
      rw [show (8 : Int) - ((n + 1 : Nat) : Int) = 8 - (n : Int) - 1 by omega]
      rfl
    · simp only [L_vals, List.map, List.getD]; show (8 - (n : Int) - 1).toNat < (8 - (n : Int)).toNat; omega
  refine SL_nil ?_
  refine nx ?_
  refine SWP_cf rfl ?_
  refine SWP_exit ?_
  refine ne ?_
  refine ne ?_
  refine be rfl ?_
  refine nx ?_
  refine SWP_seq ?_
  obtain rfl : n = 8 := by omega
  refine SWP_region ?_
  refine SL_freezeL (by omega) Ball.enc_len hown (fun m9 hl9 hb9 => ?_)
  refine lw (v := .agg _) B3 0 rfl rfl rfl rfl ?_
  first | refine pL rfl rfl ?_ | refine pu rfl rfl ?_
  first | refine pI rfl rfl ?_ | refine pu rfl rfl ?_
  refine SL_call rfl rfl cb10 (CallsS.frame0 (certI (hin.mono hl9) (h.mono hl9) (by omega) q)) rfl (fun v12_3 σ12_3 m12_3 hl12_3 hR12_3 => ?_)
  obtain ⟨σa, rfl, rfl, x, xv, rfl, hx, kx, dx⟩ := hR12_3
  dsimp only [Res.val]
  refine pu rfl rfl ?_
  first | refine pA rfl rfl ?_ | refine pu rfl rfl ?_
  first | refine pL rfl rfl ?_ | refine pu rfl rfl ?_
  first | refine pI rfl rfl ?_ | refine pu rfl rfl ?_
  refine al rfl rfl (fun B10 => ?_)
  refine sw (v := .agg _) B10 0 rfl rfl rfl rfl rfl rfl rfl ?_
  first | refine pL rfl rfl ?_ | refine pu rfl rfl ?_
  first | refine pI rfl rfl ?_ | refine pu rfl rfl ?_
  refine SL_nil ?_
  refine nx ?_
  refine SWP_seq ?_
  refine SWP_region ?_
  refine lw (v := .agg _) B3 0 rfl rfl rfl rfl ?_
  first | refine pL rfl rfl ?_ | refine pu rfl rfl ?_
  first | refine pI rfl rfl ?_ | refine pu rfl rfl ?_
  refine SL_call rfl rfl cb10 (CallsS.frame0 (certI (l := ordD l 8) (hin.mono (hl9.trans hl12_3)) (hb9.mono hl12_3) (by have := ordD_len l (by omega) 8; omega) q)) rfl (fun v13_3 σ13_3 m13_3 hl13_3 hR13_3 => ?_)
  obtain ⟨σb, rfl, rfl, y, yv, rfl, hy, ky, dy⟩ := hR13_3
  rw [certF_ord] at ky dy
  rw [certF_ord]
  dsimp only [Res.val]
  refine pu rfl rfl ?_
  first | refine pA rfl rfl ?_ | refine pu rfl rfl ?_
  first | refine pL rfl rfl ?_ | refine pu rfl rfl ?_
  first | refine pI rfl rfl ?_ | refine pu rfl rfl ?_
  refine al rfl rfl (fun B13 => ?_)
  refine sw (v := .agg _) B13 0 rfl rfl rfl rfl rfl rfl rfl ?_
  first | refine pL rfl rfl ?_ | refine pu rfl rfl ?_
  first | refine pI rfl rfl ?_ | refine pu rfl rfl ?_
  refine SL_nil ?_
  refine nx ?_
  refine SWP_seq ?_
  refine SWP_region ?_
  refine lw (v := .agg _) B10 0 rfl rfl rfl rfl ?_
  refine lw (v := .agg _) B13 0 rfl rfl rfl rfl ?_
  refine SL_pcall rfl rfl cb12 (same30 (a := x) (b := y) (hx.mono hl13_3) hy) rfl ?_
  rw [decide_eq_true (sameR_key.2 (kx.trans ky.symm))]
  first | refine pB rfl rfl ?_ | refine pu rfl rfl ?_
  refine SL_yes rfl ?_
  first | refine pL rfl rfl ?_ | refine pu rfl rfl ?_
  refine SL_yes rfl ?_
  first | refine pL rfl rfl ?_ | refine pu rfl rfl ?_
  refine SL_yes rfl ?_
  refine SL_pcall rfl rfl cb13 (intsR (dx.mono hl13_3) dy) rfl ?_
  rw [decide_eq_true rfl]
  refine pB rfl rfl ?_
  refine pB rfl rfl ?_
  refine SL_yes rfl ?_
  first | refine pI rfl rfl ?_ | refine pu rfl rfl ?_
  refine SL_yes rfl ?_
  first | refine pI rfl rfl ?_ | refine pu rfl rfl ?_
  refine SL_yes rfl ?_
  refine pt rfl rfl (rfl) ?_
  refine pB rfl rfl ?_
  refine pB rfl rfl ?_
  refine SL_yes rfl ?_
  refine SL_pcall rfl rfl cb9 (lives30) rfl ?_
  refine pB rfl rfl ?_
  refine pB rfl rfl ?_
  refine SL_nil ?_
  refine nx ?_
  refine SWP_ret ?_
  refine fin [_] ⟨rfl, trivial⟩ ?_
  rfl

end Go.Proofs.Ytnpnleapnbdllaa

