/- What the claim rests on, part 5: models of the functions in plain Lean and walks through their code; printed by programs. -/
import Derived.Test.YtifjhpaoejageaaGreatDoorKSlipPrints4
set_option linter.unusedVariables false
set_option linter.unusedSimpArgs false
namespace Go.Proofs.YtifjhpaoejageaaGreatDoor
open Eng
set_option maxRecDepth 100000 in
theorem betI {m : Mem} {g : Game} {b : Bet} (hin : g.In m) (hb : b.In m) : PureCall Tryz.prog 22 [g.val, b.val] m (.int .i64 (betErr g b)) := by
  refine CallsS.pure ?_
  dsimp only [Game.val, Bet.val]
  refine enter Tryz.func22 Tryz.ntmps22 rfl rfl ?_
  refine SWP_seq (SWP_region ?_)
  refine bx (v := .agg _) rfl rfl (fun B2 => ?_)
  refine bx (v := .agg _) rfl rfl (fun B3 => ?_)
  refine pI rfl rfl ?_
  refine SL_nil (nx (SWP_seq (SWP_region ?_)))
  refine lw (v := .agg _) B2 0 rfl rfl rfl rfl ?_
  refine lw (v := .agg _) B3 0 rfl rfl rfl rfl ?_
  refine SL_pcall rfl rfl cb47 (checkB hin hb) rfl ?_
  refine pu rfl rfl ?_
  first | refine pI rfl rfl ?_ | refine pu rfl rfl ?_
  first | refine pI rfl rfl ?_ | refine pu rfl rfl ?_
  first | refine pI rfl rfl ?_ | refine pu rfl rfl ?_
  first | refine pI rfl rfl ?_ | refine pu rfl rfl ?_
  refine SL_nil (nx (SWP_seq (SWP_region ?_)))
  first | refine pI rfl rfl ?_ | refine pu rfl rfl ?_
  first | refine pI rfl rfl ?_ | refine pu rfl rfl ?_
  refine SL_nil (nx (SWP_ret ?_))
  refine fin [_] ⟨rfl, trivial⟩ ?_
  rfl
theorem in_canon {g : Game} {x y l k : Line} (h1 : x.main = (canonL g l).1) (h2 : x.bonus = (canonL g l).2) (h3 : y.main = (canonL g k).1) (h4 : y.bonus = (canonL g k).2) : (x.main = y.main ∧ x.bonus = y.bonus) ↔ canonL g l = canonL g k := by
  rw [h1, h2, h3, h4]
  exact ⟨fun h => Prod.ext h.1 h.2, fun h => by rw [h]; exact ⟨rfl, rfl⟩⟩
theorem sizeE_of_lnAt {g : Game} {sys : Bool} {L : List Line} {i : Nat} {l : Line} (hl : L[i]? = some l) (h : lnAt g sys L i = 0) : sizeE g sys l = 0 := by
  rw [lnAt_some hl] at h
  by_cases h1 : sizeE g sys l ≠ 0
  · rw [if_pos h1] at h; exact absurd h h1
  · exact Classical.not_not.1 h1
set_option maxRecDepth 100000 in
theorem betR {m : Mem} {g : Game} {b : Bet} (hin : g.In m) (hb : b.In m) : PureCall Tryz.prog 24 [g.val, b.val] m (.int .i64 (betErr g b)) := by
  refine CallsS.pure ?_
  refine CallsS.mono (R := fun r _ _ => ∃ e : Int, betErr g b = e ∧ r = .int .i64 e) ?_ (fun v _ _ _ h => ?h2)
  case h2 =>
    obtain ⟨e, h1, rfl⟩ := h
    rw [h1]
  dsimp only [Game.val, Bet.val]
  refine enter Tryz.func24 Tryz.ntmps24 rfl rfl ?_
  refine SWP_seq (SWP_region ?_)
  refine bx (v := .agg _) rfl rfl (fun B2 => ?_)
  refine bx (v := .agg _) rfl rfl (fun B3 => ?_)
  refine pI rfl rfl ?_
  refine SL_nil (nx (SWP_seq (SWP_region ?_)))
  refine lw (v := .agg _) B2 0 rfl rfl rfl rfl ?_
  refine SL_call rfl rfl cb17 (CallsS.frame0 (checkR hin)) rfl (fun v1_1 σ1_1 m1_1 hl1_1 hR1_1 => ?_)
  obtain ⟨σc, rfl, rfl, hm1_1, s0, rfl⟩ := hR1_1
  have hn1_1 := hm1_1.symm
  subst hn1_1
  refine pu rfl rfl ?_
  first | refine pI rfl rfl ?_ | refine pu rfl rfl ?_
  first | refine pS rfl rfl ?_ | refine pu rfl rfl ?_
  first | refine pI rfl rfl ?_ | refine pu rfl rfl ?_
  first | refine pS rfl rfl ?_ | refine pu rfl rfl ?_
  refine SL_nil (nx (SWP_seq (SWP_seq (SWP_region ?_))))
  first | refine pI rfl rfl ?_ | refine pu rfl rfl ?_
  refine pc rfl rfl (fun c20 => ?_) (fun c20 => ?_)
  · skip
    refine SL_nil (nx (SWP_ct rfl (SWP_seq (SWP_region ?_))))
    first | refine pI rfl rfl ?_ | refine pu rfl rfl ?_
    first | refine pI rfl rfl ?_ | refine pu rfl rfl ?_
    refine SL_nil (nx (SWP_ret (nr ?_)))
    refine fin [_] ⟨rfl, trivial⟩ ?_
    first
      | exact ⟨_, if_pos (by assumption), rfl⟩
      | exact ⟨3, (if_neg (fun hh => hh hz)).trans (if_pos (by omega)), rfl⟩
      | exact ⟨_, (if_neg (fun hh => hh hz)).trans ((if_neg (fun hh => hh hlen)).trans ((if_pos (by rw [show lnErr g b.system b.lines = sizeE g b.system l from lnErr_at (by assumption) hln (by omega) (by rw [lnAt_some hl]; exact if_pos (by assumption))]; assumption)).trans (lnErr_at (by assumption) hln (by omega) (by rw [lnAt_some hl]; exact if_pos (by assumption))))), rfl⟩
      | (have hle0 : lnErr g b.system b.lines = 6 := lnErr_at (by decide) hln (by omega) (by rw [lnAt_some hl]; exact (if_neg (fun hh => hh hsz)).trans (if_pos (by rw [(in_canon hx1 hx2 hy1 hy2).1 (by assumption)]; exact List.mem_map_of_mem (List.mem_of_getElem? hl2t))))
         exact ⟨6, (if_neg (fun hh => hh hz)).trans ((if_neg (fun hh => hh hlen)).trans ((if_pos (by rw [hle0]; decide)).trans hle0)), rfl⟩)
      | exact ⟨3, (if_neg (fun hh => hh hz)).trans ((if_neg (fun hh => hh hlen)).trans ((if_neg (fun hh => hh hl0)).trans (if_pos (by omega)))), rfl⟩
      | exact ⟨2, (if_neg (fun hh => hh hz)).trans ((if_neg (fun hh => hh hlen)).trans ((if_neg (fun hh => hh hl0)).trans ((if_neg (by omega)).trans (if_pos (by omega))))), rfl⟩
      | exact ⟨2, (if_neg (fun hh => hh hz)).trans ((if_neg (fun hh => hh hlen)).trans ((if_neg (fun hh => hh hl0)).trans ((if_neg (by omega)).trans ((if_neg (by omega)).trans (if_pos (fun hh => by first | omega | exact absurd hh.2 (Int.not_lt.2 (by assumption)))))))), rfl⟩
      | exact ⟨0, (if_neg (fun hh => hh hz)).trans ((if_neg (fun hh => hh hlen)).trans ((if_neg (fun hh => hh hl0)).trans ((if_neg (by omega)).trans ((if_neg (by omega)).trans (if_neg (fun hh => hh ⟨by omega, Int.not_le.1 (by assumption)⟩)))))), rfl⟩
  refine SL_nil (nx (SWP_cf rfl (SWP_skip (nx (SWP_seq (SWP_seq ?_))))))
  have hz : gameErr g = 0 := Classical.not_not.1 (by assumption)
  have hg := gameOk hz
  refine SWP_region ?_
  refine pu rfl rfl ?_
  refine lw (v := .slice _ _ _) B3 0 rfl rfl rfl rfl ?_
  refine pu rfl rfl ?_
  refine pc rfl rfl (fun c25 => ?_) (fun c25 => ?_)
  · skip
    refine pB rfl rfl ?_
    refine SL_no rfl rfl ?_
    refine SL_no rfl rfl ?_
    refine SL_no rfl rfl ?_
    refine SL_no rfl rfl ?_
    refine pB rfl rfl ?_
    refine SL_nil (nx (SWP_ct rfl (SWP_seq (SWP_region ?_))))
    refine pI rfl rfl ?_
    refine SL_nil (nx (SWP_ret (nr ?_)))
    refine fin [_] ⟨rfl, trivial⟩ ?_
    first
      | exact ⟨_, if_pos (by assumption), rfl⟩
      | exact ⟨3, (if_neg (fun hh => hh hz)).trans (if_pos (by omega)), rfl⟩
      | exact ⟨_, (if_neg (fun hh => hh hz)).trans ((if_neg (fun hh => hh hlen)).trans ((if_pos (by rw [show lnErr g b.system b.lines = sizeE g b.system l from lnErr_at (by assumption) hln (by omega) (by rw [lnAt_some hl]; exact if_pos (by assumption))]; assumption)).trans (lnErr_at (by assumption) hln (by omega) (by rw [lnAt_some hl]; exact if_pos (by assumption))))), rfl⟩
      | (have hle0 : lnErr g b.system b.lines = 6 := lnErr_at (by decide) hln (by omega) (by rw [lnAt_some hl]; exact (if_neg (fun hh => hh hsz)).trans (if_pos (by rw [(in_canon hx1 hx2 hy1 hy2).1 (by assumption)]; exact List.mem_map_of_mem (List.mem_of_getElem? hl2t))))
         exact ⟨6, (if_neg (fun hh => hh hz)).trans ((if_neg (fun hh => hh hlen)).trans ((if_pos (by rw [hle0]; decide)).trans hle0)), rfl⟩)
      | exact ⟨3, (if_neg (fun hh => hh hz)).trans ((if_neg (fun hh => hh hlen)).trans ((if_neg (fun hh => hh hl0)).trans (if_pos (by omega)))), rfl⟩
      | exact ⟨2, (if_neg (fun hh => hh hz)).trans ((if_neg (fun hh => hh hlen)).trans ((if_neg (fun hh => hh hl0)).trans ((if_neg (by omega)).trans (if_pos (by omega))))), rfl⟩
      | exact ⟨2, (if_neg (fun hh => hh hz)).trans ((if_neg (fun hh => hh hlen)).trans ((if_neg (fun hh => hh hl0)).trans ((if_neg (by omega)).trans ((if_neg (by omega)).trans (if_pos (fun hh => by first | omega | exact absurd hh.2 (Int.not_lt.2 (by assumption)))))))), rfl⟩
      | exact ⟨0, (if_neg (fun hh => hh hz)).trans ((if_neg (fun hh => hh hlen)).trans ((if_neg (fun hh => hh hl0)).trans ((if_neg (by omega)).trans ((if_neg (by omega)).trans (if_neg (fun hh => hh ⟨by omega, Int.not_le.1 (by assumption)⟩)))))), rfl⟩
  refine pB rfl rfl ?_
  refine SL_yes rfl ?_
  refine pu rfl rfl ?_
  refine SL_yes rfl ?_
  refine lw (v := .slice _ _ _) B3 0 rfl rfl rfl rfl ?_
  refine SL_yes rfl ?_
  refine pu rfl rfl ?_
  refine SL_yes rfl ?_
  refine pc rfl rfl (fun c30 => ?_) (fun c30 => ?_)
  · skip
    refine pB rfl rfl ?_
    refine SL_nil (nx (SWP_ct rfl (SWP_seq (SWP_region ?_))))
    refine pI rfl rfl ?_
    refine SL_nil (nx (SWP_ret (nr ?_)))
    refine fin [_] ⟨rfl, trivial⟩ ?_
    first
      | exact ⟨_, if_pos (by assumption), rfl⟩
      | exact ⟨3, (if_neg (fun hh => hh hz)).trans (if_pos (by omega)), rfl⟩
      | exact ⟨_, (if_neg (fun hh => hh hz)).trans ((if_neg (fun hh => hh hlen)).trans ((if_pos (by rw [show lnErr g b.system b.lines = sizeE g b.system l from lnErr_at (by assumption) hln (by omega) (by rw [lnAt_some hl]; exact if_pos (by assumption))]; assumption)).trans (lnErr_at (by assumption) hln (by omega) (by rw [lnAt_some hl]; exact if_pos (by assumption))))), rfl⟩
      | (have hle0 : lnErr g b.system b.lines = 6 := lnErr_at (by decide) hln (by omega) (by rw [lnAt_some hl]; exact (if_neg (fun hh => hh hsz)).trans (if_pos (by rw [(in_canon hx1 hx2 hy1 hy2).1 (by assumption)]; exact List.mem_map_of_mem (List.mem_of_getElem? hl2t))))
         exact ⟨6, (if_neg (fun hh => hh hz)).trans ((if_neg (fun hh => hh hlen)).trans ((if_pos (by rw [hle0]; decide)).trans hle0)), rfl⟩)
      | exact ⟨3, (if_neg (fun hh => hh hz)).trans ((if_neg (fun hh => hh hlen)).trans ((if_neg (fun hh => hh hl0)).trans (if_pos (by omega)))), rfl⟩
      | exact ⟨2, (if_neg (fun hh => hh hz)).trans ((if_neg (fun hh => hh hlen)).trans ((if_neg (fun hh => hh hl0)).trans ((if_neg (by omega)).trans (if_pos (by omega))))), rfl⟩
      | exact ⟨2, (if_neg (fun hh => hh hz)).trans ((if_neg (fun hh => hh hlen)).trans ((if_neg (fun hh => hh hl0)).trans ((if_neg (by omega)).trans ((if_neg (by omega)).trans (if_pos (fun hh => by first | omega | exact absurd hh.2 (Int.not_lt.2 (by assumption)))))))), rfl⟩
      | exact ⟨0, (if_neg (fun hh => hh hz)).trans ((if_neg (fun hh => hh hlen)).trans ((if_neg (fun hh => hh hl0)).trans ((if_neg (by omega)).trans ((if_neg (by omega)).trans (if_neg (fun hh => hh ⟨by omega, Int.not_le.1 (by assumption)⟩)))))), rfl⟩
  refine pB rfl rfl ?_
  refine SL_nil (nx (SWP_cf rfl (SWP_skip (nx (SWP_seq ?_)))))
  have hlen : 1 ≤ b.lines.length ∧ b.lines.length ≤ 16 := by omega
  refine SWP_region ?_
  refine pI rfl rfl ?_
  refine SL_nil (nx (SWP_seq (SWP_seq (SWP_region ?_))))
  refine pI rfl rfl ?_
  refine SL_nil (nx (SWP_block ?_))
  refine SWP_loop [4, 7, 8, 9, 10, 11, 32, 33, 34, 35, 36, 37, 38, 39, 40, 41, 42, 43, 44, 45, 46, 47, 48, 49, 50, 51, 52, 53, 54, 55, 56, 57, 58, 59, 60, 61, 62, 63, 64, 65, 66, 67, 68, 69, 70, 71, 72, 73, 74, 75, 76] [7, 8]
      (fun vs σ' m' => ∃ (i : Nat), vs = [.int .i64 (totN g b.system (b.lines.take i) : Nat), .int .i64 (i : Nat)] ∧ i ≤ b.lines.length ∧ (∀ j, j < i → lnAt g b.system b.lines j = 0) ∧ totN g b.system (b.lines.take i) ≤ i * 100000 ∧ σ' = [(B3, Cells 30 b.enc), (B2, Cells 25 g.enc)] ∧ Le m m')
      (fun vs => b.lines.length - nOf (vs.getD 1 undef)) rfl ?_ ?_
  · exact ⟨0, rfl, by omega, fun j hj => (by omega), Nat.le_refl _, rfl, Le.refl _⟩
  intro u0 vs0 σ0 m0 hJ0 _
  obtain ⟨i, rfl, hi, hln, ht, rfl, hle⟩ := hJ0
  dsimp only [Bet.enc, Game.enc]
  refine SWP_seq (SWP_seq (SWP_region ?_))
  first | refine pI rfl rfl ?_ | refine pu rfl rfl ?_
  refine pu rfl rfl ?_
  refine lw (v := .slice _ _ _) B3 0 rfl rfl rfl rfl ?_
  refine pu rfl rfl ?_
  refine pc rfl rfl (fun c36 => ?_) (fun c36 => ?_)
  · skip
    refine SL_nil (nx (SWP_ct rfl (SWP_skip (nx (SWP_seq (SWP_block (SWP_seq ?_)))))))
    obtain ⟨l, hl⟩ : ∃ l, b.lines[i]? = some l := ⟨_, List.getElem?_eq_getElem (by omega)⟩
    obtain ⟨ad, e0, _, hat⟩ := hb.ls.atA Line.enc_len hl
    rw [e0]
    refine SWP_draws (by kernel_rfl) (by kernel_rfl) ?_
    refine lw (v := .agg _) B2 0 rfl rfl rfl rfl ?_
    refine pu rfl rfl ?_
    refine lw (v := .bool _) B3 1 rfl rfl rfl rfl ?_
    refine pu rfl rfl ?_
    refine lw (v := .slice _ _ _) B3 0 rfl rfl rfl rfl ?_
    first | refine pI rfl rfl ?_ | refine pu rfl rfl ?_
    first | refine ia (es := 2) rfl rfl rfl rfl rfl rfl (by omega) rfl ?_ | refine iai (es := 2) rfl rfl rfl rfl rfl rfl (by omega) (by omega) rfl ?_
    refine ldA (v := l.val) rfl (hat.mono hle) rfl rfl ?_
    refine SL_pcall rfl rfl cb54 (oneR (hin.mono hle) ((hb.each l (List.mem_of_getElem? hl)).mono hle) b.system) rfl ?_
    refine pu rfl rfl ?_
    first | refine pI rfl rfl ?_ | refine pu rfl rfl ?_
    first | refine pI rfl rfl ?_ | refine pu rfl rfl ?_
    first | refine pI rfl rfl ?_ | refine pu rfl rfl ?_
    first | refine pI rfl rfl ?_ | refine pu rfl rfl ?_
    refine SL_nil (nx (SWP_seq (SWP_seq ?_)))
    rw [← e0]
    refine SWP_region ?_
    first | refine pI rfl rfl ?_ | refine pu rfl rfl ?_
    refine pc rfl rfl (fun c52 => ?_) (fun c52 => ?_)
    · skip
      refine SL_nil (nx (SWP_ct rfl (SWP_seq (SWP_region ?_))))
      first | refine pI rfl rfl ?_ | refine pu rfl rfl ?_
      first | refine pI rfl rfl ?_ | refine pu rfl rfl ?_
      refine SL_nil (nx (SWP_ret (nr (br (nr (nr (br (nr ?_))))))))
      refine fin [_] ⟨rfl, trivial⟩ ?_
      first
        | exact ⟨_, if_pos (by assumption), rfl⟩
        | exact ⟨3, (if_neg (fun hh => hh hz)).trans (if_pos (by omega)), rfl⟩
        | exact ⟨_, (if_neg (fun hh => hh hz)).trans ((if_neg (fun hh => hh hlen)).trans ((if_pos (by rw [show lnErr g b.system b.lines = sizeE g b.system l from lnErr_at (by assumption) hln (by omega) (by rw [lnAt_some hl]; exact if_pos (by assumption))]; assumption)).trans (lnErr_at (by assumption) hln (by omega) (by rw [lnAt_some hl]; exact if_pos (by assumption))))), rfl⟩
        | (have hle0 : lnErr g b.system b.lines = 6 := lnErr_at (by decide) hln (by omega) (by rw [lnAt_some hl]; exact (if_neg (fun hh => hh hsz)).trans (if_pos (by rw [(in_canon hx1 hx2 hy1 hy2).1 (by assumption)]; exact List.mem_map_of_mem (List.mem_of_getElem? hl2t))))
           exact ⟨6, (if_neg (fun hh => hh hz)).trans ((if_neg (fun hh => hh hlen)).trans ((if_pos (by rw [hle0]; decide)).trans hle0)), rfl⟩)
        | exact ⟨3, (if_neg (fun hh => hh hz)).trans ((if_neg (fun hh => hh hlen)).trans ((if_neg (fun hh => hh hl0)).trans (if_pos (by omega)))), rfl⟩
        | exact ⟨2, (if_neg (fun hh => hh hz)).trans ((if_neg (fun hh => hh hlen)).trans ((if_neg (fun hh => hh hl0)).trans ((if_neg (by omega)).trans (if_pos (by omega))))), rfl⟩
        | exact ⟨2, (if_neg (fun hh => hh hz)).trans ((if_neg (fun hh => hh hlen)).trans ((if_neg (fun hh => hh hl0)).trans ((if_neg (by omega)).trans ((if_neg (by omega)).trans (if_pos (fun hh => by first | omega | exact absurd hh.2 (Int.not_lt.2 (by assumption)))))))), rfl⟩
        | exact ⟨0, (if_neg (fun hh => hh hz)).trans ((if_neg (fun hh => hh hlen)).trans ((if_neg (fun hh => hh hl0)).trans ((if_neg (by omega)).trans ((if_neg (by omega)).trans (if_neg (fun hh => hh ⟨by omega, Int.not_le.1 (by assumption)⟩)))))), rfl⟩
    refine SL_nil (nx (SWP_cf rfl (SWP_skip (nx (SWP_seq (SWP_seq ?_))))))
    have hsz : sizeE g b.system l = 0 := Classical.not_not.1 (by assumption)
    have hsm := size_small hsz
    refine SWP_region ?_
    refine pI rfl rfl ?_
    refine SL_nil (nx (SWP_block ?_))
    refine SWP_loop [4, 11, 54, 55, 56, 57, 58, 59, 60, 61, 62, 63, 64, 65, 66, 67, 68, 69, 70, 71, 72, 73] [11]
        (fun vs σ' m' => ∃ (k : Nat), vs = [.int .i64 (k : Nat)] ∧ k ≤ i ∧ canonL g l ∉ ((b.lines.take i).take k).map (canonL g) ∧ σ' = [(B3, Cells 30 b.enc), (B2, Cells 25 g.enc)] ∧ Le m m')
        (fun vs => i - nOf (vs.getD 0 undef)) rfl ?_ ?_
    · exact ⟨0, rfl, by omega, by simp, rfl, hle⟩
    intro u1 vs1 σ1 m1 hJ1 _
    obtain ⟨k, rfl, hk, hno, rfl, hle1⟩ := hJ1
    dsimp only [Bet.enc, Game.enc]
    refine SWP_seq (SWP_seq (SWP_region ?_))
    first | refine pI rfl rfl ?_ | refine pu rfl rfl ?_
    first | refine pI rfl rfl ?_ | refine pu rfl rfl ?_
    refine pc rfl rfl (fun c56 => ?_) (fun c56 => ?_)
    · skip
      refine SL_nil (nx (SWP_ct rfl (SWP_skip (nx (SWP_seq (SWP_block (SWP_seq ?_)))))))
      obtain ⟨l2, hl2⟩ : ∃ l2, b.lines[k]? = some l2 := ⟨_, List.getElem?_eq_getElem (by omega)⟩
      have hsm2 := size_small (sizeE_of_lnAt hl2 (hln k (by omega)))
      obtain ⟨ad2, e2, _, hat2⟩ := hb.ls.atA Line.enc_len hl2
      obtain rfl : ad2 = ad := Option.some.inj (e2.symm.trans e0)
      have hl2t : (b.lines.take i)[k]? = some l2 := by rw [List.getElem?_take, if_pos (by omega)]; exact hl2
      rw [e0]
      refine SWP_tree [(B3, Cells 30 [.slice (some ad2) b.lines.length b.lc, .bool b.system, .int .i64 b.draws, .int .i64 b.addons]), (B2, Cells 25 g.enc)] 15 (.one 0 (.one 1 (.one 2 (.one 3 (.one 4 (.one 5 (.one 7 (.one 8 (.one 9 (.one 10 (.one 11 (.one 12 (.one 6 (.one 13 (.one 14 (.fin)))))))))))))))) (by kernel_rfl) (by kernel_rfl) (Sub.refl _) ?_
      refine T1 rfl ?_
      refine lw (v := .agg _) B2 0 rfl rfl rfl rfl ?_
      refine SL_nil ?_
      refine T1 rfl ?_
      refine pu rfl rfl ?_
      refine SL_nil ?_
      refine T1 rfl ?_
      refine lw (v := .slice _ _ _) B3 0 rfl rfl rfl rfl ?_
      refine SL_nil ?_
      refine T1 rfl ?_
      first | refine pI rfl rfl ?_ | refine pu rfl rfl ?_
      refine SL_nil ?_
      refine T1 rfl ?_
      first | refine ia (es := 2) rfl rfl rfl rfl rfl rfl (by omega) rfl ?_ | refine iai (es := 2) rfl rfl rfl rfl rfl rfl (by omega) (by omega) rfl ?_
      refine SL_nil ?_
      refine T1 rfl ?_
      refine ldA (v := l.val) rfl (hat.mono (by first | exact hle1.trans hl16_13 | exact hle1)) rfl rfl ?_
      refine SL_nil ?_
      refine T1 rfl ?_
      refine lw (v := .agg _) B2 0 rfl rfl rfl rfl ?_
      refine SL_nil ?_
      refine T1 rfl ?_
      refine pu rfl rfl ?_
      refine SL_nil ?_
      refine T1 rfl ?_
      refine lw (v := .slice _ _ _) B3 0 rfl rfl rfl rfl ?_
      refine SL_nil ?_
      refine T1 rfl ?_
      first | refine pI rfl rfl ?_ | refine pu rfl rfl ?_
      refine SL_nil ?_
      refine T1 rfl ?_
      first | refine ia (es := 2) rfl rfl rfl rfl rfl rfl (by omega) rfl ?_ | refine iai (es := 2) rfl rfl rfl rfl rfl rfl (by omega) (by omega) rfl ?_
      refine SL_nil ?_
      refine T1 rfl ?_
      refine ldA (v := l2.val) rfl (hat2.mono (by first | exact hle1.trans hl16_6 | exact hle1)) rfl rfl ?_
      refine SL_nil ?_
      refine T1 rfl ?_
      refine SL_call rfl rfl cb55 (CallsS.frame0 (formR (by first | exact (hb.each l (List.mem_of_getElem? hl)).mono (hle1.trans hl16_13) | exact (hb.each l (List.mem_of_getElem? hl)).mono hle1) (by omega) (by omega))) rfl (fun v16_6 σ16_6 m16_6 hl16_6 hR16_6 => ?_)
      obtain ⟨σx, rfl, rfl, x, rfl, hxi, hx1, hx2⟩ := hR16_6
      refine SL_nil ?_
      refine T1 rfl ?_
      refine SL_call rfl rfl cb55 (CallsS.frame0 (formR (by first | exact (hb.each l2 (List.mem_of_getElem? hl2)).mono (hle1.trans hl16_6) | exact (hb.each l2 (List.mem_of_getElem? hl2)).mono hle1) (by omega) (by omega))) rfl (fun v16_13 σ16_13 m16_13 hl16_13 hR16_13 => ?_)
      obtain ⟨σy, rfl, rfl, y, rfl, hyi, hy1, hy2⟩ := hR16_13
      refine SL_nil ?_
      refine T1 rfl ?_
      refine SL_pcall rfl rfl cb25 (sameLR (by first | exact hxi.mono hl16_13 | exact hxi) (by first | exact hyi | exact hyi.mono hl16_6)) rfl ?_
      refine psp 73 rfl (fun c73 => ?_) (fun c73 => ?_)
      · skip
        refine SL_nil (nx (SWP_ct rfl (SWP_seq (SWP_region ?_))))
        refine pI rfl rfl ?_
        refine SL_nil (nx (SWP_ret (br (nr (nr (br (nr (br (nr (nr (br ?_)))))))))))
        refine nr ?_
        refine fin [_] ⟨rfl, trivial⟩ ?_
        first
          | exact ⟨_, if_pos (by assumption), rfl⟩
          | exact ⟨3, (if_neg (fun hh => hh hz)).trans (if_pos (by omega)), rfl⟩
          | exact ⟨_, (if_neg (fun hh => hh hz)).trans ((if_neg (fun hh => hh hlen)).trans ((if_pos (by rw [show lnErr g b.system b.lines = sizeE g b.system l from lnErr_at (by assumption) hln (by omega) (by rw [lnAt_some hl]; exact if_pos (by assumption))]; assumption)).trans (lnErr_at (by assumption) hln (by omega) (by rw [lnAt_some hl]; exact if_pos (by assumption))))), rfl⟩
          | (have hle0 : lnErr g b.system b.lines = 6 := lnErr_at (by decide) hln (by omega) (by rw [lnAt_some hl]; exact (if_neg (fun hh => hh hsz)).trans (if_pos (by rw [(in_canon hx1 hx2 hy1 hy2).1 (by assumption)]; exact List.mem_map_of_mem (List.mem_of_getElem? hl2t))))
             exact ⟨6, (if_neg (fun hh => hh hz)).trans ((if_neg (fun hh => hh hlen)).trans ((if_pos (by rw [hle0]; decide)).trans hle0)), rfl⟩)
          | exact ⟨3, (if_neg (fun hh => hh hz)).trans ((if_neg (fun hh => hh hlen)).trans ((if_neg (fun hh => hh hl0)).trans (if_pos (by omega)))), rfl⟩
          | exact ⟨2, (if_neg (fun hh => hh hz)).trans ((if_neg (fun hh => hh hlen)).trans ((if_neg (fun hh => hh hl0)).trans ((if_neg (by omega)).trans (if_pos (by omega))))), rfl⟩
          | exact ⟨2, (if_neg (fun hh => hh hz)).trans ((if_neg (fun hh => hh hlen)).trans ((if_neg (fun hh => hh hl0)).trans ((if_neg (by omega)).trans ((if_neg (by omega)).trans (if_pos (fun hh => by first | omega | exact absurd hh.2 (Int.not_lt.2 (by assumption)))))))), rfl⟩
          | exact ⟨0, (if_neg (fun hh => hh hz)).trans ((if_neg (fun hh => hh hlen)).trans ((if_neg (fun hh => hh hl0)).trans ((if_neg (by omega)).trans ((if_neg (by omega)).trans (if_neg (fun hh => hh ⟨by omega, Int.not_le.1 (by assumption)⟩)))))), rfl⟩
      refine SL_nil (nx (SWP_cf rfl (SWP_skip (nb (nx ?_)))))
      rw [← e0]
      refine SWP_region ?_
      first | refine pI rfl rfl ?_ | refine pu rfl rfl ?_
      first | refine pw rfl rfl (w64 (by omega) (by omega)) ?_ | refine pu rfl rfl ?_
      refine pI rfl rfl ?_
      refine SL_nil (nx ?_)
      refine ⟨by repeat (first | exact Under.upds rfl (Under.hav _ _ _) | exact Under.hav _ _ _ | refine Under.upd rfl ?_ | refine Under.upds rfl ?_ | refine Under.hav2 rfl ?_), ?_, ?_⟩
      · refine ⟨k + 1, rfl, by omega, fun hm => ?_, rfl, by first | exact hle1.trans (hl16_6.trans hl16_13) | exact hle1.trans (hl16_13.trans hl16_6)⟩
        rw [take_snocA hl2t, List.map_append] at hm
        rcases List.mem_append.1 hm with hm | hm
        · exact hno hm
        · rw [List.map_singleton, List.mem_singleton] at hm
          exact absurd ((in_canon hx1 hx2 hy1 hy2).2 hm) (by assumption)
      · simp only [L_vals, List.map, List.getD]; show i - (k + 1) < i - k; omega
    refine SL_nil (nx (SWP_cf rfl (SWP_exit (ne (ne (be rfl (nx (SWP_region ?_))))))))
    first | refine pI rfl rfl ?_ | refine pu rfl rfl ?_
    first | refine pI rfl rfl ?_ | refine pu rfl rfl ?_
    refine pw rfl rfl (w64 (by omega) (by omega)) ?_
    first | refine pI rfl rfl ?_ | refine pu rfl rfl ?_
    refine SL_nil (nb (nx (SWP_region ?_)))
    first | refine pI rfl rfl ?_ | refine pu rfl rfl ?_
    first | refine pw rfl rfl (w64 (by omega) (by omega)) ?_ | refine pu rfl rfl ?_
    refine pI rfl rfl ?_
    refine SL_nil (nx ?_)
    refine ⟨by repeat (first | exact Under.upds rfl (Under.hav _ _ _) | exact Under.hav _ _ _ | refine Under.upd rfl ?_ | refine Under.upds rfl ?_ | refine Under.hav2 rfl ?_), ?_, ?_⟩
    · refine ⟨i + 1, ?_, by omega, fun j hj => ?_, ?_, rfl, hle1⟩
      · rw [totN_snoc hl]; simp only [L_vals, List.map]; first | rfl | simp
      · by_cases e : j = i
        · subst e
          rw [lnAt_some hl]
          refine (if_neg (fun hh => hh hsz)).trans (if_neg ?_)
          rw [show k = j by omega, List.take_take, Nat.min_self] at hno
          exact hno
        · exact hln j (by omega)
      · rw [totN_snoc hl]; omega
    · simp only [L_vals, List.map, List.getD]; show b.lines.length - (i + 1) < b.lines.length - i; omega
  refine SL_nil (nx (SWP_cf rfl (SWP_exit (ne (ne (be rfl (nx (SWP_seq (SWP_seq ?_)))))))))
  obtain rfl : i = b.lines.length := by omega
  rw [List.take_length] at ht
  rw [List.take_length]
  have hl0 : lnErr g b.system b.lines = 0 := lnErr_zero.2 hln
  have hfew := addons_few hg
  refine SWP_region ?_
  first | refine pI rfl rfl ?_ | refine pu rfl rfl ?_
  refine pc rfl rfl (fun c78 => ?_) (fun c78 => ?_)
  · skip
    refine SL_nil (nx (SWP_ct rfl (SWP_seq (SWP_region ?_))))
    refine pI rfl rfl ?_
    refine SL_nil (nx (SWP_ret (nr ?_)))
    refine fin [_] ⟨rfl, trivial⟩ ?_
    first
      | exact ⟨_, if_pos (by assumption), rfl⟩
      | exact ⟨3, (if_neg (fun hh => hh hz)).trans (if_pos (by omega)), rfl⟩
      | exact ⟨_, (if_neg (fun hh => hh hz)).trans ((if_neg (fun hh => hh hlen)).trans ((if_pos (by rw [show lnErr g b.system b.lines = sizeE g b.system l from lnErr_at (by assumption) hln (by omega) (by rw [lnAt_some hl]; exact if_pos (by assumption))]; assumption)).trans (lnErr_at (by assumption) hln (by omega) (by rw [lnAt_some hl]; exact if_pos (by assumption))))), rfl⟩
      | (have hle0 : lnErr g b.system b.lines = 6 := lnErr_at (by decide) hln (by omega) (by rw [lnAt_some hl]; exact (if_neg (fun hh => hh hsz)).trans (if_pos (by rw [(in_canon hx1 hx2 hy1 hy2).1 (by assumption)]; exact List.mem_map_of_mem (List.mem_of_getElem? hl2t))))
         exact ⟨6, (if_neg (fun hh => hh hz)).trans ((if_neg (fun hh => hh hlen)).trans ((if_pos (by rw [hle0]; decide)).trans hle0)), rfl⟩)
      | exact ⟨3, (if_neg (fun hh => hh hz)).trans ((if_neg (fun hh => hh hlen)).trans ((if_neg (fun hh => hh hl0)).trans (if_pos (by omega)))), rfl⟩
      | exact ⟨2, (if_neg (fun hh => hh hz)).trans ((if_neg (fun hh => hh hlen)).trans ((if_neg (fun hh => hh hl0)).trans ((if_neg (by omega)).trans (if_pos (by omega))))), rfl⟩
      | exact ⟨2, (if_neg (fun hh => hh hz)).trans ((if_neg (fun hh => hh hlen)).trans ((if_neg (fun hh => hh hl0)).trans ((if_neg (by omega)).trans ((if_neg (by omega)).trans (if_pos (fun hh => by first | omega | exact absurd hh.2 (Int.not_lt.2 (by assumption)))))))), rfl⟩
      | exact ⟨0, (if_neg (fun hh => hh hz)).trans ((if_neg (fun hh => hh hlen)).trans ((if_neg (fun hh => hh hl0)).trans ((if_neg (by omega)).trans ((if_neg (by omega)).trans (if_neg (fun hh => hh ⟨by omega, Int.not_le.1 (by assumption)⟩)))))), rfl⟩
  refine SL_nil (nx (SWP_cf rfl (SWP_skip (nx (SWP_seq (SWP_region ?_))))))
  refine pI rfl rfl ?_
  refine SL_nil (nx (SWP_seq (SWP_seq (SWP_region ?_))))
  refine pI rfl rfl ?_
  refine SL_nil (nx (SWP_block ?_))
  refine SWP_loop [12, 13, 79, 80, 81, 82, 83, 84, 85, 86, 87] [12, 13]
      (fun vs σ' m' => ∃ (q : Nat), vs = [.int .i64 ((2 ^ q : Nat) : Int), .int .i64 (q : Nat)] ∧ q ≤ g.addons.length ∧ σ' = [(B3, Cells 30 b.enc), (B2, Cells 25 g.enc)] ∧ m0 = m')
      (fun vs => g.addons.length - nOf (vs.getD 1 undef)) rfl ?_ ?_
  · exact ⟨0, rfl, by omega, rfl, rfl⟩
  intro u2 vs2 σ2 m2 hJ2 _
  obtain ⟨q, rfl, hq, rfl, rfl⟩ := hJ2
  have hp2 : 2 ^ q ≤ 16 := Nat.pow_le_pow_right (n := 2) (j := 4) (by decide) (by omega)
  have hp3 : 2 * ((2 ^ q : Nat) : Int) = ((2 ^ (q + 1) : Nat) : Int) := by rw [Nat.pow_succ]; omega
  have hp4 : (0 : Int) ≤ ((2 ^ q : Nat) : Int) := Int.natCast_nonneg _
  have hp5 : ((2 ^ q : Nat) : Int) ≤ ((16 : Nat) : Int) := Int.ofNat_le.2 hp2
  refine SWP_seq (SWP_seq (SWP_region ?_))
  first | refine pI rfl rfl ?_ | refine pu rfl rfl ?_
  refine pu rfl rfl ?_
  refine lw (v := .slice _ _ _) B2 20 rfl rfl rfl rfl ?_
  refine pu rfl rfl ?_
  refine pc rfl rfl (fun c83 => ?_) (fun c83 => ?_)
  · skip
    refine SL_nil (nx (SWP_ct rfl (SWP_skip (nx (SWP_seq (SWP_block (SWP_region ?_)))))))
    first | refine pI rfl rfl ?_ | refine pu rfl rfl ?_
    refine pw rfl rfl (w64 (by omega) (by omega)) ?_
    rw [hp3]
    first | refine pI rfl rfl ?_ | refine pu rfl rfl ?_
    refine SL_nil (nb (nx (SWP_region ?_)))
    first | refine pI rfl rfl ?_ | refine pu rfl rfl ?_
    first | refine pw rfl rfl (w64 (by omega) (by omega)) ?_ | refine pu rfl rfl ?_
    refine pI rfl rfl ?_
    refine SL_nil (nx ?_)
    refine ⟨by repeat (first | exact Under.upds rfl (Under.hav _ _ _) | exact Under.hav _ _ _ | refine Under.upd rfl ?_ | refine Under.upds rfl ?_ | refine Under.hav2 rfl ?_), ?_, ?_⟩
    · exact ⟨q + 1, rfl, by omega, rfl, rfl⟩
    · simp only [L_vals, List.map, List.getD]; show g.addons.length - (q + 1) < g.addons.length - q; omega
  refine SL_nil (nx (SWP_cf rfl (SWP_exit (ne (ne (be rfl (nx (SWP_seq (SWP_seq ?_)))))))))
  obtain rfl : q = g.addons.length := by omega
  have hpc : ((2 ^ g.addons.length : Nat) : Int) = 2 ^ g.addons.length := by simp
  rw [hpc]
  refine SWP_region ?_
  refine pu rfl rfl ?_
  refine lw (v := .int .i64 _) B3 2 rfl rfl rfl rfl ?_
  refine pc rfl rfl (fun c90 => ?_) (fun c90 => ?_)
  · skip
    refine pB rfl rfl ?_
    refine SL_no rfl rfl ?_
    refine SL_no rfl rfl ?_
    refine SL_no rfl rfl ?_
    refine SL_no rfl rfl ?_
    refine SL_no rfl rfl ?_
    refine pB rfl rfl ?_
    refine pB rfl rfl ?_
    refine SL_no rfl rfl ?_
    refine SL_no rfl rfl ?_
    refine SL_no rfl rfl ?_
    refine pB rfl rfl ?_
    refine pB rfl rfl ?_
    refine SL_no rfl rfl ?_
    refine SL_no rfl rfl ?_
    refine SL_no rfl rfl ?_
    refine SL_no rfl rfl ?_
    refine pB rfl rfl ?_
    refine SL_nil (nx (SWP_ct rfl (SWP_seq (SWP_region ?_))))
    refine pI rfl rfl ?_
    refine SL_nil (nx (SWP_ret (nr ?_)))
    refine fin [_] ⟨rfl, trivial⟩ ?_
    first
      | exact ⟨_, if_pos (by assumption), rfl⟩
      | exact ⟨3, (if_neg (fun hh => hh hz)).trans (if_pos (by omega)), rfl⟩
      | exact ⟨_, (if_neg (fun hh => hh hz)).trans ((if_neg (fun hh => hh hlen)).trans ((if_pos (by rw [show lnErr g b.system b.lines = sizeE g b.system l from lnErr_at (by assumption) hln (by omega) (by rw [lnAt_some hl]; exact if_pos (by assumption))]; assumption)).trans (lnErr_at (by assumption) hln (by omega) (by rw [lnAt_some hl]; exact if_pos (by assumption))))), rfl⟩
      | (have hle0 : lnErr g b.system b.lines = 6 := lnErr_at (by decide) hln (by omega) (by rw [lnAt_some hl]; exact (if_neg (fun hh => hh hsz)).trans (if_pos (by rw [(in_canon hx1 hx2 hy1 hy2).1 (by assumption)]; exact List.mem_map_of_mem (List.mem_of_getElem? hl2t))))
         exact ⟨6, (if_neg (fun hh => hh hz)).trans ((if_neg (fun hh => hh hlen)).trans ((if_pos (by rw [hle0]; decide)).trans hle0)), rfl⟩)
      | exact ⟨3, (if_neg (fun hh => hh hz)).trans ((if_neg (fun hh => hh hlen)).trans ((if_neg (fun hh => hh hl0)).trans (if_pos (by omega)))), rfl⟩
      | exact ⟨2, (if_neg (fun hh => hh hz)).trans ((if_neg (fun hh => hh hlen)).trans ((if_neg (fun hh => hh hl0)).trans ((if_neg (by omega)).trans (if_pos (by omega))))), rfl⟩
      | exact ⟨2, (if_neg (fun hh => hh hz)).trans ((if_neg (fun hh => hh hlen)).trans ((if_neg (fun hh => hh hl0)).trans ((if_neg (by omega)).trans ((if_neg (by omega)).trans (if_pos (fun hh => by first | omega | exact absurd hh.2 (Int.not_lt.2 (by assumption)))))))), rfl⟩
      | exact ⟨0, (if_neg (fun hh => hh hz)).trans ((if_neg (fun hh => hh hlen)).trans ((if_neg (fun hh => hh hl0)).trans ((if_neg (by omega)).trans ((if_neg (by omega)).trans (if_neg (fun hh => hh ⟨by omega, Int.not_le.1 (by assumption)⟩)))))), rfl⟩
  refine pB rfl rfl ?_
  refine SL_yes rfl ?_
  refine pu rfl rfl ?_
  refine SL_yes rfl ?_
  refine lw (v := .int .i64 _) B3 2 rfl rfl rfl rfl ?_
  refine SL_yes rfl ?_
  refine pu rfl rfl ?_
  refine SL_yes rfl ?_
  refine lw (v := .int .i64 _) B2 8 rfl rfl rfl rfl ?_
  refine SL_yes rfl ?_
  refine pc rfl rfl (fun c96 => ?_) (fun c96 => ?_)
  · skip
    refine pB rfl rfl ?_
    refine pB rfl rfl ?_
    refine SL_no rfl rfl ?_
    refine SL_no rfl rfl ?_
    refine SL_no rfl rfl ?_
    refine pB rfl rfl ?_
    refine pB rfl rfl ?_
    refine SL_no rfl rfl ?_
    refine SL_no rfl rfl ?_
    refine SL_no rfl rfl ?_
    refine SL_no rfl rfl ?_
    refine pB rfl rfl ?_
    refine SL_nil (nx (SWP_ct rfl (SWP_seq (SWP_region ?_))))
    refine pI rfl rfl ?_
    refine SL_nil (nx (SWP_ret (nr ?_)))
    refine fin [_] ⟨rfl, trivial⟩ ?_
    first
      | exact ⟨_, if_pos (by assumption), rfl⟩
      | exact ⟨3, (if_neg (fun hh => hh hz)).trans (if_pos (by omega)), rfl⟩
      | exact ⟨_, (if_neg (fun hh => hh hz)).trans ((if_neg (fun hh => hh hlen)).trans ((if_pos (by rw [show lnErr g b.system b.lines = sizeE g b.system l from lnErr_at (by assumption) hln (by omega) (by rw [lnAt_some hl]; exact if_pos (by assumption))]; assumption)).trans (lnErr_at (by assumption) hln (by omega) (by rw [lnAt_some hl]; exact if_pos (by assumption))))), rfl⟩
      | (have hle0 : lnErr g b.system b.lines = 6 := lnErr_at (by decide) hln (by omega) (by rw [lnAt_some hl]; exact (if_neg (fun hh => hh hsz)).trans (if_pos (by rw [(in_canon hx1 hx2 hy1 hy2).1 (by assumption)]; exact List.mem_map_of_mem (List.mem_of_getElem? hl2t))))
         exact ⟨6, (if_neg (fun hh => hh hz)).trans ((if_neg (fun hh => hh hlen)).trans ((if_pos (by rw [hle0]; decide)).trans hle0)), rfl⟩)
      | exact ⟨3, (if_neg (fun hh => hh hz)).trans ((if_neg (fun hh => hh hlen)).trans ((if_neg (fun hh => hh hl0)).trans (if_pos (by omega)))), rfl⟩
      | exact ⟨2, (if_neg (fun hh => hh hz)).trans ((if_neg (fun hh => hh hlen)).trans ((if_neg (fun hh => hh hl0)).trans ((if_neg (by omega)).trans (if_pos (by omega))))), rfl⟩
      | exact ⟨2, (if_neg (fun hh => hh hz)).trans ((if_neg (fun hh => hh hlen)).trans ((if_neg (fun hh => hh hl0)).trans ((if_neg (by omega)).trans ((if_neg (by omega)).trans (if_pos (fun hh => by first | omega | exact absurd hh.2 (Int.not_lt.2 (by assumption)))))))), rfl⟩
      | exact ⟨0, (if_neg (fun hh => hh hz)).trans ((if_neg (fun hh => hh hlen)).trans ((if_neg (fun hh => hh hl0)).trans ((if_neg (by omega)).trans ((if_neg (by omega)).trans (if_neg (fun hh => hh ⟨by omega, Int.not_le.1 (by assumption)⟩)))))), rfl⟩
  refine pB rfl rfl ?_
  refine pB rfl rfl ?_
  refine SL_yes rfl ?_
  refine pu rfl rfl ?_
  refine SL_yes rfl ?_
  refine lw (v := .int .i64 _) B3 3 rfl rfl rfl rfl ?_
  refine SL_yes rfl ?_
  refine pc rfl rfl (fun c101 => ?_) (fun c101 => ?_)
  · skip
    refine pB rfl rfl ?_
    refine pB rfl rfl ?_
    refine SL_no rfl rfl ?_
    refine SL_no rfl rfl ?_
    refine SL_no rfl rfl ?_
    refine SL_no rfl rfl ?_
    refine pB rfl rfl ?_
    refine SL_nil (nx (SWP_ct rfl (SWP_seq (SWP_region ?_))))
    refine pI rfl rfl ?_
    refine SL_nil (nx (SWP_ret (nr ?_)))
    refine fin [_] ⟨rfl, trivial⟩ ?_
    first
      | exact ⟨_, if_pos (by assumption), rfl⟩
      | exact ⟨3, (if_neg (fun hh => hh hz)).trans (if_pos (by omega)), rfl⟩
      | exact ⟨_, (if_neg (fun hh => hh hz)).trans ((if_neg (fun hh => hh hlen)).trans ((if_pos (by rw [show lnErr g b.system b.lines = sizeE g b.system l from lnErr_at (by assumption) hln (by omega) (by rw [lnAt_some hl]; exact if_pos (by assumption))]; assumption)).trans (lnErr_at (by assumption) hln (by omega) (by rw [lnAt_some hl]; exact if_pos (by assumption))))), rfl⟩
      | (have hle0 : lnErr g b.system b.lines = 6 := lnErr_at (by decide) hln (by omega) (by rw [lnAt_some hl]; exact (if_neg (fun hh => hh hsz)).trans (if_pos (by rw [(in_canon hx1 hx2 hy1 hy2).1 (by assumption)]; exact List.mem_map_of_mem (List.mem_of_getElem? hl2t))))
         exact ⟨6, (if_neg (fun hh => hh hz)).trans ((if_neg (fun hh => hh hlen)).trans ((if_pos (by rw [hle0]; decide)).trans hle0)), rfl⟩)
      | exact ⟨3, (if_neg (fun hh => hh hz)).trans ((if_neg (fun hh => hh hlen)).trans ((if_neg (fun hh => hh hl0)).trans (if_pos (by omega)))), rfl⟩
      | exact ⟨2, (if_neg (fun hh => hh hz)).trans ((if_neg (fun hh => hh hlen)).trans ((if_neg (fun hh => hh hl0)).trans ((if_neg (by omega)).trans (if_pos (by omega))))), rfl⟩
      | exact ⟨2, (if_neg (fun hh => hh hz)).trans ((if_neg (fun hh => hh hlen)).trans ((if_neg (fun hh => hh hl0)).trans ((if_neg (by omega)).trans ((if_neg (by omega)).trans (if_pos (fun hh => by first | omega | exact absurd hh.2 (Int.not_lt.2 (by assumption)))))))), rfl⟩
      | exact ⟨0, (if_neg (fun hh => hh hz)).trans ((if_neg (fun hh => hh hlen)).trans ((if_neg (fun hh => hh hl0)).trans ((if_neg (by omega)).trans ((if_neg (by omega)).trans (if_neg (fun hh => hh ⟨by omega, Int.not_le.1 (by assumption)⟩)))))), rfl⟩
  refine pB rfl rfl ?_
  refine pB rfl rfl ?_
  refine SL_yes rfl ?_
  refine pu rfl rfl ?_
  refine SL_yes rfl ?_
  refine lw (v := .int .i64 _) B3 3 rfl rfl rfl rfl ?_
  refine SL_yes rfl ?_
  first | refine pI rfl rfl ?_ | refine pu rfl rfl ?_
  refine SL_yes rfl ?_
  refine pc rfl rfl (fun c107 => ?_) (fun c107 => ?_)
  · skip
    refine pB rfl rfl ?_
    refine SL_nil (nx (SWP_ct rfl (SWP_seq (SWP_region ?_))))
    refine pI rfl rfl ?_
    refine SL_nil (nx (SWP_ret (nr ?_)))
    refine fin [_] ⟨rfl, trivial⟩ ?_
    first
      | exact ⟨_, if_pos (by assumption), rfl⟩
      | exact ⟨3, (if_neg (fun hh => hh hz)).trans (if_pos (by omega)), rfl⟩
      | exact ⟨_, (if_neg (fun hh => hh hz)).trans ((if_neg (fun hh => hh hlen)).trans ((if_pos (by rw [show lnErr g b.system b.lines = sizeE g b.system l from lnErr_at (by assumption) hln (by omega) (by rw [lnAt_some hl]; exact if_pos (by assumption))]; assumption)).trans (lnErr_at (by assumption) hln (by omega) (by rw [lnAt_some hl]; exact if_pos (by assumption))))), rfl⟩
      | (have hle0 : lnErr g b.system b.lines = 6 := lnErr_at (by decide) hln (by omega) (by rw [lnAt_some hl]; exact (if_neg (fun hh => hh hsz)).trans (if_pos (by rw [(in_canon hx1 hx2 hy1 hy2).1 (by assumption)]; exact List.mem_map_of_mem (List.mem_of_getElem? hl2t))))
         exact ⟨6, (if_neg (fun hh => hh hz)).trans ((if_neg (fun hh => hh hlen)).trans ((if_pos (by rw [hle0]; decide)).trans hle0)), rfl⟩)
      | exact ⟨3, (if_neg (fun hh => hh hz)).trans ((if_neg (fun hh => hh hlen)).trans ((if_neg (fun hh => hh hl0)).trans (if_pos (by omega)))), rfl⟩
      | exact ⟨2, (if_neg (fun hh => hh hz)).trans ((if_neg (fun hh => hh hlen)).trans ((if_neg (fun hh => hh hl0)).trans ((if_neg (by omega)).trans (if_pos (by omega))))), rfl⟩
      | exact ⟨2, (if_neg (fun hh => hh hz)).trans ((if_neg (fun hh => hh hlen)).trans ((if_neg (fun hh => hh hl0)).trans ((if_neg (by omega)).trans ((if_neg (by omega)).trans (if_pos (fun hh => by first | omega | exact absurd hh.2 (Int.not_lt.2 (by assumption)))))))), rfl⟩
      | exact ⟨0, (if_neg (fun hh => hh hz)).trans ((if_neg (fun hh => hh hlen)).trans ((if_neg (fun hh => hh hl0)).trans ((if_neg (by omega)).trans ((if_neg (by omega)).trans (if_neg (fun hh => hh ⟨by omega, Int.not_le.1 (by assumption)⟩)))))), rfl⟩
  refine pB rfl rfl ?_
  refine SL_nil (nx (SWP_cf rfl (SWP_skip (nx (SWP_seq (SWP_region ?_))))))
  refine pI rfl rfl ?_
  refine SL_nil (nx (SWP_ret ?_))
  refine fin [_] ⟨rfl, trivial⟩ ?_
  first
    | exact ⟨_, if_pos (by assumption), rfl⟩
    | exact ⟨3, (if_neg (fun hh => hh hz)).trans (if_pos (by omega)), rfl⟩
    | exact ⟨_, (if_neg (fun hh => hh hz)).trans ((if_neg (fun hh => hh hlen)).trans ((if_pos (by rw [show lnErr g b.system b.lines = sizeE g b.system l from lnErr_at (by assumption) hln (by omega) (by rw [lnAt_some hl]; exact if_pos (by assumption))]; assumption)).trans (lnErr_at (by assumption) hln (by omega) (by rw [lnAt_some hl]; exact if_pos (by assumption))))), rfl⟩
    | (have hle0 : lnErr g b.system b.lines = 6 := lnErr_at (by decide) hln (by omega) (by rw [lnAt_some hl]; exact (if_neg (fun hh => hh hsz)).trans (if_pos (by rw [(in_canon hx1 hx2 hy1 hy2).1 (by assumption)]; exact List.mem_map_of_mem (List.mem_of_getElem? hl2t))))
       exact ⟨6, (if_neg (fun hh => hh hz)).trans ((if_neg (fun hh => hh hlen)).trans ((if_pos (by rw [hle0]; decide)).trans hle0)), rfl⟩)
    | exact ⟨3, (if_neg (fun hh => hh hz)).trans ((if_neg (fun hh => hh hlen)).trans ((if_neg (fun hh => hh hl0)).trans (if_pos (by omega)))), rfl⟩
    | exact ⟨2, (if_neg (fun hh => hh hz)).trans ((if_neg (fun hh => hh hlen)).trans ((if_neg (fun hh => hh hl0)).trans ((if_neg (by omega)).trans (if_pos (by omega))))), rfl⟩
    | exact ⟨2, (if_neg (fun hh => hh hz)).trans ((if_neg (fun hh => hh hlen)).trans ((if_neg (fun hh => hh hl0)).trans ((if_neg (by omega)).trans ((if_neg (by omega)).trans (if_pos (fun hh => by first | omega | exact absurd hh.2 (Int.not_lt.2 (by assumption)))))))), rfl⟩
    | exact ⟨0, (if_neg (fun hh => hh hz)).trans ((if_neg (fun hh => hh hlen)).trans ((if_neg (fun hh => hh hl0)).trans ((if_neg (by omega)).trans ((if_neg (by omega)).trans (if_neg (fun hh => hh ⟨by omega, Int.not_le.1 (by assumption)⟩)))))), rfl⟩
end Go.Proofs.YtifjhpaoejageaaGreatDoor
namespace Go.Proofs.YtifjhpaoejageaaGreatDoor
open Eng
theorem wrapB (x : Int) : IntKind.u8.wrap x = x % 256 := by simp [IntKind.wrap, IntKind.bits, IntKind.signed]
def bA (l : List UInt8) : ByteArray := ⟨l.toArray⟩
theorem bA_size (l : List UInt8) : (bA l).size = l.length := by simp [bA, ByteArray.size]
theorem bA_of (s : ByteArray) : bA s.data.toList = s := by simp [bA]
theorem bA_ext (l : List UInt8) (a b : Nat) : (bA l).extract a b = bA ((l.drop a).take (b - a)) := ByteArray.extract_mk l a b
theorem bA_inj {a b : List UInt8} : bA a = bA b ↔ a = b := ⟨fun h => by have := congrArg (fun s => s.data.toList) h; simpa [bA] using this, fun h => by rw [h]⟩
abbrev Wd := List UInt8
def joinW : List Wd → List UInt8
  | [] => []
  | [w] => w
  | w :: v :: ws => w ++ 32 :: joinW (v :: ws)
def wordsL : List UInt8 → List Wd
  | [] => [[]]
  | b :: r => if b = 32 then [] :: wordsL r else match wordsL r with
    | [] => [[b]]
    | w :: ws => (b :: w) :: ws
theorem wordsL_ne : ∀ l, wordsL l ≠ []
  | [] => by simp [wordsL]
  | b :: r => by
    unfold wordsL
    split
    · simp
    · split <;> simp
theorem joinW_cons {w : Wd} {ws : List Wd} (h : ws ≠ []) : joinW (w :: ws) = w ++ 32 :: joinW ws := by
  cases ws with
  | nil => exact absurd rfl h
  | cons v ws => rfl
theorem join_words : ∀ l, joinW (wordsL l) = l
  | [] => rfl
  | b :: r => by
    have ih := join_words r
    unfold wordsL
    by_cases hb : b = 32
    · rw [if_pos hb, joinW_cons (wordsL_ne r), ih, hb]; rfl
    · rw [if_neg hb]
      cases hw : wordsL r with
      | nil => exact absurd hw (wordsL_ne r)
      | cons w ws =>
        rw [hw] at ih
        show joinW ((b :: w) :: ws) = b :: r
        rw [← ih]
        cases ws <;> rfl
theorem words_ns : ∀ l, ∀ w ∈ wordsL l, (32 : UInt8) ∉ w
  | [], w, h => by
    rw [show wordsL [] = [[]] from rfl, List.mem_singleton] at h; subst h; simp
  | b :: r, w, h => by
    have ih := words_ns r
    unfold wordsL at h
    by_cases hb : b = 32
    · rw [if_pos hb] at h
      rcases List.mem_cons.1 h with rfl | h
      · simp
      · exact ih w h
    · rw [if_neg hb] at h
      cases hw : wordsL r with
      | nil => exact absurd hw (wordsL_ne r)
      | cons v ws =>
        rw [hw] at h ih
        rcases List.mem_cons.1 h with rfl | h
        · intro hm
          rcases List.mem_cons.1 hm with e | hm
          · exact hb e.symm
          · exact ih v (List.mem_cons_self ..) hm
        · exact ih w (List.mem_cons_of_mem _ h)
theorem wordsL_sp (l : List UInt8) : wordsL (32 :: l) = [] :: wordsL l := by rw [wordsL]; exact if_pos rfl
theorem wordsL_ch {b : UInt8} {r : List UInt8} {w : Wd} {ws : List Wd} (hb : ¬ b = 32) (e : wordsL r = w :: ws) : wordsL (b :: r) = (b :: w) :: ws := by rw [wordsL, if_neg hb, e]
theorem words_word : ∀ (w : Wd), (32 : UInt8) ∉ w → wordsL w = [w]
  | [], _ => rfl
  | b :: r, h => by
    have hb : ¬ b = 32 := fun e => h (by rw [e]; exact List.mem_cons_self ..)
    exact wordsL_ch hb (words_word r (fun hm => h (List.mem_cons_of_mem _ hm)))
theorem words_app : ∀ (w : Wd) (l : List UInt8), (32 : UInt8) ∉ w → wordsL (w ++ 32 :: l) = w :: wordsL l
  | [], l, _ => wordsL_sp l
  | b :: r, l, h => by
    have hb : ¬ b = 32 := fun e => h (by rw [e]; exact List.mem_cons_self ..)
    exact wordsL_ch hb (words_app r l (fun hm => h (List.mem_cons_of_mem _ hm)))
theorem words_join : ∀ (ws : List Wd), ws ≠ [] → (∀ w ∈ ws, (32 : UInt8) ∉ w) → wordsL (joinW ws) = ws
  | [], h, _ => absurd rfl h
  | [w], _, h => words_word w (h w (List.mem_cons_self ..))
  | w :: v :: ws, _, h => by
    show wordsL (w ++ 32 :: joinW (v :: ws)) = _
    rw [words_app w _ (h w (List.mem_cons_self ..)), words_join (v :: ws) (by simp) (fun x hx => h x (List.mem_cons_of_mem _ hx))]
structure Suf (l : List UInt8) (R : List Wd) : Prop where
  ns : ∀ w ∈ R, (32 : UInt8) ∉ w
  sf : R = [] ∨ ∃ P, l = P ++ joinW R
def posR (l : List UInt8) (R : List Wd) : Nat := l.length - (joinW R).length
theorem Suf.all (l : List UInt8) : Suf l (wordsL l) := ⟨words_ns l, .inr ⟨[], by rw [join_words]; rfl⟩⟩
theorem posR_all (l : List UInt8) : posR l (wordsL l) = 0 := by unfold posR; rw [join_words]; omega
theorem Suf.next {l : List UInt8} {w : Wd} {R : List Wd} (h : Suf l (w :: R)) : Suf l R := by
  refine ⟨fun x hx => h.ns x (List.mem_cons_of_mem _ hx), ?_⟩
  rcases h.sf with e | ⟨P, e⟩
  · cases e
  · cases R with
    | nil => exact .inl rfl
    | cons v R => exact .inr ⟨P ++ w ++ [32], by rw [e, joinW_cons (by simp)]; simp⟩
theorem Suf.len {l : List UInt8} {w : Wd} {R : List Wd} (h : Suf l (w :: R)) : posR l (w :: R) + (joinW (w :: R)).length = l.length := by
  rcases h.sf with e | ⟨P, e⟩
  · cases e
  · unfold posR; have := congrArg List.length e; rw [List.length_append] at this; omega
theorem Suf.drop {l : List UInt8} {w : Wd} {R : List Wd} (h : Suf l (w :: R)) : l.drop (posR l (w :: R)) = joinW (w :: R) := by
  have hl := h.len
  rcases h.sf with e | ⟨P, e⟩
  · cases e
  · have : posR l (w :: R) = P.length := by have := congrArg List.length e; rw [List.length_append] at this; omega
    rw [this, e, List.drop_left]
theorem join_len {w : Wd} {R : List Wd} (h : R ≠ []) : (joinW (w :: R)).length = w.length + 1 + (joinW R).length := by
  rw [joinW_cons h, List.length_append, List.length_cons]; omega
theorem posR_next {l : List UInt8} {w : Wd} {R : List Wd} (h : Suf l (w :: R)) (hR : R ≠ []) : posR l R = posR l (w :: R) + w.length + 1 := by
  have h1 := h.len
  have h2 := join_len (w := w) hR
  unfold posR at *
  omega
theorem posR_last {l : List UInt8} {w : Wd} (h : Suf l [w]) : l.length = posR l [w] + w.length := h.len.symm
theorem posR_le {l : List UInt8} {w : Wd} {R : List Wd} (h : Suf l (w :: R)) : posR l (w :: R) + w.length ≤ l.length ∧ (posR l (w :: R) + w.length = l.length ↔ R = []) := by
  have h1 := h.len
  by_cases hR : R = []
  · subst hR
    rw [posR_last h]
    exact ⟨Nat.le_refl _, by simp⟩
  · rw [join_len hR] at h1
    exact ⟨by omega, ⟨fun e => by omega, fun e => absurd e hR⟩⟩
theorem take_word {w : Wd} {R : List Wd} : (joinW (w :: R)).take w.length = w := by
  cases R with
  | nil => show w.take w.length = w; exact List.take_length
  | cons v R => rw [joinW_cons (by simp), List.take_left]
theorem index_word : ∀ (w : Wd) (R : List Wd), (32 : UInt8) ∉ w → Lib.indexByte (joinW (w :: R)) 32 = if R = [] then -1 else (w.length : Int)
  | [], [], _ => rfl
  | [], v :: R, _ => by rw [if_neg (by simp)]; rfl
  | b :: w, R, h => by
    have hb : ¬ b = 32 := fun e => h (by rw [e]; exact List.mem_cons_self ..)
    have ih := index_word w R (fun hm => h (List.mem_cons_of_mem _ hm))
    have e : joinW ((b :: w) :: R) = b :: joinW (w :: R) := by cases R <;> rfl
    rw [e]
    unfold Lib.indexByte
    rw [ih]
    by_cases hR : R = []
    · simp [hR, hb]
    · simp [hR, hb]
def digB (b : UInt8) : Bool := decide (48 ≤ b.toNat ∧ b.toNat ≤ 57)
def decB : Wd → Bool
  | [] => false
  | b :: r => (b != 48 || r.isEmpty) && (b :: r).all digB
def valB (l : Wd) : Nat := l.foldl (fun v b => 10 * v + (b.toNat - 48)) 0
def numW (w : Wd) : Option Int := if w.length ≤ 9 ∧ decB w = true then some (valB w : Nat) else none
theorem valB_snoc (l : Wd) (b : UInt8) : valB (l ++ [b]) = 10 * valB l + (b.toNat - 48) := by unfold valB; rw [List.foldl_append]; rfl
theorem valB_lt : ∀ (n : Nat) (l : Wd), l.length = n → l.all digB = true → valB l < 10 ^ n
  | 0, l, h, _ => by rw [List.eq_nil_of_length_eq_zero h]; decide
  | n + 1, l, h, ha => by
    obtain ⟨r, b, rfl⟩ : ∃ r b, l = r ++ [b] := ⟨l.dropLast, l.getLast (by intro e; rw [e] at h; cases h), (List.dropLast_concat_getLast (by intro e; rw [e] at h; cases h)).symm⟩
    rw [List.length_append] at h
    rw [List.all_append, Bool.and_eq_true] at ha
    have ih := valB_lt n r (by simpa using h) ha.1
    have hb : 48 ≤ b.toNat ∧ b.toNat ≤ 57 := by simpa [digB] using ha.2
    rw [valB_snoc, Nat.pow_succ]
    omega
theorem decB_all {l : Wd} (h : decB l = true) : l.all digB = true := by
  cases l with
  | nil => cases h
  | cons b r => unfold decB at h; exact (Bool.and_eq_true _ _ ▸ h).2
theorem val_small {l : Wd} (h : l.all digB = true) (hl : l.length ≤ 9) : valB l < 1000000000 :=
  Nat.lt_of_lt_of_le (valB_lt _ l rfl h) (Nat.pow_le_pow_right (n := 10) (j := 9) (by decide) hl)
theorem all_takeB {l : Wd} {b : UInt8} {i : Nat} (hb : l[i]? = some b) : (l.take (i + 1)).all digB = ((l.take i).all digB && digB b) := by
  rw [take_snocA hb, List.all_append]; simp
theorem decDigits_1 {n : Nat} (h : n < 10) : Lib.decDigits n = [UInt8.ofNat (48 + n)] := by rw [Lib.decDigits, dif_pos h]
theorem decDigits_2 {n : Nat} (h : ¬ n < 10) (h2 : n < 100) : Lib.decDigits n = [UInt8.ofNat (48 + n / 10), UInt8.ofNat (48 + n % 10)] := by
  rw [Lib.decDigits, dif_neg h, decDigits_1 (by omega)]; rfl
theorem itoaI {m : Mem} (n : Nat) (h : n < 100) : PureCall Tryz.prog 57 [.int .i64 (n : Nat)] m (.string (bA (Lib.decDigits n))) := pureOf fun w => Tryz.strconv_Itoa_small n h w
theorem fmtI {m : Mem} (n : Nat) (h : n < 100) : PureCall Tryz.prog 26 [.int .i64 (n : Nat)] m (.string (bA (Lib.decDigits n))) := by
  refine CallsS.pure ?_
  refine enter Tryz.func26 Tryz.ntmps26 rfl rfl ?_
  refine SWP_seq (SWP_region ?_)
  refine pS rfl rfl ?_
  refine SL_nil (nx (SWP_seq (SWP_region ?_)))
  first | refine pI rfl rfl ?_ | refine pu rfl rfl ?_
  refine SL_pcall rfl rfl cb57 (itoaI n h) rfl ?_
  first | refine pS rfl rfl ?_ | refine pu rfl rfl ?_
  refine SL_nil (nx (SWP_ret ?_))
  refine fin [_] ⟨rfl, trivial⟩ ?_
  rfl
end Go.Proofs.YtifjhpaoejageaaGreatDoor
namespace Go.Proofs.YtifjhpaoejageaaGreatDoor
open Eng
theorem decB_iff {l : Wd} : decB l = true ↔ l ≠ [] ∧ (l[0]? = some 48 → l.length ≤ 1) ∧ l.all digB = true := by
  cases l with
  | nil => simp [decB]
  | cons b r =>
    unfold decB
    simp only [Bool.and_eq_true, Bool.or_eq_true, bne_iff_ne, ne_eq, List.isEmpty_iff, List.getElem?_cons_zero, Option.some.injEq, List.length_cons]
    constructor
    · rintro ⟨h1, h2⟩
      refine ⟨by simp, fun e => ?_, h2⟩
      rcases h1 with h1 | h1
      · exact absurd e h1
      · rw [h1]; decide
    · rintro ⟨_, h1, h2⟩
      refine ⟨?_, h2⟩
      by_cases e : b = 48
      · right; exact List.eq_nil_of_length_eq_zero (by have := h1 e; omega)
      · exact .inl e
theorem byte_eq {b : UInt8} {n : Nat} (hn : n < 256) : ((b.toNat : Nat) : Int) = (n : Nat) ↔ b = UInt8.ofNat n := by
  constructor
  · intro h
    apply UInt8.toNat.inj
    rw [UInt8.toNat_ofNat']
    omega
  · intro h
    subst h
    rw [UInt8.toNat_ofNat']
    omega
theorem all_noB {l : Wd} {i : Nat} {b : UInt8} (hb : l[i]? = some b) (h : ¬ (48 ≤ b.toNat ∧ b.toNat ≤ 57)) : ¬ l.all digB = true := fun ha => by
  have := List.all_eq_true.1 ha b (List.mem_of_getElem? hb)
  exact h (by simpa [digB] using this)
set_option maxRecDepth 100000 in
theorem decI {m : Mem} (l : Wd) (hl : l.length ≤ 1000000) : PureCall Tryz.prog 139 [.string (bA l)] m (.bool (decB l)) := by
  refine CallsS.pure ?_
  have hsz : ((bA l).size : Int) = l.length := by rw [bA_size]
  refine enter Tryz.func139 Tryz.ntmps139 rfl rfl ?_
  refine SWP_seq (SWP_region ?_)
  refine pB rfl rfl ?_
  refine SL_nil (nx (SWP_seq (SWP_seq (SWP_region ?_))))
  first | refine pS rfl rfl ?_ | refine pu rfl rfl ?_
  refine pc rfl rfl (fun c5 => ?_) (fun c5 => ?_)
  · skip
    refine pB rfl rfl ?_
    refine SL_no rfl rfl ?_
    refine SL_no rfl rfl ?_
    refine SL_no rfl rfl ?_
    refine SL_no rfl rfl ?_
    refine SL_no rfl rfl ?_
    refine SL_no rfl rfl ?_
    refine SL_no rfl rfl ?_
    refine SL_no rfl rfl ?_
    refine pB rfl rfl ?_
    refine SL_nil (nx (SWP_ct rfl (SWP_seq (SWP_region ?_))))
    refine pB rfl rfl ?_
    refine SL_nil (nx (SWP_ret (nr ?_)))
    refine fin [_] ⟨rfl, trivial⟩ ?_
    refine congrArg Value.bool ?_
    first
      | (refine (Bool.eq_false_iff.2 fun h => ?_).symm
         have h' := decB_iff.1 h
         first
           | exact h'.1 (bA_inj.1 (by assumption))
           | exact h'.1 (List.eq_nil_of_length_eq_zero (by omega))
           | exact absurd h'.2.2 (all_noB hb (by omega))
           | exact absurd (h'.2.1 (by rw [hb0]; exact congrArg some ((byte_eq (n := 48) (by decide)).1 (by omega)))) (by omega))
      | (refine (decB_iff.2 ⟨?_, ?_, ?_⟩).symm
         · intro e; subst e; first | contradiction | (simp at *; done) | omega
         · intro e
           first
             | omega
             | (rw [hb0] at e; exact absurd ((byte_eq (n := 48) (by decide)).2 (Option.some.inj e)) (by omega))
         · rw [List.take_of_length_le (by omega)] at hall; exact hall)
  refine pB rfl rfl ?_
  refine SL_yes rfl ?_
  first | refine pS rfl rfl ?_ | refine pu rfl rfl ?_
  refine SL_yes rfl ?_
  obtain ⟨b0, hb0⟩ : ∃ b, l[0]? = some b := ⟨_, List.getElem?_eq_getElem (by first | omega | (cases l with | nil => exact absurd rfl (by assumption) | cons b r => simp))⟩
  refine ixs (k := 0) rfl rfl rfl hb0 rfl ?_
  refine SL_yes rfl ?_
  refine pc rfl rfl (fun c9 => ?_) (fun c9 => ?_)
  · skip
    refine SL_yes rfl ?_
    refine pB rfl rfl ?_
    refine SL_yes rfl ?_
    first | refine pS rfl rfl ?_ | refine pu rfl rfl ?_
    refine SL_yes rfl ?_
    refine pu rfl rfl ?_
    refine SL_yes rfl ?_
    refine pc rfl rfl (fun c13 => ?_) (fun c13 => ?_)
    · skip
      refine SL_yes rfl ?_
      refine pB rfl rfl ?_
      refine pB rfl rfl ?_
      refine SL_nil (nx (SWP_ct rfl (SWP_seq (SWP_region ?_))))
      refine pB rfl rfl ?_
      refine SL_nil (nx (SWP_ret (nr ?_)))
      refine fin [_] ⟨rfl, trivial⟩ ?_
      refine congrArg Value.bool ?_
      first
        | (refine (Bool.eq_false_iff.2 fun h => ?_).symm
           have h' := decB_iff.1 h
           first
             | exact h'.1 (bA_inj.1 (by assumption))
             | exact h'.1 (List.eq_nil_of_length_eq_zero (by omega))
             | exact absurd h'.2.2 (all_noB hb (by omega))
             | exact absurd (h'.2.1 (by rw [hb0]; exact congrArg some ((byte_eq (n := 48) (by decide)).1 (by omega)))) (by omega))
        | (refine (decB_iff.2 ⟨?_, ?_, ?_⟩).symm
           · intro e; subst e; first | contradiction | (simp at *; done) | omega
           · intro e
             first
               | omega
               | (rw [hb0] at e; exact absurd ((byte_eq (n := 48) (by decide)).2 (Option.some.inj e)) (by omega))
           · rw [List.take_of_length_le (by omega)] at hall; exact hall)
    refine SL_yes rfl ?_
    refine pB rfl rfl ?_
    refine pB rfl rfl ?_
    refine SL_nil (nx (SWP_cf rfl (SWP_skip (nx (SWP_seq (SWP_seq (SWP_region ?_)))))))
    first | refine pS rfl rfl ?_ | refine pu rfl rfl ?_
    refine pu rfl rfl ?_
    refine pI rfl rfl ?_
    refine SL_nil (nx (SWP_block ?_))
    refine SWP_loop [2, 3, 18, 19, 20, 21, 22, 23, 24, 25, 26, 27, 28, 29, 30, 31] [18]
        (fun vs σ' m' => ∃ (i : Nat), vs = [.int .i64 (i : Nat)] ∧ i ≤ l.length ∧ (l.take i).all digB = true ∧ σ' = [] ∧ m = m')
        (fun vs => l.length - nOf (vs.getD 0 undef)) rfl ?_ ?_
    · exact ⟨0, rfl, by omega, by simp, rfl, rfl⟩
    intro u0 vs0 σ0 m0 hJ0 _
    obtain ⟨i, rfl, hi, hall, rfl, rfl⟩ := hJ0
    refine SWP_seq (SWP_region ?_)
    refine pc rfl rfl (fun c19 => ?_) (fun c19 => ?_)
    · skip
      refine SL_nil (nx (SWP_seq (SWP_ct rfl (SWP_skip (nx (SWP_seq (SWP_block (SWP_seq (SWP_region ?_)))))))))
      first | refine pI rfl rfl ?_ | refine pu rfl rfl ?_
      first | refine pI rfl rfl ?_ | refine pu rfl rfl ?_
      refine SL_nil (nx (SWP_seq (SWP_region ?_)))
      first | refine pS rfl rfl ?_ | refine pu rfl rfl ?_
      first | refine pI rfl rfl ?_ | refine pu rfl rfl ?_
      obtain ⟨b, hb⟩ : ∃ b, l[i]? = some b := ⟨_, List.getElem?_eq_getElem (by omega)⟩
      refine ixs (k := i) rfl rfl rfl hb rfl ?_
      refine pc rfl rfl (fun c24 => ?_) (fun c24 => ?_)
      · skip
        refine pB rfl rfl ?_
        refine SL_no rfl rfl ?_
        refine SL_no rfl rfl ?_
        refine SL_no rfl rfl ?_
        refine SL_no rfl rfl ?_
        refine pB rfl rfl ?_
        refine SL_nil (nx (SWP_ct rfl (SWP_seq (SWP_region ?_))))
        refine pB rfl rfl ?_
        refine SL_nil (nx (SWP_ret (br (nr (nr (br (nr ?_)))))))
        refine fin [_] ⟨rfl, trivial⟩ ?_
        refine congrArg Value.bool ?_
        first
          | (refine (Bool.eq_false_iff.2 fun h => ?_).symm
             have h' := decB_iff.1 h
             first
               | exact h'.1 (bA_inj.1 (by assumption))
               | exact h'.1 (List.eq_nil_of_length_eq_zero (by omega))
               | exact absurd h'.2.2 (all_noB hb (by omega))
               | exact absurd (h'.2.1 (by rw [hb0]; exact congrArg some ((byte_eq (n := 48) (by decide)).1 (by omega)))) (by omega))
          | (refine (decB_iff.2 ⟨?_, ?_, ?_⟩).symm
             · intro e; subst e; first | contradiction | (simp at *; done) | omega
             · intro e
               first
                 | omega
                 | (rw [hb0] at e; exact absurd ((byte_eq (n := 48) (by decide)).2 (Option.some.inj e)) (by omega))
             · rw [List.take_of_length_le (by omega)] at hall; exact hall)
      refine pB rfl rfl ?_
      refine SL_yes rfl ?_
      first | refine pS rfl rfl ?_ | refine pu rfl rfl ?_
      refine SL_yes rfl ?_
      first | refine pI rfl rfl ?_ | refine pu rfl rfl ?_
      refine SL_yes rfl ?_
      refine ixs (k := i) rfl rfl rfl hb rfl ?_
      refine SL_yes rfl ?_
      refine pc rfl rfl (fun c29 => ?_) (fun c29 => ?_)
      · skip
        refine pB rfl rfl ?_
        refine SL_nil (nx (SWP_ct rfl (SWP_seq (SWP_region ?_))))
        refine pB rfl rfl ?_
        refine SL_nil (nx (SWP_ret (br (nr (nr (br (nr ?_)))))))
        refine fin [_] ⟨rfl, trivial⟩ ?_
        refine congrArg Value.bool ?_
        first
          | (refine (Bool.eq_false_iff.2 fun h => ?_).symm
             have h' := decB_iff.1 h
             first
               | exact h'.1 (bA_inj.1 (by assumption))
               | exact h'.1 (List.eq_nil_of_length_eq_zero (by omega))
               | exact absurd h'.2.2 (all_noB hb (by omega))
               | exact absurd (h'.2.1 (by rw [hb0]; exact congrArg some ((byte_eq (n := 48) (by decide)).1 (by omega)))) (by omega))
          | (refine (decB_iff.2 ⟨?_, ?_, ?_⟩).symm
             · intro e; subst e; first | contradiction | (simp at *; done) | omega
             · intro e
               first
                 | omega
                 | (rw [hb0] at e; exact absurd ((byte_eq (n := 48) (by decide)).2 (Option.some.inj e)) (by omega))
             · rw [List.take_of_length_le (by omega)] at hall; exact hall)
      refine pB rfl rfl ?_
      refine SL_nil (nx (SWP_cf rfl (SWP_skip (nb (nx (SWP_region ?_))))))
      first | refine pw rfl rfl (w64 (by omega) (by omega)) ?_ | refine pu rfl rfl ?_
      refine pI rfl rfl ?_
      refine SL_nil (nx ?_)
      refine ⟨by repeat (first | exact Under.upds rfl (Under.hav _ _ _) | exact Under.hav _ _ _ | refine Under.upd rfl ?_), ?_, ?_⟩
      · refine ⟨i + 1, rfl, by omega, ?_, rfl, rfl⟩
        rw [all_takeB hb, hall]
        exact decide_eq_true (by omega)
      · simp only [L_vals, List.map, List.getD]; show l.length - (i + 1) < l.length - i; omega
    refine SL_nil (nx (SWP_seq (SWP_cf rfl (SWP_exit (ne (ne (be rfl (nx (SWP_seq (SWP_region ?_))))))))))
    refine pB rfl rfl ?_
    refine SL_nil (nx (SWP_ret ?_))
    refine fin [_] ⟨rfl, trivial⟩ ?_
    refine congrArg Value.bool ?_
    first
      | (refine (Bool.eq_false_iff.2 fun h => ?_).symm
         have h' := decB_iff.1 h
         first
           | exact h'.1 (bA_inj.1 (by assumption))
           | exact h'.1 (List.eq_nil_of_length_eq_zero (by omega))
           | exact absurd h'.2.2 (all_noB hb (by omega))
           | exact absurd (h'.2.1 (by rw [hb0]; exact congrArg some ((byte_eq (n := 48) (by decide)).1 (by omega)))) (by omega))
      | (refine (decB_iff.2 ⟨?_, ?_, ?_⟩).symm
         · intro e; subst e; first | contradiction | (simp at *; done) | omega
         · intro e
           first
             | omega
             | (rw [hb0] at e; exact absurd ((byte_eq (n := 48) (by decide)).2 (Option.some.inj e)) (by omega))
         · rw [List.take_of_length_le (by omega)] at hall; exact hall)
  refine SL_yes rfl ?_
  refine pB rfl rfl ?_
  refine SL_no rfl rfl ?_
  refine SL_no rfl rfl ?_
  refine SL_no rfl rfl ?_
  refine SL_yes rfl ?_
  refine pB rfl rfl ?_
  refine pB rfl rfl ?_
  refine SL_nil (nx (SWP_cf rfl (SWP_skip (nx (SWP_seq (SWP_seq (SWP_region ?_)))))))
  first | refine pS rfl rfl ?_ | refine pu rfl rfl ?_
  refine pu rfl rfl ?_
  refine pI rfl rfl ?_
  refine SL_nil (nx (SWP_block ?_))
  refine SWP_loop [2, 3, 18, 19, 20, 21, 22, 23, 24, 25, 26, 27, 28, 29, 30, 31] [18]
      (fun vs σ' m' => ∃ (i : Nat), vs = [.int .i64 (i : Nat)] ∧ i ≤ l.length ∧ (l.take i).all digB = true ∧ σ' = [] ∧ m = m')
      (fun vs => l.length - nOf (vs.getD 0 undef)) rfl ?_ ?_
  · exact ⟨0, rfl, by omega, by simp, rfl, rfl⟩
  intro u0 vs0 σ0 m0 hJ0 _
  obtain ⟨i, rfl, hi, hall, rfl, rfl⟩ := hJ0
  refine SWP_seq (SWP_region ?_)
  refine pc rfl rfl (fun c19 => ?_) (fun c19 => ?_)
  · skip
    refine SL_nil (nx (SWP_seq (SWP_ct rfl (SWP_skip (nx (SWP_seq (SWP_block (SWP_seq (SWP_region ?_)))))))))
    first | refine pI rfl rfl ?_ | refine pu rfl rfl ?_
    first | refine pI rfl rfl ?_ | refine pu rfl rfl ?_
    refine SL_nil (nx (SWP_seq (SWP_region ?_)))
    first | refine pS rfl rfl ?_ | refine pu rfl rfl ?_
    first | refine pI rfl rfl ?_ | refine pu rfl rfl ?_
    obtain ⟨b, hb⟩ : ∃ b, l[i]? = some b := ⟨_, List.getElem?_eq_getElem (by omega)⟩
    refine ixs (k := i) rfl rfl rfl hb rfl ?_
    refine pc rfl rfl (fun c24 => ?_) (fun c24 => ?_)
    · skip
      refine pB rfl rfl ?_
      refine SL_no rfl rfl ?_
      refine SL_no rfl rfl ?_
      refine SL_no rfl rfl ?_
      refine SL_no rfl rfl ?_
      refine pB rfl rfl ?_
      refine SL_nil (nx (SWP_ct rfl (SWP_seq (SWP_region ?_))))
      refine pB rfl rfl ?_
      refine SL_nil (nx (SWP_ret (br (nr (nr (br (nr ?_)))))))
      refine fin [_] ⟨rfl, trivial⟩ ?_
      refine congrArg Value.bool ?_
      first
        | (refine (Bool.eq_false_iff.2 fun h => ?_).symm
           have h' := decB_iff.1 h
           first
             | exact h'.1 (bA_inj.1 (by assumption))
             | exact h'.1 (List.eq_nil_of_length_eq_zero (by omega))
             | exact absurd h'.2.2 (all_noB hb (by omega))
             | exact absurd (h'.2.1 (by rw [hb0]; exact congrArg some ((byte_eq (n := 48) (by decide)).1 (by omega)))) (by omega))
        | (refine (decB_iff.2 ⟨?_, ?_, ?_⟩).symm
           · intro e; subst e; first | contradiction | (simp at *; done) | omega
           · intro e
             first
               | omega
               | (rw [hb0] at e; exact absurd ((byte_eq (n := 48) (by decide)).2 (Option.some.inj e)) (by omega))
           · rw [List.take_of_length_le (by omega)] at hall; exact hall)
    refine pB rfl rfl ?_
    refine SL_yes rfl ?_
    first | refine pS rfl rfl ?_ | refine pu rfl rfl ?_
    refine SL_yes rfl ?_
    first | refine pI rfl rfl ?_ | refine pu rfl rfl ?_
    refine SL_yes rfl ?_
    refine ixs (k := i) rfl rfl rfl hb rfl ?_
    refine SL_yes rfl ?_
    refine pc rfl rfl (fun c29 => ?_) (fun c29 => ?_)
    · skip
      refine pB rfl rfl ?_
      refine SL_nil (nx (SWP_ct rfl (SWP_seq (SWP_region ?_))))
      refine pB rfl rfl ?_
      refine SL_nil (nx (SWP_ret (br (nr (nr (br (nr ?_)))))))
      refine fin [_] ⟨rfl, trivial⟩ ?_
      refine congrArg Value.bool ?_
      first
        | (refine (Bool.eq_false_iff.2 fun h => ?_).symm
           have h' := decB_iff.1 h
           first
             | exact h'.1 (bA_inj.1 (by assumption))
             | exact h'.1 (List.eq_nil_of_length_eq_zero (by omega))
             | exact absurd h'.2.2 (all_noB hb (by omega))
             | exact absurd (h'.2.1 (by rw [hb0]; exact congrArg some ((byte_eq (n := 48) (by decide)).1 (by omega)))) (by omega))
        | (refine (decB_iff.2 ⟨?_, ?_, ?_⟩).symm
           · intro e; subst e; first | contradiction | (simp at *; done) | omega
           · intro e
             first
               | omega
               | (rw [hb0] at e; exact absurd ((byte_eq (n := 48) (by decide)).2 (Option.some.inj e)) (by omega))
           · rw [List.take_of_length_le (by omega)] at hall; exact hall)
    refine pB rfl rfl ?_
    refine SL_nil (nx (SWP_cf rfl (SWP_skip (nb (nx (SWP_region ?_))))))
    first | refine pw rfl rfl (w64 (by omega) (by omega)) ?_ | refine pu rfl rfl ?_
    refine pI rfl rfl ?_
    refine SL_nil (nx ?_)
    refine ⟨by repeat (first | exact Under.upds rfl (Under.hav _ _ _) | exact Under.hav _ _ _ | refine Under.upd rfl ?_), ?_, ?_⟩
    · refine ⟨i + 1, rfl, by omega, ?_, rfl, rfl⟩
      rw [all_takeB hb, hall]
      exact decide_eq_true (by omega)
    · simp only [L_vals, List.map, List.getD]; show l.length - (i + 1) < l.length - i; omega
  refine SL_nil (nx (SWP_seq (SWP_cf rfl (SWP_exit (ne (ne (be rfl (nx (SWP_seq (SWP_region ?_))))))))))
  refine pB rfl rfl ?_
  refine SL_nil (nx (SWP_ret ?_))
  refine fin [_] ⟨rfl, trivial⟩ ?_
  refine congrArg Value.bool ?_
  first
    | (refine (Bool.eq_false_iff.2 fun h => ?_).symm
       have h' := decB_iff.1 h
       first
         | exact h'.1 (bA_inj.1 (by assumption))
         | exact h'.1 (List.eq_nil_of_length_eq_zero (by omega))
         | exact absurd h'.2.2 (all_noB hb (by omega))
         | exact absurd (h'.2.1 (by rw [hb0]; exact congrArg some ((byte_eq (n := 48) (by decide)).1 (by omega)))) (by omega))
    | (refine (decB_iff.2 ⟨?_, ?_, ?_⟩).symm
       · intro e; subst e; first | contradiction | (simp at *; done) | omega
       · intro e
         first
           | omega
           | (rw [hb0] at e; exact absurd ((byte_eq (n := 48) (by decide)).2 (Option.some.inj e)) (by omega))
       · rw [List.take_of_length_le (by omega)] at hall; exact hall)
set_option maxRecDepth 100000 in
theorem parseI {m : Mem} (l : Wd) (h1 : 1 ≤ l.length) (h9 : l.length ≤ 9) (h45 : l[0]? ≠ some 45) : PureCall Tryz.prog 108 [.string (bA l)] m (.tuple #[.int .i64 ((if decB l = true then valB l else 0 : Nat) : Int), .int .i64 (if decB l = true then 0 else 1)]) := by
  refine CallsS.pure ?_
  have hsz : ((bA l).size : Int) = l.length := by rw [bA_size]
  obtain ⟨b0, hb0⟩ : ∃ b, l[0]? = some b := ⟨_, List.getElem?_eq_getElem (by omega)⟩
  have h450 : ¬ ((b0.toNat : Nat) : Int) = 45 := fun e => h45 (by rw [hb0]; exact congrArg some ((byte_eq (n := 45) (by decide)).1 e))
  refine enter Tryz.func108 Tryz.ntmps108 rfl rfl ?_
  refine SWP_seq (SWP_region ?_)
  refine pI rfl rfl ?_
  refine pI rfl rfl ?_
  refine SL_nil (nx (SWP_seq (SWP_region ?_)))
  first | refine pS rfl rfl ?_ | refine pu rfl rfl ?_
  first | refine pS rfl rfl ?_ | refine pu rfl rfl ?_
  refine SL_nil (nx (SWP_seq (SWP_region ?_)))
  first | refine pS rfl rfl ?_ | refine pu rfl rfl ?_
  refine pu rfl rfl ?_
  refine pt rfl rfl (by omega) ?_
  refine pB rfl rfl ?_
  refine SL_yes rfl ?_
  first | refine pS rfl rfl ?_ | refine pu rfl rfl ?_
  refine SL_yes rfl ?_
  refine ixs (k := 0) rfl rfl rfl hb0 rfl ?_
  refine SL_yes rfl ?_
  refine pn rfl rfl (h450) ?_
  refine pB rfl rfl ?_
  refine pB rfl rfl ?_
  refine SL_nil (nx (SWP_seq (SWP_seq (SWP_region ?_))))
  refine pB rfl rfl ?_
  refine SL_nil (nx (SWP_cf rfl (SWP_skip (nx (SWP_seq (SWP_seq (SWP_region ?_)))))))
  first | refine pS rfl rfl ?_ | refine pu rfl rfl ?_
  refine SL_pcall rfl rfl cb139 (decI l (by omega)) rfl ?_
  refine bsp 23 rfl (fun b23 => ?_) (fun b23 => ?_)
  · skip
    refine pB rfl rfl ?_
    refine pB rfl rfl ?_
    refine SL_yes rfl ?_
    refine pB rfl rfl ?_
    refine SL_yes rfl ?_
    refine pB rfl rfl ?_
    refine SL_no rfl rfl ?_
    refine SL_no rfl rfl ?_
    refine SL_yes rfl ?_
    refine pB rfl rfl ?_
    refine pB rfl rfl ?_
    refine SL_nil (nx (SWP_cf rfl (SWP_skip (nx (SWP_seq ?_)))))
    have hdec : decB l = true := by assumption
    refine SWP_region ?_
    refine pI rfl rfl ?_
    refine SL_nil (nx (SWP_seq (SWP_seq (SWP_region ?_))))
    refine pB rfl rfl ?_
    refine SL_nil (nx (SWP_cf rfl (SWP_skip (nx (SWP_seq (SWP_region ?_))))))
    refine pI rfl rfl ?_
    refine SL_nil (nx (SWP_seq (SWP_seq (SWP_region ?_))))
    first | refine pS rfl rfl ?_ | refine pu rfl rfl ?_
    refine pu rfl rfl ?_
    refine pI rfl rfl ?_
    refine SL_nil (nx (SWP_block ?_))
    refine SWP_loop [2, 3, 7, 8, 9, 37, 38, 39, 40, 41, 42, 43, 44, 45, 46, 47, 48, 49, 50, 51, 52, 53, 54, 55] [7, 37]
        (fun vs σ' m' => ∃ (i : Nat), vs = [.int .u64 (valB (l.take i) : Nat), .int .i64 (i : Nat)] ∧ i ≤ l.length ∧ σ' = [] ∧ m = m')
        (fun vs => l.length - nOf (vs.getD 1 undef)) rfl ?_ ?_
    · exact ⟨0, rfl, by omega, rfl, rfl⟩
    intro u0 vs0 σ0 m0 hJ0 _
    obtain ⟨i, rfl, hi, rfl, rfl⟩ := hJ0
    refine SWP_seq (SWP_region ?_)
    refine pc rfl rfl (fun c38 => ?_) (fun c38 => ?_)
    · skip
      refine SL_nil (nx (SWP_seq (SWP_ct rfl (SWP_skip (nx (SWP_seq (SWP_block (SWP_seq (SWP_region ?_)))))))))
      first | refine pI rfl rfl ?_ | refine pu rfl rfl ?_
      first | refine pI rfl rfl ?_ | refine pu rfl rfl ?_
      refine SL_nil (nx (SWP_seq ?_))
      obtain ⟨b, hb⟩ : ∃ b, l[i]? = some b := ⟨_, List.getElem?_eq_getElem (by omega)⟩
      have hbr : 48 ≤ b.toNat ∧ b.toNat ≤ 57 := by simpa [digB] using List.all_eq_true.1 (decB_all hdec) b (List.mem_of_getElem? hb)
      have hV : valB (l.take i) < 1000000000 := val_small (List.all_eq_true.2 fun x hx => List.all_eq_true.1 (decB_all hdec) x (List.mem_of_mem_take hx)) (by rw [List.length_take]; omega)
      have hN : valB (l.take (i + 1)) = 10 * valB (l.take i) + (b.toNat - 48) := by rw [take_snocA hb, valB_snoc]
      have hN3 : ((valB (l.take (i + 1)) : Nat) : Int) = ((valB (l.take i) : Nat) : Int) * 10 + ((b.toNat : Nat) - 48 : Int) := by rw [hN]; omega
      refine SWP_region ?_
      first | refine pS rfl rfl ?_ | refine pu rfl rfl ?_
      first | refine pI rfl rfl ?_ | refine pu rfl rfl ?_
      refine ixs (k := i) rfl rfl rfl hb rfl ?_
      refine pw rfl rfl (by rw [wrapB]; omega) ?_
      refine pw rfl rfl (by rw [wrapU]; omega) ?_
      first | refine pI rfl rfl ?_ | refine pu rfl rfl ?_
      refine SL_nil (nx (SWP_seq (SWP_seq (SWP_region ?_))))
      first | refine pI rfl rfl ?_ | refine pu rfl rfl ?_
      refine pI rfl rfl ?_
      first | refine pI rfl rfl ?_ | refine pu rfl rfl ?_
      refine pw rfl rfl (by rw [wrapU]; omega) ?_
      refine pqu rfl rfl (by omega) (show IntKind.u64.wrap ((9223372036854775807 - ((b.toNat : Nat) - 48 : Int)).tdiv 10) = (9223372036854775807 - ((b.toNat : Nat) - 48 : Int)) / 10 by rw [Int.tdiv_eq_ediv_of_nonneg (by omega), wrapU]; omega) rfl ?_
      refine pn rfl rfl (by omega) ?_
      refine SL_nil (nx (SWP_cf rfl (SWP_skip (nx (SWP_region ?_)))))
      first | refine pI rfl rfl ?_ | refine pu rfl rfl ?_
      refine pw rfl rfl (by rw [wrapU]; omega) ?_
      first | refine pI rfl rfl ?_ | refine pu rfl rfl ?_
      refine pw rfl rfl (by rw [wrapU]; omega) ?_
      first | refine pI rfl rfl ?_ | refine pu rfl rfl ?_
      refine SL_nil (nb (nx (SWP_region ?_)))
      first | refine pw rfl rfl (w64 (by omega) (by omega)) ?_ | refine pu rfl rfl ?_
      refine pI rfl rfl ?_
      refine SL_nil (nx ?_)
      refine ⟨by repeat (first | exact Under.upds rfl (Under.hav _ _ _) | exact Under.hav _ _ _ | refine Under.upd rfl ?_), ?_, ?_⟩
      · refine ⟨i + 1, ?_, by omega, rfl, rfl⟩
        rw [hN3]
        rfl
      · simp only [L_vals, List.map, List.getD]; show l.length - (i + 1) < l.length - i; omega
    refine SL_nil (nx (SWP_seq (SWP_cf rfl (SWP_exit (ne (ne (be rfl (nx (SWP_seq (SWP_seq (SWP_region ?_)))))))))))
    refine pB rfl rfl ?_
    refine pB rfl rfl ?_
    refine SL_nil (nx (SWP_ct rfl (SWP_seq (SWP_region ?_))))
    first | refine pI rfl rfl ?_ | refine pu rfl rfl ?_
    obtain rfl : i = l.length := by omega
    have hVl := val_small (decB_all hdec) h9
    rw [List.take_length]
    refine pw rfl rfl (w64 (by omega) (by omega)) ?_
    first | refine pI rfl rfl ?_ | refine pu rfl rfl ?_
    refine pI rfl rfl ?_
    refine SL_nil (nx (SWP_ret (nr ?_)))
    refine fin [_, _] ⟨rfl, rfl, trivial⟩ ?_
    first | (rw [if_pos hdec, if_pos hdec]; rfl) | (rw [show decB l = false by assumption]; rfl)
  refine pB rfl rfl ?_
  refine pB rfl rfl ?_
  refine SL_no rfl rfl ?_
  refine SL_no rfl rfl ?_
  refine SL_no rfl rfl ?_
  refine SL_no rfl rfl ?_
  refine SL_no rfl rfl ?_
  refine pB rfl rfl ?_
  refine SL_nil (nx (SWP_ct rfl (SWP_seq (SWP_region ?_))))
  refine pI rfl rfl ?_
  refine pI rfl rfl ?_
  refine SL_nil (nx (SWP_ret (nr ?_)))
  refine fin [_, _] ⟨rfl, rfl, trivial⟩ ?_
  first | (rw [if_pos hdec, if_pos hdec]; rfl) | (rw [show decB l = false by assumption]; rfl)
set_option maxRecDepth 100000 in
theorem sizeR1 {m : Mem} (n : Nat) (h : n ≤ 9223372036854775807) : PureCall Tryz.prog 96 [.int .i64 (n : Nat)] m (.int .u64 (n : Nat)) := by
  refine CallsS.pure ?_
  refine enter Tryz.func96 Tryz.ntmps96 rfl rfl ?_
  refine SWP_seq (SWP_region ?_)
  refine pI rfl rfl ?_
  refine SL_nil (nx (SWP_seq (SWP_seq (SWP_region ?_))))
  first | refine pI rfl rfl ?_ | refine pu rfl rfl ?_
  refine pn rfl rfl (by omega) ?_
  refine SL_nil (nx (SWP_cf rfl (SWP_skip (nx (SWP_seq (SWP_region ?_))))))
  first | refine pI rfl rfl ?_ | refine pu rfl rfl ?_
  refine pw rfl rfl (by rw [wrapU]; omega) ?_
  first | refine pI rfl rfl ?_ | refine pu rfl rfl ?_
  refine SL_nil (nx (SWP_ret ?_))
  refine fin [_] ⟨rfl, trivial⟩ ?_
  rfl
end Go.Proofs.YtifjhpaoejageaaGreatDoor
namespace Go.Proofs.YtifjhpaoejageaaGreatDoor
open Eng
theorem bA_app (a b : List UInt8) : bA a ++ bA b = bA (a ++ b) := by
  apply ByteArray.ext
  simp [bA]
abbrev scC (l : List UInt8) (p : Nat) (w : Wd) (n : Nat) (e : Bool) : List Value := [.string (bA l), .int .i64 (p : Nat), .string (bA w), .int .i64 (n : Nat), .bool e]
abbrev scE (l : List UInt8) (R : List Wd) : List Value := scC l (posR l R) (R.headD []) (posR l R + (R.headD []).length) R.isEmpty
theorem idxByte {m : Mem} (w : Wd) (R : List Wd) (h : (32 : UInt8) ∉ w) : PureCall Tryz.prog 41 [.string (bA (joinW (w :: R))), .int .u8 32] m (.int .i64 (if R = [] then -1 else (w.length : Int))) := pureOf fun W => by
  have h1 := Tryz.strings_IndexByte (bA (joinW (w :: R))) 32 W
  rw [show Lib.indexByte (bA (joinW (w :: R))).data.toList (32 : Int).toNat.toUInt8 = if R = [] then -1 else (w.length : Int) from index_word w R h] at h1
  exact h1
def isW (x : Wd) (R : List Wd) : Bool := match R with
  | [] => false
  | w :: _ => decide (w = x)
def numV (R : List Wd) : Option Int := match R with
  | [] => none
  | w :: _ => numW w
set_option maxRecDepth 100000 in
theorem fmtR {m : Mem} (n : Nat) (h : n < 100) : PureCall Tryz.prog 62 [.int .i64 (n : Nat)] m (.string (bA (Lib.decDigits n))) := by
  refine CallsS.pure ?_
  refine enter Tryz.func62 Tryz.ntmps62 rfl rfl ?_
  refine SWP_seq (SWP_region ?_)
  refine pS rfl rfl ?_
  refine SL_nil (nx (SWP_seq (SWP_region ?_)))
  first | refine pI rfl rfl ?_ | refine pu rfl rfl ?_
  refine SL_pcall rfl rfl cb96 (sizeR1 n (by omega)) rfl ?_
  first | refine pI rfl rfl ?_ | refine pu rfl rfl ?_
  refine SL_nil (nx (SWP_seq (SWP_region ?_)))
  first | refine pI rfl rfl ?_ | refine pu rfl rfl ?_
  refine prm rfl rfl (by omega) (show ((n : Nat) : Int).tmod 10 = (((n % 10 : Nat)) : Int) by rw [Int.tmod_eq_emod_of_nonneg (by omega)]; omega) rfl ?_
  refine pw rfl rfl (by rw [wrapU]; omega) ?_
  refine pu (v := .int .u8 (IntKind.u8.wrap (48 + ((n % 10 : Nat) : Int)))) rfl rfl ?_
  rw [show IntKind.u8.wrap (48 + ((n % 10 : Nat) : Int)) = (((UInt8.ofNat (48 + n % 10)).toNat : Nat) : Int) by rw [wrapB, UInt8.toNat_ofNat']; omega]
  refine bs rfl rfl rfl rfl rfl (fun B12 => ?_)
  refine c2s (l := [UInt8.ofNat (48 + n % 10)]) rfl rfl rfl rfl rfl (Rd.of_cells (.head _)) rfl ?_
  refine SL_weak (List.nil_sublist _) ?_
  first | refine pS rfl rfl ?_ | refine pu rfl rfl ?_
  refine SL_nil (nx (SWP_seq (SWP_seq (SWP_region ?_))))
  refine pI rfl rfl ?_
  refine SL_nil (nx (SWP_block ?_))
  refine SWP_loop [3, 4, 5, 14, 15, 16, 17, 18, 19, 20, 21, 22, 23, 24, 25, 26, 27, 28, 29, 30, 31] [3, 4, 5]
      (fun vs σ' m' => ∃ (i S : Nat) (s : Wd), vs = [.int .u64 (S : Nat), .string (bA s), .int .i64 (i : Nat)] ∧ ((i = 0 ∧ S = n ∧ s = [UInt8.ofNat (48 + n % 10)]) ∨ (i = 1 ∧ 10 ≤ n ∧ S = n / 10 ∧ s = Lib.decDigits n)) ∧ σ' = [] ∧ m = m')
      (fun vs => 2 - nOf (vs.getD 2 undef)) rfl ?_ ?_
  · exact ⟨0, n, _, rfl, .inl ⟨rfl, rfl, rfl⟩, rfl, rfl⟩
  intro u0 vs0 σ0 m0 hJ0 _
  obtain ⟨i, S, s, rfl, hs, rfl, rfl⟩ := hJ0
  refine SWP_seq (SWP_seq (SWP_region ?_))
  first | refine pI rfl rfl ?_ | refine pu rfl rfl ?_
  refine pt rfl rfl (by omega) ?_
  refine pB rfl rfl ?_
  refine SL_yes rfl ?_
  first | refine pI rfl rfl ?_ | refine pu rfl rfl ?_
  refine SL_yes rfl ?_
  refine pc rfl rfl (fun c18 => ?_) (fun c18 => ?_)
  · skip
    refine pB rfl rfl ?_
    refine SL_nil (nx (SWP_ct rfl (SWP_skip (nx (SWP_seq (SWP_block (SWP_seq ?_)))))))
    have hs0 : i = 0 ∧ S = n ∧ s = [UInt8.ofNat (48 + n % 10)] := by
      rcases hs with h1 | ⟨h1, h2, h3, h4⟩
      · exact h1
      · omega
    obtain ⟨rfl, rfl, rfl⟩ := hs0
    refine SWP_region ?_
    first | refine pI rfl rfl ?_ | refine pu rfl rfl ?_
    refine pqu rfl rfl (by omega) (show IntKind.u64.wrap (((S : Nat) : Int).tdiv 10) = ((S / 10 : Nat) : Int) by rw [Int.tdiv_eq_ediv_of_nonneg (by omega), wrapU]; omega) rfl ?_
    first | refine pI rfl rfl ?_ | refine pu rfl rfl ?_
    refine SL_nil (nx (SWP_region ?_))
    first | refine pI rfl rfl ?_ | refine pu rfl rfl ?_
    refine prm rfl rfl (by omega) (show (((S / 10) : Nat) : Int).tmod 10 = ((((S / 10) % 10 : Nat)) : Int) by rw [Int.tmod_eq_emod_of_nonneg (by omega)]; omega) rfl ?_
    refine pw rfl rfl (by rw [wrapU]; omega) ?_
    refine pu (v := .int .u8 (IntKind.u8.wrap (48 + (((S / 10) % 10 : Nat) : Int)))) rfl rfl ?_
    rw [show IntKind.u8.wrap (48 + (((S / 10) % 10 : Nat) : Int)) = (((UInt8.ofNat (48 + (S / 10) % 10)).toNat : Nat) : Int) by rw [wrapB, UInt8.toNat_ofNat']; omega]
    refine bs rfl rfl rfl rfl rfl (fun B28 => ?_)
    refine c2s (l := [UInt8.ofNat (48 + (S / 10) % 10)]) rfl rfl rfl rfl rfl (Rd.of_cells (.head _)) rfl ?_
    refine SL_weak (List.nil_sublist _) ?_
    first | refine pS rfl rfl ?_ | refine pu rfl rfl ?_
    refine sadd (a := bA [UInt8.ofNat (48 + S / 10 % 10)]) (b := bA [UInt8.ofNat (48 + S % 10)]) rfl rfl (by rw [bA_size, bA_size]; simp) rfl ?_
    rw [bA_app]
    first | refine pS rfl rfl ?_ | refine pu rfl rfl ?_
    refine SL_nil (nb (nx (SWP_region ?_)))
    first | refine pI rfl rfl ?_ | refine pu rfl rfl ?_
    first | refine pw rfl rfl (w64 (by omega) (by omega)) ?_ | refine pu rfl rfl ?_
    refine pI rfl rfl ?_
    refine SL_nil (nx ?_)
    refine ⟨by repeat (first | exact Under.upds rfl (Under.hav _ _ _) | exact Under.hav _ _ _ | refine Under.upd rfl ?_), ?_, ?_⟩
    · refine ⟨1, S / 10, Lib.decDigits S, ?_, .inr ⟨rfl, by omega, rfl, rfl⟩, rfl, rfl⟩
      have e : Lib.decDigits S = [UInt8.ofNat (48 + S / 10 % 10)] ++ [UInt8.ofNat (48 + S % 10)] := by rw [decDigits_2 (by omega) (by omega), show S / 10 % 10 = S / 10 by omega]; rfl
      rw [e]
      rfl
    · simp only [L_vals, List.map, List.getD]; show 2 - (0 + 1) < 2 - 0; omega
  refine pB rfl rfl ?_
  refine SL_nil (nx (SWP_cf rfl (SWP_exit (ne (ne (be rfl (nx (SWP_seq (SWP_seq (SWP_region ?_))))))))))
  first | refine pI rfl rfl ?_ | refine pu rfl rfl ?_
  refine pn rfl rfl (by omega) ?_
  refine SL_nil (nx (SWP_cf rfl (SWP_skip (nx (SWP_seq (SWP_region ?_))))))
  first | refine pS rfl rfl ?_ | refine pu rfl rfl ?_
  first | refine pS rfl rfl ?_ | refine pu rfl rfl ?_
  refine SL_nil (nx (SWP_ret ?_))
  refine fin [_] ⟨rfl, trivial⟩ ?_
  rcases hs with ⟨h1, h2, h3⟩ | ⟨h1, h2, h3, h4⟩
  · subst h2; subst h3
    rw [decDigits_1 (by omega), show S % 10 = S by omega]
    rfl
  · rw [h4]; rfl
set_option maxRecDepth 100000 in
theorem loadI {m : Mem} {l : List UInt8} {w : Wd} {R : List Wd} (hs : Suf l (w :: R)) (hl : l.length ≤ 1000000) (B : Nat) (a : Int) (b : ByteArray) (c : Int) (e : Bool) : CallsS Tryz.prog 20 [.pointer (some ⟨B, 0, none⟩), .int .i64 (posR l (w :: R) : Nat)].toArray [(B, Cells 55 ([.string (bA l), .int .i64 a, .string b, .int .i64 c, .bool e]))] m fun r σ' m' => σ' = [(B, Cells 55 (scC l (posR l (w :: R)) w (posR l (w :: R) + w.length) e))] ∧ m' = m := by
  have hle := posR_le hs
  have hsz := bA_size l
  generalize hp : posR l (w :: R) = p at *
  refine enter Tryz.func20 Tryz.ntmps20 rfl rfl ?_
  refine SWP_seq (SWP_region ?_)
  first | refine pP rfl rfl ?_ | refine pu rfl rfl ?_
  first | refine pI rfl rfl ?_ | refine pu rfl rfl ?_
  refine pu rfl rfl ?_
  refine pu rfl rfl ?_
  refine sw (v := .int .i64 _) B 1 rfl rfl rfl rfl rfl rfl rfl ?_
  refine SL_nil (nx (SWP_seq (SWP_region ?_)))
  first | refine pP rfl rfl ?_ | refine pu rfl rfl ?_
  refine pu rfl rfl ?_
  refine pu rfl rfl ?_
  refine lw (v := .string _) B 0 rfl rfl rfl rfl ?_
  first | refine pI rfl rfl ?_ | refine pu rfl rfl ?_
  refine ssl rfl rfl rfl (by omega) (by omega) rfl ?_
  rw [show (bA l).extract ((p : Nat) : Int).toNat (bA l).size = bA (joinW (w :: R)) by rw [bA_ext, Int.toNat_natCast, bA_size, ← hs.drop, hp, List.take_of_length_le (by rw [List.length_drop]; exact Nat.le_refl _)]]
  refine SL_pcall rfl rfl cb41 (idxByte w R (hs.ns w (List.mem_cons_self ..))) rfl ?_
  first | refine pI rfl rfl ?_ | refine pu rfl rfl ?_
  refine SL_nil (nx ?_)
  refine SWP_merge1 [4, 16, 17, 18, 19, 20, 21, 22, 23, 24] [4]
      (fun vs σ' m' => vs = [.int .i64 (w.length : Nat)] ∧ σ' = [(B, Cells 55 ([.string (bA l), .int .i64 (p : Nat), .string b, .int .i64 c, .bool e]))] ∧ m = m')
      rfl ?_ ?_
  · skip
    refine SWP_seq (SWP_region ?_)
    first | refine pI rfl rfl ?_ | refine pu rfl rfl ?_
    refine pc rfl rfl (fun c17 => ?_) (fun c17 => ?_)
    · skip
      refine SL_nil (nx (SWP_ct rfl (SWP_region ?_)))
      first | refine pP rfl rfl ?_ | refine pu rfl rfl ?_
      refine pu rfl rfl ?_
      refine pu rfl rfl ?_
      refine lw (v := .string _) B 0 rfl rfl rfl rfl ?_
      refine pu rfl rfl ?_
      first | refine pI rfl rfl ?_ | refine pu rfl rfl ?_
      have hR : R = [] := Classical.byContradiction fun h => by rw [if_neg h] at c17; omega
      have hle2 := hle.2.2 hR
      refine pw rfl rfl (w64 (by omega) (by omega)) ?_
      rw [show (((bA l).size : Nat) : Int) - (p : Nat) = (w.length : Nat) by omega]
      first | refine pI rfl rfl ?_ | refine pu rfl rfl ?_
      refine SL_nil (nx ?_)
      refine ⟨by repeat (first | with_reducible exact Under.refl _ _ | exact Under.upds rfl (Under.hav _ _ _) | exact Under.hav _ _ _ | refine Under.upd rfl ?_ | refine Under.upds rfl ?_ | refine Under.hav2 rfl ?_), ?_⟩
      refine ⟨?_, rfl, rfl⟩
      first
        | rfl
        | exact congrArg (fun z => [Value.int .i64 z]) (if_neg (fun h => by rw [if_pos h] at c17; omega))
    refine SL_nil (nx (SWP_cf rfl (SWP_skip (nx ?_))))
    refine ⟨by repeat (first | with_reducible exact Under.refl _ _ | exact Under.upds rfl (Under.hav _ _ _) | exact Under.hav _ _ _ | refine Under.upd rfl ?_ | refine Under.upds rfl ?_ | refine Under.hav2 rfl ?_), ?_⟩
    refine ⟨?_, rfl, rfl⟩
    first
      | rfl
      | exact congrArg (fun z => [Value.int .i64 z]) (if_neg (fun h => by rw [if_pos h] at c17; omega))
  intro uM0 vM0 σM0 mM0 hM0 _
  obtain ⟨rfl, rfl, rfl⟩ := hM0
  refine SWP_seq (SWP_region ?_)
  first | refine pP rfl rfl ?_ | refine pu rfl rfl ?_
  first | refine pI rfl rfl ?_ | refine pu rfl rfl ?_
  first | refine pI rfl rfl ?_ | refine pu rfl rfl ?_
  refine pw rfl rfl (w64 (by omega) (by omega)) ?_
  rw [show ((p : Nat) : Int) + (w.length : Nat) = ((p + w.length : Nat) : Int) by omega]
  refine pu rfl rfl ?_
  refine pu rfl rfl ?_
  refine sw (v := .int .i64 _) B 3 rfl rfl rfl rfl rfl rfl rfl ?_
  refine SL_nil (nx ?_)
  refine SWP_tail 13 (by kernel_rfl) (by kernel_rfl) ?_
  first | refine pP rfl rfl ?_ | refine pu rfl rfl ?_
  first | refine pP rfl rfl ?_ | refine pu rfl rfl ?_
  refine pu rfl rfl ?_
  refine pu rfl rfl ?_
  refine lw (v := .string _) B 0 rfl rfl rfl rfl ?_
  first | refine pI rfl rfl ?_ | refine pu rfl rfl ?_
  first | refine pP rfl rfl ?_ | refine pu rfl rfl ?_
  refine pu rfl rfl ?_
  refine pu rfl rfl ?_
  refine lw (v := .int .i64 _) B 3 rfl rfl rfl rfl ?_
  refine sst rfl rfl rfl rfl (by omega) (by omega) (by omega) rfl ?_
  rw [show (bA l).extract ((p : Nat) : Int).toNat (((p + w.length : Nat) : Nat) : Int).toNat = bA w by rw [bA_ext, Int.toNat_natCast, Int.toNat_natCast, Nat.add_sub_cancel_left, ← hp, hs.drop, take_word]]
  refine pu rfl rfl ?_
  refine pu rfl rfl ?_
  refine SL_nil ?_
  refine sw (v := .string _) B 2 rfl rfl rfl rfl rfl rfl rfl ?_
  refine SL_nil ?_
  refine finn [] trivial ?_
  exact ⟨rfl, rfl⟩
set_option maxRecDepth 100000 in
theorem advI {m : Mem} {l : List UInt8} {w : Wd} {R : List Wd} (hs : Suf l (w :: R)) (hl : l.length ≤ 1000000) (B : Nat) : CallsS Tryz.prog 45 [.pointer (some ⟨B, 0, none⟩)].toArray [(B, Cells 55 (scE l (w :: R)))] m fun r σ' m' => σ' = [(B, Cells 55 (scE l (R)))] ∧ m' = m := by
  have hle := posR_le hs
  have hsz := bA_size l
  have hnx := fun h => posR_next hs h
  have hposL : posR l [] = l.length := Nat.sub_zero _
  refine enter Tryz.func45 Tryz.ntmps45 rfl rfl ?_
  refine SWP_seq (SWP_seq ?_)
  refine SWP_draws (by kernel_rfl) (by kernel_rfl) ?_
  first | refine pP rfl rfl ?_ | refine pu rfl rfl ?_
  refine pu rfl rfl ?_
  refine pu rfl rfl ?_
  refine lw (v := .int .i64 _) B 3 rfl rfl rfl rfl ?_
  first | refine pP rfl rfl ?_ | refine pu rfl rfl ?_
  refine pu rfl rfl ?_
  refine pu rfl rfl ?_
  refine lw (v := .string _) B 0 rfl rfl rfl rfl ?_
  refine pu rfl rfl ?_
  refine pc rfl rfl (fun c11 => ?_) (fun c11 => ?_)
  · skip
    refine SL_nil (nx (SWP_ct rfl (SWP_seq (SWP_region ?_))))
    first | refine pP rfl rfl ?_ | refine pu rfl rfl ?_
    first | refine pP rfl rfl ?_ | refine pu rfl rfl ?_
    first | refine pP rfl rfl ?_ | refine pu rfl rfl ?_
    first | refine pP rfl rfl ?_ | refine pu rfl rfl ?_
    refine pu rfl rfl ?_
    refine pu rfl rfl ?_
    refine lw (v := .string _) B 0 rfl rfl rfl rfl ?_
    refine pu rfl rfl ?_
    refine pu rfl rfl ?_
    refine pu rfl rfl ?_
    refine sw (v := .int .i64 _) B 1 rfl rfl rfl rfl rfl rfl rfl ?_
    refine pu rfl rfl ?_
    refine pu rfl rfl ?_
    refine sw (v := .string _) B 2 rfl rfl rfl rfl rfl rfl rfl ?_
    refine pu rfl rfl ?_
    refine pu rfl rfl ?_
    refine sw (v := .bool _) B 4 rfl rfl rfl rfl rfl rfl rfl ?_
    refine SL_nil (nx (SWP_ret (nr ?_)))
    refine fin [] trivial ?_
    have hR : R = [] := hle.2.1 (by have := c11; have e : (w :: R).headD [] = w := rfl; rw [e] at this; exact (Int.ofNat.inj this).trans hsz)
    subst hR
    have h2 := hle.2.2 rfl
    refine ⟨?_, rfl⟩
    show [(B, Cells 55 (scC l (bA l).size [] (posR l [w] + w.length) true))] = [(B, Cells 55 (scC l (posR l []) [] (posR l [] + 0) true))]
    rw [hsz, h2, hposL, Nat.add_zero]
  refine SL_nil (nx (SWP_cf rfl (SWP_skip (nx ?_))))
  have hR : ¬ R = [] := fun h => by
    have e : (w :: R).headD [] = w := rfl
    rw [e] at c11
    have := hle.2.2 h
    omega
  obtain ⟨v, R2, rfl⟩ : ∃ v R2, R = v :: R2 := by
    cases R with
    | nil => exact absurd rfl hR
    | cons v R2 => exact ⟨v, R2, rfl⟩
  have hs2 : Suf l (v :: R2) := hs.next
  have hnx2 := hnx (by simp)
  refine SWP_region ?_
  first | refine pP rfl rfl ?_ | refine pu rfl rfl ?_
  first | refine pP rfl rfl ?_ | refine pu rfl rfl ?_
  refine pu rfl rfl ?_
  refine pu rfl rfl ?_
  refine lw (v := .int .i64 _) B 3 rfl rfl rfl rfl ?_
  refine pw rfl rfl (w64 (by simp only [List.headD_cons]; omega) (by simp only [List.headD_cons]; omega)) ?_
  rw [show (((posR l (w :: v :: R2) + ((w :: v :: R2).headD []).length : Nat)) : Int) + 1 = ((posR l (v :: R2) : Nat) : Int) by simp only [List.headD_cons]; omega]
  refine SL_call rfl rfl cb20 (loadI hs2 hl B _ _ _ _) rfl (fun v2_6 σ2_6 m2_6 hl2_6 hR2_6 => ?_)
  obtain ⟨rfl, hm2_6⟩ := hR2_6
  have hn2_6 := hm2_6.symm
  subst hn2_6
  refine SL_nil ?_
  refine finn [] trivial ?_
  exact ⟨rfl, rfl⟩
set_option maxRecDepth 100000 in
theorem isI {m : Mem} {l : List UInt8} {R : List Wd} (B : Nat) (x : Wd) : CallsS Tryz.prog 44 [.pointer (some ⟨B, 0, none⟩), .string (bA x)].toArray [(B, Cells 55 (scE l (R)))] m fun r σ' m' => r = .bool (isW x R) ∧ σ' = [(B, Cells 55 (scE l (R)))] ∧ m' = m := by
  refine enter Tryz.func44 Tryz.ntmps44 rfl rfl ?_
  refine SWP_seq (SWP_region ?_)
  refine pB rfl rfl ?_
  refine SL_nil (nx (SWP_seq (SWP_region ?_)))
  first | refine pP rfl rfl ?_ | refine pu rfl rfl ?_
  refine pu rfl rfl ?_
  refine pu rfl rfl ?_
  refine lw (v := .bool _) B 4 rfl rfl rfl rfl ?_
  refine bsp 8 rfl (fun b8 => ?_) (fun b8 => ?_)
  · skip
    refine pB rfl rfl ?_
    refine pB rfl rfl ?_
    refine SL_no rfl rfl ?_
    refine SL_no rfl rfl ?_
    refine SL_no rfl rfl ?_
    refine SL_no rfl rfl ?_
    refine SL_no rfl rfl ?_
    refine SL_no rfl rfl ?_
    refine pB rfl rfl ?_
    refine pB rfl rfl ?_
    refine SL_nil (nx (SWP_ret ?_))
    refine fin [_] ⟨rfl, trivial⟩ ?_
    cases R with
    | nil => first | contradiction | exact ⟨rfl, rfl, rfl⟩
    | cons w R => first | contradiction | exact ⟨congrArg Value.bool (decide_eq_decide.2 bA_inj), rfl, rfl⟩ | (refine ⟨congrArg Value.bool ?_, rfl, rfl⟩; first | exact (decide_eq_true (bA_inj.1 (by assumption))).symm | exact (decide_eq_false (fun h => absurd (bA_inj.2 h) (by assumption))).symm)
  refine pB rfl rfl ?_
  refine pB rfl rfl ?_
  refine SL_yes rfl ?_
  first | refine pP rfl rfl ?_ | refine pu rfl rfl ?_
  refine SL_yes rfl ?_
  refine pu rfl rfl ?_
  refine SL_yes rfl ?_
  refine pu rfl rfl ?_
  refine SL_yes rfl ?_
  refine lw (v := .string _) B 2 rfl rfl rfl rfl ?_
  refine SL_yes rfl ?_
  first | refine pS rfl rfl ?_ | refine pu rfl rfl ?_
  refine SL_yes rfl ?_
  refine pu rfl rfl ?_
  refine pB rfl rfl ?_
  refine pB rfl rfl ?_
  refine SL_nil (nx (SWP_ret ?_))
  refine fin [_] ⟨rfl, trivial⟩ ?_
  cases R with
  | nil => first | contradiction | exact ⟨rfl, rfl, rfl⟩
  | cons w R => first | contradiction | exact ⟨congrArg Value.bool (decide_eq_decide.2 bA_inj), rfl, rfl⟩ | (refine ⟨congrArg Value.bool ?_, rfl, rfl⟩; first | exact (decide_eq_true (bA_inj.1 (by assumption))).symm | exact (decide_eq_false (fun h => absurd (bA_inj.2 h) (by assumption))).symm)
end Go.Proofs.YtifjhpaoejageaaGreatDoor
namespace Go.Proofs.YtifjhpaoejageaaGreatDoor
open Eng
theorem numW_some {w : Wd} (h1 : 1 ≤ w.length) (h9 : w.length ≤ 9) : numW w = if decB w = true then some ((valB w : Nat) : Int) else none := by
  unfold numW
  by_cases h : decB w = true
  · rw [if_pos ⟨h9, h⟩, if_pos h]
  · rw [if_neg (fun hh => h hh.2), if_neg h]
theorem numW_nil : numW [] = none := rfl
theorem numW_long {w : Wd} (h : 9 < w.length) : numW w = none := if_neg (fun hh => by omega)
theorem numW_minus {w : Wd} (h : w[0]? = some 45) : numW w = none := if_neg (fun hh => by
  have := List.all_eq_true.1 (decB_all hh.2) 45 (List.mem_of_getElem? h)
  exact absurd this (by decide))
set_option maxRecDepth 100000 in
theorem numb0 {m : Mem} {l : List UInt8} (B : Nat) : CallsS Tryz.prog 78 [.pointer (some ⟨B, 0, none⟩)].toArray [(B, Cells 55 (scE l ([])))] m fun r σ' m' => r = .tuple #[.int .i64 ((numV ([])).getD 0), .bool (numV ([])).isSome] ∧ σ' = [(B, Cells 55 (scE l ([])))] ∧ m' = m := by
  refine enter Tryz.func78 Tryz.ntmps78 rfl rfl ?_
  refine SWP_seq (SWP_region ?_)
  refine pI rfl rfl ?_
  refine pB rfl rfl ?_
  refine SL_nil (nx (SWP_seq (SWP_seq (SWP_region ?_))))
  first | refine pP rfl rfl ?_ | refine pu rfl rfl ?_
  refine pu rfl rfl ?_
  refine pu rfl rfl ?_
  refine lw (v := .bool true) B 4 rfl rfl rfl rfl ?_
  first | refine pB rfl rfl ?_ | refine pu rfl rfl ?_
  refine SL_no rfl rfl ?_
  refine SL_no rfl rfl ?_
  refine SL_no rfl rfl ?_
  refine SL_no rfl rfl ?_
  refine SL_no rfl rfl ?_
  refine pB rfl rfl ?_
  refine pB rfl rfl ?_
  refine SL_no rfl rfl ?_
  refine SL_no rfl rfl ?_
  refine SL_no rfl rfl ?_
  refine SL_no rfl rfl ?_
  refine SL_no rfl rfl ?_
  refine SL_no rfl rfl ?_
  refine pB rfl rfl ?_
  refine pB rfl rfl ?_
  refine SL_no rfl rfl ?_
  refine SL_no rfl rfl ?_
  refine SL_no rfl rfl ?_
  refine SL_no rfl rfl ?_
  refine SL_no rfl rfl ?_
  refine SL_no rfl rfl ?_
  refine pB rfl rfl ?_
  refine SL_nil (nx (SWP_ct rfl (SWP_seq (SWP_region ?_))))
  refine pI rfl rfl ?_
  refine pB rfl rfl ?_
  refine SL_nil (nx (SWP_ret (nr ?_)))
  refine fin [_, _] ⟨rfl, rfl, trivial⟩ ?_
  exact ⟨rfl, rfl, rfl⟩
set_option maxRecDepth 100000 in
theorem numb1 {m : Mem} {l : List UInt8} {w : Wd} {R : List Wd} (B : Nat) (hw : w.length ≤ 1000000) : CallsS Tryz.prog 78 [.pointer (some ⟨B, 0, none⟩)].toArray [(B, Cells 55 (scE l (w :: R)))] m fun r σ' m' => r = .tuple #[.int .i64 ((numV (w :: R)).getD 0), .bool (numV (w :: R)).isSome] ∧ σ' = [(B, Cells 55 (scE l (w :: R)))] ∧ m' = m := by
  have hsz := bA_size w
  refine enter Tryz.func78 Tryz.ntmps78 rfl rfl ?_
  refine SWP_seq (SWP_region ?_)
  refine pI rfl rfl ?_
  refine pB rfl rfl ?_
  refine SL_nil (nx (SWP_seq (SWP_seq (SWP_region ?_))))
  first | refine pP rfl rfl ?_ | refine pu rfl rfl ?_
  refine pu rfl rfl ?_
  refine pu rfl rfl ?_
  refine lw (v := .bool false) B 4 rfl rfl rfl rfl ?_
  first | refine pB rfl rfl ?_ | refine pu rfl rfl ?_
  refine SL_yes rfl ?_
  first | refine pP rfl rfl ?_ | refine pu rfl rfl ?_
  refine SL_yes rfl ?_
  refine pu rfl rfl ?_
  refine SL_yes rfl ?_
  refine pu rfl rfl ?_
  refine SL_yes rfl ?_
  refine lw (v := .string (bA w)) B 2 rfl rfl rfl rfl ?_
  refine SL_yes rfl ?_
  refine pc rfl rfl (fun c15 => ?_) (fun c15 => ?_)
  · skip
    refine pB rfl rfl ?_
    refine pB rfl rfl ?_
    refine SL_no rfl rfl ?_
    refine SL_no rfl rfl ?_
    refine SL_no rfl rfl ?_
    refine SL_no rfl rfl ?_
    refine SL_no rfl rfl ?_
    refine SL_no rfl rfl ?_
    refine pB rfl rfl ?_
    refine pB rfl rfl ?_
    refine SL_no rfl rfl ?_
    refine SL_no rfl rfl ?_
    refine SL_no rfl rfl ?_
    refine SL_no rfl rfl ?_
    refine SL_no rfl rfl ?_
    refine SL_no rfl rfl ?_
    refine pB rfl rfl ?_
    refine SL_nil (nx (SWP_ct rfl (SWP_seq (SWP_region ?_))))
    refine pI rfl rfl ?_
    refine pB rfl rfl ?_
    refine SL_nil (nx (SWP_ret (nr ?_)))
    refine fin [_, _] ⟨rfl, rfl, trivial⟩ ?_
    refine ⟨?_, rfl, rfl⟩
    first
      | (have e : numW w = none := by
           first
             | exact numW_long (by omega)
             | exact numW_minus (by rw [hb0]; exact congrArg some ((byte_eq (n := 45) (by decide)).1 (by assumption)))
             | (rw [bA_inj.1 (show bA w = bA [] by assumption)]; exact numW_nil)
         show _ = Value.tuple #[.int .i64 ((numW w).getD 0), .bool (numW w).isSome]
         rw [e]
         rfl)
      | (show _ = Value.tuple #[.int .i64 ((numW w).getD 0), .bool (numW w).isSome]
         rw [numW_some h1 (by omega)]
         by_cases hd : decB w = true
         · simp only [if_pos hd]; rfl
         · simp only [if_neg hd]; rfl)
  refine pB rfl rfl ?_
  refine pB rfl rfl ?_
  refine SL_yes rfl ?_
  first | refine pP rfl rfl ?_ | refine pu rfl rfl ?_
  refine SL_yes rfl ?_
  refine pu rfl rfl ?_
  refine SL_yes rfl ?_
  refine pu rfl rfl ?_
  refine SL_yes rfl ?_
  refine lw (v := .string (bA w)) B 2 rfl rfl rfl rfl ?_
  refine SL_yes rfl ?_
  refine pu rfl rfl ?_
  refine SL_yes rfl ?_
  refine pc rfl rfl (fun c23 => ?_) (fun c23 => ?_)
  · skip
    refine pB rfl rfl ?_
    refine pB rfl rfl ?_
    refine SL_no rfl rfl ?_
    refine SL_no rfl rfl ?_
    refine SL_no rfl rfl ?_
    refine SL_no rfl rfl ?_
    refine SL_no rfl rfl ?_
    refine SL_no rfl rfl ?_
    refine pB rfl rfl ?_
    refine SL_nil (nx (SWP_ct rfl (SWP_seq (SWP_region ?_))))
    refine pI rfl rfl ?_
    refine pB rfl rfl ?_
    refine SL_nil (nx (SWP_ret (nr ?_)))
    refine fin [_, _] ⟨rfl, rfl, trivial⟩ ?_
    refine ⟨?_, rfl, rfl⟩
    first
      | (have e : numW w = none := by
           first
             | exact numW_long (by omega)
             | exact numW_minus (by rw [hb0]; exact congrArg some ((byte_eq (n := 45) (by decide)).1 (by assumption)))
             | (rw [bA_inj.1 (show bA w = bA [] by assumption)]; exact numW_nil)
         show _ = Value.tuple #[.int .i64 ((numW w).getD 0), .bool (numW w).isSome]
         rw [e]
         rfl)
      | (show _ = Value.tuple #[.int .i64 ((numW w).getD 0), .bool (numW w).isSome]
         rw [numW_some h1 (by omega)]
         by_cases hd : decB w = true
         · simp only [if_pos hd]; rfl
         · simp only [if_neg hd]; rfl)
  refine pB rfl rfl ?_
  refine pB rfl rfl ?_
  refine SL_yes rfl ?_
  first | refine pP rfl rfl ?_ | refine pu rfl rfl ?_
  refine SL_yes rfl ?_
  refine pu rfl rfl ?_
  refine SL_yes rfl ?_
  refine pu rfl rfl ?_
  refine SL_yes rfl ?_
  refine lw (v := .string (bA w)) B 2 rfl rfl rfl rfl ?_
  refine SL_yes rfl ?_
  have hne : w ≠ [] := fun h => absurd (bA_inj.2 h) (by assumption)
  have h1 : 1 ≤ w.length := List.length_pos_iff.2 hne
  obtain ⟨b0, hb0⟩ : ∃ b, w[0]? = some b := ⟨_, List.getElem?_eq_getElem (by omega)⟩
  refine ixs (k := 0) rfl rfl rfl hb0 rfl ?_
  refine SL_yes rfl ?_
  refine pc rfl rfl (fun c31 => ?_) (fun c31 => ?_)
  · skip
    refine pB rfl rfl ?_
    refine SL_nil (nx (SWP_ct rfl (SWP_seq (SWP_region ?_))))
    refine pI rfl rfl ?_
    refine pB rfl rfl ?_
    refine SL_nil (nx (SWP_ret (nr ?_)))
    refine fin [_, _] ⟨rfl, rfl, trivial⟩ ?_
    refine ⟨?_, rfl, rfl⟩
    first
      | (have e : numW w = none := by
           first
             | exact numW_long (by omega)
             | exact numW_minus (by rw [hb0]; exact congrArg some ((byte_eq (n := 45) (by decide)).1 (by assumption)))
             | (rw [bA_inj.1 (show bA w = bA [] by assumption)]; exact numW_nil)
         show _ = Value.tuple #[.int .i64 ((numW w).getD 0), .bool (numW w).isSome]
         rw [e]
         rfl)
      | (show _ = Value.tuple #[.int .i64 ((numW w).getD 0), .bool (numW w).isSome]
         rw [numW_some h1 (by omega)]
         by_cases hd : decB w = true
         · simp only [if_pos hd]; rfl
         · simp only [if_neg hd]; rfl)
  refine pB rfl rfl ?_
  refine SL_nil (nx (SWP_cf rfl (SWP_skip (nx (SWP_seq ?_)))))
  have h45 : w[0]? ≠ some 45 := fun h => absurd ((byte_eq (n := 45) (by decide)).2 (Option.some.inj (hb0.symm.trans h))) (by assumption)
  refine SWP_region ?_
  first | refine pP rfl rfl ?_ | refine pu rfl rfl ?_
  refine pu rfl rfl ?_
  refine pu rfl rfl ?_
  refine lw (v := .string (bA w)) B 2 rfl rfl rfl rfl ?_
  refine SL_pcall rfl rfl cb108 (parseI w h1 (by omega) h45) rfl ?_
  refine pu rfl rfl ?_
  first | refine pI rfl rfl ?_ | refine pu rfl rfl ?_
  first | refine pI rfl rfl ?_ | refine pu rfl rfl ?_
  first | refine pI rfl rfl ?_ | refine pu rfl rfl ?_
  first | refine pI rfl rfl ?_ | refine pu rfl rfl ?_
  refine SL_nil (nx (SWP_seq (SWP_region ?_)))
  first | refine pI rfl rfl ?_ | refine pu rfl rfl ?_
  first | refine pI rfl rfl ?_ | refine pu rfl rfl ?_
  refine pu rfl rfl ?_
  first | refine pI rfl rfl ?_ | refine pu rfl rfl ?_
  refine pB rfl rfl ?_
  refine SL_nil (nx (SWP_ret ?_))
  refine fin [_, _] ⟨rfl, rfl, trivial⟩ ?_
  refine ⟨?_, rfl, rfl⟩
  first
    | (have e : numW w = none := by
         first
           | exact numW_long (by omega)
           | exact numW_minus (by rw [hb0]; exact congrArg some ((byte_eq (n := 45) (by decide)).1 (by assumption)))
           | (rw [bA_inj.1 (show bA w = bA [] by assumption)]; exact numW_nil)
       show _ = Value.tuple #[.int .i64 ((numW w).getD 0), .bool (numW w).isSome]
       rw [e]
       rfl)
    | (show _ = Value.tuple #[.int .i64 ((numW w).getD 0), .bool (numW w).isSome]
       rw [numW_some h1 (by omega)]
       by_cases hd : decB w = true
       · simp only [if_pos hd]; rfl
       · simp only [if_neg hd]; rfl)
theorem numbI {m : Mem} {l : List UInt8} {R : List Wd} (B : Nat) (hR : ∀ w ∈ R, w.length ≤ 1000000) : CallsS Tryz.prog 78 [.pointer (some ⟨B, 0, none⟩)].toArray [(B, Cells 55 (scE l (R)))] m fun r σ' m' => r = .tuple #[.int .i64 ((numV (R)).getD 0), .bool (numV (R)).isSome] ∧ σ' = [(B, Cells 55 (scE l (R)))] ∧ m' = m := by
  cases R with
  | nil => exact numb0 B
  | cons w R => exact numb1 B (hR w (List.mem_cons_self ..))
def takeN : List Wd → List Int × List Wd
  | [] => ([], [])
  | w :: r => match numW w with
    | none => ([], w :: r)
    | some n => (n :: (takeN r).1, (takeN r).2)
theorem takeN_none {R : List Wd} (h : (numV R).isSome = false) : takeN R = ([], R) := by
  cases R with
  | nil => rfl
  | cons w R =>
    unfold takeN
    cases hw : numW w with
    | none => rfl
    | some n => exact absurd h (by show ¬ (numW w).isSome = false; rw [hw]; simp)
theorem takeN_some {R : List Wd} (h : (numV R).isSome = true) : ∃ w R', R = w :: R' ∧ takeN R = ((numV R).getD 0 :: (takeN R').1, (takeN R').2) := by
  cases R with
  | nil => cases h
  | cons w R =>
    refine ⟨w, R, rfl, ?_⟩
    show takeN (w :: R) = ((numW w).getD 0 :: _, _)
    have h' : (numW w).isSome = true := h
    rw [takeN]
    cases hw : numW w with
    | none => rw [hw] at h'; cases h'
    | some n => rfl
theorem takeN_len : ∀ R : List Wd, (takeN R).1.length + (takeN R).2.length = R.length
  | [] => rfl
  | w :: R => by
    unfold takeN
    cases hw : numW w with
    | none => simp
    | some n =>
      have := takeN_len R
      simp only [List.length_cons]
      omega
theorem Suf.takeN {l : List UInt8} : ∀ {R : List Wd}, Suf l R → Suf l (takeN R).2
  | [], h => h
  | w :: R, h => by
    unfold Go.Proofs.YtifjhpaoejageaaGreatDoor.takeN
    cases hw : numW w with
    | none => exact h
    | some n => exact Suf.takeN h.next
set_option maxRecDepth 100000 in
theorem numsS {m : Mem} {l : List UInt8} {R : List Wd} (hs : Suf l R) (hl : l.length ≤ 1000000) (hR : ∀ w ∈ R, w.length ≤ 1000000) (hRl : R.length ≤ 1000000) (B : Nat) : CallsS Tryz.prog 77 [.pointer (some ⟨B, 0, none⟩)].toArray [(B, Cells 55 (scE l (R)))] m fun r σ' m' => σ' = [(B, Cells 55 (scE l ((takeN R).2)))] ∧ ∃ a c, r = .tuple #[.slice a (takeN R).1.length c, .bool (decide ((takeN R).1 ≠ []))] ∧ RL m' intE 1 (.slice a (takeN R).1.length c) (takeN R).1 := by
  refine CallsS.ghost (R' := fun r σ' m' => ∃ σe, σ' = ((B, Cells 55 (scE l ((takeN R).2)))) :: σe ∧ ∃ a c, r = .tuple #[.slice a (takeN R).1.length c, .bool (decide ((takeN R).1 ≠ []))] ∧ RL m' intE 1 (.slice a (takeN R).1.length c) (takeN R).1) ?_ ?h2
  case h2 =>
    rintro r σ' m' ⟨σe, rfl, hr⟩ g0 W hC
    exact ⟨_, m', hC.sublist (List.Sublist.cons_cons _ (List.nil_sublist _)), Le.refl _, rfl, hr⟩
  refine enter Tryz.func77 Tryz.ntmps77 rfl rfl ?_
  refine SWP_seq (SWP_region ?_)
  refine pL rfl rfl ?_
  refine pB rfl rfl ?_
  refine SL_nil (nx (SWP_seq (SWP_region ?_)))
  refine pL rfl rfl ?_
  refine SL_nil (nx (SWP_block ?_))
  refine SWP_loop [2, 3, 4, 5, 6, 7, 8, 9, 10, 11, 12, 13, 14, 15, 16, 17, 18, 19, 20, 21, 22, 23] [4]
      (fun vs σ' m' => ∃ (a4 : Option Addr) (c4 : Nat) (T : List Int) (R2 : List Wd) (σe : Sig), vs = [.slice a4 T.length c4] ∧ takeN R = (T ++ (takeN R2).1, (takeN R2).2) ∧ T.length + R2.length = R.length ∧ Suf l R2 ∧ (∀ w ∈ R2, w.length ≤ 1000000) ∧ OwnS 3 1 (.slice a4 T.length c4) (T.flatMap intE) σe ∧ σ' = ((B, Cells 55 (scE l (R2)))) :: σe ∧ m = m')
      (fun vs => R.length - (match vs.getD 0 undef with | .slice _ n _ => n | _ => 0)) rfl ?_ ?_
  · exact ⟨none, 0, [], R, [], rfl, rfl, by simp, hs, hR, .nil, rfl, rfl⟩
  intro u0 vs0 σ0 m0 hJ0 _
  obtain ⟨a4, c4, T, R2, σe, rfl, htn, hlen, hs2, hR2, hown, rfl, rfl⟩ := hJ0
  refine SWP_block (SWP_seq (SWP_region ?_))
  first | refine pP rfl rfl ?_ | refine pu rfl rfl ?_
  refine SL_pcallS rfl rfl cb78 (CallsS.pureIn (numbI B hR2) ⟨σe, .refl _⟩) rfl ?_
  refine pu rfl rfl ?_
  first | refine pI rfl rfl ?_ | refine pu rfl rfl ?_
  first | refine pB rfl rfl ?_ | refine pu rfl rfl ?_
  refine bsp 11 rfl (fun b11 => ?_) (fun b11 => ?_)
  · skip
    first | refine pI rfl rfl ?_ | refine pu rfl rfl ?_
    first | refine pB rfl rfl ?_ | refine pu rfl rfl ?_
    refine SL_nil (nx (SWP_seq (SWP_seq (SWP_region ?_))))
    first | refine pB rfl rfl ?_ | refine pu rfl rfl ?_
    refine pB rfl rfl ?_
    refine SL_nil (nx (SWP_cf rfl (SWP_skip (nx (SWP_seq (SWP_region ?_))))))
    first | refine pL rfl rfl ?_ | refine pu rfl rfl ?_
    first | refine pI rfl rfl ?_ | refine pu rfl rfl ?_
    refine bs rfl rfl rfl rfl rfl (fun B20 => ?_)
    refine ap (e := 3) (size := 1) (bytes := 8) rfl rfl rfl rfl rfl rfl rfl hown (List.perm_append_comm (l₁ := [_, _]) (l₂ := σe)) rfl (Rd.of_cells (.head _)) rfl rfl (by rw [flatMap_len intE_len]; omega) rfl rfl (fun v21 σ21 hown21 => ?_)
    refine SL_weak (List.Sublist.append_left (List.sublist_cons_self _ _) _) ?_
    refine SL_perm (List.perm_append_comm (l₂ := [_])) ?_
    have hown5 : OwnS 3 1 v21 ((T ++ [(numV R2).getD 0]).flatMap intE) σ21 := by rw [List.flatMap_append]; exact hown21
    obtain ⟨a5, c5, e5⟩ := hown5.lenL (by omega) intE_len
    subst e5
    first | refine pL rfl rfl ?_ | refine pu rfl rfl ?_
    refine SL_nil (nx ?_)
    obtain ⟨w, R3, rfl, htk⟩ := takeN_some (R := R2) (by assumption)
    have hs3 := hs2
    refine SWP_region ?_
    first | refine pP rfl rfl ?_ | refine pu rfl rfl ?_
    refine SL_call rfl rfl cb45 (CallsS.subF _ (advI hs3 hl B) (.refl _)) rfl (fun v6_1 σ6_1 m6_1 hl6_1 hR6_1 => ?_)
    obtain ⟨σz, rfl, rfl, hm6_1⟩ := hR6_1
    have hn6_1 := hm6_1.symm
    subst hn6_1
    refine SL_nil (nb (nx ?_))
    refine ⟨by repeat (first | exact Under.upds rfl (Under.hav _ _ _) | exact Under.hav _ _ _ | refine Under.upd rfl ?_), ?_, ?_⟩
    · refine ⟨a5, c5, T ++ [(numV (w :: R3)).getD 0], R3, σ21, rfl, ?_, ?_, hs3.next, fun x hx => hR2 x (List.mem_cons_of_mem _ hx), ?_, rfl, rfl⟩
      · rw [htn, htk]; simp
      · rw [List.length_append]; simp only [List.length_cons, List.length_nil] at *; omega
      · exact hown5
    · simp only [L_vals, List.map, List.getD]; show R.length - (T ++ [(numV (w :: R3)).getD 0]).length < R.length - T.length; rw [List.length_append]; simp only [List.length_cons, List.length_nil] at *; omega
  first | refine pI rfl rfl ?_ | refine pu rfl rfl ?_
  first | refine pB rfl rfl ?_ | refine pu rfl rfl ?_
  refine SL_nil (nx (SWP_seq (SWP_seq (SWP_region ?_))))
  first | refine pB rfl rfl ?_ | refine pu rfl rfl ?_
  refine pB rfl rfl ?_
  refine SL_nil (nx (SWP_ct rfl (SWP_seq (SWP_region ?_))))
  refine SL_perm (List.perm_append_comm (l₁ := [_]) (l₂ := σe)) ?_
  refine SL_freezeL (by omega) intE_len hown (fun m9 hl9 hr9 => ?_)
  refine pu rfl rfl ?_
  first | refine pL rfl rfl ?_ | refine pu rfl rfl ?_
  refine pu rfl rfl ?_
  refine pu rfl rfl ?_
  first | refine pL rfl rfl ?_ | refine pu rfl rfl ?_
  refine pB rfl rfl ?_
  refine SL_nil (nx (SWP_ret (nr (br (nr (br ?_))))))
  refine fin [_, _] ⟨rfl, rfl, trivial⟩ ?_
  have htk := takeN_none (R := R2) (by assumption)
  rw [htk, List.append_nil] at htn
  rw [htn]
  refine ⟨[], rfl, a4, c4, ?_, hr9⟩
  show Value.tuple #[.slice a4 T.length c4, .bool (decide (0 < (T.length : Int)))] = _
  rw [show decide (0 < (T.length : Int)) = decide (T ≠ []) from decide_eq_decide.2 ⟨fun h e => by rw [e] at h; simp at h, fun h => by have := List.length_pos_iff.2 h; omega⟩]
end Go.Proofs.YtifjhpaoejageaaGreatDoor
namespace Go.Proofs.YtifjhpaoejageaaGreatDoor
open Eng
abbrev LnK := List Int × List Int
def Line.keyL (x : Line) : LnK := (x.main, x.bonus)
def lineM (R : List Wd) : Option LnK × List Wd :=
  if (takeN R).1 = [] then (none, (takeN R).2)
  else if isW [43] (takeN R).2 = true then
    (if (takeN (takeN R).2.tail).1 = [] then none else some ((takeN R).1, (takeN (takeN R).2.tail).1), (takeN (takeN R).2.tail).2)
  else (some ((takeN R).1, []), (takeN R).2)
def linesF : Nat → List Wd → List LnK → Option (List LnK) × List Wd
  | 0, R, _ => (none, R)
  | f + 1, R, acc => match (lineM R).1 with
    | none => (none, (lineM R).2)
    | some x => if isW [47] (lineM R).2 = true then linesF f (lineM R).2.tail (acc ++ [x]) else (some (acc ++ [x]), (lineM R).2)
def linesM (R : List Wd) : Option (List LnK) × List Wd := linesF (R.length + 1) R []
theorem Suf.tail {l : List UInt8} {R : List Wd} (h : Suf l R) : Suf l R.tail := by
  cases R with
  | nil => exact h
  | cons w R => exact h.next
theorem isW_cons {x : Wd} {R : List Wd} (h : isW x R = true) : R = x :: R.tail := by
  cases R with
  | nil => cases h
  | cons w R => rw [show w = x from of_decide_eq_true h]; rfl
theorem takeN_suf : ∀ R : List Wd, (takeN R).2 <:+ R
  | [] => List.suffix_refl _
  | w :: R => by
    rw [takeN]
    cases hw : numW w with
    | none => exact List.suffix_refl _
    | some n => exact (takeN_suf R).trans (List.suffix_cons _ _)
theorem tail_suf (R : List Wd) : R.tail <:+ R := by
  cases R with
  | nil => exact List.suffix_refl _
  | cons w R => exact List.suffix_cons _ _
theorem takeN_pos {R : List Wd} (h : (takeN R).1 ≠ []) : (takeN R).2.length < R.length := by
  have := takeN_len R
  have := List.length_pos_iff.2 h
  omega
theorem lineM_pos {R : List Wd} {x : LnK} (h : (lineM R).1 = some x) : (lineM R).2.length < R.length := by
  unfold lineM at h ⊢
  by_cases h1 : (takeN R).1 = []
  · rw [if_pos h1] at h; cases h
  rw [if_neg h1] at h ⊢
  have hp := takeN_pos h1
  by_cases h2 : isW [43] (takeN R).2 = true
  · rw [if_pos h2] at h ⊢
    have := ((takeN_suf (takeN R).2.tail).trans (tail_suf _)).length_le
    show (takeN (takeN R).2.tail).2.length < R.length
    omega
  · rw [if_neg h2] at h ⊢
    exact hp
structure WOk (l : List UInt8) (R : List Wd) : Prop where
  sf : Suf l R
  ws : ∀ w ∈ R, w.length ≤ 1000000
  rl : R.length ≤ 1000000
theorem WOk.takeN {l : List UInt8} {R : List Wd} (h : WOk l R) : WOk l (Go.Proofs.YtifjhpaoejageaaGreatDoor.takeN R).2 := ⟨h.sf.takeN, fun w hw => h.ws w ((takeN_suf R).subset hw), by have := (takeN_suf R).length_le; have := h.rl; omega⟩
theorem WOk.tail {l : List UInt8} {R : List Wd} (h : WOk l R) : WOk l R.tail := ⟨h.sf.tail, fun w hw => h.ws w ((tail_suf R).subset hw), by have := (tail_suf R).length_le; have := h.rl; omega⟩
theorem WOk.line {l : List UInt8} {R : List Wd} (h : WOk l R) : WOk l (lineM R).2 := by
  unfold lineM
  split
  · exact h.takeN
  · split
    · exact h.takeN.tail.takeN
    · exact h.takeN
theorem isN_dec {L : List Int} : decide (L ≠ []) = true ↔ L ≠ [] := decide_eq_true_iff
end Go.Proofs.YtifjhpaoejageaaGreatDoor
namespace Go.Proofs.YtifjhpaoejageaaGreatDoor
open Eng
def LinesRes (o : Option (List LnK)) (r : Value) (m : Mem) : Prop :=
  ∃ (L : List Line) (a : Option Addr) (c : Nat) (b : Bool), r = .tuple #[.slice a L.length c, .bool b] ∧ RL m Line.enc 2 (.slice a L.length c) L ∧ (∀ x ∈ L, x.In m) ∧ o = if b = true then some (L.map Line.keyL) else none
theorem permC {α : Type} (a b c : α) (s : List α) : (a :: b :: c :: s).Perm (c :: a :: b :: s) := by
  classical
  rw [List.perm_iff_count]
  intro y
  simp only [List.count_cons]
  omega
theorem permL3 {α : Type} (a b c : α) (s : List α) : (a :: b :: c :: s).Perm (s ++ [c, a, b]) := by
  classical
  rw [List.perm_iff_count]
  intro y
  simp only [List.count_cons, List.count_append, List.count_nil]
  omega
theorem permL1 {α : Type} (c : α) (s : List α) : ([c] ++ s).Perm (s ++ [c]) := List.perm_append_comm
theorem lineM_0 {R : List Wd} (h : (takeN R).1 = []) : lineM R = (none, (takeN R).2) := if_pos h
theorem lineM_1 {R : List Wd} (h : (takeN R).1 ≠ []) (h2 : isW [43] (takeN R).2 = false) : lineM R = (some ((takeN R).1, []), (takeN R).2) := (if_neg h).trans (if_neg (by rw [h2]; exact Bool.noConfusion))
theorem lineM_2 {R : List Wd} (h : (takeN R).1 ≠ []) (h2 : isW [43] (takeN R).2 = true) (h3 : (takeN (takeN R).2.tail).1 = []) : lineM R = (none, (takeN (takeN R).2.tail).2) := (if_neg h).trans ((if_pos h2).trans (by rw [if_pos h3]))
theorem lineM_3 {R : List Wd} (h : (takeN R).1 ≠ []) (h2 : isW [43] (takeN R).2 = true) (h3 : (takeN (takeN R).2.tail).1 ≠ []) : lineM R = (some ((takeN R).1, (takeN (takeN R).2.tail).1), (takeN (takeN R).2.tail).2) := (if_neg h).trans ((if_pos h2).trans (by rw [if_neg h3]))
theorem linesF_0 {f : Nat} {R R' : List Wd} {acc : List LnK} (h : lineM R = (none, R')) : linesF (f + 1) R acc = (none, R') := by rw [linesF, h]
theorem linesF_1 {f : Nat} {R R' : List Wd} {x : LnK} {acc : List LnK} (h : lineM R = (some x, R')) (h2 : isW [47] R' = false) : linesF (f + 1) R acc = (some (acc ++ [x]), R') := by rw [linesF, h]; exact if_neg (by rw [h2]; exact Bool.noConfusion)
theorem linesF_2 {f : Nat} {R R' : List Wd} {x : LnK} {acc : List LnK} (h : lineM R = (some x, R')) (h2 : isW [47] R' = true) : linesF (f + 1) R acc = linesF f R'.tail (acc ++ [x]) := by rw [linesF, h]; exact if_pos h2
set_option maxRecDepth 100000 in
theorem linesS {m : Mem} {l : List UInt8} {R : List Wd} (hw : WOk l R) (hl : l.length ≤ 1000000) (B : Nat) : CallsS Tryz.prog 42 [.pointer (some ⟨B, 0, none⟩)].toArray [(B, Cells 55 (scE l (R)))] m fun r σ' m' => σ' = [(B, Cells 55 (scE l ((linesM R).2)))] ∧ LinesRes (linesM R).1 r m' := by
  refine CallsS.ghost (R' := fun r σ' m' => ∃ τ, σ' = ((B, Cells 55 (scE l ((linesM R).2)))) :: τ ∧ LinesRes (linesM R).1 r m') ?_ ?h2
  case h2 =>
    rintro r σ' m' ⟨τ, rfl, hr⟩ g0 W hC
    exact ⟨_, m', hC.sublist (List.Sublist.cons_cons _ (List.nil_sublist _)), Le.refl _, rfl, hr⟩
  have hrl := hw.rl
  refine enter Tryz.func42 Tryz.ntmps42 rfl rfl ?_
  refine SWP_seq (SWP_region ?_)
  refine pL rfl rfl ?_
  refine pB rfl rfl ?_
  refine SL_nil (nx (SWP_scope (SWP_seq (SWP_region ?_))))
  refine pL rfl rfl ?_
  refine SL_nil (nx (SWP_seq (SWP_region ?_)))
  refine pB rfl rfl ?_
  refine SL_nil (nx (SWP_seq (SWP_label (nx (SWP_seq (SWP_block ?_))))))
  refine SWP_loop [4, 5, 6, 8, 9, 10, 11, 12, 13, 14, 15, 16, 17, 18, 19, 20, 21, 22, 23, 24, 25, 26, 27, 28, 29, 30, 31, 32, 33, 34, 35, 36, 37, 38, 39, 40, 41, 42, 43, 44, 45, 46, 47, 48] [4, 5]
      (fun vs σ' m' => ∃ (a4 : Option Addr) (c4 : Nat) (L : List Line) (R2 : List Wd) (f : Nat) (σe : Sig), vs = [.slice a4 L.length c4, .bool false] ∧ linesM R = linesF f R2 (L.map Line.keyL) ∧ R2.length < f ∧ L.length + f = R.length + 1 ∧ WOk l R2 ∧ OwnS 50 2 (.slice a4 L.length c4) (L.flatMap Line.enc) σe ∧ (∀ x ∈ L, x.In m') ∧ σ' = ((B, Cells 55 (scE l (R2)))) :: σe ∧ Le m m')
      (fun vs => R.length + 1 - (match vs.getD 0 undef with | .slice _ n _ => n | _ => 0)) rfl ?_ ?_
  · exact ⟨none, 0, [], R, R.length + 1, [], rfl, rfl, by omega, by simp, hw, .nil, fun x hx => (by cases hx), rfl, Le.refl _⟩
  intro u0 vs0 σ0 m0 hJ0 _
  obtain ⟨a4, c4, L, R2, f, σe, rfl, hlf, hf, hn, hw2, hown, hin, rfl, hle⟩ := hJ0
  obtain ⟨f, rfl⟩ : ∃ k, f = k + 1 := ⟨f - 1, by omega⟩
  refine SWP_block (SWP_seq (SWP_region ?_))
  refine al rfl rfl (fun B6 => ?_)
  refine SL_nil (nx ?_)
  refine SWP_merge1 [8, 9, 10, 11, 12, 13, 14, 15, 16, 17, 18, 19, 20, 21, 22, 23, 24, 25, 26, 27, 28, 29, 30, 31, 32, 33, 34, 35, 36, 37, 38, 39] []
      (fun vs σ' m' => vs = [] ∧ ∃ (M N : List Int) (a7 : Option Addr) (c7 : Nat) (b7 : Option Addr) (d7 : Nat) (q : Nat × Chk), RL m' intE 1 (.slice a7 M.length c7) M ∧ RL m' intE 1 (.slice b7 N.length d7) N ∧ lineM R2 = (some (M, N), (lineM R2).2) ∧ σ' = q :: (B6, Cells 50 [.slice a7 M.length c7, .slice b7 N.length d7]) :: ((B, Cells 55 (scE l ((lineM R2).2)))) :: σe ∧ Le m0 m')
      rfl ?_ ?_
  · skip
    refine SWP_seq (SWP_region ?_)
    refine pu rfl rfl ?_
    refine pu rfl rfl ?_
    refine bs rfl rfl rfl rfl rfl (fun B13 => ?_)
    refine pu rfl rfl ?_
    refine pI rfl rfl ?_
    refine SL_nil (nx (SWP_block ?_))
    refine SWP_loop [8, 9, 10, 15, 16, 17, 18, 19, 20, 21, 22, 23, 24, 25, 26, 27, 28, 29, 30, 31, 32, 33, 34, 35, 36, 37, 38, 39] [15]
        (fun vs σ' m' => ∃ (j : Nat) (M : List Int) (a6 : Option Addr) (c6 : Nat) (R3 : List Wd), vs = [.int .i64 (j : Nat)] ∧ ((j = 0 ∧ M = [] ∧ a6 = none ∧ c6 = 0 ∧ R3 = R2) ∨ (j = 1 ∧ (takeN R2).1 ≠ [] ∧ isW [43] (takeN R2).2 = true ∧ M = (takeN R2).1 ∧ R3 = (takeN R2).2.tail)) ∧ j ≤ 1 ∧ RL m' intE 1 (.slice a6 M.length c6) M ∧ WOk l R3 ∧ σ' = (B13, Cells 120 [.pointer (some ⟨B6, 0, none⟩), .pointer (some ⟨B6, 1, none⟩)]) :: (B6, Cells 50 [.slice a6 M.length c6, .slice none 0 0]) :: ((B, Cells 55 (scE l (R3)))) :: σe ∧ Le m0 m')
        (fun vs => 2 - nOf (vs.getD 0 undef)) rfl ?_ ?_
    · exact ⟨0, [], none, 0, R2, rfl, .inl ⟨rfl, rfl, rfl, rfl, rfl⟩, by omega, RL.nil _ _, hw2, rfl, Le.refl _⟩
    intro u1 vs1 σ1 m1 hJ1 _
    obtain ⟨j, M, a6, c6, R3, rfl, hj, hj1, hM6, hw3, rfl, hle6⟩ := hJ1
    refine SWP_seq (SWP_region ?_)
    refine pt rfl rfl (by omega) ?_
    refine SL_nil (nx (SWP_seq (SWP_ct rfl (SWP_skip (nx (SWP_seq (SWP_block (SWP_seq (SWP_region ?_)))))))))
    rcases hj with ⟨rfl, hM0, ha0, hc0, hR0⟩ | ⟨rfl, hM, hpl, hM0, hR0⟩
    · refine ia (es := 1) (k := 0) rfl rfl rfl rfl rfl rfl (by omega) rfl ?_
      refine lw (v := .pointer (some ⟨B6, 0, none⟩)) B13 0 rfl rfl rfl rfl ?_
      first | refine pP rfl rfl ?_ | refine pu rfl rfl ?_
      refine SL_nil (nx (SWP_seq (SWP_region ?_)))
      first | refine pP rfl rfl ?_ | refine pu rfl rfl ?_
      refine SL_call rfl rfl cb77 (CallsS.subF ((B13, Cells 120 [.pointer (some ⟨B6, 0, none⟩), .pointer (some ⟨B6, 1, none⟩)]) :: (B6, Cells 50 [.slice a6 M.length c6, .slice none 0 0]) :: σe) (numsS hw3.sf hl hw3.ws hw3.rl B) (permC _ _ _ _)) rfl (fun v7_1 σ7_1 m7_1 hl7_1 hR7_1 => ?_)
      obtain ⟨σz, rfl, rfl, a9, c9, rfl, hr9⟩ := hR7_1
      refine SL_perm (permC (B13, Cells 120 [.pointer (some ⟨B6, 0, none⟩), .pointer (some ⟨B6, 1, none⟩)]) (B6, Cells 50 [.slice a6 M.length c6, .slice none 0 0]) ((B, Cells 55 (scE l ((takeN R3).2)))) σe).symm ?_
      refine pu rfl rfl ?_
      first | refine pL rfl rfl ?_ | refine pu rfl rfl ?_
      first | refine pB rfl rfl ?_ | refine pu rfl rfl ?_
      refine bsp 23 rfl (fun b23 => ?_) (fun b23 => ?_)
      · skip
        first | refine pL rfl rfl ?_ | refine pu rfl rfl ?_
        first | refine pB rfl rfl ?_ | refine pu rfl rfl ?_
        refine SL_nil (nx (SWP_seq (SWP_seq (SWP_region ?_))))
        first | refine pB rfl rfl ?_ | refine pu rfl rfl ?_
        refine pB rfl rfl ?_
        refine SL_nil (nx (SWP_cf rfl (SWP_skip (nx (SWP_seq (SWP_region ?_))))))
        first | refine pP rfl rfl ?_ | refine pu rfl rfl ?_
        first | refine pL rfl rfl ?_ | refine pu rfl rfl ?_
        refine pu rfl rfl ?_
        refine sw (v := .slice _ _ _) B6 0 rfl rfl rfl rfl rfl rfl rfl ?_
        refine SL_nil (nx (SWP_seq (SWP_seq (SWP_region ?_))))
        first | refine pP rfl rfl ?_ | refine pu rfl rfl ?_
        refine pu rfl rfl ?_
        refine peq (r := false) rfl rfl rfl rfl rfl rfl (decide_eq_false (by simp [Addr.add_lit])) rfl ?_
        first | refine pB rfl rfl ?_ | refine pu rfl rfl ?_
        refine SL_yes rfl ?_
        first | refine pP rfl rfl ?_ | refine pu rfl rfl ?_
        refine SL_yes rfl ?_
        refine SL_pcallS rfl rfl cb44 (CallsS.pureIn (isI B [43]) ⟨_, permC _ _ _ _⟩) rfl ?_
        refine bsp 34 rfl (fun b34 => ?_) (fun b34 => ?_)
        · skip
          refine SL_yes rfl ?_
          refine pB rfl rfl ?_
          refine pB rfl rfl ?_
          refine SL_nil (nx (SWP_cf rfl (SWP_skip (nx ?_))))
          obtain ⟨R4, hR4⟩ : ∃ R4, (takeN R3).2 = [43] :: R4 := ⟨_, isW_cons (by assumption)⟩
          rw [hR4]
          have hs4 := hw3.takeN.sf
          rw [hR4] at hs4
          refine SWP_region ?_
          first | refine pP rfl rfl ?_ | refine pu rfl rfl ?_
          refine SL_call rfl rfl cb45 (CallsS.subF ((B13, Cells 120 [.pointer (some ⟨B6, 0, none⟩), .pointer (some ⟨B6, 1, none⟩)]) :: (B6, Cells 50 [.slice a9 (takeN R3).1.length c9, .slice none 0 0]) :: σe) (advI hs4 hl B) (permC _ _ _ _)) rfl (fun v11_1 σ11_1 m11_1 hl11_1 hR11_1 => ?_)
          obtain ⟨σz, rfl, rfl, hm11_1⟩ := hR11_1
          have hn11_1 := hm11_1.symm
          subst hn11_1
          refine SL_perm (permC (B13, Cells 120 [.pointer (some ⟨B6, 0, none⟩), .pointer (some ⟨B6, 1, none⟩)]) (B6, Cells 50 [.slice a9 (takeN R3).1.length c9, .slice none 0 0]) ((B, Cells 55 (scE l (R4)))) σe).symm ?_
          refine SL_nil (nb (nx (SWP_region ?_)))
          first | refine pw rfl rfl (w64 (by omega) (by omega)) ?_ | refine pu rfl rfl ?_
          refine pI rfl rfl ?_
          refine SL_nil (nx ?_)
          refine ⟨by repeat (first | exact Under.upds rfl (Under.hav _ _ _) | exact Under.hav _ _ _ | refine Under.upd rfl ?_ | refine Under.upds rfl ?_ | refine Under.hav2 rfl ?_), ?_, ?_⟩
          · have hw4 := hw3.takeN.tail
            rw [hR4] at hw4
            exact ⟨1, (takeN R3).1, a9, c9, R4, rfl, .inr ⟨rfl, by rw [← hR0]; exact isN_dec.1 (by assumption), by rw [← hR0]; assumption, by rw [hR0], by rw [← hR0, hR4]; rfl⟩, by omega, hr9, hw4, rfl, hle6.trans hl7_1⟩
          · simp only [L_vals, List.map, List.getD]; show 2 - 1 < 2 - 0; decide
        refine SL_yes rfl ?_
        refine pB rfl rfl ?_
        refine pB rfl rfl ?_
        refine SL_nil (nx (SWP_ct rfl (SWP_exit (ne (bo rfl (ne (ne (be rfl (nx ?_)))))))))
        refine ⟨by repeat (first | with_reducible exact Under.refl _ _ | exact Under.upds rfl (Under.hav _ _ _) | exact Under.hav _ _ _ | refine Under.upd rfl ?_ | refine Under.upds rfl ?_ | refine Under.hav2 rfl ?_), ?_⟩
        refine ⟨rfl, ?_⟩
        first
          | (have h1 : (takeN R2).1 ≠ [] := by rw [← hR0]; exact isN_dec.1 (by assumption)
             have h2 : isW [43] (takeN R2).2 = false := by rw [← hR0]; assumption
             have e := lineM_1 h1 h2
             rw [e]
             exact ⟨(takeN R2).1, [], a9, c9, none, 0, _, by rw [← hR0]; exact hr9, RL.nil _ _, rfl, by rw [← hR0]; rfl, hle6.trans hl7_1⟩)
          | (have h3 : (takeN (takeN R2).2.tail).1 ≠ [] := by rw [← hR0]; exact isN_dec.1 (by assumption)
             have e := lineM_3 hM hpl h3
             rw [e]
             exact ⟨(takeN R2).1, (takeN (takeN R2).2.tail).1, a6, c6, a9, c9, _, by rw [← hM0]; exact hM6.mono hl7_1, by rw [← hR0]; exact hr9, rfl, by rw [← hR0, ← hM0]; rfl, hle6.trans hl7_1⟩)
      first | refine pL rfl rfl ?_ | refine pu rfl rfl ?_
      first | refine pB rfl rfl ?_ | refine pu rfl rfl ?_
      refine SL_nil (nx (SWP_seq (SWP_seq (SWP_region ?_))))
      first | refine pB rfl rfl ?_ | refine pu rfl rfl ?_
      refine pB rfl rfl ?_
      refine SL_nil (nx (SWP_ct rfl (SWP_exit (ne (bo rfl (ne (ne (bo rfl (ne (bo rfl (ne ?_)))))))))))
      refine be rfl (nx (SWP_seq (SWP_region ?_)))
      first
      | (refine SL_perm (permL3 _ _ _ _) ?_; refine SL_freezeL (by omega) Line.enc_len hown (fun m9 hl9 hb9 => ?_); refine pu rfl rfl ?_)
      | (refine SL_perm (permL1 _ _) ?_; refine SL_freezeL (by omega) Line.enc_len hown5 (fun m9 hl9 hb9 => ?_); refine pu rfl rfl ?_)
      first | refine pB rfl rfl ?_ | refine pu rfl rfl ?_
      first | refine pL rfl rfl ?_ | refine pu rfl rfl ?_
      first | refine pB rfl rfl ?_ | refine pu rfl rfl ?_
      refine SL_nil (nx (SWP_ret (sr ?_)))
      refine fin [_, _] ⟨rfl, rfl, trivial⟩ ?_
      first
      | (rw [hlf, linesF_1 hln (by assumption)]
         refine ⟨_, rfl, L ++ [(⟨a7, c7, M, b7, d7, N⟩ : Line)], a5, c5, true, rfl, hb9, fun x hx => ?_, by rw [List.map_append]; rfl⟩
         rcases List.mem_append.1 hx with hx | hx
         · exact (hin x hx).mono (hle1.trans hl9)
         · rw [List.mem_singleton.1 hx]; exact ⟨hM7.mono hl9, hN7.mono hl9⟩)
      | (have h0 : (takeN R3).1 = [] := Classical.byContradiction fun h => by have := decide_eq_true h; simp_all
         have e : lineM R2 = (none, (takeN R3).2) := by
           first
             | (rw [hR0] at h0 ⊢; exact lineM_0 h0)
             | (rw [hR0] at h0 ⊢; exact lineM_2 hM hpl h0)
         rw [hlf, linesF_0 e]
         exact ⟨_, rfl, L, a4, c4, false, rfl, hb9, fun x hx => (hin x hx).mono ((hle6.trans hl7_1).trans hl9), rfl⟩)
    · refine ia (es := 1) (k := 1) rfl rfl rfl rfl rfl rfl (by omega) rfl ?_
      refine lw (v := .pointer (some ⟨B6, 1, none⟩)) B13 1 rfl rfl rfl rfl ?_
      first | refine pP rfl rfl ?_ | refine pu rfl rfl ?_
      refine SL_nil (nx (SWP_seq (SWP_region ?_)))
      first | refine pP rfl rfl ?_ | refine pu rfl rfl ?_
      refine SL_call rfl rfl cb77 (CallsS.subF ((B13, Cells 120 [.pointer (some ⟨B6, 0, none⟩), .pointer (some ⟨B6, 1, none⟩)]) :: (B6, Cells 50 [.slice a6 M.length c6, .slice none 0 0]) :: σe) (numsS hw3.sf hl hw3.ws hw3.rl B) (permC _ _ _ _)) rfl (fun v7_1 σ7_1 m7_1 hl7_1 hR7_1 => ?_)
      obtain ⟨σz, rfl, rfl, a9, c9, rfl, hr9⟩ := hR7_1
      refine SL_perm (permC (B13, Cells 120 [.pointer (some ⟨B6, 0, none⟩), .pointer (some ⟨B6, 1, none⟩)]) (B6, Cells 50 [.slice a6 M.length c6, .slice none 0 0]) ((B, Cells 55 (scE l ((takeN R3).2)))) σe).symm ?_
      refine pu rfl rfl ?_
      first | refine pL rfl rfl ?_ | refine pu rfl rfl ?_
      first | refine pB rfl rfl ?_ | refine pu rfl rfl ?_
      refine bsp 23 rfl (fun b23 => ?_) (fun b23 => ?_)
      · skip
        first | refine pL rfl rfl ?_ | refine pu rfl rfl ?_
        first | refine pB rfl rfl ?_ | refine pu rfl rfl ?_
        refine SL_nil (nx (SWP_seq (SWP_seq (SWP_region ?_))))
        first | refine pB rfl rfl ?_ | refine pu rfl rfl ?_
        refine pB rfl rfl ?_
        refine SL_nil (nx (SWP_cf rfl (SWP_skip (nx (SWP_seq (SWP_region ?_))))))
        first | refine pP rfl rfl ?_ | refine pu rfl rfl ?_
        first | refine pL rfl rfl ?_ | refine pu rfl rfl ?_
        refine pu rfl rfl ?_
        refine sw (v := .slice _ _ _) B6 1 rfl rfl rfl rfl rfl rfl rfl ?_
        refine SL_nil (nx (SWP_seq (SWP_seq (SWP_region ?_))))
        first | refine pP rfl rfl ?_ | refine pu rfl rfl ?_
        refine pu rfl rfl ?_
        refine peq (r := true) rfl rfl rfl rfl rfl rfl (decide_eq_true (by simp [Addr.add_lit])) rfl ?_
        first | refine pB rfl rfl ?_ | refine pu rfl rfl ?_
        refine SL_no rfl rfl ?_
        refine SL_no rfl rfl ?_
        refine SL_no rfl rfl ?_
        refine pB rfl rfl ?_
        refine SL_nil (nx (SWP_ct rfl (SWP_exit (ne (bo rfl (ne (ne (be rfl (nx ?_)))))))))
        refine ⟨by repeat (first | with_reducible exact Under.refl _ _ | exact Under.upds rfl (Under.hav _ _ _) | exact Under.hav _ _ _ | refine Under.upd rfl ?_ | refine Under.upds rfl ?_ | refine Under.hav2 rfl ?_), ?_⟩
        refine ⟨rfl, ?_⟩
        first
          | (have h1 : (takeN R2).1 ≠ [] := by rw [← hR0]; exact isN_dec.1 (by assumption)
             have h2 : isW [43] (takeN R2).2 = false := by rw [← hR0]; assumption
             have e := lineM_1 h1 h2
             rw [e]
             exact ⟨(takeN R2).1, [], a9, c9, none, 0, _, by rw [← hR0]; exact hr9, RL.nil _ _, rfl, by rw [← hR0]; rfl, hle6.trans hl7_1⟩)
          | (have h3 : (takeN (takeN R2).2.tail).1 ≠ [] := by rw [← hR0]; exact isN_dec.1 (by assumption)
             have e := lineM_3 hM hpl h3
             rw [e]
             exact ⟨(takeN R2).1, (takeN (takeN R2).2.tail).1, a6, c6, a9, c9, _, by rw [← hM0]; exact hM6.mono hl7_1, by rw [← hR0]; exact hr9, rfl, by rw [← hR0, ← hM0]; rfl, hle6.trans hl7_1⟩)
      first | refine pL rfl rfl ?_ | refine pu rfl rfl ?_
      first | refine pB rfl rfl ?_ | refine pu rfl rfl ?_
      refine SL_nil (nx (SWP_seq (SWP_seq (SWP_region ?_))))
      first | refine pB rfl rfl ?_ | refine pu rfl rfl ?_
      refine pB rfl rfl ?_
      refine SL_nil (nx (SWP_ct rfl (SWP_exit (ne (bo rfl (ne (ne (bo rfl (ne (bo rfl (ne ?_)))))))))))
      refine be rfl (nx (SWP_seq (SWP_region ?_)))
      first
      | (refine SL_perm (permL3 _ _ _ _) ?_; refine SL_freezeL (by omega) Line.enc_len hown (fun m9 hl9 hb9 => ?_); refine pu rfl rfl ?_)
      | (refine SL_perm (permL1 _ _) ?_; refine SL_freezeL (by omega) Line.enc_len hown5 (fun m9 hl9 hb9 => ?_); refine pu rfl rfl ?_)
      first | refine pB rfl rfl ?_ | refine pu rfl rfl ?_
      first | refine pL rfl rfl ?_ | refine pu rfl rfl ?_
      first | refine pB rfl rfl ?_ | refine pu rfl rfl ?_
      refine SL_nil (nx (SWP_ret (sr ?_)))
      refine fin [_, _] ⟨rfl, rfl, trivial⟩ ?_
      first
      | (rw [hlf, linesF_1 hln (by assumption)]
         refine ⟨_, rfl, L ++ [(⟨a7, c7, M, b7, d7, N⟩ : Line)], a5, c5, true, rfl, hb9, fun x hx => ?_, by rw [List.map_append]; rfl⟩
         rcases List.mem_append.1 hx with hx | hx
         · exact (hin x hx).mono (hle1.trans hl9)
         · rw [List.mem_singleton.1 hx]; exact ⟨hM7.mono hl9, hN7.mono hl9⟩)
      | (have h0 : (takeN R3).1 = [] := Classical.byContradiction fun h => by have := decide_eq_true h; simp_all
         have e : lineM R2 = (none, (takeN R3).2) := by
           first
             | (rw [hR0] at h0 ⊢; exact lineM_0 h0)
             | (rw [hR0] at h0 ⊢; exact lineM_2 hM hpl h0)
         rw [hlf, linesF_0 e]
         exact ⟨_, rfl, L, a4, c4, false, rfl, hb9, fun x hx => (hin x hx).mono ((hle6.trans hl7_1).trans hl9), rfl⟩)
  intro uM0 vM0 σM0 mM0 hM0 _
  obtain ⟨rfl, M, N, a7, c7, b7, d7, q, hM7, hN7, hln, rfl, hle1⟩ := hM0
  refine SWP_seq (SWP_region ?_)
  first | refine pL rfl rfl ?_ | refine pu rfl rfl ?_
  refine lw (v := .agg _) B6 0 rfl rfl rfl rfl ?_
  refine bs rfl rfl rfl rfl rfl (fun B42 => ?_)
  refine ap (e := 50) (size := 2) (bytes := 48) rfl rfl rfl rfl rfl rfl rfl hown (List.perm_append_comm (l₁ := [_, _, _, _]) (l₂ := σe)) rfl (Rd.of_cells (.head _)) rfl rfl (by rw [flatMap_len Line.enc_len]; omega) rfl rfl (fun v43 σ43 hown43 => ?_)
  refine SL_weak (List.Sublist.append_left (((List.Sublist.refl _).cons _).cons _ |>.cons _) _) ?_
  refine SL_perm (List.perm_append_comm (l₂ := [_])) ?_
  have hown5 : OwnS 50 2 v43 ((L ++ [(⟨a7, c7, M, b7, d7, N⟩ : Line)]).flatMap Line.enc) σ43 := by rw [List.flatMap_append]; exact hown43
  obtain ⟨a5, c5, e5⟩ := hown5.lenL (by omega) Line.enc_len
  subst e5
  first | refine pL rfl rfl ?_ | refine pu rfl rfl ?_
  refine SL_nil (nx (SWP_seq (SWP_seq (SWP_region ?_))))
  first | refine pP rfl rfl ?_ | refine pu rfl rfl ?_
  refine SL_pcallS rfl rfl cb44 (CallsS.pureIn (isI B [47]) ⟨σ43, .refl _⟩) rfl ?_
  refine bsp 45 rfl (fun b45 => ?_) (fun b45 => ?_)
  · skip
    refine pB rfl rfl ?_
    refine SL_nil (nx (SWP_cf rfl (SWP_skip (nx ?_))))
    obtain ⟨R5, hR5⟩ : ∃ R5, (lineM R2).2 = [47] :: R5 := ⟨_, isW_cons (by assumption)⟩
    rw [hR5]
    have hs5 := hw2.line.sf
    rw [hR5] at hs5
    refine SWP_region ?_
    first | refine pP rfl rfl ?_ | refine pu rfl rfl ?_
    refine SL_call rfl rfl cb45 (CallsS.subF _ (advI hs5 hl B) (.refl _)) rfl (fun v16_1 σ16_1 m16_1 hl16_1 hR16_1 => ?_)
    obtain ⟨σz, rfl, rfl, hm16_1⟩ := hR16_1
    have hn16_1 := hm16_1.symm
    subst hn16_1
    refine SL_nil (nb (nx ?_))
    refine ⟨by repeat (first | exact Under.upds rfl (Under.hav _ _ _) | exact Under.hav _ _ _ | refine Under.upd rfl ?_ | refine Under.upds rfl ?_ | refine Under.hav2 rfl ?_), ?_, ?_⟩
    · have hp := lineM_pos (R := R2) (x := (M, N)) (by rw [hln])
      rw [hR5] at hp
      have hw5 := hw2.line.tail
      rw [hR5] at hw5
      refine ⟨a5, c5, L ++ [(⟨a7, c7, M, b7, d7, N⟩ : Line)], R5, f, σ43, rfl, ?_, ?_, ?_, hw5, hown5, fun x hx => ?_, rfl, hle.trans hle1⟩
      · rw [hlf, linesF_2 hln (by assumption), hR5, List.map_append]; rfl
      · simp only [List.length_cons] at hp; omega
      · rw [List.length_append]; simp only [List.length_cons, List.length_nil]; omega
      · rcases List.mem_append.1 hx with hx | hx
        · exact (hin x hx).mono hle1
        · rw [List.mem_singleton.1 hx]; exact ⟨hM7, hN7⟩
    · simp only [L_vals, List.map, List.getD]; show R.length + 1 - (L ++ [_]).length < R.length + 1 - L.length; rw [List.length_append]; simp only [List.length_cons, List.length_nil]; omega
  refine pB rfl rfl ?_
  refine SL_nil (nx (SWP_ct rfl (SWP_seq (SWP_region ?_))))
  first | refine pB rfl rfl ?_ | refine pu rfl rfl ?_
  refine SL_nil (nx (SWP_exit (ne (bo rfl (ne (be rfl (nx (SWP_seq (SWP_region ?_)))))))))
  first
  | (refine SL_perm (permL3 _ _ _ _) ?_; refine SL_freezeL (by omega) Line.enc_len hown (fun m9 hl9 hb9 => ?_); refine pu rfl rfl ?_)
  | (refine SL_perm (permL1 _ _) ?_; refine SL_freezeL (by omega) Line.enc_len hown5 (fun m9 hl9 hb9 => ?_); refine pu rfl rfl ?_)
  first | refine pB rfl rfl ?_ | refine pu rfl rfl ?_
  first | refine pL rfl rfl ?_ | refine pu rfl rfl ?_
  first | refine pB rfl rfl ?_ | refine pu rfl rfl ?_
  refine SL_nil (nx (SWP_ret (sr ?_)))
  refine fin [_, _] ⟨rfl, rfl, trivial⟩ ?_
  first
  | (rw [hlf, linesF_1 hln (by assumption)]
     refine ⟨_, rfl, L ++ [(⟨a7, c7, M, b7, d7, N⟩ : Line)], a5, c5, true, rfl, hb9, fun x hx => ?_, by rw [List.map_append]; rfl⟩
     rcases List.mem_append.1 hx with hx | hx
     · exact (hin x hx).mono (hle1.trans hl9)
     · rw [List.mem_singleton.1 hx]; exact ⟨hM7.mono hl9, hN7.mono hl9⟩)
  | (have h0 : (takeN R3).1 = [] := Classical.byContradiction fun h => by have := decide_eq_true h; simp_all
     have e : lineM R2 = (none, (takeN R3).2) := by
       first
         | (rw [hR0] at h0 ⊢; exact lineM_0 h0)
         | (rw [hR0] at h0 ⊢; exact lineM_2 hM hpl h0)
     rw [hlf, linesF_0 e]
     exact ⟨_, rfl, L, a4, c4, false, rfl, hb9, fun x hx => (hin x hx).mono ((hle6.trans hl7_1).trans hl9), rfl⟩)
end Go.Proofs.YtifjhpaoejageaaGreatDoor
namespace Go.Proofs.YtifjhpaoejageaaGreatDoor
open Eng
def drawsM (R : List Wd) : Option Int × List Wd :=
  if isW [120] R = true then
    (match numV R.tail with
      | none => (none, R.tail)
      | some n => if n = 1 then (none, R.tail) else (some n, R.tail.tail))
  else (some 1, R)
theorem drawsM_0 {R : List Wd} (h : isW [120] R = false) : drawsM R = (some 1, R) := if_neg (by rw [h]; exact Bool.noConfusion)
theorem drawsM_1 {R R4 : List Wd} (h : R = [120] :: R4) (h2 : (numV R4).isSome = false) : drawsM R = (none, R4) := by
  subst h
  refine (if_pos (by simp [isW])).trans ?_
  show (match numV R4 with | none => (none, R4) | some n => if n = 1 then (none, R4) else (some n, R4.tail)) = _
  cases hn : numV R4 with
  | none => rfl
  | some n => rw [hn] at h2; cases h2
theorem drawsM_2 {R R4 : List Wd} (h : R = [120] :: R4) (h2 : (numV R4).isSome = true) (h3 : (numV R4).getD 0 = 1) : drawsM R = (none, R4) := by
  subst h
  refine (if_pos (by simp [isW])).trans ?_
  show (match numV R4 with | none => (none, R4) | some n => if n = 1 then (none, R4) else (some n, R4.tail)) = _
  cases hn : numV R4 with
  | none => rfl
  | some n => first | exact if_pos (by rw [hn] at h3; exact h3) | rfl
theorem drawsM_3 {R R4 : List Wd} (h : R = [120] :: R4) (h2 : (numV R4).isSome = true) (h3 : ¬ (numV R4).getD 0 = 1) : drawsM R = (some ((numV R4).getD 0), R4.tail) := by
  subst h
  refine (if_pos (by simp [isW])).trans ?_
  show (match numV R4 with | none => (none, R4) | some n => if n = 1 then (none, R4) else (some n, R4.tail)) = _
  cases hn : numV R4 with
  | none => rw [hn] at h2; cases h2
  | some n => rw [hn] at h3; exact if_neg h3
theorem WOk.draws {l : List UInt8} {R : List Wd} (h : WOk l R) : WOk l (drawsM R).2 := by
  unfold drawsM
  split
  · split
    · exact h.tail
    · split
      · exact h.tail
      · exact h.tail.tail
  · exact h
set_option maxRecDepth 100000 in
theorem drawsS {m : Mem} {l : List UInt8} {R : List Wd} (hw : WOk l R) (hl : l.length ≤ 1000000) (B : Nat) : CallsS Tryz.prog 43 [.pointer (some ⟨B, 0, none⟩)].toArray [(B, Cells 55 (scE l (R)))] m fun r σ' m' => σ' = [(B, Cells 55 (scE l ((drawsM R).2)))] ∧ m' = m ∧ ∃ (n : Int) (b : Bool), r = .tuple #[.int .i64 n, .bool b] ∧ (drawsM R).1 = if b = true then some n else none := by
  refine enter Tryz.func43 Tryz.ntmps43 rfl rfl ?_
  refine SWP_seq (SWP_region ?_)
  refine pI rfl rfl ?_
  refine pB rfl rfl ?_
  refine SL_nil (nx (SWP_seq (SWP_seq (SWP_region ?_))))
  first | refine pP rfl rfl ?_ | refine pu rfl rfl ?_
  refine SL_pcallS rfl rfl cb44 (isI B [120]) rfl ?_
  refine bsp 7 rfl (fun b7 => ?_) (fun b7 => ?_)
  · skip
    refine pB rfl rfl ?_
    refine SL_nil (nx (SWP_cf rfl (SWP_skip (nx (SWP_seq ?_)))))
    obtain ⟨R4, hR4⟩ : ∃ R4, R = [120] :: R4 := ⟨_, isW_cons (by assumption)⟩
    have hs4 := hw.sf
    rw [hR4] at hs4
    rw [hR4]
    refine SWP_region ?_
    first | refine pP rfl rfl ?_ | refine pu rfl rfl ?_
    refine SL_call rfl rfl cb45 (advI hs4 hl B) rfl (fun v3_1 σ3_1 m3_1 hl3_1 hR3_1 => ?_)
    obtain ⟨rfl, hm3_1⟩ := hR3_1
    have hn3_1 := hm3_1.symm
    subst hn3_1
    refine SL_nil (nx (SWP_seq (SWP_region ?_)))
    first | refine pP rfl rfl ?_ | refine pu rfl rfl ?_
    refine SL_pcallS rfl rfl cb78 (numbI B (fun x hx => hw.ws x (by rw [hR4]; exact List.mem_cons_of_mem _ hx))) rfl ?_
    refine pu rfl rfl ?_
    first | refine pI rfl rfl ?_ | refine pu rfl rfl ?_
    first | refine pB rfl rfl ?_ | refine pu rfl rfl ?_
    refine bsp 15 rfl (fun b15 => ?_) (fun b15 => ?_)
    · skip
      first | refine pI rfl rfl ?_ | refine pu rfl rfl ?_
      first | refine pB rfl rfl ?_ | refine pu rfl rfl ?_
      refine SL_nil (nx (SWP_seq (SWP_seq (SWP_region ?_))))
      first | refine pB rfl rfl ?_ | refine pu rfl rfl ?_
      refine pB rfl rfl ?_
      refine pB rfl rfl ?_
      refine SL_yes rfl ?_
      first | refine pI rfl rfl ?_ | refine pu rfl rfl ?_
      refine SL_yes rfl ?_
      refine pc rfl rfl (fun c20 => ?_) (fun c20 => ?_)
      · skip
        refine pB rfl rfl ?_
        refine SL_nil (nx (SWP_ct rfl (SWP_seq (SWP_region ?_))))
        refine pI rfl rfl ?_
        refine pB rfl rfl ?_
        refine SL_nil (nx (SWP_ret (nr ?_)))
        refine fin [_, _] ⟨rfl, rfl, trivial⟩ ?_
        first
          | (rw [drawsM_0 (by assumption)]; exact ⟨rfl, rfl, 1, true, rfl, rfl⟩)
          | (rw [drawsM_1 (R := [120] :: R4) rfl (by assumption)]; exact ⟨rfl, rfl, 0, false, rfl, rfl⟩)
          | (rw [drawsM_2 (R := [120] :: R4) rfl (by assumption) (by assumption)]; exact ⟨rfl, rfl, 0, false, rfl, rfl⟩)
          | (rw [drawsM_3 (R := [120] :: R4) rfl (by assumption) (by assumption), hR5]; exact ⟨rfl, rfl, _, true, rfl, rfl⟩)
      refine pB rfl rfl ?_
      refine SL_nil (nx (SWP_cf rfl (SWP_skip (nx (SWP_seq ?_)))))
      obtain ⟨w5, R5, hR5, _⟩ := takeN_some (R := R4) (by assumption)
      have hs5 := hs4.next
      rw [hR5] at hs5
      have hnv : numV R4 = numV (w5 :: R5) := by rw [hR5]
      rw [show ((B, Cells 55 (scE l (R4)))) = ((B, Cells 55 (scE l (w5 :: R5)))) by rw [hR5]]
      refine SWP_region ?_
      first | refine pP rfl rfl ?_ | refine pu rfl rfl ?_
      refine SL_call rfl rfl cb45 (advI hs5 hl B) rfl (fun v7_1 σ7_1 m7_1 hl7_1 hR7_1 => ?_)
      obtain ⟨rfl, hm7_1⟩ := hR7_1
      have hn7_1 := hm7_1.symm
      subst hn7_1
      refine SL_nil (nx (SWP_seq (SWP_region ?_)))
      first | refine pI rfl rfl ?_ | refine pu rfl rfl ?_
      first | refine pI rfl rfl ?_ | refine pu rfl rfl ?_
      refine pB rfl rfl ?_
      refine SL_nil (nx (SWP_ret ?_))
      refine fin [_, _] ⟨rfl, rfl, trivial⟩ ?_
      first
        | (rw [drawsM_0 (by assumption)]; exact ⟨rfl, rfl, 1, true, rfl, rfl⟩)
        | (rw [drawsM_1 (R := [120] :: R4) rfl (by assumption)]; exact ⟨rfl, rfl, 0, false, rfl, rfl⟩)
        | (rw [drawsM_2 (R := [120] :: R4) rfl (by assumption) (by assumption)]; exact ⟨rfl, rfl, 0, false, rfl, rfl⟩)
        | (rw [drawsM_3 (R := [120] :: R4) rfl (by assumption) (by assumption), hR5]; exact ⟨rfl, rfl, _, true, rfl, rfl⟩)
    first | refine pI rfl rfl ?_ | refine pu rfl rfl ?_
    first | refine pB rfl rfl ?_ | refine pu rfl rfl ?_
    refine SL_nil (nx (SWP_seq (SWP_seq (SWP_region ?_))))
    first | refine pB rfl rfl ?_ | refine pu rfl rfl ?_
    refine pB rfl rfl ?_
    refine pB rfl rfl ?_
    refine SL_no rfl rfl ?_
    refine SL_no rfl rfl ?_
    refine pB rfl rfl ?_
    refine SL_nil (nx (SWP_ct rfl (SWP_seq (SWP_region ?_))))
    refine pI rfl rfl ?_
    refine pB rfl rfl ?_
    refine SL_nil (nx (SWP_ret (nr ?_)))
    refine fin [_, _] ⟨rfl, rfl, trivial⟩ ?_
    first
      | (rw [drawsM_0 (by assumption)]; exact ⟨rfl, rfl, 1, true, rfl, rfl⟩)
      | (rw [drawsM_1 (R := [120] :: R4) rfl (by assumption)]; exact ⟨rfl, rfl, 0, false, rfl, rfl⟩)
      | (rw [drawsM_2 (R := [120] :: R4) rfl (by assumption) (by assumption)]; exact ⟨rfl, rfl, 0, false, rfl, rfl⟩)
      | (rw [drawsM_3 (R := [120] :: R4) rfl (by assumption) (by assumption), hR5]; exact ⟨rfl, rfl, _, true, rfl, rfl⟩)
  refine pB rfl rfl ?_
  refine SL_nil (nx (SWP_ct rfl (SWP_seq (SWP_region ?_))))
  refine pI rfl rfl ?_
  refine pB rfl rfl ?_
  refine SL_nil (nx (SWP_ret (nr ?_)))
  refine fin [_, _] ⟨rfl, rfl, trivial⟩ ?_
  first
    | (rw [drawsM_0 (by assumption)]; exact ⟨rfl, rfl, 1, true, rfl, rfl⟩)
    | (rw [drawsM_1 (R := [120] :: R4) rfl (by assumption)]; exact ⟨rfl, rfl, 0, false, rfl, rfl⟩)
    | (rw [drawsM_2 (R := [120] :: R4) rfl (by assumption) (by assumption)]; exact ⟨rfl, rfl, 0, false, rfl, rfl⟩)
    | (rw [drawsM_3 (R := [120] :: R4) rfl (by assumption) (by assumption), hR5]; exact ⟨rfl, rfl, _, true, rfl, rfl⟩)
theorem ne_cons {R : List Wd} (h : R.isEmpty = false) : ∃ w R', R = w :: R' := by
  cases R with
  | nil => cases h
  | cons w R => exact ⟨w, R, rfl⟩
theorem or_bitF : ∀ b : Fin 16, ∀ i : Fin 4, b.val < 2 ^ i.val → bits .or .i64 (b.val : Int) ((2 ^ i.val : Nat) : Int) = ((b.val + 2 ^ i.val : Nat) : Int) := by decide +kernel
theorem or_bit {b i : Nat} (hi : i < 4) (h : b < 2 ^ i) : bits .or .i64 (b : Int) ((2 ^ i : Nat) : Int) = ((b + 2 ^ i : Nat) : Int) := by
  have h2 : 2 ^ i ≤ 2 ^ 4 := Nat.pow_le_pow_right (by decide) (by omega)
  exact or_bitF ⟨b, by omega⟩ ⟨i, hi⟩ h
theorem shl_bitF : ∀ i : Fin 4, IntKind.i64.wrap (1 * 2 ^ (min ((i.val : Nat) : Int).toNat IntKind.i64.bits)) = ((2 ^ i.val : Nat) : Int) := by decide +kernel
theorem shl_bit {i : Nat} (hi : i < 4) : IntKind.i64.wrap (1 * 2 ^ (min ((i : Nat) : Int).toNat IntKind.i64.bits)) = ((2 ^ i : Nat) : Int) := shl_bitF ⟨i, hi⟩
def findFrom (ns : List ByteArray) (k : Nat) (w : ByteArray) : Option Nat := (List.range' k (ns.length - k)).find? fun i => decide (ns[i]? = some w)
def addF (ns : List ByteArray) : List Wd → Nat → Nat → Option Nat × List Wd
  | [], _, b => (if b = 0 then none else some b, [])
  | w :: r, k, b => match findFrom ns k (bA w) with
    | none => (none, w :: r)
    | some i => addF ns r (i + 1) (b + 2 ^ i)
def addonsM (ns : List ByteArray) (R : List Wd) : Option Nat × List Wd := if isW [42] R = true then addF ns R.tail 0 0 else (some 0, R)
theorem findFrom_none {ns : List ByteArray} {k : Nat} {w : ByteArray} (h : ∀ i, k ≤ i → i < ns.length → ns[i]? ≠ some w) : findFrom ns k w = none :=
  List.find?_eq_none.2 fun i hi => by
    rw [List.mem_range'_1] at hi
    simpa using h i hi.1 (by omega)
theorem findFrom_some {ns : List ByteArray} {k i : Nat} {w : ByteArray} (hk : k ≤ i) (hi : ns[i]? = some w) (h : ∀ j, k ≤ j → j < i → ns[j]? ≠ some w) : findFrom ns k w = some i := by
  have hl : i < ns.length := (List.getElem?_eq_some_iff.1 hi).1
  unfold findFrom
  rw [List.find?_range'_eq_some]
  refine ⟨by simpa using hi, by rw [List.mem_range'_1]; omega, fun j h1 h2 => ?_⟩
  simpa using h j h1 h2
theorem addonsM_0 {ns : List ByteArray} {R : List Wd} (h : isW [42] R = false) : addonsM ns R = (some 0, R) := if_neg (by rw [h]; exact Bool.noConfusion)
theorem addonsM_1 {ns : List ByteArray} {R4 : List Wd} : addonsM ns ([42] :: R4) = addF ns R4 0 0 := if_pos (by simp [isW])
theorem addF_none {ns : List ByteArray} {w : Wd} {r : List Wd} {k b : Nat} (h : findFrom ns k (bA w) = none) : addF ns (w :: r) k b = (none, w :: r) := by rw [addF, h]
theorem addF_some {ns : List ByteArray} {w : Wd} {r : List Wd} {k b i : Nat} (h : findFrom ns k (bA w) = some i) : addF ns (w :: r) k b = addF ns r (i + 1) (b + 2 ^ i) := by rw [addF, h]
set_option maxRecDepth 100000 in
theorem addonsS {m : Mem} {l : List UInt8} {R : List Wd} (hw : WOk l R) (hl : l.length ≤ 1000000) (B : Nat) {g : Game} (hin : g.In m) (h4 : g.addons.length ≤ 4) : CallsS Tryz.prog 46 [.pointer (some ⟨B, 0, none⟩), g.val].toArray [(B, Cells 55 (scE l (R)))] m fun r σ' m' => σ' = [(B, Cells 55 (scE l ((addonsM (g.addons.map Addon.name) R).2)))] ∧ m' = m ∧ ∃ (n : Nat) (b : Bool), r = .tuple #[.int .i64 (n : Nat), .bool b] ∧ (addonsM (g.addons.map Addon.name) R).1 = if b = true then some n else none := by
  refine CallsS.ghost (R' := fun r σ' m' => ∃ τ, σ' = ((B, Cells 55 (scE l ((addonsM (g.addons.map Addon.name) R).2)))) :: τ ∧ m' = m ∧ ∃ (n : Nat) (b : Bool), r = .tuple #[.int .i64 (n : Nat), .bool b] ∧ (addonsM (g.addons.map Addon.name) R).1 = if b = true then some n else none) ?_ ?h2
  case h2 =>
    rintro r σ' m' ⟨τ, rfl, rfl, hr⟩ g0 W hC
    exact ⟨_, m', hC.sublist (List.Sublist.cons_cons _ (List.nil_sublist _)), Le.refl _, rfl, rfl, hr⟩
  dsimp only [Game.val]
  refine enter Tryz.func46 Tryz.ntmps46 rfl rfl ?_
  refine SWP_seq (SWP_region ?_)
  refine bx (v := .agg _) rfl rfl (fun B3 => ?_)
  refine pI rfl rfl ?_
  refine pB rfl rfl ?_
  refine SL_nil (nx (SWP_seq (SWP_seq (SWP_region ?_))))
  first | refine pP rfl rfl ?_ | refine pu rfl rfl ?_
  refine SL_pcallS rfl rfl cb44 (CallsS.pureIn (isI B [42]) ⟨[_], .swap _ _ _⟩) rfl ?_
  refine bsp 11 rfl (fun b11 => ?_) (fun b11 => ?_)
  · skip
    refine pB rfl rfl ?_
    refine SL_nil (nx (SWP_cf rfl (SWP_skip (nx (SWP_seq ?_)))))
    obtain ⟨R4, hR4⟩ : ∃ R4, R = [42] :: R4 := ⟨_, isW_cons (by assumption)⟩
    have hs4 := hw.sf
    have hw4 := hw.tail
    rw [hR4] at hs4 hw4
    rw [hR4]
    refine SWP_region ?_
    first | refine pP rfl rfl ?_ | refine pu rfl rfl ?_
    refine SL_call rfl rfl cb45 (CallsS.subF [_] (advI hs4 hl B) (.swap _ _ _)) rfl (fun v3_1 σ3_1 m3_1 hl3_1 hR3_1 => ?_)
    obtain ⟨σz, rfl, rfl, hm3_1⟩ := hR3_1
    have hn3_1 := hm3_1.symm
    subst hn3_1
    refine SL_nil (nx (SWP_seq (SWP_region ?_)))
    refine pI rfl rfl ?_
    refine pI rfl rfl ?_
    refine SL_nil (nx (SWP_block ?_))
    refine SWP_loop [4, 5, 6, 7, 8, 9, 15, 16, 17, 18, 19, 20, 21, 22, 23, 24, 25, 26, 27, 28, 29, 30, 31, 32, 33, 34, 35, 36, 37, 38, 39, 40, 41, 42, 43, 44, 45, 46, 47, 48, 49, 50, 51] [6, 7]
        (fun vs σ' m' => ∃ (b k : Nat) (R2 : List Wd), vs = [.int .i64 (b : Nat), .int .i64 (k : Nat)] ∧ addF (g.addons.map Addon.name) R4 0 0 = addF (g.addons.map Addon.name) R2 k b ∧ b < 2 ^ k ∧ k ≤ g.addons.length ∧ WOk l R2 ∧ σ' = ((B, Cells 55 (scE l (R2)))) :: [(B3, Cells 25 g.enc)] ∧ m = m')
        (fun vs => g.addons.length + 1 - nOf (vs.getD 1 undef)) rfl ?_ ?_
    · exact ⟨0, 0, R4, rfl, rfl, by decide, by omega, hw4, rfl, rfl⟩
    intro u0 vs0 σ0 m0 hJ0 _
    obtain ⟨b, k, R2, rfl, hadd, hbk, hk, hw2, rfl, rfl⟩ := hJ0
    refine SWP_block (SWP_seq (SWP_seq (SWP_region ?_)))
    first | refine pP rfl rfl ?_ | refine pu rfl rfl ?_
    refine pu rfl rfl ?_
    refine pu rfl rfl ?_
    refine lw (v := .bool R2.isEmpty) B 4 rfl rfl rfl rfl ?_
    refine bsp 18 rfl (fun b18 => ?_) (fun b18 => ?_)
    · skip
      refine SL_nil (nx (SWP_ct rfl (SWP_seq (SWP_region ?_))))
      first | refine pI rfl rfl ?_ | refine pu rfl rfl ?_
      first | refine pI rfl rfl ?_ | refine pu rfl rfl ?_
      refine pu rfl rfl ?_
      first | refine pI rfl rfl ?_ | refine pu rfl rfl ?_
      refine pB rfl rfl ?_
      refine SL_nil (nx (SWP_ret (nr (br (nr (br ?_))))))
      refine fin [_, _] ⟨rfl, rfl, trivial⟩ ?_
      first
        | (rw [addonsM_0 (by assumption)]; exact ⟨_, rfl, rfl, 0, true, rfl, rfl⟩)
        | (have hn : findFrom (g.addons.map Addon.name) k (bA w) = none := findFrom_none fun j h1 h2 => hno j h1 (by rw [List.length_map] at h2; omega)
           rw [addonsM_1, hadd, addF_none hn]
           exact ⟨_, rfl, rfl, 0, false, rfl, rfl⟩)
        | (have hR2 : R2 = [] := List.isEmpty_iff.1 (by assumption)
           subst hR2
           rw [addonsM_1, hadd]
           refine ⟨_, rfl, rfl, b, decide (b ≠ 0), ?_, ?_⟩
           · show Value.tuple #[.int .i64 (b : Nat), .bool (decide ((b : Int) ≠ 0))] = _
             rw [show decide ((b : Int) ≠ 0) = decide (b ≠ 0) from decide_eq_decide.2 (by omega)]
           · show (if b = 0 then none else some b) = _
             by_cases h0 : b = 0
             · rw [if_pos h0, if_neg (by simp [h0])]
             · rw [if_neg h0, if_pos (by simp [h0])])
    refine SL_nil (nx (SWP_cf rfl (SWP_skip (nx (SWP_seq ?_)))))
    obtain ⟨w, R3, rfl⟩ := ne_cons (R := R2) (by assumption)
    refine SWP_region ?_
    refine pI rfl rfl ?_
    refine SL_nil (nx (SWP_seq (SWP_seq (SWP_region ?_))))
    first | refine pI rfl rfl ?_ | refine pu rfl rfl ?_
    first | refine pI rfl rfl ?_ | refine pu rfl rfl ?_
    refine SL_nil (nx (SWP_block ?_))
    refine SWP_loop [8, 9, 23, 24, 25, 26, 27, 28, 29, 30, 31, 32, 33, 34, 35, 36, 37, 38, 39, 40, 41] [8, 9]
        (fun vs σ' m' => ∃ (i : Nat), vs = [.int .i64 (-1), .int .i64 (i : Nat)] ∧ k ≤ i ∧ i ≤ g.addons.length ∧ (∀ j, k ≤ j → j < i → (g.addons.map Addon.name)[j]? ≠ some (bA w)) ∧ σ' = ((B, Cells 55 (scE l (w :: R3)))) :: [(B3, Cells 25 g.enc)] ∧ m = m')
        (fun vs => g.addons.length - nOf (vs.getD 1 undef)) rfl ?_ ?_
    · exact ⟨k, rfl, Nat.le_refl _, hk, fun j h1 h2 => (by omega), rfl, rfl⟩
    intro u1 vs1 σ1 m1 hJ1 _
    obtain ⟨i, rfl, hki, hi, hno, rfl, rfl⟩ := hJ1
    refine SWP_seq (SWP_seq (SWP_region ?_))
    first | refine pI rfl rfl ?_ | refine pu rfl rfl ?_
    refine pu rfl rfl ?_
    refine lw (v := .slice _ _ _) B3 20 rfl rfl rfl rfl ?_
    refine pu rfl rfl ?_
    refine pc rfl rfl (fun c27 => ?_) (fun c27 => ?_)
    · skip
      refine SL_nil (nx (SWP_ct rfl (SWP_skip (nx (SWP_seq (SWP_block (SWP_seq ?_)))))))
      obtain ⟨a, ha⟩ : ∃ a, g.addons[i]? = some a := ⟨_, List.getElem?_eq_getElem (by omega)⟩
      obtain ⟨ad, e0, _, hat⟩ := hin.ads.atA Addon.enc_len ha
      have hnm : (g.addons.map Addon.name)[i]? = some a.name := by rw [List.getElem?_map, ha]; rfl
      refine SWP_draws (by kernel_rfl) (by kernel_rfl) ?_
      refine pu rfl rfl ?_
      refine lw (v := .slice _ _ _) B3 20 rfl rfl rfl rfl ?_
      first | refine pI rfl rfl ?_ | refine pu rfl rfl ?_
      rw [e0]
      refine ia (es := 6) rfl rfl rfl rfl rfl rfl (by omega) rfl ?_
      rw [← e0]
      refine pu rfl rfl ?_
      refine ldF (v := .string a.name) rfl rfl hat rfl rfl ?_
      first | refine pP rfl rfl ?_ | refine pu rfl rfl ?_
      refine pu rfl rfl ?_
      refine pu rfl rfl ?_
      refine lw (v := .string (bA w)) B 2 rfl rfl rfl rfl ?_
      refine pc rfl rfl (fun c40 => ?_) (fun c40 => ?_)
      · skip
        refine SL_nil (nx (SWP_ct rfl (SWP_seq (SWP_region ?_))))
        first | refine pI rfl rfl ?_ | refine pu rfl rfl ?_
        refine pu rfl rfl ?_
        refine SL_nil (nx (SWP_exit (bo rfl (ne (ne (be rfl (nx (SWP_seq (SWP_seq (SWP_region ?_))))))))))
        first | refine pI rfl rfl ?_ | refine pu rfl rfl ?_
        refine pn rfl rfl (by omega) ?_
        refine SL_nil (nx (SWP_cf rfl (SWP_skip (nx (SWP_seq ?_)))))
        have hfs : findFrom (g.addons.map Addon.name) k (bA w) = some i := findFrom_some hki (by rw [hnm, show a.name = bA w by assumption]) hno
        have hb2 := Nat.lt_of_lt_of_le hbk (Nat.pow_le_pow_right (by decide : 0 < 2) hki)
        have hi4 : i < 4 := by omega
        have hp4 : 2 ^ i ≤ 2 ^ 3 := Nat.pow_le_pow_right (by decide) (by omega)
        refine SWP_region ?_
        first | refine pI rfl rfl ?_ | refine pu rfl rfl ?_
        first | refine pI rfl rfl ?_ | refine pu rfl rfl ?_
        refine pshl rfl rfl (by omega) (shl_bit hi4) rfl ?_
        refine pu (v := .int .i64 (bits .or .i64 (b : Nat) ((2 ^ i : Nat) : Int))) rfl rfl ?_
        rw [or_bit hi4 hb2]
        first | refine pI rfl rfl ?_ | refine pu rfl rfl ?_
        refine SL_nil (nx (SWP_seq (SWP_region ?_)))
        first | refine pI rfl rfl ?_ | refine pu rfl rfl ?_
        first | refine pw rfl rfl (w64 (by omega) (by omega)) ?_ | refine pu rfl rfl ?_
        refine pI rfl rfl ?_
        refine SL_nil (nx (SWP_region ?_))
        first | refine pP rfl rfl ?_ | refine pu rfl rfl ?_
        refine SL_call rfl rfl cb45 (CallsS.subF [_] (advI hw2.sf hl B) (.refl _)) rfl (fun v17_1 σ17_1 m17_1 hl17_1 hR17_1 => ?_)
        obtain ⟨σz, rfl, rfl, hm17_1⟩ := hR17_1
        have hn17_1 := hm17_1.symm
        subst hn17_1
        refine SL_nil (nb (nx ?_))
        refine ⟨by repeat (first | exact Under.upds rfl (Under.hav _ _ _) | exact Under.hav _ _ _ | refine Under.upd rfl ?_ | refine Under.upds rfl ?_ | refine Under.hav2 rfl ?_), ?_, ?_⟩
        · refine ⟨b + 2 ^ i, i + 1, R3, rfl, hadd.trans (addF_some hfs), ?_, by omega, hw2.tail, rfl, rfl⟩
          rw [Nat.pow_succ]; omega
        · simp only [L_vals, List.map, List.getD]; show g.addons.length + 1 - (i + 1) < g.addons.length + 1 - k; omega
      refine SL_nil (nx (SWP_cf rfl (SWP_skip (nb (nx (SWP_region ?_))))))
      first | refine pI rfl rfl ?_ | refine pu rfl rfl ?_
      first | refine pw rfl rfl (w64 (by omega) (by omega)) ?_ | refine pu rfl rfl ?_
      refine pI rfl rfl ?_
      refine SL_nil (nx ?_)
      refine ⟨by repeat (first | exact Under.upds rfl (Under.hav _ _ _) | exact Under.hav _ _ _ | refine Under.upd rfl ?_ | refine Under.upds rfl ?_ | refine Under.hav2 rfl ?_), ?_, ?_⟩
      · refine ⟨i + 1, rfl, by omega, by omega, fun j h1 h2 => ?_, rfl, rfl⟩
        by_cases e : j = i
        · subst e
          rw [hnm]
          intro e2
          exact absurd (Option.some.inj e2) (by assumption)
        · exact hno j h1 (by omega)
      · simp only [L_vals, List.map, List.getD]; show g.addons.length - (i + 1) < g.addons.length - i; omega
    refine SL_nil (nx (SWP_cf rfl (SWP_exit (ne (ne (be rfl (nx (SWP_seq (SWP_seq (SWP_region ?_))))))))))
    first | refine pI rfl rfl ?_ | refine pu rfl rfl ?_
    refine pt rfl rfl (by omega) ?_
    refine SL_nil (nx (SWP_ct rfl (SWP_seq (SWP_region ?_))))
    refine pI rfl rfl ?_
    refine pB rfl rfl ?_
    refine SL_nil (nx (SWP_ret (nr (br (nr (br ?_))))))
    refine fin [_, _] ⟨rfl, rfl, trivial⟩ ?_
    first
      | (rw [addonsM_0 (by assumption)]; exact ⟨_, rfl, rfl, 0, true, rfl, rfl⟩)
      | (have hn : findFrom (g.addons.map Addon.name) k (bA w) = none := findFrom_none fun j h1 h2 => hno j h1 (by rw [List.length_map] at h2; omega)
         rw [addonsM_1, hadd, addF_none hn]
         exact ⟨_, rfl, rfl, 0, false, rfl, rfl⟩)
      | (have hR2 : R2 = [] := List.isEmpty_iff.1 (by assumption)
         subst hR2
         rw [addonsM_1, hadd]
         refine ⟨_, rfl, rfl, b, decide (b ≠ 0), ?_, ?_⟩
         · show Value.tuple #[.int .i64 (b : Nat), .bool (decide ((b : Int) ≠ 0))] = _
           rw [show decide ((b : Int) ≠ 0) = decide (b ≠ 0) from decide_eq_decide.2 (by omega)]
         · show (if b = 0 then none else some b) = _
           by_cases h0 : b = 0
           · rw [if_pos h0, if_neg (by simp [h0])]
           · rw [if_neg h0, if_pos (by simp [h0])])
  refine pB rfl rfl ?_
  refine SL_nil (nx (SWP_ct rfl (SWP_seq ?_)))
  refine SWP_perm (.swap _ _ _) ?_
  refine SWP_region ?_
  refine pI rfl rfl ?_
  refine pB rfl rfl ?_
  refine SL_nil (nx (SWP_ret (nr ?_)))
  refine fin [_, _] ⟨rfl, rfl, trivial⟩ ?_
  first
    | (rw [addonsM_0 (by assumption)]; exact ⟨_, rfl, rfl, 0, true, rfl, rfl⟩)
    | (have hn : findFrom (g.addons.map Addon.name) k (bA w) = none := findFrom_none fun j h1 h2 => hno j h1 (by rw [List.length_map] at h2; omega)
       rw [addonsM_1, hadd, addF_none hn]
       exact ⟨_, rfl, rfl, 0, false, rfl, rfl⟩)
    | (have hR2 : R2 = [] := List.isEmpty_iff.1 (by assumption)
       subst hR2
       rw [addonsM_1, hadd]
       refine ⟨_, rfl, rfl, b, decide (b ≠ 0), ?_, ?_⟩
       · show Value.tuple #[.int .i64 (b : Nat), .bool (decide ((b : Int) ≠ 0))] = _
         rw [show decide ((b : Int) ≠ 0) = decide (b ≠ 0) from decide_eq_decide.2 (by omega)]
       · show (if b = 0 then none else some b) = _
         by_cases h0 : b = 0
         · rw [if_pos h0, if_neg (by simp [h0])]
         · rw [if_neg h0, if_pos (by simp [h0])])
end Go.Proofs.YtifjhpaoejageaaGreatDoor
namespace Go.Proofs.YtifjhpaoejageaaGreatDoor
open Eng
theorem WOk.lines {l : List UInt8} : ∀ (f : Nat) {R : List Wd} (acc : List LnK), WOk l R → WOk l (linesF f R acc).2
  | 0, _, _, h => h
  | f + 1, R, acc, h => by
    rw [linesF]
    split
    · exact h.line
    · split
      · exact WOk.lines f _ h.line.tail
      · exact h.line
def sysM (R : List Wd) : Bool × List Wd := if isW [115, 121, 115] R = true then (true, R.tail) else (false, R)
abbrev BetM := List LnK × Bool × Int × Nat
def readM (ns : List ByteArray) (R : List Wd) : Option BetM × List Wd :=
  match (linesM R).1 with
  | none => (none, (linesM R).2)
  | some L => match (drawsM (linesM R).2).1 with
    | none => (none, (drawsM (linesM R).2).2)
    | some d => match (addonsM ns (sysM (drawsM (linesM R).2).2).2).1 with
      | none => (none, (addonsM ns (sysM (drawsM (linesM R).2).2).2).2)
      | some a => if (addonsM ns (sysM (drawsM (linesM R).2).2).2).2 = [] then (some (L, (sysM (drawsM (linesM R).2).2).1, d, a), []) else (none, (addonsM ns (sysM (drawsM (linesM R).2).2).2).2)
theorem readM_1 {ns : List ByteArray} {R : List Wd} (h : (linesM R).1 = none) : readM ns R = (none, (linesM R).2) := by unfold readM; rw [h]
theorem readM_2 {ns : List ByteArray} {R : List Wd} {L : List LnK} (h : (linesM R).1 = some L) (h2 : (drawsM (linesM R).2).1 = none) : readM ns R = (none, (drawsM (linesM R).2).2) := by unfold readM; rw [h, h2]
theorem readM_3 {ns : List ByteArray} {R R3 : List Wd} {L : List LnK} {d : Int} {s : Bool} (h : (linesM R).1 = some L) (h2 : (drawsM (linesM R).2).1 = some d) (h3 : sysM (drawsM (linesM R).2).2 = (s, R3)) (h4 : (addonsM ns R3).1 = none) : readM ns R = (none, (addonsM ns R3).2) := by
  unfold readM; rw [h, h2, h3]
  show (match (addonsM ns R3).1 with | none => _ | some a => _) = _
  rw [h4]
theorem readM_4 {ns : List ByteArray} {R R3 : List Wd} {L : List LnK} {d : Int} {s : Bool} {a : Nat} (h : (linesM R).1 = some L) (h2 : (drawsM (linesM R).2).1 = some d) (h3 : sysM (drawsM (linesM R).2).2 = (s, R3)) (h4 : (addonsM ns R3).1 = some a) : readM ns R = if (addonsM ns R3).2 = [] then (some (L, s, d, a), []) else (none, (addonsM ns R3).2) := by
  unfold readM; rw [h, h2, h3]
  show (match (addonsM ns R3).1 with | none => _ | some a => _) = _
  rw [h4]
theorem sysM_0 {R : List Wd} (h : isW [115, 121, 115] R = false) : sysM R = (false, R) := if_neg (by rw [h]; exact Bool.noConfusion)
theorem sysM_1 {R R' : List Wd} (h : R = [115, 121, 115] :: R') : sysM R = (true, R') := by subst h; exact if_pos (by simp [isW])
theorem permD {α : Type} (a b c d : α) : [a, b, c, d].Perm [d, a, b, c] := by
  classical
  rw [List.perm_iff_count]
  intro y
  simp only [List.count_cons, List.count_nil]
  omega
def ReadRes (o : Option BetM) (r : Value) (m : Mem) : Prop := ∃ (bt : Bet) (n : Nat) (b : Bool), r = .tuple #[bt.val, .bool b] ∧ bt.In m ∧ bt.addons = n ∧ o = if b = true then some (bt.lines.map Line.keyL, bt.system, bt.draws, n) else none
set_option maxRecDepth 100000 in
theorem readS {m : Mem} {l : List UInt8} {R : List Wd} (hw : WOk l R) (hl : l.length ≤ 1000000) (B : Nat) {g : Game} (hin : g.In m) (h4 : g.addons.length ≤ 4) : CallsS Tryz.prog 21 [.pointer (some ⟨B, 0, none⟩), g.val].toArray [(B, Cells 55 (scE l (R)))] m fun r σ' m' => σ' = [(B, Cells 55 (scE l ((readM (g.addons.map Addon.name) R).2)))] ∧ ReadRes (readM (g.addons.map Addon.name) R).1 r m' := by
  refine CallsS.ghost (R' := fun r σ' m' => ∃ τ, σ' = ((B, Cells 55 (scE l ((readM (g.addons.map Addon.name) R).2)))) :: τ ∧ ReadRes (readM (g.addons.map Addon.name) R).1 r m') ?_ ?h2
  case h2 =>
    rintro r σ' m' ⟨τ, rfl, hr⟩ g0 W hC
    exact ⟨_, m', hC.sublist (List.Sublist.cons_cons _ (List.nil_sublist _)), Le.refl _, rfl, hr⟩
  have hw1 : WOk l (linesM R).2 := WOk.lines _ _ hw
  have hw2 := hw1.draws
  dsimp only [Game.val]
  refine enter Tryz.func21 Tryz.ntmps21 rfl rfl ?_
  refine SWP_seq (SWP_region ?_)
  refine bx (v := .agg _) rfl rfl (fun B3 => ?_)
  refine al rfl rfl (fun B4 => ?_)
  refine pB rfl rfl ?_
  refine SL_nil (nx (SWP_seq (SWP_region ?_)))
  refine al rfl rfl (fun B6 => ?_)
  refine SL_nil (nx (SWP_seq (SWP_region ?_)))
  refine pB rfl rfl ?_
  refine SL_nil (nx (SWP_seq (SWP_seq (SWP_region ?_))))
  first | refine pP rfl rfl ?_ | refine pu rfl rfl ?_
  refine SL_call rfl rfl cb42 (CallsS.subF [_, _, _] (linesS hw hl B) (permD _ _ _ _)) rfl (fun v3_1 σ3_1 m3_1 hl3_1 hR3_1 => ?_)
  obtain ⟨σz, rfl, rfl, L, la, lc, bl, rfl, hL, hLi, hlm⟩ := hR3_1
  rw [List.singleton_append]
  refine pu rfl rfl ?_
  first | refine pL rfl rfl ?_ | refine pu rfl rfl ?_
  first | refine pB rfl rfl ?_ | refine pu rfl rfl ?_
  refine bsp 12 rfl (fun b12 => ?_) (fun b12 => ?_)
  · skip
    refine pu rfl rfl ?_
    refine sw (v := .slice _ _ _) B6 0 rfl rfl rfl rfl rfl rfl rfl ?_
    first | refine pB rfl rfl ?_ | refine pu rfl rfl ?_
    refine SL_nil (nx (SWP_seq (SWP_region ?_)))
    first | refine pB rfl rfl ?_ | refine pu rfl rfl ?_
    refine pB rfl rfl ?_
    refine SL_nil (nx (SWP_cf rfl (SWP_skip (nx (SWP_seq (SWP_seq (SWP_region ?_)))))))
    first | refine pP rfl rfl ?_ | refine pu rfl rfl ?_
    refine SL_call rfl rfl cb43 (CallsS.subF [_, _, _] (drawsS hw1 hl B) (.refl _)) rfl (fun v6_1 σ6_1 m6_1 hl6_1 hR6_1 => ?_)
    obtain ⟨σz, rfl, rfl, hm6_1, dn, bd, rfl, hdm⟩ := hR6_1
    have hn6_1 := hm6_1.symm
    subst hn6_1
    rw [List.singleton_append]
    refine pu rfl rfl ?_
    first | refine pI rfl rfl ?_ | refine pu rfl rfl ?_
    first | refine pB rfl rfl ?_ | refine pu rfl rfl ?_
    refine bsp 21 rfl (fun b21 => ?_) (fun b21 => ?_)
    · skip
      refine pu rfl rfl ?_
      refine sw (v := .int .i64 _) B6 2 rfl rfl rfl rfl rfl rfl rfl ?_
      first | refine pB rfl rfl ?_ | refine pu rfl rfl ?_
      refine SL_nil (nx (SWP_seq (SWP_region ?_)))
      first | refine pB rfl rfl ?_ | refine pu rfl rfl ?_
      refine pB rfl rfl ?_
      refine SL_nil (nx (SWP_cf rfl (SWP_skip (nx (SWP_seq (SWP_seq (SWP_region ?_)))))))
      first | refine pP rfl rfl ?_ | refine pu rfl rfl ?_
      refine SL_pcallS rfl rfl cb44 (CallsS.pureIn (isI B [115, 121, 115]) ⟨[_, _, _], .refl _⟩) rfl ?_
      refine bsp 27 rfl (fun b27 => ?_) (fun b27 => ?_)
      · skip
        refine SL_nil (nx (SWP_ct rfl (SWP_seq (SWP_region ?_))))
        refine pu rfl rfl ?_
        refine sw (v := .bool _) B6 1 rfl rfl rfl rfl rfl rfl rfl ?_
        refine SL_nil (nx ?_)
        obtain ⟨R4, hR4⟩ : ∃ R4, (drawsM (linesM R).2).2 = [115, 121, 115] :: R4 := ⟨_, isW_cons (by assumption)⟩
        have hsy := sysM_1 hR4
        have hs4 := hw2.sf
        have hw4 : WOk l R4 := by have h5 := hw2.tail; rw [hR4] at h5; exact h5
        rw [hR4] at hs4
        rw [hR4]
        refine SWP_region ?_
        first | refine pP rfl rfl ?_ | refine pu rfl rfl ?_
        refine SL_call rfl rfl cb45 (CallsS.subF [_, _, _] (advI hs4 hl B) (.refl _)) rfl (fun v11_1 σ11_1 m11_1 hl11_1 hR11_1 => ?_)
        obtain ⟨σz, rfl, rfl, hm11_1⟩ := hR11_1
        have hn11_1 := hm11_1.symm
        subst hn11_1
        rw [List.singleton_append]
        refine SL_nil (nx (SWP_seq (SWP_seq ?_)))
        have hall : ∃ (s : Bool) (R3 : List Wd), sysM (drawsM (linesM R).2).2 = (s, R3) ∧ WOk l R3 := ⟨_, _, by first | exact hsy | exact sysM_0 (by assumption), by first | exact hw4 | exact hw2⟩
        have hw4 := (show WOk l _ by first | exact hw4 | exact hw2)
        have hsy := (show sysM (drawsM (linesM R).2).2 = _ by first | exact hsy | exact sysM_0 (by assumption))
        refine SWP_region ?_
        first | refine pP rfl rfl ?_ | refine pu rfl rfl ?_
        refine lw (v := .agg _) B3 0 rfl rfl rfl rfl ?_
        refine SL_call rfl rfl cb46 (CallsS.subF [_, _, _] (addonsS hw4 hl B (hin.mono hl3_1) h4) (.refl _)) rfl (fun v12_2 σ12_2 m12_2 hl12_2 hR12_2 => ?_)
        obtain ⟨σz, rfl, rfl, hm12_2, an, ba, rfl, ham⟩ := hR12_2
        have hn12_2 := hm12_2.symm
        subst hn12_2
        rw [List.singleton_append]
        refine pu rfl rfl ?_
        first | refine pI rfl rfl ?_ | refine pu rfl rfl ?_
        first | refine pB rfl rfl ?_ | refine pu rfl rfl ?_
        refine bsp 36 rfl (fun b36 => ?_) (fun b36 => ?_)
        · skip
          refine pu rfl rfl ?_
          refine sw (v := .int .i64 _) B6 3 rfl rfl rfl rfl rfl rfl rfl ?_
          first | refine pB rfl rfl ?_ | refine pu rfl rfl ?_
          refine SL_nil (nx (SWP_seq (SWP_region ?_)))
          first | refine pB rfl rfl ?_ | refine pu rfl rfl ?_
          refine pB rfl rfl ?_
          refine SL_nil (nx (SWP_cf rfl (SWP_skip (nx (SWP_seq ?_)))))
          refine SWP_drawn [_, _] [0, 1, 2, 3, 4, 5, 6] (by kernel_rfl) (by kernel_rfl) (Sub.cons2 _ (Sub.cons2 _ (Sub.nil _))) ?_
          refine lw (v := .agg _) B6 0 rfl rfl rfl rfl ?_
          first | refine pP rfl rfl ?_ | refine pu rfl rfl ?_
          refine pu rfl rfl ?_
          refine pu rfl rfl ?_
          refine lw (v := .bool _) B 4 rfl rfl rfl rfl ?_
          refine sw (v := .agg _) B4 0 rfl rfl rfl rfl rfl rfl rfl ?_
          refine pB rfl rfl ?_
          refine SL_nil (nx (SWP_ret ?_))
          refine fin [_, _] ⟨⟨_, _, rfl, Rd.of_cells (MemO.mem (B := B4)), rfl⟩, rfl, trivial⟩ ?_
          first
            | (cases (show bl = false by assumption)
               rw [readM_1 (hlm.trans (if_neg Bool.noConfusion))]
               exact ⟨_, rfl, ⟨la, lc, L, false, 0, 0⟩, 0, false, rfl, ⟨hL, hLi⟩, rfl, rfl⟩)
            | (cases (show bl = true by assumption)
               cases (show bd = false by assumption)
               rw [readM_2 (hlm.trans (if_pos rfl)) (hdm.trans (if_neg Bool.noConfusion))]
               exact ⟨_, rfl, ⟨la, lc, L, false, dn, 0⟩, 0, false, rfl, ⟨hL, hLi⟩, rfl, rfl⟩)
            | (cases (show bl = true by assumption)
               cases (show bd = true by assumption)
               cases (show ba = false by assumption)
               rw [readM_3 (hlm.trans (if_pos rfl)) (hdm.trans (if_pos rfl)) hsy (ham.trans (if_neg Bool.noConfusion))]
               exact ⟨_, rfl, ⟨la, lc, L, _, dn, an⟩, an, false, rfl, ⟨hL, hLi⟩, rfl, rfl⟩)
            | (cases (show bl = true by assumption)
               cases (show bd = true by assumption)
               cases (show ba = true by assumption)
               have h := readM_4 (hlm.trans (if_pos rfl)) (hdm.trans (if_pos rfl)) hsy (ham.trans (if_pos rfl))
               rw [h]
               clear h
               generalize (addonsM (List.map Addon.name g.addons) _).2 = X
               cases X with
               | nil => exact ⟨_, rfl, ⟨la, lc, L, _, dn, an⟩, an, true, rfl, ⟨hL, hLi⟩, rfl, rfl⟩
               | cons w X => exact ⟨_, rfl, ⟨la, lc, L, _, dn, an⟩, an, false, rfl, ⟨hL, hLi⟩, rfl, rfl⟩)
        refine pu rfl rfl ?_
        refine sw (v := .int .i64 _) B6 3 rfl rfl rfl rfl rfl rfl rfl ?_
        first | refine pB rfl rfl ?_ | refine pu rfl rfl ?_
        refine SL_nil (nx (SWP_seq (SWP_region ?_)))
        first | refine pB rfl rfl ?_ | refine pu rfl rfl ?_
        refine pB rfl rfl ?_
        refine SL_nil (nx (SWP_ct rfl (SWP_seq (SWP_region ?_))))
        refine lw (v := .agg _) B6 0 rfl rfl rfl rfl ?_
        refine sw (v := .agg _) B4 0 rfl rfl rfl rfl rfl rfl rfl ?_
        refine pB rfl rfl ?_
        refine SL_nil (nx (SWP_ret (nr ?_)))
        refine fin [_, _] ⟨⟨_, _, rfl, Rd.of_cells (MemO.mem (B := B4)), rfl⟩, rfl, trivial⟩ ?_
        first
          | (cases (show bl = false by assumption)
             rw [readM_1 (hlm.trans (if_neg Bool.noConfusion))]
             exact ⟨_, rfl, ⟨la, lc, L, false, 0, 0⟩, 0, false, rfl, ⟨hL, hLi⟩, rfl, rfl⟩)
          | (cases (show bl = true by assumption)
             cases (show bd = false by assumption)
             rw [readM_2 (hlm.trans (if_pos rfl)) (hdm.trans (if_neg Bool.noConfusion))]
             exact ⟨_, rfl, ⟨la, lc, L, false, dn, 0⟩, 0, false, rfl, ⟨hL, hLi⟩, rfl, rfl⟩)
          | (cases (show bl = true by assumption)
             cases (show bd = true by assumption)
             cases (show ba = false by assumption)
             rw [readM_3 (hlm.trans (if_pos rfl)) (hdm.trans (if_pos rfl)) hsy (ham.trans (if_neg Bool.noConfusion))]
             exact ⟨_, rfl, ⟨la, lc, L, _, dn, an⟩, an, false, rfl, ⟨hL, hLi⟩, rfl, rfl⟩)
          | (cases (show bl = true by assumption)
             cases (show bd = true by assumption)
             cases (show ba = true by assumption)
             have h := readM_4 (hlm.trans (if_pos rfl)) (hdm.trans (if_pos rfl)) hsy (ham.trans (if_pos rfl))
             rw [h]
             clear h
             generalize (addonsM (List.map Addon.name g.addons) _).2 = X
             cases X with
             | nil => exact ⟨_, rfl, ⟨la, lc, L, _, dn, an⟩, an, true, rfl, ⟨hL, hLi⟩, rfl, rfl⟩
             | cons w X => exact ⟨_, rfl, ⟨la, lc, L, _, dn, an⟩, an, false, rfl, ⟨hL, hLi⟩, rfl, rfl⟩)
      refine SL_nil (nx (SWP_cf rfl (SWP_skip (nx (SWP_seq (SWP_seq ?_))))))
      have hall : ∃ (s : Bool) (R3 : List Wd), sysM (drawsM (linesM R).2).2 = (s, R3) ∧ WOk l R3 := ⟨_, _, by first | exact hsy | exact sysM_0 (by assumption), by first | exact hw4 | exact hw2⟩
      have hw4 := (show WOk l _ by first | exact hw4 | exact hw2)
      have hsy := (show sysM (drawsM (linesM R).2).2 = _ by first | exact hsy | exact sysM_0 (by assumption))
      refine SWP_region ?_
      first | refine pP rfl rfl ?_ | refine pu rfl rfl ?_
      refine lw (v := .agg _) B3 0 rfl rfl rfl rfl ?_
      refine SL_call rfl rfl cb46 (CallsS.subF [_, _, _] (addonsS hw4 hl B (hin.mono hl3_1) h4) (.refl _)) rfl (fun v12_2 σ12_2 m12_2 hl12_2 hR12_2 => ?_)
      obtain ⟨σz, rfl, rfl, hm12_2, an, ba, rfl, ham⟩ := hR12_2
      have hn12_2 := hm12_2.symm
      subst hn12_2
      rw [List.singleton_append]
      refine pu rfl rfl ?_
      first | refine pI rfl rfl ?_ | refine pu rfl rfl ?_
      first | refine pB rfl rfl ?_ | refine pu rfl rfl ?_
      refine bsp 36 rfl (fun b36 => ?_) (fun b36 => ?_)
      · skip
        refine pu rfl rfl ?_
        refine sw (v := .int .i64 _) B6 3 rfl rfl rfl rfl rfl rfl rfl ?_
        first | refine pB rfl rfl ?_ | refine pu rfl rfl ?_
        refine SL_nil (nx (SWP_seq (SWP_region ?_)))
        first | refine pB rfl rfl ?_ | refine pu rfl rfl ?_
        refine pB rfl rfl ?_
        refine SL_nil (nx (SWP_cf rfl (SWP_skip (nx (SWP_seq ?_)))))
        refine SWP_drawn [_, _] [0, 1, 2, 3, 4, 5, 6] (by kernel_rfl) (by kernel_rfl) (Sub.cons2 _ (Sub.cons2 _ (Sub.nil _))) ?_
        refine lw (v := .agg _) B6 0 rfl rfl rfl rfl ?_
        first | refine pP rfl rfl ?_ | refine pu rfl rfl ?_
        refine pu rfl rfl ?_
        refine pu rfl rfl ?_
        refine lw (v := .bool _) B 4 rfl rfl rfl rfl ?_
        refine sw (v := .agg _) B4 0 rfl rfl rfl rfl rfl rfl rfl ?_
        refine pB rfl rfl ?_
        refine SL_nil (nx (SWP_ret ?_))
        refine fin [_, _] ⟨⟨_, _, rfl, Rd.of_cells (MemO.mem (B := B4)), rfl⟩, rfl, trivial⟩ ?_
        first
          | (cases (show bl = false by assumption)
             rw [readM_1 (hlm.trans (if_neg Bool.noConfusion))]
             exact ⟨_, rfl, ⟨la, lc, L, false, 0, 0⟩, 0, false, rfl, ⟨hL, hLi⟩, rfl, rfl⟩)
          | (cases (show bl = true by assumption)
             cases (show bd = false by assumption)
             rw [readM_2 (hlm.trans (if_pos rfl)) (hdm.trans (if_neg Bool.noConfusion))]
             exact ⟨_, rfl, ⟨la, lc, L, false, dn, 0⟩, 0, false, rfl, ⟨hL, hLi⟩, rfl, rfl⟩)
          | (cases (show bl = true by assumption)
             cases (show bd = true by assumption)
             cases (show ba = false by assumption)
             rw [readM_3 (hlm.trans (if_pos rfl)) (hdm.trans (if_pos rfl)) hsy (ham.trans (if_neg Bool.noConfusion))]
             exact ⟨_, rfl, ⟨la, lc, L, _, dn, an⟩, an, false, rfl, ⟨hL, hLi⟩, rfl, rfl⟩)
          | (cases (show bl = true by assumption)
             cases (show bd = true by assumption)
             cases (show ba = true by assumption)
             have h := readM_4 (hlm.trans (if_pos rfl)) (hdm.trans (if_pos rfl)) hsy (ham.trans (if_pos rfl))
             rw [h]
             clear h
             generalize (addonsM (List.map Addon.name g.addons) _).2 = X
             cases X with
             | nil => exact ⟨_, rfl, ⟨la, lc, L, _, dn, an⟩, an, true, rfl, ⟨hL, hLi⟩, rfl, rfl⟩
             | cons w X => exact ⟨_, rfl, ⟨la, lc, L, _, dn, an⟩, an, false, rfl, ⟨hL, hLi⟩, rfl, rfl⟩)
      refine pu rfl rfl ?_
      refine sw (v := .int .i64 _) B6 3 rfl rfl rfl rfl rfl rfl rfl ?_
      first | refine pB rfl rfl ?_ | refine pu rfl rfl ?_
      refine SL_nil (nx (SWP_seq (SWP_region ?_)))
      first | refine pB rfl rfl ?_ | refine pu rfl rfl ?_
      refine pB rfl rfl ?_
      refine SL_nil (nx (SWP_ct rfl (SWP_seq (SWP_region ?_))))
      refine lw (v := .agg _) B6 0 rfl rfl rfl rfl ?_
      refine sw (v := .agg _) B4 0 rfl rfl rfl rfl rfl rfl rfl ?_
      refine pB rfl rfl ?_
      refine SL_nil (nx (SWP_ret (nr ?_)))
      refine fin [_, _] ⟨⟨_, _, rfl, Rd.of_cells (MemO.mem (B := B4)), rfl⟩, rfl, trivial⟩ ?_
      first
        | (cases (show bl = false by assumption)
           rw [readM_1 (hlm.trans (if_neg Bool.noConfusion))]
           exact ⟨_, rfl, ⟨la, lc, L, false, 0, 0⟩, 0, false, rfl, ⟨hL, hLi⟩, rfl, rfl⟩)
        | (cases (show bl = true by assumption)
           cases (show bd = false by assumption)
           rw [readM_2 (hlm.trans (if_pos rfl)) (hdm.trans (if_neg Bool.noConfusion))]
           exact ⟨_, rfl, ⟨la, lc, L, false, dn, 0⟩, 0, false, rfl, ⟨hL, hLi⟩, rfl, rfl⟩)
        | (cases (show bl = true by assumption)
           cases (show bd = true by assumption)
           cases (show ba = false by assumption)
           rw [readM_3 (hlm.trans (if_pos rfl)) (hdm.trans (if_pos rfl)) hsy (ham.trans (if_neg Bool.noConfusion))]
           exact ⟨_, rfl, ⟨la, lc, L, _, dn, an⟩, an, false, rfl, ⟨hL, hLi⟩, rfl, rfl⟩)
        | (cases (show bl = true by assumption)
           cases (show bd = true by assumption)
           cases (show ba = true by assumption)
           have h := readM_4 (hlm.trans (if_pos rfl)) (hdm.trans (if_pos rfl)) hsy (ham.trans (if_pos rfl))
           rw [h]
           clear h
           generalize (addonsM (List.map Addon.name g.addons) _).2 = X
           cases X with
           | nil => exact ⟨_, rfl, ⟨la, lc, L, _, dn, an⟩, an, true, rfl, ⟨hL, hLi⟩, rfl, rfl⟩
           | cons w X => exact ⟨_, rfl, ⟨la, lc, L, _, dn, an⟩, an, false, rfl, ⟨hL, hLi⟩, rfl, rfl⟩)
    refine pu rfl rfl ?_
    refine sw (v := .int .i64 _) B6 2 rfl rfl rfl rfl rfl rfl rfl ?_
    first | refine pB rfl rfl ?_ | refine pu rfl rfl ?_
    refine SL_nil (nx (SWP_seq (SWP_region ?_)))
    first | refine pB rfl rfl ?_ | refine pu rfl rfl ?_
    refine pB rfl rfl ?_
    refine SL_nil (nx (SWP_ct rfl (SWP_seq (SWP_region ?_))))
    refine lw (v := .agg _) B6 0 rfl rfl rfl rfl ?_
    refine sw (v := .agg _) B4 0 rfl rfl rfl rfl rfl rfl rfl ?_
    refine pB rfl rfl ?_
    refine SL_nil (nx (SWP_ret (nr ?_)))
    refine fin [_, _] ⟨⟨_, _, rfl, Rd.of_cells (MemO.mem (B := B4)), rfl⟩, rfl, trivial⟩ ?_
    first
      | (cases (show bl = false by assumption)
         rw [readM_1 (hlm.trans (if_neg Bool.noConfusion))]
         exact ⟨_, rfl, ⟨la, lc, L, false, 0, 0⟩, 0, false, rfl, ⟨hL, hLi⟩, rfl, rfl⟩)
      | (cases (show bl = true by assumption)
         cases (show bd = false by assumption)
         rw [readM_2 (hlm.trans (if_pos rfl)) (hdm.trans (if_neg Bool.noConfusion))]
         exact ⟨_, rfl, ⟨la, lc, L, false, dn, 0⟩, 0, false, rfl, ⟨hL, hLi⟩, rfl, rfl⟩)
      | (cases (show bl = true by assumption)
         cases (show bd = true by assumption)
         cases (show ba = false by assumption)
         rw [readM_3 (hlm.trans (if_pos rfl)) (hdm.trans (if_pos rfl)) hsy (ham.trans (if_neg Bool.noConfusion))]
         exact ⟨_, rfl, ⟨la, lc, L, _, dn, an⟩, an, false, rfl, ⟨hL, hLi⟩, rfl, rfl⟩)
      | (cases (show bl = true by assumption)
         cases (show bd = true by assumption)
         cases (show ba = true by assumption)
         have h := readM_4 (hlm.trans (if_pos rfl)) (hdm.trans (if_pos rfl)) hsy (ham.trans (if_pos rfl))
         rw [h]
         clear h
         generalize (addonsM (List.map Addon.name g.addons) _).2 = X
         cases X with
         | nil => exact ⟨_, rfl, ⟨la, lc, L, _, dn, an⟩, an, true, rfl, ⟨hL, hLi⟩, rfl, rfl⟩
         | cons w X => exact ⟨_, rfl, ⟨la, lc, L, _, dn, an⟩, an, false, rfl, ⟨hL, hLi⟩, rfl, rfl⟩)
  refine pu rfl rfl ?_
  refine sw (v := .slice _ _ _) B6 0 rfl rfl rfl rfl rfl rfl rfl ?_
  first | refine pB rfl rfl ?_ | refine pu rfl rfl ?_
  refine SL_nil (nx (SWP_seq (SWP_region ?_)))
  first | refine pB rfl rfl ?_ | refine pu rfl rfl ?_
  refine pB rfl rfl ?_
  refine SL_nil (nx (SWP_ct rfl (SWP_seq (SWP_region ?_))))
  refine lw (v := .agg _) B6 0 rfl rfl rfl rfl ?_
  refine sw (v := .agg _) B4 0 rfl rfl rfl rfl rfl rfl rfl ?_
  refine pB rfl rfl ?_
  refine SL_nil (nx (SWP_ret (nr ?_)))
  refine fin [_, _] ⟨⟨_, _, rfl, Rd.of_cells (MemO.mem (B := B4)), rfl⟩, rfl, trivial⟩ ?_
  first
    | (cases (show bl = false by assumption)
       rw [readM_1 (hlm.trans (if_neg Bool.noConfusion))]
       exact ⟨_, rfl, ⟨la, lc, L, false, 0, 0⟩, 0, false, rfl, ⟨hL, hLi⟩, rfl, rfl⟩)
    | (cases (show bl = true by assumption)
       cases (show bd = false by assumption)
       rw [readM_2 (hlm.trans (if_pos rfl)) (hdm.trans (if_neg Bool.noConfusion))]
       exact ⟨_, rfl, ⟨la, lc, L, false, dn, 0⟩, 0, false, rfl, ⟨hL, hLi⟩, rfl, rfl⟩)
    | (cases (show bl = true by assumption)
       cases (show bd = true by assumption)
       cases (show ba = false by assumption)
       rw [readM_3 (hlm.trans (if_pos rfl)) (hdm.trans (if_pos rfl)) hsy (ham.trans (if_neg Bool.noConfusion))]
       exact ⟨_, rfl, ⟨la, lc, L, _, dn, an⟩, an, false, rfl, ⟨hL, hLi⟩, rfl, rfl⟩)
    | (cases (show bl = true by assumption)
       cases (show bd = true by assumption)
       cases (show ba = true by assumption)
       have h := readM_4 (hlm.trans (if_pos rfl)) (hdm.trans (if_pos rfl)) hsy (ham.trans (if_pos rfl))
       rw [h]
       clear h
       generalize (addonsM (List.map Addon.name g.addons) _).2 = X
       cases X with
       | nil => exact ⟨_, rfl, ⟨la, lc, L, _, dn, an⟩, an, true, rfl, ⟨hL, hLi⟩, rfl, rfl⟩
       | cons w X => exact ⟨_, rfl, ⟨la, lc, L, _, dn, an⟩, an, false, rfl, ⟨hL, hLi⟩, rfl, rfl⟩)
end Go.Proofs.YtifjhpaoejageaaGreatDoor
namespace Go.Proofs.YtifjhpaoejageaaGreatDoor
open Eng
def zLine (x : LnK) : Line := ⟨none, 0, x.1, none, 0, x.2⟩
def zBet (k : BetM) : Bet := ⟨none, 0, k.1.map zLine, k.2.1, k.2.2.1, k.2.2.2⟩
def zK : BetM := ([], false, 0, 0)
noncomputable def betErrK (g : Game) (k : BetM) : Int := betErr g (zBet k)
def Bet.Is (b : Bet) (k : BetM) : Prop := b.lines.map Line.keyL = k.1 ∧ b.system = k.2.1 ∧ b.draws = k.2.2.1 ∧ b.addons = k.2.2.2
theorem lnErr_z (g : Game) (sys : Bool) (L : List Line) : lnErr g sys (L.map fun x => zLine x.keyL) = lnErr g sys L := by
  unfold lnErr
  rw [List.length_map]
  congr 1
  refine List.map_congr_left fun i _ => ?_
  unfold lnAt
  rw [List.getElem?_map]
  cases h : L[i]? with
  | none => rfl
  | some x =>
    show (if sizeE g sys x ≠ 0 then sizeE g sys x else if canonL g x ∈ ((L.map fun x => zLine x.keyL).take i).map (canonL g) then 6 else 0) = _
    have e : ((L.map fun x => zLine x.keyL).take i).map (canonL g) = (L.take i).map (canonL g) := by
      rw [← List.map_take, List.map_map]; rfl
    rw [e]
theorem totN_z (g : Game) (sys : Bool) (L : List Line) : totN g sys (L.map fun x => zLine x.keyL) = totN g sys L := by
  unfold totN; rw [List.map_map]; rfl
theorem betErr_key {g : Game} {b : Bet} {k : BetM} (h : b.Is k) : betErr g b = betErrK g k := by
  obtain ⟨h1, h2, h3, h4⟩ := h
  have e : (zBet k).lines = b.lines.map fun x => zLine x.keyL := by show k.1.map zLine = _; rw [← h1, List.map_map]; rfl
  unfold betErrK betErr
  rw [e, lnErr_z, totN_z, List.length_map]
  rw [show (zBet k).system = b.system from h2.symm, show (zBet k).draws = b.draws from h3.symm, show (zBet k).addons = b.addons from h4.symm]
noncomputable def parseO (g : Game) (l : List UInt8) : BetM × Int × Nat :=
  if gameErr g ≠ 0 then (zK, gameErr g, 0)
  else if 32768 < l.length then (zK, 3, 0)
  else match (readM (g.addons.map Addon.name) (wordsL l)).1 with
    | none => (zK, 1, posR l (readM (g.addons.map Addon.name) (wordsL l)).2)
    | some k => if betErrK g k ≠ 0 then (zK, betErrK g k, 0) else (k, 0, 0)
def ParseOf (r : Value) (m : Mem) (o : BetM × Int × Nat) : Prop := ∃ bt : Bet, r = .tuple #[bt.val, .int .i64 o.2.1, .int .i64 (o.2.2 : Nat)] ∧ bt.In m ∧ bt.Is o.1
def zeroBet : Bet := ⟨none, 0, [], false, 0, 0⟩
theorem zeroBet_in (m : Mem) : zeroBet.In m := ⟨RL.nil _ _, fun x hx => (by cases hx)⟩
theorem zeroBet_is : zeroBet.Is zK := ⟨rfl, rfl, rfl, rfl⟩
theorem words_len : ∀ l : List UInt8, (wordsL l).length ≤ l.length + 1 ∧ ∀ w ∈ wordsL l, w.length ≤ l.length
  | [] => ⟨by decide, fun w hw => by rw [show wordsL [] = [[]] from rfl, List.mem_singleton] at hw; subst hw; simp⟩
  | b :: r => by
    have ih := words_len r
    by_cases hb : b = 32
    · subst hb
      rw [wordsL_sp]
      refine ⟨by simp only [List.length_cons]; omega, fun w hw => ?_⟩
      rcases List.mem_cons.1 hw with rfl | hw
      · simp
      · have := ih.2 w hw; simp only [List.length_cons]; omega
    · obtain ⟨w, ws, hws⟩ : ∃ w ws, wordsL r = w :: ws := by
        cases h : wordsL r with
        | nil => exact absurd h (wordsL_ne r)
        | cons w ws => exact ⟨w, ws, rfl⟩
      rw [wordsL_ch hb hws]
      rw [hws] at ih
      refine ⟨by have := ih.1; simp only [List.length_cons] at *; omega, fun v hv => ?_⟩
      rcases List.mem_cons.1 hv with rfl | hv
      · have := ih.2 w (List.mem_cons_self ..); simp only [List.length_cons]; omega
      · have := ih.2 v (List.mem_cons_of_mem _ hv); simp only [List.length_cons]; omega
theorem WOk.all {l : List UInt8} (hl : l.length ≤ 40000) : WOk l (wordsL l) := ⟨Suf.all l, fun w hw => by have := (words_len l).2 w hw; omega, by have := (words_len l).1; omega⟩
theorem load0 {m : Mem} {l : List UInt8} {w : Wd} {R : List Wd} (hs : Suf l (w :: R)) (hl : l.length ≤ 1000000) (B : Nat) (hp : posR l (w :: R) = 0) (b : ByteArray) :
    CallsS Tryz.prog 20 [.pointer (some ⟨B, 0, none⟩), .int .i64 0].toArray [(B, Cells 55 [.string (bA l), .int .i64 0, .string b, .int .i64 0, .bool false])] m fun _ σ' m' => σ' = [(B, Cells 55 (scE l (w :: R)))] ∧ m' = m := by
  have e : (0 : Int) = ((posR l (w :: R) : Nat) : Int) := by rw [hp]; rfl
  rw [e]
  exact loadI hs hl B _ _ _ _
set_option maxRecDepth 100000 in
theorem parseS {m : Mem} {g : Game} (hin : g.In m) (l : List UInt8) (hl : l.length ≤ 1000000) : CallsS Tryz.prog 11 [g.val, .string (bA l)].toArray [] m fun r σ' m' => σ' = [] ∧ ParseOf r m' (parseO g l) := by
  refine CallsS.ghost (R' := fun r σ' m' => ParseOf r m' (parseO g l)) ?_ ?h2
  case h2 =>
    rintro r σ' m' hr g0 W hC
    exact ⟨_, m', hC.sublist (List.nil_sublist _), Le.refl _, rfl, hr⟩
  have hsz := bA_size l
  dsimp only [Game.val]
  refine enter Tryz.func11 Tryz.ntmps11 rfl rfl ?_
  refine SWP_seq (SWP_region ?_)
  refine bx (v := .agg _) rfl rfl (fun B2 => ?_)
  refine al rfl rfl (fun B4 => ?_)
  refine pI rfl rfl ?_
  refine pI rfl rfl ?_
  refine SL_nil (nx (SWP_seq (SWP_seq (SWP_region ?_))))
  refine lw (v := .agg _) B2 0 rfl rfl rfl rfl ?_
  refine SL_call rfl rfl cb19 (CallsS.frame0 (countG hin)) rfl (fun v1_1 σ1_1 m1_1 hl1_1 hR1_1 => ?_)
  obtain ⟨σc, rfl, rfl, hm1_1, z0, rfl⟩ := hR1_1
  have hn1_1 := hm1_1.symm
  subst hn1_1
  refine pu rfl rfl ?_
  first | refine pI rfl rfl ?_ | refine pu rfl rfl ?_
  first | refine pI rfl rfl ?_ | refine pu rfl rfl ?_
  first | refine pI rfl rfl ?_ | refine pu rfl rfl ?_
  first | refine pI rfl rfl ?_ | refine pu rfl rfl ?_
  refine SL_nil (nx (SWP_seq (SWP_region ?_)))
  first | refine pI rfl rfl ?_ | refine pu rfl rfl ?_
  refine pc rfl rfl (fun c19 => ?_) (fun c19 => ?_)
  · skip
    refine SL_nil (nx (SWP_ct rfl (SWP_seq (SWP_region ?_))))
    refine pA rfl rfl ?_
    first | refine pI rfl rfl ?_ | refine pu rfl rfl ?_
    refine sw (v := .agg _) B4 0 rfl rfl rfl rfl rfl rfl rfl ?_
    first | refine pI rfl rfl ?_ | refine pu rfl rfl ?_
    refine pI rfl rfl ?_
    refine SL_nil (nx (SWP_ret (nr ?_)))
    refine fin [_, _, _] ⟨⟨_, _, rfl, Rd.of_cells (MemO.mem (B := B4)), rfl⟩, rfl, rfl, trivial⟩ ?_
    unfold parseO
    first
      | (rw [if_pos (show gameErr g ≠ 0 by assumption)]
         exact ⟨zeroBet, rfl, zeroBet_in _, zeroBet_is⟩)
      | (rw [if_neg (fun hh => hh hz), if_pos (by omega)]
         exact ⟨zeroBet, rfl, zeroBet_in _, zeroBet_is⟩)
      | (rw [if_neg (fun hh => hh hz), if_neg (by omega)]
         cases (show bb = false by assumption)
         rw [hwd, hrm.trans (if_neg Bool.noConfusion)]
         exact ⟨zeroBet, rfl, zeroBet_in _, zeroBet_is⟩)
      | (rw [if_neg (fun hh => hh hz), if_neg (by omega)]
         cases (show bb = true by assumption)
         rw [hwd, hrm.trans (if_pos rfl)]
         have his : bt.Is (bt.lines.map Line.keyL, bt.system, bt.draws, an) := ⟨rfl, rfl, rfl, han⟩
         have hk := betErr_key (g := g) his
         first
           | (show ParseOf _ _ (if betErrK g (bt.lines.map Line.keyL, bt.system, bt.draws, an) ≠ 0 then _ else _)
              rw [if_pos (by rw [← hk]; assumption), ← hk]
              exact ⟨zeroBet, rfl, zeroBet_in _, zeroBet_is⟩)
           | (show ParseOf _ _ (if betErrK g (bt.lines.map Line.keyL, bt.system, bt.draws, an) ≠ 0 then _ else _)
              rw [if_neg (by rw [← hk]; assumption)]
              exact ⟨bt, rfl, hbt, his⟩))
  refine SL_nil (nx (SWP_cf rfl (SWP_skip (nx (SWP_seq (SWP_seq ?_))))))
  have hz : gameErr g = 0 := Classical.not_not.1 (by assumption)
  have hg := gameOk hz
  refine SWP_region ?_
  first | refine pS rfl rfl ?_ | refine pu rfl rfl ?_
  refine pu rfl rfl ?_
  refine pc rfl rfl (fun c24 => ?_) (fun c24 => ?_)
  · skip
    refine SL_nil (nx (SWP_ct rfl (SWP_seq (SWP_region ?_))))
    refine pA rfl rfl ?_
    refine sw (v := .agg _) B4 0 rfl rfl rfl rfl rfl rfl rfl ?_
    refine pI rfl rfl ?_
    refine pI rfl rfl ?_
    refine SL_nil (nx (SWP_ret (nr ?_)))
    refine fin [_, _, _] ⟨⟨_, _, rfl, Rd.of_cells (MemO.mem (B := B4)), rfl⟩, rfl, rfl, trivial⟩ ?_
    unfold parseO
    first
      | (rw [if_pos (show gameErr g ≠ 0 by assumption)]
         exact ⟨zeroBet, rfl, zeroBet_in _, zeroBet_is⟩)
      | (rw [if_neg (fun hh => hh hz), if_pos (by omega)]
         exact ⟨zeroBet, rfl, zeroBet_in _, zeroBet_is⟩)
      | (rw [if_neg (fun hh => hh hz), if_neg (by omega)]
         cases (show bb = false by assumption)
         rw [hwd, hrm.trans (if_neg Bool.noConfusion)]
         exact ⟨zeroBet, rfl, zeroBet_in _, zeroBet_is⟩)
      | (rw [if_neg (fun hh => hh hz), if_neg (by omega)]
         cases (show bb = true by assumption)
         rw [hwd, hrm.trans (if_pos rfl)]
         have his : bt.Is (bt.lines.map Line.keyL, bt.system, bt.draws, an) := ⟨rfl, rfl, rfl, han⟩
         have hk := betErr_key (g := g) his
         first
           | (show ParseOf _ _ (if betErrK g (bt.lines.map Line.keyL, bt.system, bt.draws, an) ≠ 0 then _ else _)
              rw [if_pos (by rw [← hk]; assumption), ← hk]
              exact ⟨zeroBet, rfl, zeroBet_in _, zeroBet_is⟩)
           | (show ParseOf _ _ (if betErrK g (bt.lines.map Line.keyL, bt.system, bt.draws, an) ≠ 0 then _ else _)
              rw [if_neg (by rw [← hk]; assumption)]
              exact ⟨bt, rfl, hbt, his⟩))
  refine SL_nil (nx (SWP_cf rfl (SWP_skip (nx (SWP_seq ?_)))))
  have hw : WOk l (wordsL l) := WOk.all (by omega)
  obtain ⟨w, R, hwd⟩ : ∃ w R, wordsL l = w :: R := by
    cases h : wordsL l with
    | nil => exact absurd h (wordsL_ne l)
    | cons w R => exact ⟨w, R, rfl⟩
  have hp0 : posR l (w :: R) = 0 := by rw [← hwd]; exact posR_all l
  skip
  refine SWP_region ?_
  first | refine pS rfl rfl ?_ | refine pu rfl rfl ?_
  refine pA rfl rfl ?_
  refine bx (v := .agg _) rfl rfl (fun B28 => ?_)
  refine pP rfl rfl ?_
  refine SL_nil (nx (SWP_seq (SWP_region ?_)))
  refine pP rfl rfl ?_
  refine SL_call rfl rfl cb20 (CallsS.subF [_, _] (load0 (hwd ▸ hw.sf) (by omega) B28 hp0 _) (.refl _)) rfl (fun v7_1 σ7_1 m7_1 hl7_1 hR7_1 => ?_)
  obtain ⟨σz, rfl, rfl, hm7_1⟩ := hR7_1
  have hn7_1 := hm7_1.symm
  subst hn7_1
  rw [List.singleton_append]
  refine SL_nil (nx (SWP_seq (SWP_region ?_)))
  refine pP rfl rfl ?_
  refine lw (v := .agg _) B2 0 rfl rfl rfl rfl ?_
  refine SL_call rfl rfl cb21 (CallsS.subF [_, _] (readS (hwd ▸ hw) (by omega) B28 hin (addons_few hg)) (.refl _)) rfl (fun v8_2 σ8_2 m8_2 hl8_2 hR8_2 => ?_)
  obtain ⟨σz, rfl, rfl, bt, an, bb, rfl, hbt, han, hrm⟩ := hR8_2
  rw [List.singleton_append]
  refine pu rfl rfl ?_
  first | refine pA rfl rfl ?_ | refine pu rfl rfl ?_
  first | refine pB rfl rfl ?_ | refine pu rfl rfl ?_
  refine bsp 36 rfl (fun b36 => ?_) (fun b36 => ?_)
  · skip
    refine al rfl rfl (fun B10 => ?_)
    refine sw (v := .agg _) B10 0 rfl rfl rfl rfl rfl rfl rfl ?_
    first | refine pB rfl rfl ?_ | refine pu rfl rfl ?_
    refine SL_nil (nx (SWP_seq (SWP_seq (SWP_region ?_))))
    first | refine pB rfl rfl ?_ | refine pu rfl rfl ?_
    refine pB rfl rfl ?_
    refine SL_nil (nx (SWP_cf rfl (SWP_skip (nx (SWP_seq (SWP_seq (SWP_region ?_)))))))
    refine lw (v := .agg _) B2 0 rfl rfl rfl rfl ?_
    refine lw (v := .agg _) B10 0 rfl rfl rfl rfl ?_
    refine SL_pcall rfl rfl cb22 (betI (hin.mono hl8_2) hbt) rfl ?_
    first | refine pI rfl rfl ?_ | refine pu rfl rfl ?_
    refine SL_nil (nx (SWP_seq (SWP_region ?_)))
    first | refine pI rfl rfl ?_ | refine pu rfl rfl ?_
    refine pc rfl rfl (fun c48 => ?_) (fun c48 => ?_)
    · skip
      refine SL_nil (nx (SWP_ct rfl (SWP_seq (SWP_region ?_))))
      refine pA rfl rfl ?_
      first | refine pI rfl rfl ?_ | refine pu rfl rfl ?_
      refine sw (v := .agg _) B4 0 rfl rfl rfl rfl rfl rfl rfl ?_
      first | refine pI rfl rfl ?_ | refine pu rfl rfl ?_
      refine pI rfl rfl ?_
      refine SL_nil (nx (SWP_ret (nr ?_)))
      refine fin [_, _, _] ⟨⟨_, _, rfl, Rd.of_cells (MemO.mem (B := B4)), rfl⟩, rfl, rfl, trivial⟩ ?_
      unfold parseO
      first
        | (rw [if_pos (show gameErr g ≠ 0 by assumption)]
           exact ⟨zeroBet, rfl, zeroBet_in _, zeroBet_is⟩)
        | (rw [if_neg (fun hh => hh hz), if_pos (by omega)]
           exact ⟨zeroBet, rfl, zeroBet_in _, zeroBet_is⟩)
        | (rw [if_neg (fun hh => hh hz), if_neg (by omega)]
           cases (show bb = false by assumption)
           rw [hwd, hrm.trans (if_neg Bool.noConfusion)]
           exact ⟨zeroBet, rfl, zeroBet_in _, zeroBet_is⟩)
        | (rw [if_neg (fun hh => hh hz), if_neg (by omega)]
           cases (show bb = true by assumption)
           rw [hwd, hrm.trans (if_pos rfl)]
           have his : bt.Is (bt.lines.map Line.keyL, bt.system, bt.draws, an) := ⟨rfl, rfl, rfl, han⟩
           have hk := betErr_key (g := g) his
           first
             | (show ParseOf _ _ (if betErrK g (bt.lines.map Line.keyL, bt.system, bt.draws, an) ≠ 0 then _ else _)
                rw [if_pos (by rw [← hk]; assumption), ← hk]
                exact ⟨zeroBet, rfl, zeroBet_in _, zeroBet_is⟩)
             | (show ParseOf _ _ (if betErrK g (bt.lines.map Line.keyL, bt.system, bt.draws, an) ≠ 0 then _ else _)
                rw [if_neg (by rw [← hk]; assumption)]
                exact ⟨bt, rfl, hbt, his⟩))
    refine SL_nil (nx (SWP_cf rfl (SWP_skip (nx (SWP_seq (SWP_region ?_))))))
    refine lw (v := .agg _) B10 0 rfl rfl rfl rfl ?_
    refine sw (v := .agg _) B4 0 rfl rfl rfl rfl rfl rfl rfl ?_
    refine pI rfl rfl ?_
    refine pI rfl rfl ?_
    refine SL_nil (nx (SWP_ret ?_))
    refine fin [_, _, _] ⟨⟨_, _, rfl, Rd.of_cells (MemO.mem (B := B4)), rfl⟩, rfl, rfl, trivial⟩ ?_
    unfold parseO
    first
      | (rw [if_pos (show gameErr g ≠ 0 by assumption)]
         exact ⟨zeroBet, rfl, zeroBet_in _, zeroBet_is⟩)
      | (rw [if_neg (fun hh => hh hz), if_pos (by omega)]
         exact ⟨zeroBet, rfl, zeroBet_in _, zeroBet_is⟩)
      | (rw [if_neg (fun hh => hh hz), if_neg (by omega)]
         cases (show bb = false by assumption)
         rw [hwd, hrm.trans (if_neg Bool.noConfusion)]
         exact ⟨zeroBet, rfl, zeroBet_in _, zeroBet_is⟩)
      | (rw [if_neg (fun hh => hh hz), if_neg (by omega)]
         cases (show bb = true by assumption)
         rw [hwd, hrm.trans (if_pos rfl)]
         have his : bt.Is (bt.lines.map Line.keyL, bt.system, bt.draws, an) := ⟨rfl, rfl, rfl, han⟩
         have hk := betErr_key (g := g) his
         first
           | (show ParseOf _ _ (if betErrK g (bt.lines.map Line.keyL, bt.system, bt.draws, an) ≠ 0 then _ else _)
              rw [if_pos (by rw [← hk]; assumption), ← hk]
              exact ⟨zeroBet, rfl, zeroBet_in _, zeroBet_is⟩)
           | (show ParseOf _ _ (if betErrK g (bt.lines.map Line.keyL, bt.system, bt.draws, an) ≠ 0 then _ else _)
              rw [if_neg (by rw [← hk]; assumption)]
              exact ⟨bt, rfl, hbt, his⟩))
  refine al rfl rfl (fun B10 => ?_)
  refine sw (v := .agg _) B10 0 rfl rfl rfl rfl rfl rfl rfl ?_
  first | refine pB rfl rfl ?_ | refine pu rfl rfl ?_
  refine SL_nil (nx (SWP_seq (SWP_seq (SWP_region ?_))))
  first | refine pB rfl rfl ?_ | refine pu rfl rfl ?_
  refine pB rfl rfl ?_
  refine SL_nil (nx (SWP_ct rfl (SWP_seq ?_)))
  refine SWP_drawn [_] [0, 1, 2, 3, 4, 5, 6, 7] (by kernel_rfl) (by kernel_rfl) (Sub.cons _ (Sub.cons2 _ (Sub.nil _))) ?_
  refine pA rfl rfl ?_
  refine pP rfl rfl ?_
  refine pu rfl rfl ?_
  refine pu rfl rfl ?_
  refine lw (v := .int .i64 _) B28 1 rfl rfl rfl rfl ?_
  refine sw (v := .agg _) B4 0 rfl rfl rfl rfl rfl rfl rfl ?_
  refine pI rfl rfl ?_
  refine pI rfl rfl ?_
  refine SL_nil (nx (SWP_ret (nr ?_)))
  refine fin [_, _, _] ⟨⟨_, _, rfl, Rd.of_cells (MemO.mem (B := B4)), rfl⟩, rfl, rfl, trivial⟩ ?_
  unfold parseO
  first
    | (rw [if_pos (show gameErr g ≠ 0 by assumption)]
       exact ⟨zeroBet, rfl, zeroBet_in _, zeroBet_is⟩)
    | (rw [if_neg (fun hh => hh hz), if_pos (by omega)]
       exact ⟨zeroBet, rfl, zeroBet_in _, zeroBet_is⟩)
    | (rw [if_neg (fun hh => hh hz), if_neg (by omega)]
       cases (show bb = false by assumption)
       rw [hwd, hrm.trans (if_neg Bool.noConfusion)]
       exact ⟨zeroBet, rfl, zeroBet_in _, zeroBet_is⟩)
    | (rw [if_neg (fun hh => hh hz), if_neg (by omega)]
       cases (show bb = true by assumption)
       rw [hwd, hrm.trans (if_pos rfl)]
       have his : bt.Is (bt.lines.map Line.keyL, bt.system, bt.draws, an) := ⟨rfl, rfl, rfl, han⟩
       have hk := betErr_key (g := g) his
       first
         | (show ParseOf _ _ (if betErrK g (bt.lines.map Line.keyL, bt.system, bt.draws, an) ≠ 0 then _ else _)
            rw [if_pos (by rw [← hk]; assumption), ← hk]
            exact ⟨zeroBet, rfl, zeroBet_in _, zeroBet_is⟩)
         | (show ParseOf _ _ (if betErrK g (bt.lines.map Line.keyL, bt.system, bt.draws, an) ≠ 0 then _ else _)
            rw [if_neg (by rw [← hk]; assumption)]
            exact ⟨bt, rfl, hbt, his⟩))
end Go.Proofs.YtifjhpaoejageaaGreatDoor
namespace Go.Proofs.YtifjhpaoejageaaGreatDoor
open Eng
def decW (n : Int) : Wd := Lib.decDigits n.toNat
def lnTok (x : LnK) : List Wd := x.1.map decW ++ (if x.2 = [] then [] else [43] :: x.2.map decW)
def lnsTok : List LnK → List Wd
  | [] => []
  | [x] => lnTok x
  | x :: y :: r => lnTok x ++ [47] :: lnsTok (y :: r)
def nmAt (ns : List ByteArray) (i : Nat) : Wd := ((ns[i]?).getD ByteArray.empty).data.toList
def addTokF (ns : List ByteArray) (a : Nat) (k n : Nat) : List Wd := ((List.range' k n).filter fun i => a.testBit i).map (nmAt ns)
def addTok (ns : List ByteArray) (a : Nat) : List Wd := addTokF ns a 0 ns.length
def tailTok (ns : List ByteArray) (b : BetM) : List Wd := (if b.2.2.1 ≠ 1 then [[120], decW b.2.2.1] else []) ++ ((if b.2.1 = true then [[115, 121, 115]] else []) ++ ((if b.2.2.2 ≠ 0 then [[42]] else []) ++ addTok ns b.2.2.2))
def toks (ns : List ByteArray) (b : BetM) : List Wd := lnsTok b.1 ++ tailTok ns b
theorem lnsTok_snoc : ∀ (L : List LnK) (x : LnK), L ≠ [] → lnsTok (L ++ [x]) = lnsTok L ++ [47] :: lnTok x
  | [], _, h => absurd rfl h
  | [y], x, _ => rfl
  | y :: z :: r, x, _ => by
    show lnTok y ++ [47] :: lnsTok (z :: r ++ [x]) = _
    rw [lnsTok_snoc (z :: r) x (by simp)]
    simp [lnsTok]
theorem lnsTok_cons (x : LnK) {L : List LnK} (h : L ≠ []) : lnsTok (x :: L) = lnTok x ++ [47] :: lnsTok L := by
  cases L with
  | nil => exact absurd rfl h
  | cons y r => rfl
def Sm (n : Int) : Prop := 0 ≤ n ∧ n < 100
theorem numW_1 : ∀ n : Fin 10, numW [UInt8.ofNat (48 + n.val)] = some ((n.val : Nat) : Int) := by decide +kernel
theorem numW_2 : ∀ a b : Fin 10, a.val ≠ 0 → numW [UInt8.ofNat (48 + a.val), UInt8.ofNat (48 + b.val)] = some ((10 * a.val + b.val : Nat) : Int) := by decide +kernel
theorem numW_dec {n : Int} (h : Sm n) : numW (decW n) = some n := by
  obtain ⟨k, rfl⟩ : ∃ k : Nat, n = k := ⟨n.toNat, by have := h.1; omega⟩
  have h2 := h.2
  unfold decW
  rw [Int.toNat_natCast]
  by_cases hk : k < 10
  · rw [decDigits_1 hk]; exact numW_1 ⟨k, hk⟩
  · rw [decDigits_2 hk (by omega)]
    have := numW_2 ⟨k / 10, by omega⟩ ⟨k % 10, by omega⟩ (by show k / 10 ≠ 0; omega)
    rw [show 10 * (k / 10) + k % 10 = k by omega] at this
    exact this
theorem decW_ns {n : Int} (h : Sm n) : (32 : UInt8) ∉ decW n := fun hm => by
  have h1 := numW_dec h
  unfold numW at h1
  by_cases hc : (decW n).length ≤ 9 ∧ decB (decW n) = true
  · have := List.all_eq_true.1 (decB_all hc.2) 32 hm
    exact absurd this (by decide)
  · rw [if_neg hc] at h1; cases h1
theorem decW_len {n : Int} (h : Sm n) : (decW n).length ≤ 2 := by
  obtain ⟨k, rfl⟩ : ∃ k : Nat, n = k := ⟨n.toNat, by have := h.1; omega⟩
  have h2 := h.2
  unfold decW
  rw [Int.toNat_natCast]
  by_cases hk : k < 10
  · rw [decDigits_1 hk]; show 1 ≤ 2; decide
  · rw [decDigits_2 hk (by omega)]; exact Nat.le_refl _
theorem takeN_nums : ∀ (N : List Int) (R : List Wd), (∀ n ∈ N, Sm n) → numV R = none → takeN (N.map decW ++ R) = (N, R)
  | [], R, _, h => takeN_none (by show (numV R).isSome = false; rw [h]; rfl)
  | n :: N, R, hN, h => by
    have ih := takeN_nums N R (fun x hx => hN x (List.mem_cons_of_mem _ hx)) h
    show takeN (decW n :: (N.map decW ++ R)) = _
    rw [takeN, numW_dec (hN n (List.mem_cons_self ..)), ih]
structure LnSm (x : LnK) : Prop where
  ne : x.1 ≠ []
  m : ∀ n ∈ x.1, Sm n
  b : ∀ n ∈ x.2, Sm n
theorem isW_self (x : Wd) (R : List Wd) : isW x (x :: R) = true := decide_eq_true rfl
theorem lineM_tok {x : LnK} (h : LnSm x) {R : List Wd} (h1 : numV R = none) (h2 : isW [43] R = false) : lineM (lnTok x ++ R) = (some x, R) := by
  obtain ⟨N, M⟩ := x
  by_cases hM : M = []
  · subst hM
    have e : lnTok (N, []) ++ R = N.map decW ++ R := by simp [lnTok]
    have ht := takeN_nums N R h.m h1
    rw [e, lineM_1 (by rw [ht]; exact h.ne) (by rw [ht]; exact h2), ht]
  · have e : lnTok (N, M) ++ R = N.map decW ++ ([43] :: (M.map decW ++ R)) := by simp [lnTok, hM]
    have ht := takeN_nums N ([43] :: (M.map decW ++ R)) h.m (by show numW [43] = none; decide)
    have ht2 := takeN_nums M R h.b h1
    rw [e, lineM_3 (by rw [ht]; exact h.ne) (by rw [ht]; exact isW_self _ _) (by rw [ht]; show (takeN (M.map decW ++ R)).1 ≠ []; rw [ht2]; exact hM), ht]
    show (some (N, (takeN (M.map decW ++ R)).1), (takeN (M.map decW ++ R)).2) = _
    rw [ht2]
theorem linesF_tok : ∀ (L : List LnK) (f : Nat) (acc : List LnK) (R : List Wd), L ≠ [] → L.length ≤ f → (∀ x ∈ L, LnSm x) → numV R = none → isW [43] R = false → isW [47] R = false → linesF f (lnsTok L ++ R) acc = (some (acc ++ L), R)
  | [], _, _, _, h, _, _, _, _, _ => absurd rfl h
  | [x], 0, _, _, _, h, _, _, _, _ => absurd h (by simp)
  | [x], f + 1, acc, R, _, _, hx, h1, h2, h3 => by
    have e := lineM_tok (hx x (List.mem_cons_self ..)) h1 h2
    show linesF (f + 1) (lnTok x ++ R) acc = _
    exact linesF_1 e h3
  | x :: y :: r, 0, _, _, _, h, _, _, _, _ => absurd h (by simp)
  | x :: y :: r, f + 1, acc, R, _, hf, hx, h1, h2, h3 => by
    have e : lnsTok (x :: y :: r) ++ R = lnTok x ++ ([47] :: (lnsTok (y :: r) ++ R)) := by simp [lnsTok]
    have el := lineM_tok (R := [47] :: (lnsTok (y :: r) ++ R)) (hx x (List.mem_cons_self ..)) (by show numW [47] = none; decide) (by show decide (([47] : Wd) = [43]) = false; decide)
    rw [e, linesF_2 el (isW_self _ _)]
    show linesF f (lnsTok (y :: r) ++ R) (acc ++ [x]) = _
    rw [linesF_tok (y :: r) f (acc ++ [x]) R (by simp) (by simp only [List.length_cons] at *; omega) (fun z hz => hx z (List.mem_cons_of_mem _ hz)) h1 h2 h3]
    simp
theorem lnTok_len {x : LnK} (h : x.1 ≠ []) : 1 ≤ (lnTok x).length := by
  have := List.length_pos_iff.2 h
  simp only [lnTok, List.length_append, List.length_map]; omega
theorem lnsTok_len : ∀ (L : List LnK), (∀ x ∈ L, x.1 ≠ []) → L.length ≤ (lnsTok L).length
  | [], _ => Nat.le_refl _
  | [x], h => lnTok_len (h x (List.mem_cons_self ..))
  | x :: y :: r, h => by
    have ih := lnsTok_len (y :: r) (fun z hz => h z (List.mem_cons_of_mem _ hz))
    have := lnTok_len (h x (List.mem_cons_self ..))
    show _ ≤ (lnTok x ++ [47] :: lnsTok (y :: r)).length
    rw [List.length_append]
    simp only [List.length_cons] at *
    omega
theorem numW_120 : numW [120] = none := by decide
theorem drawsM_tok {d : Int} (h : Sm d) {R : List Wd} (h1 : isW [120] R = false) : drawsM ((if d ≠ 1 then [[120], decW d] else []) ++ R) = (some d, R) := by
  by_cases hd : d = 1
  · subst hd
    rw [if_neg (by decide), List.nil_append]
    exact drawsM_0 h1
  · rw [if_pos hd]
    have hn : numV (decW d :: R) = some d := numW_dec h
    have := drawsM_3 (R := [120] :: decW d :: R) (R4 := decW d :: R) rfl (by rw [hn]; rfl) (by rw [hn]; exact hd)
    rw [hn] at this
    exact this
theorem sysM_tok {s : Bool} {R : List Wd} (h1 : isW [115, 121, 115] R = false) : sysM ((if s = true then [[115, 121, 115]] else []) ++ R) = (s, R) := by
  cases s with
  | false => exact sysM_0 h1
  | true => exact sysM_1 rfl
end Go.Proofs.YtifjhpaoejageaaGreatDoor
namespace Go.Proofs.YtifjhpaoejageaaGreatDoor
open Eng
theorem nmAt_some {ns : List ByteArray} {i : Nat} {w : ByteArray} (h : ns[i]? = some w) : bA (nmAt ns i) = w := by
  unfold nmAt; rw [h]; exact bA_of w
def Dis (ns : List ByteArray) : Prop := ∀ (i j : Nat) (w : ByteArray), ns[i]? = some w → ns[j]? = some w → i = j
theorem addTokF_succ (ns : List ByteArray) (a k n : Nat) : addTokF ns a k (n + 1) = if a.testBit k = true then nmAt ns k :: addTokF ns a (k + 1) n else addTokF ns a (k + 1) n := by
  unfold addTokF
  rw [List.range'_succ, List.filter_cons]
  by_cases h : a.testBit k = true
  · rw [if_pos h, if_pos h]; rfl
  · rw [if_neg h, if_neg h]
theorem addF_tok {ns : List ByteArray} (hd : Dis ns) {a : Nat} (ha : a < 2 ^ ns.length) : ∀ (n k p : Nat), k + n = ns.length → p ≤ k → addF ns (addTokF ns a k n) p (a % 2 ^ k) = (if a = 0 then none else some a, [])
  | 0, k, p, hk, _ => by
    have e : k = ns.length := by omega
    subst e
    rw [Nat.mod_eq_of_lt ha]
    rfl
  | n + 1, k, p, hk, hp => by
    have hm : a % 2 ^ (k + 1) = a % 2 ^ k + 2 ^ k * (a.testBit k).toNat := by rw [Nat.mod_pow_succ, Nat.toNat_testBit]
    rw [addTokF_succ]
    by_cases hb : a.testBit k = true
    · rw [if_pos hb]
      obtain ⟨w, hw⟩ : ∃ w, ns[k]? = some w := ⟨_, List.getElem?_eq_getElem (by omega)⟩
      have hf : findFrom ns p (bA (nmAt ns k)) = some k := by
        rw [nmAt_some hw]
        exact findFrom_some hp hw (fun j _ h2 h3 => by have := hd _ _ _ h3 hw; omega)
      rw [addF_some hf]
      rw [hb] at hm
      have := addF_tok hd ha n (k + 1) (k + 1) (by omega) (Nat.le_refl _)
      rw [hm] at this
      simpa using this
    · rw [if_neg hb]
      have hb' : a.testBit k = false := by simpa using hb
      rw [hb'] at hm
      have := addF_tok hd ha n (k + 1) p (by omega) (by omega)
      rw [hm] at this
      simpa using this
theorem addTokF_none {ns : List ByteArray} {a : Nat} : ∀ (n k : Nat), (∀ j, k ≤ j → j < k + n → a.testBit j = false) → addTokF ns a k n = []
  | 0, _, _ => rfl
  | n + 1, k, h => by
    rw [addTokF_succ, if_neg (by rw [h k (Nat.le_refl _) (by omega)]; exact Bool.noConfusion)]
    exact addTokF_none n (k + 1) (fun j h1 h2 => h j (by omega) (by omega))
theorem addTok_zero (ns : List ByteArray) : addTok ns 0 = [] := addTokF_none _ _ fun j _ _ => Nat.zero_testBit j
theorem addonsM_tok {ns : List ByteArray} (hd : Dis ns) {a : Nat} (ha : a < 2 ^ ns.length) : addonsM ns ((if a ≠ 0 then [[42]] else []) ++ addTok ns a) = (some a, []) := by
  by_cases h : a = 0
  · subst h
    rw [if_neg (by decide), addTok_zero]
    exact addonsM_0 rfl
  · rw [if_pos h]
    show addonsM ns ([42] :: addTok ns a) = _
    rw [addonsM_1]
    have := addF_tok hd ha ns.length 0 0 (by omega) (Nat.le_refl _)
    rw [if_neg h, show a % 2 ^ 0 = 0 by rw [Nat.pow_zero, Nat.mod_one]] at this
    exact this
structure BetSm (ns : List ByteArray) (b : BetM) : Prop where
  ne : b.1 ≠ []
  ls : ∀ x ∈ b.1, LnSm x
  d : Sm b.2.2.1
  a : b.2.2.2 < 2 ^ ns.length
theorem tail_head {ns : List ByteArray} (b : BetM) : numV (tailTok ns b) = none ∧ isW [43] (tailTok ns b) = false ∧ isW [47] (tailTok ns b) = false := by
  obtain ⟨L, s, d, a⟩ := b
  unfold tailTok
  by_cases hd : d ≠ 1
  · rw [if_pos hd]; exact ⟨numW_120, rfl, rfl⟩
  · rw [if_neg hd, List.nil_append]
    cases s with
    | true => exact ⟨by show numW [115, 121, 115] = none; decide, rfl, rfl⟩
    | false =>
      show numV ([] ++ _) = none ∧ isW [43] ([] ++ _) = false ∧ isW [47] ([] ++ _) = false
      rw [List.nil_append]
      by_cases ha : a ≠ 0
      · rw [if_pos ha]; exact ⟨by show numW [42] = none; decide, rfl, rfl⟩
      · have : a = 0 := Classical.not_not.1 ha
        subst this
        rw [if_neg ha, addTok_zero]; exact ⟨rfl, rfl, rfl⟩
theorem tail_head2 {ns : List ByteArray} (s : Bool) (a : Nat) : isW [120] ((if s = true then [[115, 121, 115]] else []) ++ ((if a ≠ 0 then [[42]] else []) ++ addTok ns a)) = false := by
  cases s with
  | true => rfl
  | false =>
    rw [if_neg Bool.noConfusion, List.nil_append]
    by_cases ha : a ≠ 0
    · rw [if_pos ha]; rfl
    · have : a = 0 := Classical.not_not.1 ha
      subst this
      rw [if_neg ha, addTok_zero]; rfl
theorem tail_head3 {ns : List ByteArray} (a : Nat) : isW [115, 121, 115] ((if a ≠ 0 then [[42]] else []) ++ addTok ns a) = false := by
  by_cases ha : a ≠ 0
  · rw [if_pos ha]; rfl
  · have : a = 0 := Classical.not_not.1 ha
    subst this
    rw [if_neg ha, addTok_zero]; rfl
theorem readM_tok {ns : List ByteArray} (hd : Dis ns) {b : BetM} (h : BetSm ns b) : readM ns (toks ns b) = (some b, []) := by
  have ht := tail_head (ns := ns) b
  have hlen := lnsTok_len b.1 (fun x hx => (h.ls x hx).ne)
  have hl : linesM (toks ns b) = (some b.1, tailTok ns b) := by
    unfold linesM toks
    rw [linesF_tok b.1 _ [] (tailTok ns b) h.ne (by rw [List.length_append]; omega) h.ls ht.1 ht.2.1 ht.2.2]
    rfl
  have hdr : drawsM (tailTok ns b) = (some b.2.2.1, (if b.2.1 = true then [[115, 121, 115]] else []) ++ ((if b.2.2.2 ≠ 0 then [[42]] else []) ++ addTok ns b.2.2.2)) := drawsM_tok h.d (tail_head2 _ _)
  have hsy : sysM ((if b.2.1 = true then [[115, 121, 115]] else []) ++ ((if b.2.2.2 ≠ 0 then [[42]] else []) ++ addTok ns b.2.2.2)) = (b.2.1, (if b.2.2.2 ≠ 0 then [[42]] else []) ++ addTok ns b.2.2.2) := sysM_tok (tail_head3 _)
  have had := addonsM_tok hd h.a
  have := readM_4 (ns := ns) (R := toks ns b) (L := b.1) (d := b.2.2.1) (s := b.2.1) (a := b.2.2.2) (R3 := (if b.2.2.2 ≠ 0 then [[42]] else []) ++ addTok ns b.2.2.2) (by rw [hl]) (by rw [hl, hdr]) (by rw [hl, hdr, hsy]) (by rw [had])
  rw [this, had]
  exact if_pos rfl
theorem tok_ns {ns : List ByteArray} (hn : ∀ w ∈ ns, (32 : UInt8) ∉ w.data.toList) {b : BetM} (h : BetSm ns b) : ∀ w ∈ toks ns b, (32 : UInt8) ∉ w := by
  have hln : ∀ x, LnSm x → ∀ w ∈ lnTok x, (32 : UInt8) ∉ w := fun x hx w hw => by
    simp only [lnTok, List.mem_append] at hw
    rcases hw with hw | hw
    · obtain ⟨n, hn, rfl⟩ := List.mem_map.1 hw; exact decW_ns (hx.m n hn)
    · by_cases h2 : x.2 = []
      · rw [if_pos h2] at hw; cases hw
      · rw [if_neg h2] at hw
        rcases List.mem_cons.1 hw with rfl | hw
        · decide
        · obtain ⟨n, hn, rfl⟩ := List.mem_map.1 hw; exact decW_ns (hx.b n hn)
  have hls : ∀ L : List LnK, (∀ x ∈ L, LnSm x) → ∀ w ∈ lnsTok L, (32 : UInt8) ∉ w := by
    intro L
    induction L with
    | nil => exact fun _ w hw => absurd hw (by simp [lnsTok])
    | cons x r ih =>
      intro hL w hw
      cases r with
      | nil => exact hln x (hL x (List.mem_cons_self ..)) w hw
      | cons y r =>
        rw [lnsTok_cons x (by simp)] at hw
        rcases List.mem_append.1 hw with hw | hw
        · exact hln x (hL x (List.mem_cons_self ..)) w hw
        · rcases List.mem_cons.1 hw with rfl | hw
          · decide
          · exact ih (fun z hz => hL z (List.mem_cons_of_mem _ hz)) w hw
  intro w hw
  simp only [toks, tailTok, List.mem_append] at hw
  rcases hw with hw | hw | hw | hw | hw
  · exact hls _ h.ls w hw
  · by_cases h1 : b.2.2.1 ≠ 1
    · rw [if_pos h1] at hw
      rcases List.mem_cons.1 hw with rfl | hw
      · decide
      · rw [List.mem_singleton.1 hw]; exact decW_ns h.d
    · rw [if_neg h1] at hw; cases hw
  · by_cases h1 : b.2.1 = true
    · rw [if_pos h1, List.mem_singleton] at hw; subst hw; decide
    · rw [if_neg h1] at hw; cases hw
  · by_cases h1 : b.2.2.2 ≠ 0
    · rw [if_pos h1, List.mem_singleton] at hw; subst hw; decide
    · rw [if_neg h1] at hw; cases hw
  · unfold addTok addTokF at hw
    obtain ⟨i, hi, rfl⟩ := List.mem_map.1 hw
    have hi2 := List.mem_range'_1.1 (List.mem_filter.1 hi).1
    obtain ⟨v, hv⟩ : ∃ v, ns[i]? = some v := ⟨_, List.getElem?_eq_getElem (by omega)⟩
    unfold nmAt
    rw [hv]
    exact hn v (List.mem_of_getElem? hv)
theorem toks_ne {ns : List ByteArray} {b : BetM} (h : BetSm ns b) : toks ns b ≠ [] := fun e => by
  have h1 := lnsTok_len b.1 (fun x hx => (h.ls x hx).ne)
  have h2 := List.length_pos_iff.2 h.ne
  have h3 := congrArg List.length e
  simp only [toks, List.length_append, List.length_nil] at h3
  omega
theorem words_toks {ns : List ByteArray} (hn : ∀ w ∈ ns, (32 : UInt8) ∉ w.data.toList) {b : BetM} (h : BetSm ns b) : wordsL (joinW (toks ns b)) = toks ns b := words_join _ (toks_ne h) (tok_ns hn h)
end Go.Proofs.YtifjhpaoejageaaGreatDoor
namespace Go.Proofs.YtifjhpaoejageaaGreatDoor
open Eng
theorem drop_next {W R : List Wd} {k : Nat} {w : Wd} (h : W.drop k = w :: R) : W.drop (k + 1) = R ∧ k < W.length := by
  refine ⟨?_, ?_⟩
  · rw [← List.drop_drop, h]; rfl
  · have := congrArg List.length h
    rw [List.length_drop, List.length_cons] at this
    omega
end Go.Proofs.YtifjhpaoejageaaGreatDoor
namespace Go.Proofs.YtifjhpaoejageaaGreatDoor
open Eng
theorem tail_drop {l : List UInt8} {R : List Wd} {k : Nat} {w : Wd} (h : (wordsL l).drop k = R) (hw : isW w R = true) : (wordsL l).drop (k + 1) = R.tail := (drop_next (h.trans (isW_cons hw))).1
end Go.Proofs.YtifjhpaoejageaaGreatDoor
namespace Go.Proofs.YtifjhpaoejageaaGreatDoor
open Eng
def Dead (ns : List ByteArray) (l : List UInt8) (wr : Int) : Prop := ∃ Rf, readM ns (wordsL l) = (none, Rf) ∧ wr = ((posR l Rf : Nat) : Int)
theorem Dead.ge {ns : List ByteArray} {l : List UInt8} {wr : Int} (h : Dead ns l wr) : 0 ≤ wr := by obtain ⟨_, _, rfl⟩ := h; exact Int.natCast_nonneg _
def St1 (ns : List ByteArray) (l : List UInt8) (L : List Line) (k : Nat) (wr : Int) : Prop := Dead ns l wr ∨ (wr = -1 ∧ ∃ R1, linesM (wordsL l) = (some (L.map Line.keyL), R1) ∧ (wordsL l).drop k = R1)
def St2 (ns : List ByteArray) (l : List UInt8) (L : List Line) (d : Int) (k : Nat) (wr : Int) : Prop := Dead ns l wr ∨ (wr = -1 ∧ ∃ R1 R2, linesM (wordsL l) = (some (L.map Line.keyL), R1) ∧ drawsM R1 = (some d, R2) ∧ (wordsL l).drop k = R2)
def St3 (ns : List ByteArray) (l : List UInt8) (L : List Line) (s : Bool) (d : Int) (k : Nat) (wr : Int) : Prop := Dead ns l wr ∨ (wr = -1 ∧ ∃ R1 R2 R3, linesM (wordsL l) = (some (L.map Line.keyL), R1) ∧ drawsM R1 = (some d, R2) ∧ sysM R2 = (s, R3) ∧ (wordsL l).drop k = R3)
def St4 (ns : List ByteArray) (l : List UInt8) (L : List Line) (s : Bool) (d : Int) (a : Int) (k : Nat) (wr : Int) : Prop := Dead ns l wr ∨ (wr = -1 ∧ ∃ R1 R2 R3 R4 an, linesM (wordsL l) = (some (L.map Line.keyL), R1) ∧ drawsM R1 = (some d, R2) ∧ sysM R2 = (s, R3) ∧ addonsM ns R3 = (some an, R4) ∧ a = ((an : Nat) : Int) ∧ (wordsL l).drop k = R4)
def ReadW (ns : List ByteArray) (l : List UInt8) (bt : Bet) (wr : Int) : Prop := Dead ns l wr ∨ (wr = -1 ∧ ∃ bk, readM ns (wordsL l) = (some bk, []) ∧ bt.Is bk)
theorem wlt {wr : Int} {x : Wd} {R : List Wd} (h : (if wr < 0 then isW x R else false) = true) : wr < 0 ∧ isW x R = true := by
  by_cases hw : wr < 0
  · rw [if_pos hw] at h; exact ⟨hw, h⟩
  · rw [if_neg hw] at h; cases h
theorem wlf {wr : Int} {x : Wd} {R : List Wd} (h : (if wr < 0 then isW x R else false) = false) (hw : wr = -1) : isW x R = false := by rw [if_pos (by omega)] at h; exact h
theorem St1.on {ns : List ByteArray} {l : List UInt8} {L : List Line} {k : Nat} {wr : Int} (h : St1 ns l L k wr) {x : Wd} (hc : (if wr < 0 then isW x ((wordsL l).drop k) else false) = true) : wr = -1 ∧ linesM (wordsL l) = (some (L.map Line.keyL), (wordsL l).drop k) ∧ isW x ((wordsL l).drop k) = true := by
  obtain ⟨hw, hx⟩ := wlt hc
  rcases h with h | ⟨h1, R1, h2, h3⟩
  · have := h.ge; omega
  · exact ⟨h1, by rw [h3]; exact h2, hx⟩
theorem St2.on {ns : List ByteArray} {l : List UInt8} {L : List Line} {d : Int} {k : Nat} {wr : Int} (h : St2 ns l L d k wr) {x : Wd} (hc : (if wr < 0 then isW x ((wordsL l).drop k) else false) = true) : wr = -1 ∧ (∃ R1, linesM (wordsL l) = (some (L.map Line.keyL), R1) ∧ drawsM R1 = (some d, (wordsL l).drop k)) ∧ isW x ((wordsL l).drop k) = true := by
  obtain ⟨hw, hx⟩ := wlt hc
  rcases h with h | ⟨h1, R1, R2, h2, h3, h4⟩
  · have := h.ge; omega
  · exact ⟨h1, ⟨R1, h2, by rw [h4]; exact h3⟩, hx⟩
theorem St3.on {ns : List ByteArray} {l : List UInt8} {L : List Line} {s : Bool} {d : Int} {k : Nat} {wr : Int} (h : St3 ns l L s d k wr) {x : Wd} (hc : (if wr < 0 then isW x ((wordsL l).drop k) else false) = true) : wr = -1 ∧ (∃ R1 R2, linesM (wordsL l) = (some (L.map Line.keyL), R1) ∧ drawsM R1 = (some d, R2) ∧ sysM R2 = (s, (wordsL l).drop k)) ∧ isW x ((wordsL l).drop k) = true := by
  obtain ⟨hw, hx⟩ := wlt hc
  rcases h with h | ⟨h1, R1, R2, R3, h2, h3, h4, h5⟩
  · have := h.ge; omega
  · exact ⟨h1, ⟨R1, R2, h2, h3, by rw [h5]; exact h4⟩, hx⟩
theorem St1.skip {ns : List ByteArray} {l : List UInt8} {L : List Line} {k : Nat} {wr : Int} (h : St1 ns l L k wr) (hc : (if wr < 0 then isW [120] ((wordsL l).drop k) else false) = false) : St2 ns l L 1 k wr := by
  rcases h with h | ⟨h1, R1, h2, h3⟩
  · exact .inl h
  · have hx := wlf hc h1
    rw [h3] at hx
    exact .inr ⟨h1, R1, R1, h2, drawsM_0 hx, h3⟩
theorem St2.skip {ns : List ByteArray} {l : List UInt8} {L : List Line} {d : Int} {k : Nat} {wr : Int} (h : St2 ns l L d k wr) (hc : (if wr < 0 then isW [115, 121, 115] ((wordsL l).drop k) else false) = false) : St3 ns l L false d k wr := by
  rcases h with h | ⟨h1, R1, R2, h2, h3, h4⟩
  · exact .inl h
  · have hx := wlf hc h1
    rw [h4] at hx
    exact .inr ⟨h1, R1, R2, R2, h2, h3, sysM_0 hx, h4⟩
theorem St2.sys {ns : List ByteArray} {l : List UInt8} {L : List Line} {d : Int} {k : Nat} {wr : Int} (h : St2 ns l L d k wr) (hc : (if wr < 0 then isW [115, 121, 115] ((wordsL l).drop k) else false) = true) : St3 ns l L true d (k + 1) wr := by
  obtain ⟨h1, ⟨R1, h2, h3⟩, hx⟩ := h.on hc
  have e := isW_cons hx
  exact .inr ⟨h1, R1, _, _, h2, h3, sysM_1 e, tail_drop rfl hx⟩
theorem St3.skip {ns : List ByteArray} {l : List UInt8} {L : List Line} {s : Bool} {d : Int} {k : Nat} {wr : Int} (h : St3 ns l L s d k wr) (hc : (if wr < 0 then isW [42] ((wordsL l).drop k) else false) = false) : St4 ns l L s d 0 k wr := by
  rcases h with h | ⟨h1, R1, R2, R3, h2, h3, h4, h5⟩
  · exact .inl h
  · have hx := wlf hc h1
    rw [h5] at hx
    exact .inr ⟨h1, R1, R2, R3, R3, 0, h2, h3, h4, addonsM_0 hx, rfl, h5⟩
theorem St4.done {ns : List ByteArray} {l : List UInt8} {L : List Line} {s : Bool} {d a : Int} {k : Nat} {wr : Int} (h : St4 ns l L s d a k wr) (hk : (wordsL l).drop k = []) {la : Option Addr} {lc : Nat} : ReadW ns l ⟨la, lc, L, s, d, a⟩ wr := by
  rcases h with h | ⟨h1, R1, R2, R3, R4, an, h2, h3, h4, h5, h6, h7⟩
  · exact .inl h
  · refine .inr ⟨h1, (L.map Line.keyL, s, d, an), ?_, rfl, rfl, rfl, h6⟩
    rw [readM_4 (ns := ns) (R := wordsL l) (R3 := R3) (L := L.map Line.keyL) (d := d) (s := s) (a := an) (by rw [h2]) (by rw [h2]; show (drawsM R1).1 = _; rw [h3]) (by rw [h2]; show sysM (drawsM R1).2 = _; rw [h3]; exact h4) (by rw [h5]), h5]
    exact if_pos (h7.symm.trans hk)
end Go.Proofs.YtifjhpaoejageaaGreatDoor
namespace Go.Proofs.YtifjhpaoejageaaGreatDoor
open Eng
theorem parseO_3 {g : Game} {l : List UInt8} (h : gameErr g = 0) (hl : ¬ 32768 < l.length) {Rf : List Wd} (hr : readM (g.addons.map Addon.name) (wordsL l) = (none, Rf)) : parseO g l = (zK, 1, posR l Rf) := by
  unfold parseO; rw [if_neg (fun hh => hh h), if_neg hl, hr]
theorem parseO_4 {g : Game} {l : List UInt8} (h : gameErr g = 0) (hl : ¬ 32768 < l.length) {k : BetM} {Rf : List Wd} (hr : readM (g.addons.map Addon.name) (wordsL l) = (some k, Rf)) : parseO g l = if betErrK g k ≠ 0 then (zK, betErrK g k, 0) else (k, 0, 0) := by
  unfold parseO; rw [if_neg (fun hh => hh h), if_neg hl, hr]
end Go.Proofs.YtifjhpaoejageaaGreatDoor
namespace Go.Proofs.YtifjhpaoejageaaGreatDoor
open Eng
structure LineOk (g : Game) (l : Line) : Prop where
  g0 : gameErr g = 0
  ml : (l.main.length : Int) = g.main
  bl : (l.bonus.length : Int) = g.bonus
  mi : allIn (if g.kind = 2 then 0 else 1) (if g.kind = 2 then g.of - 1 else g.of) l.main
  bi : allIn 1 g.bonusOf l.bonus
  mn : g.kind ≠ 2 → l.main.Nodup
  bn : l.bonus.Nodup
theorem lineOk {g : Game} {l : Line} (h : lineErr g l = 0) : LineOk g l := by
  unfold lineErr at h
  by_cases h1 : gameErr g ≠ 0
  · rw [if_pos h1] at h; exact absurd h h1
  rw [if_neg h1] at h
  by_cases h2 : (l.main.length : Int) ≠ g.main ∨ (l.bonus.length : Int) ≠ g.bonus
  · rw [if_pos h2] at h; exact absurd h (by decide)
  rw [if_neg h2] at h
  by_cases h3 : ¬ allIn (if g.kind = 2 then 0 else 1) (if g.kind = 2 then g.of - 1 else g.of) l.main ∨ ¬ allIn 1 g.bonusOf l.bonus
  · rw [if_pos h3] at h; exact absurd h (by decide)
  rw [if_neg h3] at h
  by_cases h4 : (g.kind ≠ 2 ∧ ¬ l.main.Nodup) ∨ ¬ l.bonus.Nodup
  · rw [if_pos h4] at h; exact absurd h (by decide)
  exact ⟨Classical.not_not.1 h1, by omega, by omega, Classical.byContradiction fun hc => h3 (.inl hc), Classical.byContradiction fun hc => h3 (.inr hc), fun hk => Classical.byContradiction fun hc => h4 (.inl ⟨hk, hc⟩), Classical.byContradiction fun hc => h4 (.inr hc)⟩
def wE (w : Wd) : List Value := [.string (bA w)]
theorem wE_len (w : Wd) : (wE w).length = 1 := rfl
def Bet.key (b : Bet) : BetM := (b.lines.map Line.keyL, b.system, b.draws, b.addons.toNat)
def gNs (g : Game) : List ByteArray := g.addons.map Addon.name
open Classical in
noncomputable def printL (g : Game) (b : Bet) : List UInt8 := if betErr g b = 0 then joinW (toks (gNs g) b.key) else []
structure BetOk (g : Game) (b : Bet) : Prop where
  g0 : gameErr g = 0
  ln : 1 ≤ b.lines.length ∧ b.lines.length ≤ 16
  ls : ∀ x ∈ b.lines, LnSm x.keyL ∧ x.main.length ≤ 14 ∧ x.bonus.length ≤ 4
  dr : 1 ≤ b.draws ∧ b.draws ≤ 32
  ad : 0 ≤ b.addons ∧ b.addons < 2 ^ g.addons.length
theorem sm_of {lo hi : Int} {l : List Int} (h : allIn lo hi l) (h0 : 0 ≤ lo) (h1 : hi < 100) : ∀ n ∈ l, Sm n := fun n hn => ⟨Int.le_trans h0 (h n hn).1, Int.lt_of_le_of_lt (h n hn).2 h1⟩
theorem line_sm {g : Game} {sys : Bool} {x : Line} (h : sizeE g sys x = 0) : LnSm x.keyL ∧ x.main.length ≤ 14 ∧ x.bonus.length ≤ 4 := by
  have hs := size_small h
  refine ⟨?_, hs.1, hs.2.1⟩
  cases sys with
  | true =>
    have h' : sysErr g x = 0 := h
    have ho := sysOk h'
    have hk := sysG_ok ho.g0
    have hg := gameOk hk.1
    have q2 := hg.mx.h2
    have q4 := hg.mx.h4 (by omega)
    have hbo : g.bonusOf < 100 := by
      by_cases h0 : g.bonus = 0
      · have := hg.mx.h8 h0; omega
      · have := hg.mx.h9 h0; omega
    refine ⟨fun e => ?_, sm_of ho.mi (by decide) (by omega), sm_of ho.bi (by decide) hbo⟩
    have e' : x.main = [] := e
    have := ho.ml.1
    rw [e', List.length_nil] at this
    omega
  | false =>
    have h' : lineErr g x = 0 := h
    have ho := lineOk h'
    have hg := gameOk ho.g0
    have q2 := hg.mx.h2
    have q3 := hg.mx.h3
    have q4 := hg.mx.h4
    have hbo : g.bonusOf < 100 := by
      by_cases h0 : g.bonus = 0
      · have := hg.mx.h8 h0; omega
      · have := hg.mx.h9 h0; omega
    have hmi := ho.mi
    refine ⟨fun e => ?_, ?_, sm_of ho.bi (by decide) hbo⟩
    · have e' : x.main = [] := e
      have := ho.ml
      rw [e', List.length_nil] at this
      omega
    · by_cases hk : g.kind = 2
      · rw [if_pos hk, if_pos hk] at hmi
        have := q3 hk
        exact sm_of hmi (by decide) (by omega)
      · rw [if_neg hk, if_neg hk] at hmi
        have := q4 hk
        exact sm_of hmi (by decide) (by omega)
theorem betOk {g : Game} {b : Bet} (h : betErr g b = 0) : BetOk g b := by
  unfold betErr at h
  by_cases h1 : gameErr g ≠ 0
  · rw [if_pos h1] at h; exact absurd h h1
  rw [if_neg h1] at h
  by_cases h2 : ¬ (1 ≤ b.lines.length ∧ b.lines.length ≤ 16)
  · rw [if_pos h2] at h; exact absurd h (by decide)
  rw [if_neg h2] at h
  by_cases h3 : lnErr g b.system b.lines ≠ 0
  · rw [if_pos h3] at h; exact absurd h h3
  rw [if_neg h3] at h
  by_cases h4 : 1024 < totN g b.system b.lines
  · rw [if_pos h4] at h; exact absurd h (by decide)
  rw [if_neg h4] at h
  by_cases h5 : ¬ (1 ≤ b.draws ∧ b.draws ≤ g.draws)
  · rw [if_pos h5] at h; exact absurd h (by decide)
  rw [if_neg h5] at h
  by_cases h6 : ¬ (0 ≤ b.addons ∧ b.addons < 2 ^ g.addons.length)
  · rw [if_pos h6] at h; exact absurd h (by decide)
  have g0 := Classical.not_not.1 h1
  have hd := (gameOk g0).mx.h13
  have h5' := Classical.not_not.1 h5
  refine ⟨g0, Classical.not_not.1 h2, fun x hx => ?_, ⟨h5'.1, by omega⟩, Classical.not_not.1 h6⟩
  obtain ⟨i, hi⟩ := List.mem_iff_getElem?.1 hx
  have h0 := lnErr_zero.1 (Classical.not_not.1 h3) i (List.getElem?_eq_some_iff.1 hi).1
  exact line_sm (sizeE_of_lnAt hi h0)
theorem addons_each {pre : List Addon} : ∀ {l : List Addon}, addonsFrom pre l = 0 → ∀ a ∈ l, addonErr a = 0
  | [], _, _, h => by cases h
  | b :: l, h, a, ha => by
    unfold addonsFrom at h
    by_cases h1 : addonErr b ≠ 0
    · rw [if_pos h1] at h; exact absurd h h1
    rw [if_neg h1] at h
    by_cases h2 : ∃ c ∈ pre, c.name = b.name ∨ c.kind = b.kind
    · rw [if_pos h2] at h; exact absurd h (by decide)
    rw [if_neg h2] at h
    rcases List.mem_cons.1 ha with rfl | ha
    · exact Classical.not_not.1 h1
    · exact addons_each h a ha
theorem addons_pre {pre : List Addon} : ∀ {l : List Addon}, addonsFrom pre l = 0 → ∀ a ∈ l, ∀ c ∈ pre, c.name ≠ a.name
  | [], _, _, h, _, _ => by cases h
  | b :: l, h, a, ha, c, hc => by
    unfold addonsFrom at h
    by_cases h1 : addonErr b ≠ 0
    · rw [if_pos h1] at h; exact absurd h h1
    rw [if_neg h1] at h
    by_cases h2 : ∃ c ∈ pre, c.name = b.name ∨ c.kind = b.kind
    · rw [if_pos h2] at h; exact absurd h (by decide)
    rw [if_neg h2] at h
    rcases List.mem_cons.1 ha with rfl | ha
    · exact fun e => h2 ⟨c, hc, .inl e⟩
    · exact addons_pre h a ha c (List.mem_append_left _ hc)
theorem addons_dis {pre : List Addon} : ∀ {l : List Addon}, addonsFrom pre l = 0 → ∀ (i j : Nat) (w : ByteArray), (l.map Addon.name)[i]? = some w → (l.map Addon.name)[j]? = some w → i = j
  | [], _, i, _, _, h, _ => by simp at h
  | b :: l, h, i, j, w, hi, hj => by
    have hh := h
    unfold addonsFrom at h
    by_cases h1 : addonErr b ≠ 0
    · rw [if_pos h1] at h; exact absurd h h1
    rw [if_neg h1] at h
    by_cases h2 : ∃ c ∈ pre, c.name = b.name ∨ c.kind = b.kind
    · rw [if_pos h2] at h; exact absurd h (by decide)
    rw [if_neg h2] at h
    have hno : ∀ k, (l.map Addon.name)[k]? ≠ some b.name := fun k hk => by
      rw [List.getElem?_map] at hk
      cases ha : l[k]? with
      | none => rw [ha] at hk; cases hk
      | some a =>
        rw [ha] at hk
        exact addons_pre h a (List.mem_of_getElem? ha) b (List.mem_append_right _ (List.mem_cons_self ..)) (Option.some.inj hk).symm
    cases i with
    | zero =>
      cases j with
      | zero => rfl
      | succ j =>
        have hi' : some b.name = some w := hi
        have hj' : (l.map Addon.name)[j]? = some w := hj
        rw [← hi'] at hj'
        exact absurd hj' (hno j)
    | succ i =>
      cases j with
      | zero =>
        have hi' : (l.map Addon.name)[i]? = some w := hi
        have hj' : some b.name = some w := hj
        rw [← hj'] at hi'
        exact absurd hi' (hno i)
      | succ j => rw [addons_dis h i j w hi hj]
theorem ad_from {g : Game} (h : GameOk g) : addonsFrom [] g.addons = 0 := by
  have := h.ad
  unfold addonsErr at this
  split at this
  · cases this
  · exact this
theorem gNs_dis {g : Game} (h : GameOk g) : Dis (gNs g) := addons_dis (ad_from h)
theorem gNs_name {g : Game} (h : GameOk g) : ∀ w ∈ gNs g, nameB w = true := fun w hw => by
  obtain ⟨a, ha, rfl⟩ := List.mem_map.1 hw
  have := addons_each (ad_from h) a ha
  unfold addonErr at this
  by_cases h1 : nameB a.name = false
  · rw [if_pos h1] at this; cases this
  · exact (Bool.not_eq_false _).mp h1
theorem name_ns {w : ByteArray} (h : nameB w = true) : (32 : UInt8) ∉ w.data.toList ∧ w ≠ bA [] ∧ w.data.toList.length ≤ 24 := by
  unfold nameB at h
  simp only [Bool.and_eq_true] at h
  obtain ⟨⟨h1, h2⟩, h3⟩ := h
  have h1' := of_decide_eq_true h1
  refine ⟨fun hm => ?_, fun e => ?_, ?_⟩
  · exact absurd (List.all_eq_true.1 h3 32 hm) (by decide)
  · rw [e] at h1'; exact absurd h1'.1 (by decide)
  · rw [size_list]; exact h1'.2
theorem gNs_len (g : Game) : (gNs g).length = g.addons.length := List.length_map ..
theorem bet_sm {g : Game} {b : Bet} (h : BetOk g b) : BetSm (gNs g) b.key := by
  refine ⟨fun e => ?_, fun x hx => ?_, ⟨by have := h.dr; show 0 ≤ b.draws; omega, by have := h.dr; show b.draws < 100; omega⟩, ?_⟩
  · have h1 := congrArg List.length (show b.lines.map Line.keyL = [] from e)
    rw [List.length_map, List.length_nil] at h1
    have := h.ln; omega
  · obtain ⟨y, hy, rfl⟩ := List.mem_map.1 (show x ∈ b.lines.map Line.keyL from hx)
    exact (h.ls y hy).1
  · show b.addons.toNat < 2 ^ (gNs g).length
    rw [gNs_len]
    have h2 := h.ad
    have h3 : ((2 ^ g.addons.length : Nat) : Int) = 2 ^ g.addons.length := by simp
    omega
theorem fmtW {m : Mem} {n : Int} (h : Sm n) : PureCall Tryz.prog 26 [.int .i64 n] m (.string (bA (decW n))) := by
  obtain ⟨k, rfl⟩ : ∃ k : Nat, n = k := ⟨n.toNat, by have := h.1; omega⟩
  exact fmtI k (by have := h.2; omega)
theorem fmtWR {m : Mem} {n : Int} (h : Sm n) : PureCall Tryz.prog 62 [.int .i64 n] m (.string (bA (decW n))) := by
  obtain ⟨k, rfl⟩ : ∃ k : Nat, n = k := ⟨n.toNat, by have := h.1; omega⟩
  exact fmtR k (by have := h.2; omega)
theorem lnsTok_step {K : List LnK} {i : Nat} {x : LnK} (h : K[i]? = some x) : lnsTok (K.take (i + 1)) = (lnsTok (K.take i) ++ (if 0 < i then [[47]] else [])) ++ lnTok x := by
  rw [take_snocA h]
  cases i with
  | zero => rw [List.take_zero]; rfl
  | succ i =>
    rw [lnsTok_snoc _ _ (fun e => by
      have h1 := congrArg List.length e
      have h2 := (List.getElem?_eq_some_iff.1 h).1
      rw [List.length_take, List.length_nil] at h1; omega), if_pos (by omega), List.append_assoc]
    rfl
theorem lnTok_le {x : Line} (h1 : x.main.length ≤ 14) (h2 : x.bonus.length ≤ 4) : (lnTok x.keyL).length ≤ 19 := by
  have e : (lnTok x.keyL).length = x.main.length + (if x.bonus = [] then [] else [43] :: x.bonus.map decW : List Wd).length := by
    show (x.main.map decW ++ _).length = _
    rw [List.length_append, List.length_map]
    rfl
  rw [e]
  split
  · simp; omega
  · simp; omega
theorem addTokF_snoc (ns : List ByteArray) (a k : Nat) : addTokF ns a 0 (k + 1) = addTokF ns a 0 k ++ (if a.testBit k = true then [nmAt ns k] else []) := by
  unfold addTokF
  rw [show List.range' 0 (k + 1) = List.range' 0 k ++ [k] by rw [List.range'_concat]; simp, List.filter_append, List.map_append]
  by_cases h : a.testBit k = true
  · rw [if_pos h, List.filter_cons, if_pos h]; rfl
  · rw [if_neg h, List.filter_cons, if_neg h]; rfl
theorem addTokF_le (ns : List ByteArray) (a : Nat) : ∀ k, (addTokF ns a 0 k).length ≤ k
  | 0 => Nat.le_refl _
  | k + 1 => by
    rw [addTokF_snoc, List.length_append]
    have := addTokF_le ns a k
    split <;> simp <;> omega
theorem bit_gF : ∀ (a : Fin 16) (i : Fin 4), bits .and .i64 (((a.val : Nat) : Int).fdiv (2 ^ (min ((i.val : Nat) : Int).toNat IntKind.i64.bits))) 1 = if a.val.testBit i.val = true then 1 else 0 := by decide +kernel
theorem bit_rF : ∀ (a : Fin 16) (i : Fin 4), ((((a.val : Nat) : Int).fdiv (2 ^ (min ((i.val : Nat) : Int).toNat IntKind.i64.bits))).tmod 2) = if a.val.testBit i.val = true then 1 else 0 := by decide +kernel
theorem bit_g {a i : Nat} (ha : a < 16) (hi : i < 4) : bits .and .i64 (((a : Nat) : Int).fdiv (2 ^ (min ((i : Nat) : Int).toNat IntKind.i64.bits))) 1 = if a.testBit i = true then 1 else 0 := bit_gF ⟨a, ha⟩ ⟨i, hi⟩
theorem bit_r {a i : Nat} (ha : a < 16) (hi : i < 4) : ((((a : Nat) : Int).fdiv (2 ^ (min ((i : Nat) : Int).toNat IntKind.i64.bits))).tmod 2) = if a.testBit i = true then 1 else 0 := bit_rF ⟨a, ha⟩ ⟨i, hi⟩
theorem bit_is {a i : Nat} : ((if a.testBit i = true then 1 else 0 : Int) = 1) ↔ a.testBit i = true := by
  by_cases h : a.testBit i = true
  · rw [if_pos h]; exact ⟨fun _ => h, fun _ => rfl⟩
  · rw [if_neg h]; exact ⟨fun e => absurd e (by decide), fun e => absurd e h⟩
theorem joinW_len : ∀ (T : List Wd) (n : Nat), (∀ w ∈ T, w.length ≤ n) → (joinW T).length ≤ (n + 1) * T.length
  | [], n, _ => by simp [joinW]
  | [w], n, h => by
    have := h w (List.mem_cons_self ..)
    show w.length ≤ (n + 1) * 1
    omega
  | w :: v :: ws, n, h => by
    have ih := joinW_len (v :: ws) n (fun x hx => h x (List.mem_cons_of_mem _ hx))
    have := h w (List.mem_cons_self ..)
    rw [joinW_cons (by simp), List.length_append, List.length_cons, List.length_cons, Nat.mul_succ]
    omega
theorem lib_join : ∀ (T : List Wd), Lib.join T [32] = joinW T
  | [] => rfl
  | [w] => by show [32].intercalate [w] = w; simp [List.intercalate]
  | w :: v :: ws => by
    have ih := lib_join (v :: ws)
    show [32].intercalate (w :: v :: ws) = w ++ 32 :: joinW (v :: ws)
    rw [← ih]
    show [32].intercalate (w :: v :: ws) = w ++ 32 :: [32].intercalate (v :: ws)
    simp [List.intercalate]
theorem joinI {m : Mem} {a : Option Addr} {c : Nat} {T : List Wd} (h : RL m wE 1 (.slice a T.length c) T) (hne : T ≠ []) (hl : T.length ≤ 1000000) (hb : (joinW T).length ≤ 100000000) : PureCall Tryz.prog 27 [.slice a T.length c, .string (bA [32])] m (.string (bA (joinW T))) := fun σ => by
  refine CallsS.below fun g W hC => ?_
  obtain ⟨a', c', e, hc⟩ := h.full
  cases e
  obtain ⟨w0, hw0⟩ : ∃ w, T[0]? = some w := ⟨_, List.getElem?_eq_getElem (List.length_pos_iff.2 hne)⟩
  obtain ⟨ad, rfl, _, hat0⟩ := h.atA wE_len hw0
  have hcell : ∀ (j : Nat) (w : Wd), T[j]? = some w → W.cell? (ad.add j) = some (.string (bA w)) := fun j w hj => by
    obtain ⟨ad2, e2, _, hat⟩ := h.atA wE_len hj
    cases e2
    have := hC.cell? (hat 0 (.string (bA w)) rfl)
    rw [Nat.mul_one] at this
    exact this
  have h0 := hcell 0 w0 hw0
  have hsp : ad.spot = none := by
    have h1 := hat0 0 (.string (bA w0)) rfl
    unfold Mem.cell at h1
    cases hs : ad.spot with
    | none => rfl
    | some z =>
      have e3 : ((ad.add (0 * 1)).add 0).spot = some z := hs
      rw [e3] at h1
      cases hm : m ((ad.add (0 * 1)).add 0).block with
      | none => rw [hm] at h1; cases h1
      | some o => rw [hm] at h1; cases h1
  have hlt : ad.block < W.heap.size := by
    have h1 : W.cell? (ad.add 0) = some (.string (bA w0)) := h0
    unfold World.cell? at h1
    cases hh : W.heap[(ad.add 0).block]? with
    | none => rw [hh] at h1; cases h1
    | some o => exact (Array.getElem?_eq_some_iff.1 hh).1
  have ead : ad = ⟨ad.block, ad.off, none⟩ := by
    cases ad; simp only at hsp; subst hsp; rfl
  have key := Tryz.strings_Join ad.block ad.off c (T.map bA) (bA [32]) W (fun j x hj => by
    rw [List.getElem?_map] at hj
    cases hw : T[j]? with
    | none => rw [hw] at hj; cases hj
    | some w =>
      rw [hw] at hj
      have := hcell j w hw
      rw [show (Option.map bA (some w)) = some (bA w) from rfl] at hj
      rw [← Option.some.inj hj]
      rw [ead, show (Addr.add ⟨ad.block, ad.off, none⟩ j) = ⟨ad.block, ad.off + j, none⟩ by simp [Addr.add]] at this
      exact this) hlt (by rw [List.length_map]; omega) (by rw [List.length_map]; exact hc) (by
    rw [List.map_map, show (fun x : ByteArray => x.data.toList) ∘ bA = id from by funext w; simp [bA], List.map_id]
    show (Lib.join T [32]).length ≤ _
    rw [lib_join]; omega)
  rw [List.length_map, List.map_map, show (fun x : ByteArray => x.data.toList) ∘ bA = id from by funext w; simp [bA], List.map_id] at key
  rw [← ead] at key
  have e9 : (Lib.join T (bA [32]).data.toList) = joinW T := lib_join T
  rw [e9] at key
  exact key
theorem toks_short {g : Game} {b : Bet} (h : BetOk g b) : ∀ w ∈ toks (gNs g) b.key, w.length ≤ 24 := by
  have hs := bet_sm h
  have hg := gameOk h.g0
  have hln : ∀ x, LnSm x → ∀ w ∈ lnTok x, w.length ≤ 24 := fun x hx w hw => by
    simp only [lnTok, List.mem_append] at hw
    rcases hw with hw | hw
    · obtain ⟨n, hn, rfl⟩ := List.mem_map.1 hw; have := decW_len (hx.m n hn); omega
    · by_cases h2 : x.2 = []
      · rw [if_pos h2] at hw; cases hw
      · rw [if_neg h2] at hw
        rcases List.mem_cons.1 hw with rfl | hw
        · decide
        · obtain ⟨n, hn, rfl⟩ := List.mem_map.1 hw; have := decW_len (hx.b n hn); omega
  have hls : ∀ L : List LnK, (∀ x ∈ L, LnSm x) → ∀ w ∈ lnsTok L, w.length ≤ 24 := by
    intro L
    induction L with
    | nil => exact fun _ w hw => absurd hw (by simp [lnsTok])
    | cons x r ih =>
      intro hL w hw
      cases r with
      | nil => exact hln x (hL x (List.mem_cons_self ..)) w hw
      | cons y r =>
        rw [lnsTok_cons x (by simp)] at hw
        rcases List.mem_append.1 hw with hw | hw
        · exact hln x (hL x (List.mem_cons_self ..)) w hw
        · rcases List.mem_cons.1 hw with rfl | hw
          · decide
          · exact ih (fun z hz => hL z (List.mem_cons_of_mem _ hz)) w hw
  intro w hw
  simp only [toks, tailTok, List.mem_append] at hw
  rcases hw with hw | hw | hw | hw | hw
  · exact hls _ hs.ls w hw
  · by_cases h1 : b.key.2.2.1 ≠ 1
    · rw [if_pos h1] at hw
      rcases List.mem_cons.1 hw with rfl | hw
      · decide
      · rw [List.mem_singleton.1 hw]; have := decW_len hs.d; omega
    · rw [if_neg h1] at hw; cases hw
  · by_cases h1 : b.key.2.1 = true
    · rw [if_pos h1, List.mem_singleton] at hw; subst hw; decide
    · rw [if_neg h1] at hw; cases hw
  · by_cases h1 : b.key.2.2.2 ≠ 0
    · rw [if_pos h1, List.mem_singleton] at hw; subst hw; decide
    · rw [if_neg h1] at hw; cases hw
  · unfold addTok addTokF at hw
    obtain ⟨i, hi, rfl⟩ := List.mem_map.1 hw
    have hi2 := List.mem_range'_1.1 (List.mem_filter.1 hi).1
    obtain ⟨v, hv⟩ : ∃ v, (gNs g)[i]? = some v := ⟨_, List.getElem?_eq_getElem (by omega)⟩
    unfold nmAt
    rw [hv]
    exact (name_ns (gNs_name hg v (List.mem_of_getElem? hv))).2.2
end Go.Proofs.YtifjhpaoejageaaGreatDoor
