/- lotteryref28.Draw. -/
import Derived.Test.YtkopdlglenejmaaDruG
namespace Go.Proofs.Ytkopdlglenejmaa
open Eng

theorem permV1 {α : Type} (x y z w : α) (a : List α) : (a ++ [x, y, z, w]).Perm ([w] ++ (a ++ [x, y, z])) := permV x y z w a []

set_option maxRecDepth 100000 in
theorem drawX {m : Mem} {g : Game} (hin : g.In m) (s : Int) : CallsS Try.prog 12 [g.val, .int .u64 s].toArray [] m fun r σ' m' => σ' = [] ∧ ResOf r m' (drawF g s).1 (drawF g s).2 := by
  refine CallsS.ghost (R' := fun r σ' m' => ResOf r m' (drawF g s).1 (drawF g s).2) ?_ ?h2
  case h2 =>
    rintro r σ' m' hR g0 W hC
    exact ⟨[], m', hC.sublist (List.nil_sublist _), Le.refl _, rfl, hR⟩
  dsimp only [Game.val]
  refine enter Try.func12 Try.ntmps12 rfl rfl ?_
  refine SWP_seq ?_
  refine SWP_region ?_
  refine bx (v := .agg _) rfl rfl (fun B2 => ?_)
  refine al rfl rfl (fun B4 => ?_)
  refine pI rfl rfl ?_
  refine SL_nil ?_
  refine nx ?_
  refine SWP_seq ?_
  refine SWP_region ?_
  refine lw (v := .agg _) B2 0 rfl rfl rfl rfl ?_
  refine SL_call rfl rfl cb16 (CallsS.frame0 (checkR hin)) rfl (fun v1_1 σ1_1 m1_1 hl1_1 hR1_1 => ?_)
  obtain ⟨σc, rfl, rfl, hm1_1, s0, rfl⟩ := hR1_1
  have hn1_1 := hm1_1.symm
  subst hn1_1
  refine pu rfl rfl ?_
  first | refine pI rfl rfl ?_ | refine pu rfl rfl ?_
  first | refine pS rfl rfl ?_ | refine pu rfl rfl ?_
  first | refine pI rfl rfl ?_ | refine pu rfl rfl ?_
  first | refine pS rfl rfl ?_ | refine pu rfl rfl ?_
  refine SL_nil ?_
  refine nx ?_
  refine SWP_seq ?_
  refine SWP_seq ?_
  refine SWP_region ?_
  first | refine pI rfl rfl ?_ | refine pu rfl rfl ?_
  refine pc rfl rfl (fun c21 => ?_) (fun c21 => ?_)
  · skip
    refine SL_nil ?_
    refine nx ?_
    refine SWP_ct rfl ?_
    refine SWP_seq ?_
    refine SWP_region ?_
    refine pA rfl rfl ?_
    first | refine pI rfl rfl ?_ | refine pu rfl rfl ?_
    refine sw (v := .agg _) B4 0 rfl rfl rfl rfl rfl rfl rfl ?_
    first | refine pI rfl rfl ?_ | refine pu rfl rfl ?_
    refine SL_nil ?_
    refine nx ?_
    refine SWP_ret ?_
    refine nr ?_
    refine fin [_, _] ⟨⟨_, _, rfl, Rd.of_cells (MemO.mem (B := B4)), rfl⟩, rfl, trivial⟩ ?_
    have e : drawF g s = (gameErr g, ([], [], [])) := if_pos (by assumption)
    rw [e]
    exact ⟨zeroR, rfl, zeroR_in _, zeroR_out⟩
  refine SL_nil ?_
  refine nx ?_
  refine SWP_cf rfl ?_
  refine SWP_skip ?_
  refine nx ?_
  refine SWP_seq ?_
  refine SWP_region ?_
  first | refine pI rfl rfl ?_ | refine pu rfl rfl ?_
  refine SL_call rfl rfl cb24 (CallsS.frame0 (newR s)) rfl (fun v4_1 σ4_1 m4_1 hl4_1 hR4_1 => ?_)
  obtain ⟨σn, rfl, B, rfl, rfl, hm4_1⟩ := hR4_1
  have hn4_1 := hm4_1.symm
  subst hn4_1
  refine SL_perm (List.perm_append_comm (l₁ := [_]) (l₂ := [_, _])) ?_
  first | refine pP rfl rfl ?_ | refine pu rfl rfl ?_
  refine SL_nil ?_
  refine nx ?_
  refine SWP_seq ?_
  have hz : gameErr g = 0 := Classical.not_not.1 (by assumption)
  have hg := gameOk hz
  have hg2 := hg.mx.h2
  have hg10 := hg.mx.h10
  have hg11 := hg.mx.h11
  have hg12 := hg.mx.h12
  refine SWP_region ?_
  refine al rfl rfl (fun B9 => ?_)
  refine SL_nil ?_
  refine nx ?_
  refine SWP_seq ?_
  refine SWP_seq ?_
  refine SWP_region ?_
  refine pu rfl rfl ?_
  refine lw (v := .int .i64 _) B2 1 rfl rfl rfl rfl ?_
  refine pc rfl rfl (fun c28 => ?_) (fun c28 => ?_)
  · skip
    refine SL_nil ?_
    refine nx ?_
    refine SWP_ct rfl ?_
    refine SWP_seq ?_
    refine SWP_seq ?_
    obtain ⟨mn, hmm⟩ := Int.eq_ofNat_of_zero_le (show 0 ≤ g.main by omega)
    have hmt : g.main.toNat = mn := by omega
    refine SWP_region ?_
    refine pI rfl rfl ?_
    refine SL_nil ?_
    refine nx ?_
    refine SWP_block ?_
    refine SWP_loop [5, 10, 11, 12, 29, 30, 31, 32, 33, 34, 35, 36, 37, 38, 39, 40, 41, 42, 43, 44, 45, 46, 47, 48, 49, 50, 51] [10]
        (fun vs σ' m' => ∃ (i : Nat) (s1 u1 : Int) (σl : Sig) (A : List Int) (wa : Option Addr) (wc : Nat), vs = [.int .i64 (i : Nat)] ∧ i ≤ mn ∧ A.length = i ∧ digN g.of mn s [] = digN g.of (mn - i) s1 A ∧ OwnS 3 1 (.slice wa A.length wc) (A.flatMap intE) σl ∧ σ' = σl ++ [(B9, Cells 31 [.slice wa A.length wc, .slice none 0 0, .slice none 0 0, .int .i64 0, .string ⟨#[]⟩]), (B4, Cells 31 [.slice none 0 0, .slice none 0 0, .slice none 0 0, .int .i64 0, .string ⟨#[]⟩]), (B2, Cells 25 g.enc), (B, Cells 75 [.int .u64 s1, .int .i64 u1])] ∧ m = m')
        (fun vs => mn - nOf (vs.getD 0 undef)) rfl ?_ ?_
    · exact ⟨0, s, 0, [], [], none, 0, rfl, by omega, rfl, rfl, .nil, rfl, rfl⟩
    intro u0 vs0 σ0 m0 hJ0 _
    obtain ⟨i, s1, u1, σl, A, wa, wc, rfl, hi, hA, hD, hown, rfl, rfl⟩ := hJ0
    refine SWP_seq ?_
    refine SWP_seq ?_
    refine SWP_region ?_
    first | refine pI rfl rfl ?_ | refine pu rfl rfl ?_
    refine pu rfl rfl ?_
    refine lw (v := .int .i64 _) B2 3 rfl rfl rfl rfl ?_
    refine pc rfl rfl (fun c32 => ?_) (fun c32 => ?_)
    · skip
      refine SL_nil ?_
      refine nx ?_
      refine SWP_ct rfl ?_
      refine SWP_skip ?_
      refine nx ?_
      refine SWP_seq ?_
      refine SWP_block ?_
      refine SWP_seq ?_
      refine SWP_region ?_
      first | refine pP rfl rfl ?_ | refine pu rfl rfl ?_
      refine pu rfl rfl ?_
      refine lw (v := .int .i64 _) B2 4 rfl rfl rfl rfl ?_
      refine SL_call rfl rfl cb25 (CallsS.subF (σl ++ [_, _, _]) (belowR B g.of s1 u1) (permV1 _ _ _ _ σl)) rfl (fun v10_3 σ10_3 m10_3 hl10_3 hR10_3 => ?_)
      obtain ⟨σz, rfl, rfl, ⟨u2, rfl⟩, hm10_3⟩ := hR10_3
      have hn10_3 := hm10_3.symm
      subst hn10_3
      refine SL_perm (permV1 _ _ _ _ σl).symm ?_
      refine pu rfl rfl ?_
      first | refine pI rfl rfl ?_ | refine pu rfl rfl ?_
      first | refine pI rfl rfl ?_ | refine pu rfl rfl ?_
      first | refine pI rfl rfl ?_ | refine pu rfl rfl ?_
      first | refine pI rfl rfl ?_ | refine pu rfl rfl ?_
      refine SL_nil ?_
      refine nx ?_
      refine SWP_seq ?_
      refine SWP_seq ?_
      refine SWP_region ?_
      first | refine pI rfl rfl ?_ | refine pu rfl rfl ?_
      refine pc rfl rfl (fun c43 => ?_) (fun c43 => ?_)
      · skip
        refine SL_nil ?_
        refine nx ?_
        refine SWP_ct rfl ?_
        refine SWP_seq ?_
        refine SWP_region ?_
        refine pA rfl rfl ?_
        first | refine pI rfl rfl ?_ | refine pu rfl rfl ?_
        refine sw (v := .agg _) B4 0 rfl rfl rfl rfl rfl rfl rfl ?_
        first | refine pI rfl rfl ?_ | refine pu rfl rfl ?_
        refine SL_nil ?_
        refine nx ?_
        refine SWP_ret ?_
        refine nr ?_
        refine br ?_
        refine nr ?_
        refine nr ?_
        refine br ?_
        refine nr ?_
        refine nr ?_
        refine fin [_, _] ⟨⟨_, _, rfl, Rd.of_cells (MemO.mem (B := B4)), rfl⟩, rfl, trivial⟩ ?_
        have e : drawF g s = ((digN g.of g.main.toNat s []).1, ((digN g.of g.main.toNat s []).2, [], [])) := (if_neg (fun hh => hh hz)).trans (if_pos (by assumption))
        rw [e, hmt]
        have e2 : digN g.of mn s [] = ((belowF g.of s1).2.1, []) := hD.trans (by rw [show mn - i = (mn - (i + 1)) + 1 by omega]; exact digN_err (by assumption))
        rw [e2]
        exact ⟨zeroR, rfl, zeroR_in _, zeroR_out⟩
      refine SL_nil ?_
      refine nx ?_
      refine SWP_cf rfl ?_
      refine SWP_skip ?_
      refine nx ?_
      refine SWP_region ?_
      refine pu rfl rfl ?_
      refine lw (v := .slice _ _ _) B9 0 rfl rfl rfl rfl ?_
      first | refine pI rfl rfl ?_ | refine pu rfl rfl ?_
      refine bs rfl rfl rfl rfl rfl (fun B49 => ?_)
      refine ap (e := 3) (size := 1) (bytes := 8) rfl rfl rfl rfl rfl rfl rfl hown (permX [_] σl _) rfl (Rd.of_cells (.head _)) rfl rfl (by rw [flatMap_len intE_len]; omega) rfl rfl (fun w9 σ9 hown9 => ?_)
      have hown8 : OwnS 3 1 w9 ((A ++ [(belowF g.of s1).1]).flatMap intE) σ9 := by
        rw [List.flatMap_append]; exact hown9
      obtain ⟨wa9, wc9, rfl⟩ := hown8.lenL (by omega) intE_len
      refine SL_weak (List.Sublist.append_left (List.sublist_append_right [_] _) _) ?_
      refine pu rfl rfl ?_
      refine sw (v := .slice _ _ _) B9 0 rfl rfl rfl rfl rfl rfl rfl ?_
      refine SL_nil ?_
      refine nb ?_
      refine nx ?_
      refine SWP_region ?_
      first | refine pI rfl rfl ?_ | refine pu rfl rfl ?_
      first | refine pw rfl rfl (w64 (by omega) (by omega)) ?_ | refine pu rfl rfl ?_
      refine pI rfl rfl ?_
      refine SL_nil ?_
      refine nx ?_
      refine ⟨by repeat (first | exact Under.upds rfl (Under.hav _ _ _) | exact Under.hav _ _ _ | refine Under.upd rfl ?_), ?_, ?_⟩
      · refine ⟨i + 1, _, u2, σ9, A ++ [(belowF g.of s1).1], wa9, wc9, rfl, by omega, by rw [List.length_append, hA]; rfl, hD.trans (by rw [show mn - i = (mn - (i + 1)) + 1 by omega]; exact digN_ok (Classical.not_not.1 (by assumption))), hown8, rfl, rfl⟩
      · simp only [L_vals, List.map, List.getD]; show mn - (i + 1) < mn - i; omega
    refine SL_nil ?_
    refine nx ?_
    refine SWP_cf rfl ?_
    refine SWP_exit ?_
    refine ne ?_
    refine ne ?_
    refine be rfl ?_
    refine nx ?_
    refine SWP_seq ?_
    refine SWP_region ?_
    refine SL_freezeL (by omega) intE_len hown (fun m9 hl9 hb9 => ?_)
    refine lw (v := .agg _) B9 0 rfl rfl rfl rfl ?_
    refine sw (v := .agg _) B4 0 rfl rfl rfl rfl rfl rfl rfl ?_
    refine pI rfl rfl ?_
    refine SL_nil ?_
    refine nx ?_
    refine SWP_ret ?_
    refine nr ?_
    refine fin [_, _] ⟨⟨_, _, rfl, Rd.of_cells (MemO.mem (B := B4)), rfl⟩, rfl, trivial⟩ ?_
    have e : drawF g s = ((digN g.of g.main.toNat s []).1, ((digN g.of g.main.toNat s []).2, [], [])) := (if_neg (fun hh => hh hz)).trans (if_pos (by assumption))
    rw [e, hmt]
    obtain rfl : i = mn := by omega
    rw [Nat.sub_self] at hD
    have e2 : digN g.of i s [] = (0, A) := hD
    rw [e2]
    exact ⟨⟨wa, wc, A, none, 0, [], none, 0, [], 0, ⟨#[]⟩⟩, rfl, ⟨hb9, RL.nil _ _, RL.nil _ _⟩, ⟨rfl, rfl, rfl, rfl, rfl⟩⟩
  refine SL_nil ?_
  refine nx ?_
  refine SWP_cf rfl ?_
  refine SWP_skip ?_
  refine nx ?_
  refine SWP_seq ?_
  refine SWP_region ?_
  first | refine pP rfl rfl ?_ | refine pu rfl rfl ?_
  refine pu rfl rfl ?_
  refine lw (v := .int .i64 _) B2 4 rfl rfl rfl rfl ?_
  refine pu rfl rfl ?_
  refine lw (v := .int .i64 _) B2 3 rfl rfl rfl rfl ?_
  refine pu rfl rfl ?_
  refine lw (v := .int .i64 _) B2 7 rfl rfl rfl rfl ?_
  first | refine pw rfl rfl (w64 (by omega) (by omega)) ?_ | refine pu rfl rfl ?_
  refine SL_call rfl rfl cb26 (CallsS.subF [_, _, _] (sampR B g.of (g.main + g.extra) s 0) (List.perm_append_comm (l₁ := [_, _, _]) (l₂ := [_]))) rfl (fun v15_8 σ15_8 m15_8 hl15_8 hR15_8 => ?_)
  obtain ⟨σz15_8, rfl, v1, u1, rfl, hv1, rfl⟩ := hR15_8
  refine SL_perm (List.perm_append_comm (l₁ := [_]) (l₂ := [_, _, _])) ?_
  obtain ⟨va1, vc1, rfl, hcap1⟩ := hv1.full
  refine pu rfl rfl ?_
  first | refine pL rfl rfl ?_ | refine pu rfl rfl ?_
  first | refine pI rfl rfl ?_ | refine pu rfl rfl ?_
  first | refine pL rfl rfl ?_ | refine pu rfl rfl ?_
  first | refine pI rfl rfl ?_ | refine pu rfl rfl ?_
  refine SL_nil ?_
  refine nx ?_
  refine SWP_seq ?_
  refine SWP_seq ?_
  refine SWP_region ?_
  first | refine pI rfl rfl ?_ | refine pu rfl rfl ?_
  refine pc rfl rfl (fun c66 => ?_) (fun c66 => ?_)
  · skip
    refine SL_nil ?_
    refine nx ?_
    refine SWP_ct rfl ?_
    refine SWP_seq ?_
    refine SWP_region ?_
    refine pA rfl rfl ?_
    first | refine pI rfl rfl ?_ | refine pu rfl rfl ?_
    refine sw (v := .agg _) B4 0 rfl rfl rfl rfl rfl rfl rfl ?_
    first | refine pI rfl rfl ?_ | refine pu rfl rfl ?_
    refine SL_nil ?_
    refine nx ?_
    refine SWP_ret ?_
    refine nr ?_
    refine fin [_, _] ⟨⟨_, _, rfl, Rd.of_cells (MemO.mem (B := B4)), rfl⟩, rfl, trivial⟩ ?_
    have e : drawF g s = numF g.of g.main g.bonus g.bonusOf g.extra s := (if_neg (fun hh => hh hz)).trans (if_neg (by assumption))
    rw [e]
    rw [numF_err (by assumption)]
    exact ⟨zeroR, rfl, zeroR_in _, zeroR_out⟩
  refine SL_nil ?_
  refine nx ?_
  refine SWP_cf rfl ?_
  refine SWP_skip ?_
  refine nx ?_
  refine SWP_seq ?_
  obtain ⟨hLl, hL0, hL1, hL2⟩ := sampF_len (show (sampF g.of (g.main + g.extra) s).1 = 0 from Classical.not_not.1 (by assumption))
  have hsubA := RL.sub (lo := 0) (hi := g.main.toNat) intE_len hv1 (by omega) (by omega)
  have hsubB := RL.sub (lo := g.main.toNat) (hi := (sampF g.of (g.main + g.extra) s).2.1.length) intE_len hv1 (by omega) (by omega)
  rw [List.drop_zero] at hsubA
  rw [List.take_length] at hsubB
  refine SWP_region ?_
  first | refine pL rfl rfl ?_ | refine pu rfl rfl ?_
  refine pu rfl rfl ?_
  refine lw (v := .int .i64 _) B2 3 rfl rfl rfl rfl ?_
  refine slh (size := 1) rfl rfl rfl rfl rfl (by omega) (by omega) rfl ?_
  refine SL_call rfl rfl cb27 (CallsS.frame0 (sort13 (hsubA) (by rw [List.length_take]; omega))) rfl (fun v18_4 σ18_4 m18_4 hl18_4 hR18_4 => ?_)
  obtain ⟨σs1, rfl, rfl, hs1⟩ := hR18_4
  obtain ⟨sa1, sc1, es1⟩ := hs1.len
  subst es1
  refine pu rfl rfl ?_
  refine sw (v := .slice _ _ _) B9 0 rfl rfl rfl rfl rfl rfl rfl ?_
  refine SL_nil ?_
  refine nx ?_
  refine SWP_seq ?_
  refine SWP_region ?_
  first | refine pL rfl rfl ?_ | refine pu rfl rfl ?_
  refine pu rfl rfl ?_
  refine lw (v := .int .i64 _) B2 3 rfl rfl rfl rfl ?_
  refine slo (size := 1) rfl rfl rfl rfl rfl (by omega) (by omega) rfl ?_
  refine SL_call rfl rfl cb27 (CallsS.frame0 (sort13 (hsubB.mono hl18_4) (by rw [List.length_drop]; omega))) rfl (fun v19_4 σ19_4 m19_4 hl19_4 hR19_4 => ?_)
  obtain ⟨σs2, rfl, rfl, hs2⟩ := hR19_4
  obtain ⟨sa2, sc2, es2⟩ := hs2.len
  subst es2
  refine pu rfl rfl ?_
  refine sw (v := .slice _ _ _) B9 2 rfl rfl rfl rfl rfl rfl rfl ?_
  refine SL_nil ?_
  refine nx ?_
  refine SWP_seq ?_
  refine SWP_seq ?_
  refine SWP_region ?_
  refine pu rfl rfl ?_
  refine lw (v := .int .i64 _) B2 5 rfl rfl rfl rfl ?_
  refine pc rfl rfl (fun c83 => ?_) (fun c83 => ?_)
  · skip
    refine SL_nil ?_
    refine nx ?_
    refine SWP_ct rfl ?_
    refine SWP_seq ?_
    refine SWP_region ?_
    refine lw (v := .agg _) B9 0 rfl rfl rfl rfl ?_
    refine sw (v := .agg _) B4 0 rfl rfl rfl rfl rfl rfl rfl ?_
    refine pI rfl rfl ?_
    refine SL_nil ?_
    refine nx ?_
    refine SWP_ret ?_
    refine nr ?_
    refine fin [_, _] ⟨⟨_, _, rfl, Rd.of_cells (MemO.mem (B := B4)), rfl⟩, rfl, trivial⟩ ?_
    have e : drawF g s = numF g.of g.main g.bonus g.bonusOf g.extra s := (if_neg (fun hh => hh hz)).trans (if_neg (by assumption))
    rw [e]
    rw [numF_one (Classical.not_not.1 (by assumption)) (by assumption)]
    exact ⟨⟨sa1, sc1, _, none, 0, [], sa2, sc2, _, 0, ⟨#[]⟩⟩, rfl, ⟨hs1.mono hl19_4, RL.nil _ _, hs2⟩, ⟨rfl, rfl, rfl, rfl, rfl⟩⟩
  refine SL_nil ?_
  refine nx ?_
  refine SWP_cf rfl ?_
  refine SWP_skip ?_
  refine nx ?_
  refine SWP_seq ?_
  refine SWP_region ?_
  first | refine pP rfl rfl ?_ | refine pu rfl rfl ?_
  refine pu rfl rfl ?_
  refine lw (v := .int .i64 _) B2 6 rfl rfl rfl rfl ?_
  refine pu rfl rfl ?_
  refine lw (v := .int .i64 _) B2 5 rfl rfl rfl rfl ?_
  refine SL_call rfl rfl cb26 (CallsS.subF [_, _, _] (sampR B g.bonusOf g.bonus (sampF g.of (g.main + g.extra) s).2.2 u1) (List.perm_append_comm (l₁ := [_, _, _]) (l₂ := [_]))) rfl (fun v22_5 σ22_5 m22_5 hl22_5 hR22_5 => ?_)
  obtain ⟨σz22_5, rfl, v2, u2, rfl, hv2, rfl⟩ := hR22_5
  refine SL_perm (List.perm_append_comm (l₁ := [_]) (l₂ := [_, _, _])) ?_
  obtain ⟨va2, vc2, rfl, hcap2⟩ := hv2.full
  refine pu rfl rfl ?_
  first | refine pL rfl rfl ?_ | refine pu rfl rfl ?_
  first | refine pI rfl rfl ?_ | refine pu rfl rfl ?_
  first | refine pL rfl rfl ?_ | refine pu rfl rfl ?_
  first | refine pI rfl rfl ?_ | refine pu rfl rfl ?_
  refine SL_nil ?_
  refine nx ?_
  refine SWP_seq ?_
  refine SWP_seq ?_
  refine SWP_region ?_
  first | refine pI rfl rfl ?_ | refine pu rfl rfl ?_
  refine pc rfl rfl (fun c95 => ?_) (fun c95 => ?_)
  · skip
    refine SL_nil ?_
    refine nx ?_
    refine SWP_ct rfl ?_
    refine SWP_seq ?_
    refine SWP_region ?_
    refine pA rfl rfl ?_
    first | refine pI rfl rfl ?_ | refine pu rfl rfl ?_
    refine sw (v := .agg _) B4 0 rfl rfl rfl rfl rfl rfl rfl ?_
    first | refine pI rfl rfl ?_ | refine pu rfl rfl ?_
    refine SL_nil ?_
    refine nx ?_
    refine SWP_ret ?_
    refine nr ?_
    refine fin [_, _] ⟨⟨_, _, rfl, Rd.of_cells (MemO.mem (B := B4)), rfl⟩, rfl, trivial⟩ ?_
    have e : drawF g s = numF g.of g.main g.bonus g.bonusOf g.extra s := (if_neg (fun hh => hh hz)).trans (if_neg (by assumption))
    rw [e]
    rw [numF_err2 (Classical.not_not.1 (by assumption)) (by assumption) (by assumption)]
    exact ⟨zeroR, rfl, zeroR_in _, zeroR_out⟩
  refine SL_nil ?_
  refine nx ?_
  refine SWP_cf rfl ?_
  refine SWP_skip ?_
  refine nx ?_
  refine SWP_seq ?_
  obtain ⟨hLl2, hL02, hL12, hL22⟩ := sampF_len (show (sampF g.bonusOf g.bonus (sampF g.of (g.main + g.extra) s).2.2).1 = 0 from Classical.not_not.1 (by assumption))
  refine SWP_region ?_
  first | refine pL rfl rfl ?_ | refine pu rfl rfl ?_
  refine SL_call rfl rfl cb27 (CallsS.frame0 (sort13 (hv2) (by omega))) rfl (fun v25_1 σ25_1 m25_1 hl25_1 hR25_1 => ?_)
  obtain ⟨σs3, rfl, rfl, hs3⟩ := hR25_1
  obtain ⟨sa3, sc3, es3⟩ := hs3.len
  subst es3
  refine pu rfl rfl ?_
  refine sw (v := .slice _ _ _) B9 1 rfl rfl rfl rfl rfl rfl rfl ?_
  refine SL_nil ?_
  refine nx ?_
  refine SWP_seq ?_
  refine SWP_region ?_
  refine lw (v := .agg _) B9 0 rfl rfl rfl rfl ?_
  refine sw (v := .agg _) B4 0 rfl rfl rfl rfl rfl rfl rfl ?_
  refine pI rfl rfl ?_
  refine SL_nil ?_
  refine nx ?_
  refine SWP_ret ?_
  refine fin [_, _] ⟨⟨_, _, rfl, Rd.of_cells (MemO.mem (B := B4)), rfl⟩, rfl, trivial⟩ ?_
  have e : drawF g s = numF g.of g.main g.bonus g.bonusOf g.extra s := (if_neg (fun hh => hh hz)).trans (if_neg (by assumption))
  rw [e]
  rw [numF_two (Classical.not_not.1 (by assumption)) (by assumption) (Classical.not_not.1 (by assumption))]
  exact ⟨⟨sa1, sc1, _, sa3, sc3, _, sa2, sc2, _, 0, ⟨#[]⟩⟩, rfl, ⟨hs1.mono (hl19_4.trans (hl22_5.trans hl25_1)), hs3, hs2.mono (hl22_5.trans hl25_1)⟩, ⟨rfl, rfl, rfl, rfl, rfl⟩⟩

end Go.Proofs.Ytkopdlglenejmaa

