/- What the claim rests on, part 6: models of the functions in plain Lean and walks through their code; printed by programs. -/
import Derived.Test.YtifjhpaoejageaaGreatDoorKSlipPrints5
set_option linter.unusedVariables false
set_option linter.unusedSimpArgs false
namespace Go.Proofs.YtifjhpaoejageaaGreatDoor
open Eng
theorem ite_len {c : Prop} [Decidable c] {l : List Wd} {n : Nat} (h : l.length ≤ n) : (if c then l else []).length ≤ n := by
  split
  · exact h
  · exact Nat.zero_le _
set_option maxRecDepth 100000 in
theorem printG {m : Mem} {g : Game} {b : Bet} (hin : g.In m) (hb : b.In m) : PureCall Tryz.prog 15 [g.val, b.val] m (.tuple #[.string (bA (printL g b)), .int .i64 (betErr g b)]) := by
  refine CallsS.pure ?_
  dsimp only [Game.val, Bet.val]
  refine enter Tryz.func15 Tryz.ntmps15 rfl rfl ?_
  refine SWP_seq (SWP_region ?_)
  refine bx (v := .agg _) rfl rfl (fun B2 => ?_)
  refine bx (v := .agg _) rfl rfl (fun B3 => ?_)
  refine pS rfl rfl ?_
  refine pI rfl rfl ?_
  refine SL_nil (nx (SWP_seq (SWP_seq (SWP_region ?_))))
  refine lw (v := .agg _) B2 0 rfl rfl rfl rfl ?_
  refine lw (v := .agg _) B3 0 rfl rfl rfl rfl ?_
  refine SL_pcall rfl rfl cb22 (betI hin hb) rfl ?_
  first | refine pI rfl rfl ?_ | refine pu rfl rfl ?_
  refine SL_nil (nx (SWP_seq (SWP_region ?_)))
  first | refine pI rfl rfl ?_ | refine pu rfl rfl ?_
  refine pc rfl rfl (fun c20 => ?_) (fun c20 => ?_)
  · skip
    refine SL_nil (nx (SWP_ct rfl (SWP_seq (SWP_region ?_))))
    first | refine pI rfl rfl ?_ | refine pu rfl rfl ?_
    refine pS rfl rfl ?_
    first | refine pI rfl rfl ?_ | refine pu rfl rfl ?_
    refine SL_nil (nx (SWP_ret (nr ?_)))
    refine fin [_, _] ⟨rfl, rfl, trivial⟩ ?_
    unfold printL
    rw [if_neg (by assumption)]
    rfl
  refine SL_nil (nx (SWP_cf rfl (SWP_skip (nx (SWP_seq ?_)))))
  have hz : betErr g b = 0 := Classical.not_not.1 (by assumption)
  have hok := betOk hz
  have hln := hok.ln
  have hdr : Sm b.draws := (bet_sm hok).d
  have hKl : (b.lines.map Line.keyL).length = b.lines.length := List.length_map ..
  refine SWP_region ?_
  refine pL rfl rfl ?_
  refine SL_nil (nx (SWP_seq (SWP_seq (SWP_region ?_))))
  refine pu rfl rfl ?_
  refine lw (v := .slice _ _ _) B3 0 rfl rfl rfl rfl ?_
  refine pu rfl rfl ?_
  refine pI rfl rfl ?_
  refine SL_nil (nx (SWP_block ?_))
  refine SWP_loop [7, 8, 9, 11, 13, 25, 26, 27, 28, 29, 30, 31, 32, 33, 34, 35, 36, 37, 38, 39, 40, 41, 42, 43, 44, 45, 46, 47, 48, 49, 50, 51, 52, 53, 54, 55, 56, 57, 58, 59, 60, 61, 62, 63, 64, 65, 66, 67, 68] [7, 25]
      (fun vs σ' m' => ∃ (i : Nat) (a : Option Addr) (c : Nat) (σe : Sig), vs = [.slice a ((lnsTok ((b.lines.map Line.keyL).take i))).length c, .int .i64 (i : Nat)] ∧ i ≤ b.lines.length ∧ OwnS 9 1 (.slice a ((lnsTok ((b.lines.map Line.keyL).take i))).length c) (((lnsTok ((b.lines.map Line.keyL).take i))).flatMap wE) σe ∧ ((lnsTok ((b.lines.map Line.keyL).take i))).length ≤ 20 * i ∧ σ' = (B3, Cells 30 b.enc) :: (B2, Cells 25 g.enc) :: σe ∧ m = m')
      (fun vs => b.lines.length - nOf (vs.getD 1 undef)) rfl ?_ ?_
  · exact ⟨0, none, 0, [], rfl, by omega, .nil, Nat.le_refl _, rfl, rfl⟩
  intro u0 vs0 σ0 m0 hJ0 _
  obtain ⟨i, a, c, σe, rfl, hi, hown, hBl, rfl, rfl⟩ := hJ0
  refine SWP_seq (SWP_region ?_)
  refine pc rfl rfl (fun c26 => ?_) (fun c26 => ?_)
  · skip
    refine SL_nil (nx (SWP_seq (SWP_ct rfl (SWP_skip (nx (SWP_seq (SWP_block (SWP_seq ?_))))))))
    obtain ⟨x, hxi⟩ : ∃ x, b.lines[i]? = some x := ⟨_, List.getElem?_eq_getElem (by omega)⟩
    have hx := hok.ls x (List.mem_of_getElem? hxi)
    have hxin := hb.each x (List.mem_of_getElem? hxi)
    obtain ⟨ad, e0, _, hat⟩ := hb.ls.atA Line.enc_len hxi
    have hKi : (b.lines.map Line.keyL)[i]? = some x.keyL := by rw [List.getElem?_map, hxi]; rfl
    have hp3 : (if 0 < i then [[47]] else [] : List Wd).length ≤ 1 := by split <;> simp
    have hTBl : (lnsTok ((b.lines.map Line.keyL).take i) ++ (if 0 < i then [[47]] else [])).length ≤ 20 * i + 1 := by rw [List.length_append]; omega
    refine SWP_region ?_
    first | refine pI rfl rfl ?_ | refine pu rfl rfl ?_
    refine ia (es := 2) (ad := ad) rfl rfl rfl rfl (by show Value.slice b.la _ _ = _; rw [e0]) rfl (by omega) rfl ?_
    refine ldA (v := x.val) rfl hat rfl rfl ?_
    refine al rfl rfl (fun B9 => ?_)
    first | refine pI rfl rfl ?_ | refine pu rfl rfl ?_
    refine swE B9 0 x.enc rfl rfl rfl rfl rfl rfl rfl rfl ?_
    refine SL_nil (nx ?_)
    refine SWP_merge1 [7, 30, 31, 32, 33, 34] [7]
        (fun vs σ' m' => ∃ (a : Option Addr) (c : Nat) (σe : Sig), vs = [.slice a ((lnsTok ((b.lines.map Line.keyL).take i) ++ (if 0 < i then [[47]] else []))).length c] ∧ OwnS 9 1 (.slice a ((lnsTok ((b.lines.map Line.keyL).take i) ++ (if 0 < i then [[47]] else []))).length c) (((lnsTok ((b.lines.map Line.keyL).take i) ++ (if 0 < i then [[47]] else []))).flatMap wE) σe ∧ σ' = (B9, Cells 50 x.enc) :: (B3, Cells 30 b.enc) :: (B2, Cells 25 g.enc) :: σe ∧ m = m')
        rfl ?_ ?_
    · skip
      refine SWP_seq (SWP_region ?_)
      first | refine pI rfl rfl ?_ | refine pu rfl rfl ?_
      refine pc rfl rfl (fun c31 => ?_) (fun c31 => ?_)
      · skip
        refine SL_nil (nx (SWP_ct rfl (SWP_region ?_)))
        first | refine pL rfl rfl ?_ | refine pu rfl rfl ?_
        refine bs (cs := [.string (bA [47])]) rfl rfl rfl rfl rfl (fun B99 => ?_)
        refine ap (e := 9) (size := 1) (bytes := 16) rfl rfl rfl rfl rfl rfl rfl hown (List.perm_append_comm (l₁ := [_, _, _, _]) (l₂ := σe)) rfl (Rd.of_cells (.head _)) rfl rfl (by rw [flatMap_len wE_len]; omega) rfl rfl (fun v99 σ9 hown9 => ?_)
        refine SL_weak (List.Sublist.append_left (List.sublist_cons_self _ _) _) ?_
        refine SL_perm (σ' := _ :: _ :: _ :: σ9) (List.perm_append_comm (l₂ := [_, _, _])) ?_
        have hown8 : OwnS 9 1 v99 (((lnsTok ((b.lines.map Line.keyL).take i)) ++ [[47]]).flatMap wE) σ9 := by rw [List.flatMap_append]; exact hown9
        obtain ⟨a5, c5, e5⟩ := hown8.lenL (by omega) wE_len
        subst e5
        first | refine pL rfl rfl ?_ | refine pu rfl rfl ?_
        refine SL_nil (nx ?_)
        refine ⟨by repeat (first | with_reducible exact Under.refl _ _ | exact Under.upds rfl (Under.hav _ _ _) | exact Under.hav _ _ _ | refine Under.upd rfl ?_ | refine Under.upds rfl ?_ | refine Under.hav2 rfl ?_), ?_⟩
        first
        | (refine ⟨a5, c5, σ9, ?_⟩
           rw [if_pos (show 0 < i by omega)]
           exact ⟨rfl, hown8, rfl, rfl⟩)
        | (refine ⟨a, c, σe, ?_⟩
           rw [if_neg (show ¬ 0 < i by omega), List.append_nil]
           exact ⟨rfl, hown, rfl, rfl⟩)
      refine SL_nil (nx (SWP_cf rfl (SWP_skip (nx ?_))))
      refine ⟨by repeat (first | with_reducible exact Under.refl _ _ | exact Under.upds rfl (Under.hav _ _ _) | exact Under.hav _ _ _ | refine Under.upd rfl ?_ | refine Under.upds rfl ?_ | refine Under.hav2 rfl ?_), ?_⟩
      first
      | (refine ⟨a5, c5, σ9, ?_⟩
         rw [if_pos (show 0 < i by omega)]
         exact ⟨rfl, hown8, rfl, rfl⟩)
      | (refine ⟨a, c, σe, ?_⟩
         rw [if_neg (show ¬ 0 < i by omega), List.append_nil]
         exact ⟨rfl, hown, rfl, rfl⟩)
    intro uM0 vM0 σM0 mM0 hM0 _
    obtain ⟨a, c, σe, rfl, hown, rfl, rfl⟩ := hM0
    refine SWP_seq (SWP_seq (SWP_region ?_))
    refine pu rfl rfl ?_
    refine lw (v := .slice x.ma x.main.length x.mc) B9 0 rfl rfl rfl rfl ?_
    refine pu rfl rfl ?_
    first | refine pI rfl rfl ?_ | refine pu rfl rfl ?_
    refine SL_nil (nx (SWP_block ?_))
    refine SWP_loop [7, 11, 38, 39, 40, 41, 42, 43, 44, 45, 46, 47] [7, 38]
        (fun vs σ' m' => ∃ (j : Nat) (a : Option Addr) (c : Nat) (σe : Sig), vs = [.slice a ((lnsTok ((b.lines.map Line.keyL).take i) ++ (if 0 < i then [[47]] else [])) ++ (x.main.take j).map decW).length c, .int .i64 (j : Nat)] ∧ j ≤ x.main.length ∧ OwnS 9 1 (.slice a ((lnsTok ((b.lines.map Line.keyL).take i) ++ (if 0 < i then [[47]] else [])) ++ (x.main.take j).map decW).length c) (((lnsTok ((b.lines.map Line.keyL).take i) ++ (if 0 < i then [[47]] else [])) ++ (x.main.take j).map decW).flatMap wE) σe ∧ σ' = (B9, Cells 50 x.enc) :: (B3, Cells 30 b.enc) :: (B2, Cells 25 g.enc) :: σe ∧ m = m')
        (fun vs => x.main.length - nOf (vs.getD 1 undef)) rfl ?_ ?_
    · exact ⟨0, a, c, σe, by rw [List.take_zero, List.map_nil, List.append_nil]; rfl, by omega, by rw [List.take_zero, List.map_nil, List.append_nil]; exact hown, rfl, rfl⟩
    intro u1 vs1 σ1 m1 hJ1 _
    obtain ⟨j, a, c, σe, rfl, hj, hown, rfl, rfl⟩ := hJ1
    have hTl : ((lnsTok ((b.lines.map Line.keyL).take i) ++ (if 0 < i then [[47]] else [])) ++ (x.main.take j).map decW).length ≤ 20 * i + 20 := by simp only [List.length_append, List.length_map, List.length_take]; omega
    refine SWP_seq (SWP_region ?_)
    refine pc rfl rfl (fun c39 => ?_) (fun c39 => ?_)
    · skip
      refine SL_nil (nx (SWP_seq (SWP_ct rfl (SWP_skip (nx (SWP_seq (SWP_block (SWP_seq (SWP_region ?_)))))))))
      obtain ⟨n, hn⟩ : ∃ n, x.main[j]? = some n := ⟨_, List.getElem?_eq_getElem (by omega)⟩
      obtain ⟨ad9, e9, _, hat9⟩ := hxin.mn.atI hn
      refine ia (es := 1) (ad := ad9) rfl rfl rfl (Nat.mul_one _) (by show Value.slice x.ma _ _ = _; rw [e9]) rfl (by omega) rfl ?_
      refine ldA (v := .int .i64 n) rfl hat9 rfl rfl ?_
      first | refine pI rfl rfl ?_ | refine pu rfl rfl ?_
      refine SL_nil (nx (SWP_region ?_))
      first | refine pL rfl rfl ?_ | refine pu rfl rfl ?_
      first | refine pI rfl rfl ?_ | refine pu rfl rfl ?_
      refine SL_pcall rfl rfl cb26 (fmtW (hx.1.m n (List.mem_of_getElem? hn))) rfl ?_
      refine bs (cs := [.string (bA (decW n))]) rfl rfl rfl rfl rfl (fun B99 => ?_)
      refine ap (e := 9) (size := 1) (bytes := 16) rfl rfl rfl rfl rfl rfl rfl hown (List.perm_append_comm (l₁ := [_, _, _, _]) (l₂ := σe)) rfl (Rd.of_cells (.head _)) rfl rfl (by rw [flatMap_len wE_len]; omega) rfl rfl (fun v99 σ9 hown9 => ?_)
      refine SL_weak (List.Sublist.append_left (List.sublist_cons_self _ _) _) ?_
      refine SL_perm (σ' := _ :: _ :: _ :: σ9) (List.perm_append_comm (l₂ := [_, _, _])) ?_
      have hown8 : OwnS 9 1 v99 (((lnsTok ((b.lines.map Line.keyL).take i) ++ (if 0 < i then [[47]] else [])) ++ (x.main.take j).map decW ++ [decW n]).flatMap wE) σ9 := by rw [List.flatMap_append]; exact hown9
      obtain ⟨a5, c5, e5⟩ := hown8.lenL (by omega) wE_len
      subst e5
      first | refine pL rfl rfl ?_ | refine pu rfl rfl ?_
      refine SL_nil (nb (nx (SWP_region ?_)))
      first | refine pw rfl rfl (w64 (by omega) (by omega)) ?_ | refine pu rfl rfl ?_
      refine pI rfl rfl ?_
      refine SL_nil (nx ?_)
      refine ⟨by repeat (first | exact Under.upds rfl (Under.hav _ _ _) | exact Under.hav _ _ _ | refine Under.upd rfl ?_ | refine Under.upds rfl ?_ | refine Under.hav2 rfl ?_), ?_, ?_⟩
      · have e1 : ((lnsTok ((b.lines.map Line.keyL).take i) ++ (if 0 < i then [[47]] else [])) ++ (x.main.take j).map decW) ++ [decW n] = (lnsTok ((b.lines.map Line.keyL).take i) ++ (if 0 < i then [[47]] else [])) ++ (x.main.take (j + 1)).map decW := by rw [take_snocA hn, List.map_append]; simp only [List.append_assoc, List.map_cons, List.map_nil]
        rw [e1] at hown8
        rw [e1]
        exact ⟨j + 1, a5, c5, σ9, rfl, by omega, hown8, rfl, rfl⟩
      · simp only [L_vals, List.map, List.getD]; show x.main.length - (j + 1) < x.main.length - j; omega
    refine SL_nil (nx (SWP_seq (SWP_cf rfl (SWP_exit (ne (ne (be rfl (nx ?_))))))))
    have hj1 : j = x.main.length := by omega
    subst hj1
    rw [List.take_length] at hown hTl
    rw [List.take_length]
    refine SWP_merge1 [7, 48, 49, 50, 51, 52, 53, 54] [7]
        (fun vs σ' m' => ∃ (a : Option Addr) (c : Nat) (σe : Sig), vs = [.slice a ((lnsTok ((b.lines.map Line.keyL).take i) ++ (if 0 < i then [[47]] else [])) ++ x.main.map decW ++ (if x.bonus = [] then [] else [[43]])).length c] ∧ OwnS 9 1 (.slice a ((lnsTok ((b.lines.map Line.keyL).take i) ++ (if 0 < i then [[47]] else [])) ++ x.main.map decW ++ (if x.bonus = [] then [] else [[43]])).length c) (((lnsTok ((b.lines.map Line.keyL).take i) ++ (if 0 < i then [[47]] else [])) ++ x.main.map decW ++ (if x.bonus = [] then [] else [[43]])).flatMap wE) σe ∧ σ' = (B9, Cells 50 x.enc) :: (B3, Cells 30 b.enc) :: (B2, Cells 25 g.enc) :: σe ∧ m = m')
        rfl ?_ ?_
    · skip
      refine SWP_seq (SWP_region ?_)
      refine pu rfl rfl ?_
      refine lw (v := .slice x.ba x.bonus.length x.bc) B9 1 rfl rfl rfl rfl ?_
      refine pu rfl rfl ?_
      refine pc rfl rfl (fun c51 => ?_) (fun c51 => ?_)
      · skip
        refine SL_nil (nx (SWP_ct rfl (SWP_region ?_)))
        first | refine pL rfl rfl ?_ | refine pu rfl rfl ?_
        refine bs (cs := [.string (bA [43])]) rfl rfl rfl rfl rfl (fun B99 => ?_)
        refine ap (e := 9) (size := 1) (bytes := 16) rfl rfl rfl rfl rfl rfl rfl hown (List.perm_append_comm (l₁ := [_, _, _, _]) (l₂ := σe)) rfl (Rd.of_cells (.head _)) rfl rfl (by rw [flatMap_len wE_len]; omega) rfl rfl (fun v99 σ9 hown9 => ?_)
        refine SL_weak (List.Sublist.append_left (List.sublist_cons_self _ _) _) ?_
        refine SL_perm (σ' := _ :: _ :: _ :: σ9) (List.perm_append_comm (l₂ := [_, _, _])) ?_
        have hown8 : OwnS 9 1 v99 (((lnsTok ((b.lines.map Line.keyL).take i) ++ (if 0 < i then [[47]] else [])) ++ x.main.map decW ++ [[43]]).flatMap wE) σ9 := by rw [List.flatMap_append]; exact hown9
        obtain ⟨a5, c5, e5⟩ := hown8.lenL (by omega) wE_len
        subst e5
        first | refine pL rfl rfl ?_ | refine pu rfl rfl ?_
        refine SL_nil (nx ?_)
        refine ⟨by repeat (first | with_reducible exact Under.refl _ _ | exact Under.upds rfl (Under.hav _ _ _) | exact Under.hav _ _ _ | refine Under.upd rfl ?_ | refine Under.upds rfl ?_ | refine Under.hav2 rfl ?_), ?_⟩
        first
        | (refine ⟨a5, c5, σ9, ?_⟩
           rw [if_neg (show ¬ x.bonus = [] from fun e => by have h0 := congrArg List.length e; rw [List.length_nil] at h0; omega)]
           exact ⟨rfl, hown8, rfl, rfl⟩)
        | (refine ⟨a, c, σe, ?_⟩
           rw [if_pos (show x.bonus = [] from List.eq_nil_of_length_eq_zero (by omega)), List.append_nil]
           exact ⟨rfl, hown, rfl, rfl⟩)
      refine SL_nil (nx (SWP_cf rfl (SWP_skip (nx ?_))))
      refine ⟨by repeat (first | with_reducible exact Under.refl _ _ | exact Under.upds rfl (Under.hav _ _ _) | exact Under.hav _ _ _ | refine Under.upd rfl ?_ | refine Under.upds rfl ?_ | refine Under.hav2 rfl ?_), ?_⟩
      first
      | (refine ⟨a5, c5, σ9, ?_⟩
         rw [if_neg (show ¬ x.bonus = [] from fun e => by have h0 := congrArg List.length e; rw [List.length_nil] at h0; omega)]
         exact ⟨rfl, hown8, rfl, rfl⟩)
      | (refine ⟨a, c, σe, ?_⟩
         rw [if_pos (show x.bonus = [] from List.eq_nil_of_length_eq_zero (by omega)), List.append_nil]
         exact ⟨rfl, hown, rfl, rfl⟩)
    intro uM1 vM1 σM1 mM1 hM1 _
    obtain ⟨a, c, σe, rfl, hown, rfl, rfl⟩ := hM1
    refine SWP_seq (SWP_region ?_)
    refine pu rfl rfl ?_
    refine lw (v := .slice x.ba x.bonus.length x.bc) B9 1 rfl rfl rfl rfl ?_
    refine pu rfl rfl ?_
    first | refine pI rfl rfl ?_ | refine pu rfl rfl ?_
    refine SL_nil (nx (SWP_block ?_))
    refine SWP_loop [7, 13, 58, 59, 60, 61, 62, 63, 64, 65, 66, 67] [7, 58]
        (fun vs σ' m' => ∃ (j : Nat) (a : Option Addr) (c : Nat) (σe : Sig), vs = [.slice a (((lnsTok ((b.lines.map Line.keyL).take i) ++ (if 0 < i then [[47]] else [])) ++ x.main.map decW ++ (if x.bonus = [] then [] else [[43]])) ++ (x.bonus.take j).map decW).length c, .int .i64 (j : Nat)] ∧ j ≤ x.bonus.length ∧ OwnS 9 1 (.slice a (((lnsTok ((b.lines.map Line.keyL).take i) ++ (if 0 < i then [[47]] else [])) ++ x.main.map decW ++ (if x.bonus = [] then [] else [[43]])) ++ (x.bonus.take j).map decW).length c) ((((lnsTok ((b.lines.map Line.keyL).take i) ++ (if 0 < i then [[47]] else [])) ++ x.main.map decW ++ (if x.bonus = [] then [] else [[43]])) ++ (x.bonus.take j).map decW).flatMap wE) σe ∧ σ' = (B9, Cells 50 x.enc) :: (B3, Cells 30 b.enc) :: (B2, Cells 25 g.enc) :: σe ∧ m = m')
        (fun vs => x.bonus.length - nOf (vs.getD 1 undef)) rfl ?_ ?_
    · exact ⟨0, a, c, σe, by rw [List.take_zero, List.map_nil, List.append_nil]; rfl, by omega, by rw [List.take_zero, List.map_nil, List.append_nil]; exact hown, rfl, rfl⟩
    intro u2 vs2 σ2 m2 hJ2 _
    obtain ⟨j, a, c, σe, rfl, hj, hown, rfl, rfl⟩ := hJ2
    have hp4 : (if x.bonus = [] then [] else [[43]] : List Wd).length ≤ 1 := by split <;> simp
    have hTl : (((lnsTok ((b.lines.map Line.keyL).take i) ++ (if 0 < i then [[47]] else [])) ++ x.main.map decW ++ (if x.bonus = [] then [] else [[43]])) ++ (x.bonus.take j).map decW).length ≤ 20 * i + 40 := by simp only [List.length_append, List.length_map, List.length_take]; omega
    refine SWP_seq (SWP_region ?_)
    refine pc rfl rfl (fun c59 => ?_) (fun c59 => ?_)
    · skip
      refine SL_nil (nx (SWP_seq (SWP_ct rfl (SWP_skip (nx (SWP_seq (SWP_block (SWP_seq (SWP_region ?_)))))))))
      obtain ⟨n, hn⟩ : ∃ n, x.bonus[j]? = some n := ⟨_, List.getElem?_eq_getElem (by omega)⟩
      obtain ⟨ad9, e9, _, hat9⟩ := hxin.bn.atI hn
      refine ia (es := 1) (ad := ad9) rfl rfl rfl (Nat.mul_one _) (by show Value.slice x.ba _ _ = _; rw [e9]) rfl (by omega) rfl ?_
      refine ldA (v := .int .i64 n) rfl hat9 rfl rfl ?_
      first | refine pI rfl rfl ?_ | refine pu rfl rfl ?_
      refine SL_nil (nx (SWP_region ?_))
      first | refine pL rfl rfl ?_ | refine pu rfl rfl ?_
      first | refine pI rfl rfl ?_ | refine pu rfl rfl ?_
      refine SL_pcall rfl rfl cb26 (fmtW (hx.1.b n (List.mem_of_getElem? hn))) rfl ?_
      refine bs (cs := [.string (bA (decW n))]) rfl rfl rfl rfl rfl (fun B99 => ?_)
      refine ap (e := 9) (size := 1) (bytes := 16) rfl rfl rfl rfl rfl rfl rfl hown (List.perm_append_comm (l₁ := [_, _, _, _]) (l₂ := σe)) rfl (Rd.of_cells (.head _)) rfl rfl (by rw [flatMap_len wE_len]; omega) rfl rfl (fun v99 σ9 hown9 => ?_)
      refine SL_weak (List.Sublist.append_left (List.sublist_cons_self _ _) _) ?_
      refine SL_perm (σ' := _ :: _ :: _ :: σ9) (List.perm_append_comm (l₂ := [_, _, _])) ?_
      have hown8 : OwnS 9 1 v99 ((((lnsTok ((b.lines.map Line.keyL).take i) ++ (if 0 < i then [[47]] else [])) ++ x.main.map decW ++ (if x.bonus = [] then [] else [[43]])) ++ (x.bonus.take j).map decW ++ [decW n]).flatMap wE) σ9 := by rw [List.flatMap_append]; exact hown9
      obtain ⟨a5, c5, e5⟩ := hown8.lenL (by omega) wE_len
      subst e5
      first | refine pL rfl rfl ?_ | refine pu rfl rfl ?_
      refine SL_nil (nb (nx (SWP_region ?_)))
      first | refine pw rfl rfl (w64 (by omega) (by omega)) ?_ | refine pu rfl rfl ?_
      refine pI rfl rfl ?_
      refine SL_nil (nx ?_)
      refine ⟨by repeat (first | exact Under.upds rfl (Under.hav _ _ _) | exact Under.hav _ _ _ | refine Under.upd rfl ?_ | refine Under.upds rfl ?_ | refine Under.hav2 rfl ?_), ?_, ?_⟩
      · have e1 : (((lnsTok ((b.lines.map Line.keyL).take i) ++ (if 0 < i then [[47]] else [])) ++ x.main.map decW ++ (if x.bonus = [] then [] else [[43]])) ++ (x.bonus.take j).map decW) ++ [decW n] = ((lnsTok ((b.lines.map Line.keyL).take i) ++ (if 0 < i then [[47]] else [])) ++ x.main.map decW ++ (if x.bonus = [] then [] else [[43]])) ++ (x.bonus.take (j + 1)).map decW := by rw [take_snocA hn, List.map_append]; simp only [List.append_assoc, List.map_cons, List.map_nil]
        rw [e1] at hown8
        rw [e1]
        exact ⟨j + 1, a5, c5, σ9, rfl, by omega, hown8, rfl, rfl⟩
      · simp only [L_vals, List.map, List.getD]; show x.bonus.length - (j + 1) < x.bonus.length - j; omega
    refine SL_nil (nx (SWP_seq (SWP_cf rfl (SWP_exit (ne (ne (be rfl (nb (nx ?_)))))))))
    refine SWP_weak (List.sublist_cons_self _ _) ?_
    refine SWP_region ?_
    first | refine pw rfl rfl (w64 (by omega) (by omega)) ?_ | refine pu rfl rfl ?_
    refine pI rfl rfl ?_
    refine SL_nil (nx ?_)
    refine ⟨by repeat (first | exact Under.upds rfl (Under.hav _ _ _) | exact Under.hav _ _ _ | refine Under.upd rfl ?_ | refine Under.upds rfl ?_ | refine Under.hav2 rfl ?_), ?_, ?_⟩
    · have hj2 : j = x.bonus.length := by omega
      subst hj2
      rw [List.take_length] at hown
      rw [List.take_length]
      have e1 : ((lnsTok ((b.lines.map Line.keyL).take i) ++ (if 0 < i then [[47]] else [])) ++ x.main.map decW ++ (if x.bonus = [] then [] else [[43]])) ++ x.bonus.map decW = (lnsTok ((b.lines.map Line.keyL).take (i + 1))) := by
        rw [lnsTok_step hKi]
        show _ = (lnsTok ((b.lines.map Line.keyL).take i) ++ (if 0 < i then [[47]] else [])) ++ (x.main.map decW ++ (if x.bonus = [] then [] else [43] :: x.bonus.map decW))
        by_cases hb0 : x.bonus = []
        · rw [if_pos hb0, if_pos hb0, hb0]; simp only [List.append_assoc, List.append_nil, List.map_nil]
        · rw [if_neg hb0, if_neg hb0]; simp only [List.append_assoc, List.singleton_append]
      rw [e1] at hown
      rw [e1]
      refine ⟨i + 1, a, c, σe, rfl, by omega, hown, ?_, rfl, rfl⟩
      rw [lnsTok_step hKi, List.length_append]
      have := lnTok_le hx.2.1 hx.2.2
      have := hTBl
      omega
    · simp only [L_vals, List.map, List.getD]; show b.lines.length - (i + 1) < b.lines.length - i; omega
  refine SL_nil (nx (SWP_seq (SWP_cf rfl (SWP_exit (ne (ne (be rfl (nx ?_))))))))
  have hi1 : i = (b.lines.map Line.keyL).length := by omega
  subst hi1
  rw [List.take_length] at hown hBl
  rw [List.take_length]
  have hU0 : (lnsTok (b.lines.map Line.keyL)).length ≤ 320 := by omega
  have hU1 : (lnsTok (b.lines.map Line.keyL) ++ (if b.draws ≠ 1 then [[120], decW b.draws] else [])).length ≤ 322 := by rw [List.length_append]; have := ite_len (c := b.draws ≠ 1) (l := [[120], decW b.draws]) (n := 2) (Nat.le_refl _); omega
  have hU2 : ((lnsTok (b.lines.map Line.keyL) ++ (if b.draws ≠ 1 then [[120], decW b.draws] else [])) ++ (if b.system = true then [[115, 121, 115]] else [])).length ≤ 323 := by rw [List.length_append]; have := ite_len (c := b.system = true) (l := [[115, 121, 115]]) (n := 1) (Nat.le_refl _); omega
  have hU3 : (((lnsTok (b.lines.map Line.keyL) ++ (if b.draws ≠ 1 then [[120], decW b.draws] else [])) ++ (if b.system = true then [[115, 121, 115]] else [])) ++ (if b.addons.toNat ≠ 0 then [[42]] else [])).length ≤ 324 := by rw [List.length_append]; have := ite_len (c := b.addons.toNat ≠ 0) (l := [[42]]) (n := 1) (Nat.le_refl _); omega
  have hgl := addons_few (gameOk hok.g0)
  refine SWP_merge1 [7, 69, 70, 71, 72, 73, 74, 75, 76, 77] [7]
      (fun vs σ' m' => ∃ (a : Option Addr) (c : Nat) (σe : Sig), vs = [.slice a (lnsTok (b.lines.map Line.keyL) ++ (if b.draws ≠ 1 then [[120], decW b.draws] else [])).length c] ∧ OwnS 9 1 (.slice a (lnsTok (b.lines.map Line.keyL) ++ (if b.draws ≠ 1 then [[120], decW b.draws] else [])).length c) ((lnsTok (b.lines.map Line.keyL) ++ (if b.draws ≠ 1 then [[120], decW b.draws] else [])).flatMap wE) σe ∧ σ' = (B3, Cells 30 b.enc) :: (B2, Cells 25 g.enc) :: σe ∧ m = m')
      rfl ?_ ?_
  · skip
    refine SWP_seq (SWP_region ?_)
    refine pu rfl rfl ?_
    refine lw (v := .int .i64 _) B3 2 rfl rfl rfl rfl ?_
    refine pc rfl rfl (fun c71 => ?_) (fun c71 => ?_)
    · skip
      refine SL_nil (nx (SWP_ct rfl (SWP_region ?_)))
      first | refine pL rfl rfl ?_ | refine pu rfl rfl ?_
      refine pu rfl rfl ?_
      refine lw (v := .int .i64 _) B3 2 rfl rfl rfl rfl ?_
      refine SL_pcall rfl rfl cb26 (fmtW hdr) rfl ?_
      refine bs (cs := [.string (bA [120]), .string (bA (decW b.draws))]) rfl rfl rfl rfl rfl (fun B99 => ?_)
      refine ap (e := 9) (size := 1) (bytes := 16) rfl rfl rfl rfl rfl rfl rfl hown (List.perm_append_comm (l₁ := [_, _, _]) (l₂ := σe)) rfl (Rd.of_cells (.head _)) rfl rfl (by rw [flatMap_len wE_len]; omega) rfl rfl (fun v99 σ9 hown9 => ?_)
      refine SL_weak (List.Sublist.append_left (List.sublist_cons_self _ _) _) ?_
      refine SL_perm (σ' := _ :: _ :: σ9) (List.perm_append_comm (l₂ := [_, _])) ?_
      have hown8 : OwnS 9 1 v99 ((lnsTok (b.lines.map Line.keyL) ++ [[120], decW b.draws]).flatMap wE) σ9 := by rw [List.flatMap_append]; exact hown9
      obtain ⟨a5, c5, e5⟩ := hown8.lenL (by omega) wE_len
      subst e5
      first | refine pL rfl rfl ?_ | refine pu rfl rfl ?_
      refine SL_nil (nx ?_)
      refine ⟨by repeat (first | with_reducible exact Under.refl _ _ | exact Under.upds rfl (Under.hav _ _ _) | exact Under.hav _ _ _ | refine Under.upd rfl ?_ | refine Under.upds rfl ?_ | refine Under.hav2 rfl ?_), ?_⟩
      first
      | (refine ⟨a5, c5, σ9, ?_⟩
         rw [if_pos (show b.draws ≠ 1 by assumption)]
         exact ⟨rfl, hown8, rfl, rfl⟩)
      | (refine ⟨a, c, σe, ?_⟩
         rw [if_neg (show ¬ b.draws ≠ 1 by assumption), List.append_nil]
         exact ⟨rfl, hown, rfl, rfl⟩)
    refine SL_nil (nx (SWP_cf rfl (SWP_skip (nx ?_))))
    refine ⟨by repeat (first | with_reducible exact Under.refl _ _ | exact Under.upds rfl (Under.hav _ _ _) | exact Under.hav _ _ _ | refine Under.upd rfl ?_ | refine Under.upds rfl ?_ | refine Under.hav2 rfl ?_), ?_⟩
    first
    | (refine ⟨a5, c5, σ9, ?_⟩
       rw [if_pos (show b.draws ≠ 1 by assumption)]
       exact ⟨rfl, hown8, rfl, rfl⟩)
    | (refine ⟨a, c, σe, ?_⟩
       rw [if_neg (show ¬ b.draws ≠ 1 by assumption), List.append_nil]
       exact ⟨rfl, hown, rfl, rfl⟩)
  intro uM2 vM2 σM2 mM2 hM2 _
  obtain ⟨a, c, σe, rfl, hown, rfl, rfl⟩ := hM2
  refine SWP_merge1 [7, 78, 79, 80, 81, 82] [7]
      (fun vs σ' m' => ∃ (a : Option Addr) (c : Nat) (σe : Sig), vs = [.slice a ((lnsTok (b.lines.map Line.keyL) ++ (if b.draws ≠ 1 then [[120], decW b.draws] else [])) ++ (if b.system = true then [[115, 121, 115]] else [])).length c] ∧ OwnS 9 1 (.slice a ((lnsTok (b.lines.map Line.keyL) ++ (if b.draws ≠ 1 then [[120], decW b.draws] else [])) ++ (if b.system = true then [[115, 121, 115]] else [])).length c) (((lnsTok (b.lines.map Line.keyL) ++ (if b.draws ≠ 1 then [[120], decW b.draws] else [])) ++ (if b.system = true then [[115, 121, 115]] else [])).flatMap wE) σe ∧ σ' = (B3, Cells 30 b.enc) :: (B2, Cells 25 g.enc) :: σe ∧ m = m')
      rfl ?_ ?_
  · skip
    refine SWP_seq (SWP_region ?_)
    refine pu rfl rfl ?_
    refine lw (v := .bool _) B3 1 rfl rfl rfl rfl ?_
    refine bsp 79 rfl (fun b79 => ?_) (fun b79 => ?_)
    · skip
      refine SL_nil (nx (SWP_ct rfl (SWP_region ?_)))
      first | refine pL rfl rfl ?_ | refine pu rfl rfl ?_
      refine bs (cs := [.string (bA [115, 121, 115])]) rfl rfl rfl rfl rfl (fun B99 => ?_)
      refine ap (e := 9) (size := 1) (bytes := 16) rfl rfl rfl rfl rfl rfl rfl hown (List.perm_append_comm (l₁ := [_, _, _]) (l₂ := σe)) rfl (Rd.of_cells (.head _)) rfl rfl (by rw [flatMap_len wE_len]; omega) rfl rfl (fun v99 σ9 hown9 => ?_)
      refine SL_weak (List.Sublist.append_left (List.sublist_cons_self _ _) _) ?_
      refine SL_perm (σ' := _ :: _ :: σ9) (List.perm_append_comm (l₂ := [_, _])) ?_
      have hown8 : OwnS 9 1 v99 ((lnsTok (b.lines.map Line.keyL) ++ (if b.draws ≠ 1 then [[120], decW b.draws] else []) ++ [[115, 121, 115]]).flatMap wE) σ9 := by rw [List.flatMap_append]; exact hown9
      obtain ⟨a5, c5, e5⟩ := hown8.lenL (by omega) wE_len
      subst e5
      first | refine pL rfl rfl ?_ | refine pu rfl rfl ?_
      refine SL_nil (nx ?_)
      refine ⟨by repeat (first | with_reducible exact Under.refl _ _ | exact Under.upds rfl (Under.hav _ _ _) | exact Under.hav _ _ _ | refine Under.upd rfl ?_ | refine Under.upds rfl ?_ | refine Under.hav2 rfl ?_), ?_⟩
      first
      | (refine ⟨a5, c5, σ9, ?_⟩
         rw [if_pos (show b.system = true by assumption)]
         exact ⟨rfl, hown8, rfl, rfl⟩)
      | (refine ⟨a, c, σe, ?_⟩
         rw [if_neg (show ¬ b.system = true by rw [show b.system = false by assumption]; exact Bool.noConfusion), List.append_nil]
         exact ⟨rfl, hown, rfl, rfl⟩)
    refine SL_nil (nx (SWP_cf rfl (SWP_skip (nx ?_))))
    refine ⟨by repeat (first | with_reducible exact Under.refl _ _ | exact Under.upds rfl (Under.hav _ _ _) | exact Under.hav _ _ _ | refine Under.upd rfl ?_ | refine Under.upds rfl ?_ | refine Under.hav2 rfl ?_), ?_⟩
    first
    | (refine ⟨a5, c5, σ9, ?_⟩
       rw [if_pos (show b.system = true by assumption)]
       exact ⟨rfl, hown8, rfl, rfl⟩)
    | (refine ⟨a, c, σe, ?_⟩
       rw [if_neg (show ¬ b.system = true by rw [show b.system = false by assumption]; exact Bool.noConfusion), List.append_nil]
       exact ⟨rfl, hown, rfl, rfl⟩)
  intro uM3 vM3 σM3 mM3 hM3 _
  obtain ⟨a, c, σe, rfl, hown, rfl, rfl⟩ := hM3
  refine SWP_merge1 [7, 83, 84, 85, 86, 87, 88] [7]
      (fun vs σ' m' => ∃ (a : Option Addr) (c : Nat) (σe : Sig), vs = [.slice a (((lnsTok (b.lines.map Line.keyL) ++ (if b.draws ≠ 1 then [[120], decW b.draws] else [])) ++ (if b.system = true then [[115, 121, 115]] else [])) ++ (if b.addons.toNat ≠ 0 then [[42]] else [])).length c] ∧ OwnS 9 1 (.slice a (((lnsTok (b.lines.map Line.keyL) ++ (if b.draws ≠ 1 then [[120], decW b.draws] else [])) ++ (if b.system = true then [[115, 121, 115]] else [])) ++ (if b.addons.toNat ≠ 0 then [[42]] else [])).length c) ((((lnsTok (b.lines.map Line.keyL) ++ (if b.draws ≠ 1 then [[120], decW b.draws] else [])) ++ (if b.system = true then [[115, 121, 115]] else [])) ++ (if b.addons.toNat ≠ 0 then [[42]] else [])).flatMap wE) σe ∧ σ' = (B3, Cells 30 b.enc) :: (B2, Cells 25 g.enc) :: σe ∧ m = m')
      rfl ?_ ?_
  · skip
    refine SWP_seq (SWP_region ?_)
    refine pu rfl rfl ?_
    refine lw (v := .int .i64 _) B3 3 rfl rfl rfl rfl ?_
    refine pc rfl rfl (fun c85 => ?_) (fun c85 => ?_)
    · skip
      refine SL_nil (nx (SWP_ct rfl (SWP_region ?_)))
      first | refine pL rfl rfl ?_ | refine pu rfl rfl ?_
      refine bs (cs := [.string (bA [42])]) rfl rfl rfl rfl rfl (fun B99 => ?_)
      refine ap (e := 9) (size := 1) (bytes := 16) rfl rfl rfl rfl rfl rfl rfl hown (List.perm_append_comm (l₁ := [_, _, _]) (l₂ := σe)) rfl (Rd.of_cells (.head _)) rfl rfl (by rw [flatMap_len wE_len]; omega) rfl rfl (fun v99 σ9 hown9 => ?_)
      refine SL_weak (List.Sublist.append_left (List.sublist_cons_self _ _) _) ?_
      refine SL_perm (σ' := _ :: _ :: σ9) (List.perm_append_comm (l₂ := [_, _])) ?_
      have hown8 : OwnS 9 1 v99 (((lnsTok (b.lines.map Line.keyL) ++ (if b.draws ≠ 1 then [[120], decW b.draws] else [])) ++ (if b.system = true then [[115, 121, 115]] else []) ++ [[42]]).flatMap wE) σ9 := by rw [List.flatMap_append]; exact hown9
      obtain ⟨a5, c5, e5⟩ := hown8.lenL (by omega) wE_len
      subst e5
      first | refine pL rfl rfl ?_ | refine pu rfl rfl ?_
      refine SL_nil (nx ?_)
      refine ⟨by repeat (first | with_reducible exact Under.refl _ _ | exact Under.upds rfl (Under.hav _ _ _) | exact Under.hav _ _ _ | refine Under.upd rfl ?_ | refine Under.upds rfl ?_ | refine Under.hav2 rfl ?_), ?_⟩
      first
      | (refine ⟨a5, c5, σ9, ?_⟩
         rw [if_pos (show b.addons.toNat ≠ 0 by have := hok.ad; omega)]
         exact ⟨rfl, hown8, rfl, rfl⟩)
      | (refine ⟨a, c, σe, ?_⟩
         rw [if_neg (show ¬ b.addons.toNat ≠ 0 by omega), List.append_nil]
         exact ⟨rfl, hown, rfl, rfl⟩)
    refine SL_nil (nx (SWP_cf rfl (SWP_skip (nx ?_))))
    refine ⟨by repeat (first | with_reducible exact Under.refl _ _ | exact Under.upds rfl (Under.hav _ _ _) | exact Under.hav _ _ _ | refine Under.upd rfl ?_ | refine Under.upds rfl ?_ | refine Under.hav2 rfl ?_), ?_⟩
    first
    | (refine ⟨a5, c5, σ9, ?_⟩
       rw [if_pos (show b.addons.toNat ≠ 0 by have := hok.ad; omega)]
       exact ⟨rfl, hown8, rfl, rfl⟩)
    | (refine ⟨a, c, σe, ?_⟩
       rw [if_neg (show ¬ b.addons.toNat ≠ 0 by omega), List.append_nil]
       exact ⟨rfl, hown, rfl, rfl⟩)
  intro uM4 vM4 σM4 mM4 hM4 _
  obtain ⟨a, c, σe, rfl, hown, rfl, rfl⟩ := hM4
  refine SWP_seq (SWP_seq (SWP_region ?_))
  refine pu rfl rfl ?_
  refine lw (v := .slice _ _ _) B2 20 rfl rfl rfl rfl ?_
  refine pu rfl rfl ?_
  first | refine pI rfl rfl ?_ | refine pu rfl rfl ?_
  refine SL_nil (nx (SWP_block ?_))
  refine SWP_loop [7, 14, 15, 92, 93, 94, 95, 96, 97, 98, 99, 100, 101, 102, 103, 104, 105, 106, 107, 108] [7, 92]
      (fun vs σ' m' => ∃ (i : Nat) (a : Option Addr) (c : Nat) (σe : Sig), vs = [.slice a ((((lnsTok (b.lines.map Line.keyL) ++ (if b.draws ≠ 1 then [[120], decW b.draws] else [])) ++ (if b.system = true then [[115, 121, 115]] else [])) ++ (if b.addons.toNat ≠ 0 then [[42]] else [])) ++ addTokF (gNs g) b.addons.toNat 0 (i)).length c, .int .i64 (i : Nat)] ∧ i ≤ g.addons.length ∧ OwnS 9 1 (.slice a ((((lnsTok (b.lines.map Line.keyL) ++ (if b.draws ≠ 1 then [[120], decW b.draws] else [])) ++ (if b.system = true then [[115, 121, 115]] else [])) ++ (if b.addons.toNat ≠ 0 then [[42]] else [])) ++ addTokF (gNs g) b.addons.toNat 0 (i)).length c) (((((lnsTok (b.lines.map Line.keyL) ++ (if b.draws ≠ 1 then [[120], decW b.draws] else [])) ++ (if b.system = true then [[115, 121, 115]] else [])) ++ (if b.addons.toNat ≠ 0 then [[42]] else [])) ++ addTokF (gNs g) b.addons.toNat 0 (i)).flatMap wE) σe ∧ σ' = (B3, Cells 30 b.enc) :: (B2, Cells 25 g.enc) :: σe ∧ m = m')
      (fun vs => g.addons.length - nOf (vs.getD 1 undef)) rfl ?_ ?_
  · exact ⟨0, a, c, σe, by rw [show addTokF (gNs g) b.addons.toNat 0 0 = [] from rfl, List.append_nil]; rfl, by omega, by rw [show addTokF (gNs g) b.addons.toNat 0 0 = [] from rfl, List.append_nil]; exact hown, rfl, rfl⟩
  intro u3 vs3 σ3 m3 hJ3 _
  obtain ⟨i, a, c, σe, rfl, hi, hown, rfl, rfl⟩ := hJ3
  have hTl : ((((lnsTok (b.lines.map Line.keyL) ++ (if b.draws ≠ 1 then [[120], decW b.draws] else [])) ++ (if b.system = true then [[115, 121, 115]] else [])) ++ (if b.addons.toNat ≠ 0 then [[42]] else [])) ++ addTokF (gNs g) b.addons.toNat 0 (i)).length ≤ 400 := by have := addTokF_le (gNs g) b.addons.toNat i; rw [List.length_append]; omega
  have hadn : b.addons = ((b.addons.toNat : Nat) : Int) := by have := hok.ad; omega
  have ha16 : b.addons.toNat < 16 := by
    have h1 := (bet_sm hok).a
    have h2 : 2 ^ (gNs g).length ≤ 2 ^ 4 := Nat.pow_le_pow_right (by decide) (by rw [gNs_len]; exact hgl)
    exact Nat.lt_of_lt_of_le h1 h2
  refine SWP_seq (SWP_region ?_)
  refine pc rfl rfl (fun c93 => ?_) (fun c93 => ?_)
  · skip
    refine SL_nil (nx (SWP_seq (SWP_ct rfl (SWP_skip (nx (SWP_seq (SWP_block (SWP_seq ?_))))))))
    obtain ⟨a1, hai⟩ : ∃ a, g.addons[i]? = some a := ⟨_, List.getElem?_eq_getElem (by omega)⟩
    obtain ⟨ad, e0, _, hat⟩ := hin.ads.atA Addon.enc_len hai
    have hnm : (gNs g)[i]? = some a1.name := by show (g.addons.map Addon.name)[i]? = _; rw [List.getElem?_map, hai]; rfl
    refine SWP_region ?_
    first | refine pI rfl rfl ?_ | refine pu rfl rfl ?_
    refine ia (es := 6) (ad := ad) rfl rfl rfl rfl (by show Value.slice g.aa _ _ = _; rw [e0]) rfl (by omega) rfl ?_
    refine ldA (v := a1.val) rfl hat rfl rfl ?_
    refine al rfl rfl (fun B15 => ?_)
    first | refine pI rfl rfl ?_ | refine pu rfl rfl ?_
    refine swE B15 0 a1.enc rfl rfl rfl rfl rfl rfl rfl rfl ?_
    refine SL_nil (nx (SWP_seq (SWP_region ?_)))
    refine pu rfl rfl ?_
    refine lw (v := .int .i64 _) B3 3 rfl rfl rfl rfl ?_
    first | refine pI rfl rfl ?_ | refine pu rfl rfl ?_
    refine pshr (k := .i64) rfl rfl (by omega) rfl rfl ?_
    refine pu (v := .int .i64 (bits .and .i64 (((b.addons.toNat : Nat) : Int).fdiv (2 ^ (min ((i : Nat) : Int).toNat IntKind.i64.bits))) 1)) (by rw [← hadn]; rfl) rfl ?_
    rw [bit_g ha16 (by omega)]
    refine pc rfl rfl (fun c102 => ?_) (fun c102 => ?_)
    · skip
      refine SL_nil (nx (SWP_ct rfl (SWP_region ?_)))
      first | refine pL rfl rfl ?_ | refine pu rfl rfl ?_
      refine pu rfl rfl ?_
      refine lw (v := .string a1.name) B15 0 rfl rfl rfl rfl ?_
      refine bs (cs := [.string (bA (nmAt (gNs g) i))]) rfl rfl rfl (by rw [nmAt_some hnm]; rfl) rfl (fun B99 => ?_)
      refine ap (e := 9) (size := 1) (bytes := 16) rfl rfl rfl rfl rfl rfl rfl hown (List.perm_append_comm (l₁ := [_, _, _, _]) (l₂ := σe)) rfl (Rd.of_cells (.head _)) rfl rfl (by rw [flatMap_len wE_len]; omega) rfl rfl (fun v99 σ9 hown9 => ?_)
      refine SL_weak (List.Sublist.append_left (List.sublist_cons_self _ _) _) ?_
      refine SL_perm (σ' := _ :: _ :: _ :: σ9) (List.perm_append_comm (l₂ := [_, _, _])) ?_
      have hown8 : OwnS 9 1 v99 (((((lnsTok (b.lines.map Line.keyL) ++ (if b.draws ≠ 1 then [[120], decW b.draws] else [])) ++ (if b.system = true then [[115, 121, 115]] else [])) ++ (if b.addons.toNat ≠ 0 then [[42]] else [])) ++ addTokF (gNs g) b.addons.toNat 0 (i) ++ [nmAt (gNs g) i]).flatMap wE) σ9 := by rw [List.flatMap_append]; exact hown9
      obtain ⟨a5, c5, e5⟩ := hown8.lenL (by omega) wE_len
      subst e5
      first | refine pL rfl rfl ?_ | refine pu rfl rfl ?_
      refine SL_nil (nb (nx ?_))
      refine SWP_weak (List.sublist_cons_self _ _) ?_
      refine SWP_region ?_
      first | refine pw rfl rfl (w64 (by omega) (by omega)) ?_ | refine pu rfl rfl ?_
      refine pI rfl rfl ?_
      refine SL_nil (nx ?_)
      refine ⟨by repeat (first | exact Under.upds rfl (Under.hav _ _ _) | exact Under.hav _ _ _ | refine Under.upd rfl ?_ | refine Under.upds rfl ?_ | refine Under.hav2 rfl ?_), ?_, ?_⟩
      · first
          | (have e1 : ((((lnsTok (b.lines.map Line.keyL) ++ (if b.draws ≠ 1 then [[120], decW b.draws] else [])) ++ (if b.system = true then [[115, 121, 115]] else [])) ++ (if b.addons.toNat ≠ 0 then [[42]] else [])) ++ addTokF (gNs g) b.addons.toNat 0 (i)) ++ [nmAt (gNs g) i] = (((lnsTok (b.lines.map Line.keyL) ++ (if b.draws ≠ 1 then [[120], decW b.draws] else [])) ++ (if b.system = true then [[115, 121, 115]] else [])) ++ (if b.addons.toNat ≠ 0 then [[42]] else [])) ++ addTokF (gNs g) b.addons.toNat 0 (i + 1) := by rw [addTokF_snoc, if_pos (bit_is.1 (by assumption)), List.append_assoc]
             rw [e1] at hown8
             rw [e1]
             exact ⟨i + 1, a5, c5, σ9, rfl, by omega, hown8, rfl, rfl⟩)
          | (have e1 : (((lnsTok (b.lines.map Line.keyL) ++ (if b.draws ≠ 1 then [[120], decW b.draws] else [])) ++ (if b.system = true then [[115, 121, 115]] else [])) ++ (if b.addons.toNat ≠ 0 then [[42]] else [])) ++ addTokF (gNs g) b.addons.toNat 0 (i) = (((lnsTok (b.lines.map Line.keyL) ++ (if b.draws ≠ 1 then [[120], decW b.draws] else [])) ++ (if b.system = true then [[115, 121, 115]] else [])) ++ (if b.addons.toNat ≠ 0 then [[42]] else [])) ++ addTokF (gNs g) b.addons.toNat 0 (i + 1) := by rw [addTokF_snoc, if_neg (fun h => absurd (bit_is.2 h) (by assumption)), List.append_nil]
             rw [e1] at hown
             rw [e1]
             exact ⟨i + 1, a, c, σe, rfl, by omega, hown, rfl, rfl⟩)
      · simp only [L_vals, List.map, List.getD]; show g.addons.length - (i + 1) < g.addons.length - i; omega
    refine SL_nil (nx (SWP_cf rfl (SWP_skip (nb (nx ?_)))))
    refine SWP_weak (List.sublist_cons_self _ _) ?_
    refine SWP_region ?_
    first | refine pw rfl rfl (w64 (by omega) (by omega)) ?_ | refine pu rfl rfl ?_
    refine pI rfl rfl ?_
    refine SL_nil (nx ?_)
    refine ⟨by repeat (first | exact Under.upds rfl (Under.hav _ _ _) | exact Under.hav _ _ _ | refine Under.upd rfl ?_ | refine Under.upds rfl ?_ | refine Under.hav2 rfl ?_), ?_, ?_⟩
    · first
        | (have e1 : ((((lnsTok (b.lines.map Line.keyL) ++ (if b.draws ≠ 1 then [[120], decW b.draws] else [])) ++ (if b.system = true then [[115, 121, 115]] else [])) ++ (if b.addons.toNat ≠ 0 then [[42]] else [])) ++ addTokF (gNs g) b.addons.toNat 0 (i)) ++ [nmAt (gNs g) i] = (((lnsTok (b.lines.map Line.keyL) ++ (if b.draws ≠ 1 then [[120], decW b.draws] else [])) ++ (if b.system = true then [[115, 121, 115]] else [])) ++ (if b.addons.toNat ≠ 0 then [[42]] else [])) ++ addTokF (gNs g) b.addons.toNat 0 (i + 1) := by rw [addTokF_snoc, if_pos (bit_is.1 (by assumption)), List.append_assoc]
           rw [e1] at hown8
           rw [e1]
           exact ⟨i + 1, a5, c5, σ9, rfl, by omega, hown8, rfl, rfl⟩)
        | (have e1 : (((lnsTok (b.lines.map Line.keyL) ++ (if b.draws ≠ 1 then [[120], decW b.draws] else [])) ++ (if b.system = true then [[115, 121, 115]] else [])) ++ (if b.addons.toNat ≠ 0 then [[42]] else [])) ++ addTokF (gNs g) b.addons.toNat 0 (i) = (((lnsTok (b.lines.map Line.keyL) ++ (if b.draws ≠ 1 then [[120], decW b.draws] else [])) ++ (if b.system = true then [[115, 121, 115]] else [])) ++ (if b.addons.toNat ≠ 0 then [[42]] else [])) ++ addTokF (gNs g) b.addons.toNat 0 (i + 1) := by rw [addTokF_snoc, if_neg (fun h => absurd (bit_is.2 h) (by assumption)), List.append_nil]
           rw [e1] at hown
           rw [e1]
           exact ⟨i + 1, a, c, σe, rfl, by omega, hown, rfl, rfl⟩)
    · simp only [L_vals, List.map, List.getD]; show g.addons.length - (i + 1) < g.addons.length - i; omega
  refine SL_nil (nx (SWP_seq (SWP_cf rfl (SWP_exit (ne (ne (be rfl (nx (SWP_seq ?_)))))))))
  obtain rfl : i = g.addons.length := by omega
  have eT : (((lnsTok (b.lines.map Line.keyL) ++ (if b.draws ≠ 1 then [[120], decW b.draws] else [])) ++ (if b.system = true then [[115, 121, 115]] else [])) ++ (if b.addons.toNat ≠ 0 then [[42]] else [])) ++ addTokF (gNs g) b.addons.toNat 0 (g.addons.length) = toks (gNs g) b.key := by
    rw [← gNs_len g]
    show _ = lnsTok (b.lines.map Line.keyL) ++ ((if b.draws ≠ 1 then [[120], decW b.draws] else []) ++ ((if b.system = true then [[115, 121, 115]] else []) ++ ((if b.addons.toNat ≠ 0 then [[42]] else []) ++ addTokF (gNs g) b.addons.toNat 0 (gNs g).length)))
    simp only [List.append_assoc]
  rw [eT] at hown hTl
  rw [eT]
  refine SWP_region ?_
  refine SL_perm (List.perm_append_comm (l₁ := [_, _])) ?_
  refine SL_freezeL (by omega) wE_len hown (fun m9 hl9 hb9 => ?_)
  refine pu rfl rfl ?_
  refine SL_pcall rfl rfl cb27 (joinI hb9 (toks_ne (bet_sm hok)) (by omega) (by have := joinW_len (toks (gNs g) b.key) 24 (toks_short hok); omega)) rfl ?_
  first | refine pS rfl rfl ?_ | refine pu rfl rfl ?_
  first | refine pI rfl rfl ?_ | refine pu rfl rfl ?_
  refine SL_nil (nx (SWP_ret ?_))
  refine fin [_, _] ⟨rfl, rfl, trivial⟩ ?_
  unfold printL
  rw [if_pos hz, hz]
  rfl
end Go.Proofs.YtifjhpaoejageaaGreatDoor
namespace Go.Proofs.YtifjhpaoejageaaGreatDoor
open Eng
theorem joinW_app : ∀ {A B : List Wd}, A ≠ [] → B ≠ [] → joinW (A ++ B) = joinW A ++ 32 :: joinW B
  | [], _, h, _ => absurd rfl h
  | [w], B, _, hB => by
    show joinW (w :: B) = w ++ 32 :: joinW B
    exact joinW_cons hB
  | w :: v :: ws, B, _, hB => by
    have ih := joinW_app (A := v :: ws) (B := B) (by simp) hB
    show joinW (w :: (v :: ws ++ B)) = (w ++ 32 :: joinW (v :: ws)) ++ 32 :: joinW B
    rw [joinW_cons (by simp), ih]
    simp
theorem iteb_len {c : Prop} [Decidable c] {l : List UInt8} {n : Nat} (h : l.length ≤ n) : (if c then l else []).length ≤ n := by
  split
  · exact h
  · exact Nat.zero_le _
theorem map_ne {l : List Int} (h : l ≠ []) : l.map decW ≠ [] := fun e => h (List.map_eq_nil_iff.1 e)
theorem lnTok_ne {x : LnK} (h : x.1 ≠ []) : lnTok x ≠ [] := fun e => by
  have := lnTok_len h
  rw [e] at this; cases this
theorem join_lnTok {x : Line} (h : x.main ≠ []) : joinW (lnTok x.keyL) = joinW (x.main.map decW) ++ (if x.bonus = [] then [] else [32, 43, 32] ++ joinW (x.bonus.map decW)) := by
  show joinW (x.main.map decW ++ (if x.bonus = [] then [] else [43] :: x.bonus.map decW)) = _
  by_cases hb : x.bonus = []
  · rw [if_pos hb, if_pos hb, List.append_nil, List.append_nil]
  · rw [if_neg hb, if_neg hb, joinW_app (map_ne h) (by simp), joinW_cons (map_ne hb)]
    rfl
theorem lns_ne {K : List LnK} {i : Nat} (h : 0 < i) (hK : K ≠ []) (hx : ∀ x ∈ K, x.1 ≠ []) : lnsTok (K.take i) ≠ [] := fun e => by
  have h1 := lnsTok_len (K.take i) (fun x hh => hx x (List.mem_of_mem_take hh))
  rw [e, List.length_nil, List.length_take] at h1
  have := List.length_pos_iff.2 hK
  omega
theorem join_step {K : List LnK} {i : Nat} {x : Line} (h : K[i]? = some x.keyL) (hx : ∀ y ∈ K, y.1 ≠ []) : joinW (lnsTok (K.take (i + 1))) = (joinW (lnsTok (K.take i)) ++ (if 0 < i then [32, 47, 32] else [])) ++ joinW (lnTok x.keyL) := by
  have hm := hx _ (List.mem_of_getElem? h)
  rw [lnsTok_step h]
  by_cases hi : 0 < i
  · have hK : K ≠ [] := fun e => by rw [e] at h; cases h
    rw [if_pos hi, if_pos hi, List.append_assoc, joinW_app (lns_ne hi hK hx) (by simp)]
    show _ ++ 32 :: joinW ([47] :: lnTok x.keyL) = _
    rw [joinW_cons (lnTok_ne hm)]
    simp
  · have e : i = 0 := by omega
    subst e
    rfl
theorem join_take {l : List Int} {j : Nat} {n : Int} (h : l[j]? = some n) : joinW ((l.take (j + 1)).map decW) = (joinW ((l.take j).map decW) ++ (if 0 < j then [32] else [])) ++ decW n := by
  rw [take_snocA h, List.map_append]
  by_cases hj : 0 < j
  · rw [if_pos hj]
    have hne : (l.take j).map decW ≠ [] := fun e => by
      have h1 := congrArg List.length e
      have h2 := (List.getElem?_eq_some_iff.1 h).1
      rw [List.length_map, List.length_take, List.length_nil] at h1
      omega
    rw [joinW_app hne (by simp), List.append_assoc]
    rfl
  · have e : j = 0 := by omega
    subst e
    rfl
theorem join_nums {l : List Int} (h : ∀ n ∈ l, Sm n) : (joinW (l.map decW)).length ≤ 3 * l.length := by
  have := joinW_len (l.map decW) 2 (fun w hw => by obtain ⟨n, hn, rfl⟩ := List.mem_map.1 hw; exact decW_len (h n hn))
  rw [List.length_map] at this
  exact this
set_option maxRecDepth 100000 in
theorem rowR {m : Mem} {a : Option Addr} {c : Nat} {l : List Int} (hl : RL m intE 1 (.slice a l.length c) l) (hs : ∀ n ∈ l, Sm n) (hn : l.length ≤ 1000) : PureCall Tryz.prog 61 [.slice a l.length c] m (.string (bA (joinW (l.map decW)))) := by
  refine CallsS.pure ?_
  refine enter Tryz.func61 Tryz.ntmps61 rfl rfl ?_
  refine SWP_seq (SWP_region ?_)
  refine pS rfl rfl ?_
  refine SL_nil (nx (SWP_seq (SWP_region ?_)))
  refine pS rfl rfl ?_
  refine SL_nil (nx (SWP_seq (SWP_seq (SWP_region ?_))))
  refine pI rfl rfl ?_
  refine SL_nil (nx (SWP_block ?_))
  refine SWP_loop [3, 4, 5, 6, 7, 8, 9, 10, 11, 12, 13, 14, 15, 16, 17, 18, 19, 20, 21] [3, 4]
      (fun vs σ' m' => ∃ (j : Nat), vs = [.string (bA (joinW ((l.take j).map decW))), .int .i64 (j : Nat)] ∧ j ≤ l.length ∧ σ' = [] ∧ m = m')
      (fun vs => l.length - nOf (vs.getD 1 undef)) rfl ?_ ?_
  · exact ⟨0, rfl, by omega, rfl, rfl⟩
  intro u0 vs0 σ0 m0 hJ0 _
  obtain ⟨j, rfl, hj, rfl, rfl⟩ := hJ0
  refine SWP_seq (SWP_seq (SWP_region ?_))
  first | refine pI rfl rfl ?_ | refine pu rfl rfl ?_
  first | refine pL rfl rfl ?_ | refine pu rfl rfl ?_
  refine pu rfl rfl ?_
  refine pc rfl rfl (fun c8 => ?_) (fun c8 => ?_)
  · skip
    refine SL_nil (nx (SWP_ct rfl (SWP_skip (nx (SWP_seq (SWP_block ?_))))))
    obtain ⟨n, hni⟩ : ∃ n, l[j]? = some n := ⟨_, List.getElem?_eq_getElem (by omega)⟩
    obtain ⟨ad9, e9, _, hat9⟩ := hl.atI hni
    have hSn := decW_len (hs n (List.mem_of_getElem? hni))
    have hSz := join_nums (l := l.take j) (fun x hx => hs x (List.mem_of_mem_take hx))
    rw [List.length_take] at hSz
    refine SWP_merge1 [3, 11, 12, 13, 14] [3]
        (fun vs σ' m' => vs = [.string (bA (joinW ((l.take j).map decW) ++ (if 0 < j then [32] else [])))] ∧ σ' = [] ∧ m = m')
        rfl ?_ ?_
    · skip
      refine SWP_seq (SWP_region ?_)
      first | refine pI rfl rfl ?_ | refine pu rfl rfl ?_
      refine pc rfl rfl (fun c12 => ?_) (fun c12 => ?_)
      · skip
        refine SL_nil (nx (SWP_ct rfl (SWP_region ?_)))
        first | refine pS rfl rfl ?_ | refine pu rfl rfl ?_
        refine sadd (a := bA (joinW ((l.take j).map decW))) (b := bA [32]) rfl rfl (by rw [bA_size, bA_size]; simp only [List.length_cons, List.length_nil]; omega) rfl ?_
        rw [bA_app]
        first | refine pS rfl rfl ?_ | refine pu rfl rfl ?_
        refine SL_nil (nx ?_)
        refine ⟨by repeat (first | with_reducible exact Under.refl _ _ | exact Under.upds rfl (Under.hav _ _ _) | exact Under.hav _ _ _ | refine Under.upd rfl ?_ | refine Under.upds rfl ?_ | refine Under.hav2 rfl ?_), ?_⟩
        first | (rw [if_pos (show 0 < j by omega)]; exact ⟨rfl, rfl, rfl⟩) | (rw [if_neg (show ¬ 0 < j by omega), List.append_nil]; exact ⟨rfl, rfl, rfl⟩)
      refine SL_nil (nx (SWP_cf rfl (SWP_skip (nx ?_))))
      refine ⟨by repeat (first | with_reducible exact Under.refl _ _ | exact Under.upds rfl (Under.hav _ _ _) | exact Under.hav _ _ _ | refine Under.upd rfl ?_ | refine Under.upds rfl ?_ | refine Under.hav2 rfl ?_), ?_⟩
      first | (rw [if_pos (show 0 < j by omega)]; exact ⟨rfl, rfl, rfl⟩) | (rw [if_neg (show ¬ 0 < j by omega), List.append_nil]; exact ⟨rfl, rfl, rfl⟩)
    intro uM0 vM0 σM0 mM0 hM0 _
    obtain ⟨rfl, rfl, rfl⟩ := hM0
    refine SWP_region ?_
    first | refine pS rfl rfl ?_ | refine pu rfl rfl ?_
    first | refine pL rfl rfl ?_ | refine pu rfl rfl ?_
    first | refine pI rfl rfl ?_ | refine pu rfl rfl ?_
    refine ia (es := 1) (ad := ad9) rfl rfl rfl (Nat.mul_one _) (by show Value.slice a _ _ = _; rw [e9]) rfl (by omega) rfl ?_
    refine ldA (v := .int .i64 n) rfl hat9 rfl rfl ?_
    refine SL_pcall rfl rfl cb62 (fmtWR (hs n (List.mem_of_getElem? hni))) rfl ?_
    refine sadd (a := bA (joinW ((l.take j).map decW) ++ (if 0 < j then [32] else []))) (b := bA (decW n)) rfl rfl (by rw [bA_size, bA_size, List.length_append]; have := iteb_len (c := 0 < j) (l := [32]) (n := 1) (Nat.le_refl _); omega) rfl ?_
    rw [bA_app]
    first | refine pS rfl rfl ?_ | refine pu rfl rfl ?_
    refine SL_nil (nb (nx (SWP_region ?_)))
    first | refine pI rfl rfl ?_ | refine pu rfl rfl ?_
    first | refine pw rfl rfl (w64 (by omega) (by omega)) ?_ | refine pu rfl rfl ?_
    refine pI rfl rfl ?_
    refine SL_nil (nx ?_)
    refine ⟨by repeat (first | exact Under.upds rfl (Under.hav _ _ _) | exact Under.hav _ _ _ | refine Under.upd rfl ?_ | refine Under.upds rfl ?_ | refine Under.hav2 rfl ?_), ?_, ?_⟩
    · refine ⟨j + 1, ?_, by omega, rfl, rfl⟩
      rw [join_take hni]
      rfl
    · simp only [L_vals, List.map, List.getD]; show l.length - (j + 1) < l.length - j; omega
  refine SL_nil (nx (SWP_cf rfl (SWP_exit (ne (ne (be rfl (nx (SWP_seq (SWP_region ?_)))))))))
  first | refine pS rfl rfl ?_ | refine pu rfl rfl ?_
  first | refine pS rfl rfl ?_ | refine pu rfl rfl ?_
  refine SL_nil (nx (SWP_ret ?_))
  refine fin [_] ⟨rfl, trivial⟩ ?_
  obtain rfl : j = l.length := by omega
  rw [List.take_length]
  rfl
end Go.Proofs.YtifjhpaoejageaaGreatDoor
namespace Go.Proofs.YtifjhpaoejageaaGreatDoor
open Eng
theorem joinW_snoc {A : List Wd} (hA : A ≠ []) (w : Wd) : joinW (A ++ [w]) = (joinW A ++ [32]) ++ w := by
  rw [joinW_app hA (by simp), List.append_assoc]; rfl
theorem app_ne {A B : List Wd} (h : A ≠ []) : A ++ B ≠ [] := fun e => h (List.append_eq_nil_iff.1 e).1
set_option maxRecDepth 100000 in
theorem textR {m : Mem} {g : Game} {b : Bet} (hin : g.In m) (hb : b.In m) (hok : BetOk g b) : PureCall Tryz.prog 28 [g.val, b.val] m (.string (bA (joinW (toks (gNs g) b.key)))) := by
  refine CallsS.pure ?_
  dsimp only [Game.val, Bet.val]
  have hln := hok.ln
  have hdr : Sm b.draws := (bet_sm hok).d
  have hdl := decW_len hdr
  have hKl : (b.lines.map Line.keyL).length = b.lines.length := List.length_map ..
  have hgl := addons_few (gameOk hok.g0)
  have hKn : ∀ y ∈ (b.lines.map Line.keyL), y.1 ≠ [] := fun y hy => ((bet_sm hok).ls y hy).ne
  have hne : lnsTok (b.lines.map Line.keyL) ≠ [] := fun e => by
    have h1 := lnsTok_len _ hKn
    rw [e, List.length_nil] at h1
    omega
  refine enter Tryz.func28 Tryz.ntmps28 rfl rfl ?_
  refine SWP_seq (SWP_region ?_)
  refine bx (v := .agg _) rfl rfl (fun B2 => ?_)
  refine bx (v := .agg _) rfl rfl (fun B3 => ?_)
  refine pS rfl rfl ?_
  refine SL_nil (nx (SWP_seq (SWP_region ?_)))
  refine pS rfl rfl ?_
  refine SL_nil (nx (SWP_seq (SWP_seq (SWP_region ?_))))
  refine pI rfl rfl ?_
  refine SL_nil (nx (SWP_block ?_))
  refine SWP_loop [5, 6, 8, 9, 10, 11, 12, 13, 14, 15, 16, 17, 18, 19, 20, 21, 22, 23, 24, 25, 26, 27, 28, 29, 30, 31, 32, 33, 34, 35, 36, 37, 38, 39, 40, 41, 42, 43, 44, 45] [5, 6]
      (fun vs σ' m' => ∃ (i : Nat), vs = [.string (bA (joinW (lnsTok ((b.lines.map Line.keyL).take i)))), .int .i64 (i : Nat)] ∧ i ≤ b.lines.length ∧ (joinW (lnsTok ((b.lines.map Line.keyL).take i))).length ≤ 100 * i ∧ σ' = [(B3, Cells 30 b.enc), (B2, Cells 25 g.enc)] ∧ m = m')
      (fun vs => b.lines.length - nOf (vs.getD 1 undef)) rfl ?_ ?_
  · exact ⟨0, rfl, by omega, Nat.le_refl _, rfl, rfl⟩
  intro u0 vs0 σ0 m0 hJ0 _
  obtain ⟨i, rfl, hi, hBl, rfl, rfl⟩ := hJ0
  refine SWP_seq (SWP_seq (SWP_region ?_))
  first | refine pI rfl rfl ?_ | refine pu rfl rfl ?_
  refine pu rfl rfl ?_
  refine lw (v := .slice _ _ _) B3 0 rfl rfl rfl rfl ?_
  refine pu rfl rfl ?_
  refine pc rfl rfl (fun c12 => ?_) (fun c12 => ?_)
  · skip
    refine SL_nil (nx (SWP_ct rfl (SWP_skip (nx (SWP_seq (SWP_block ?_))))))
    obtain ⟨x, hxi⟩ : ∃ x, b.lines[i]? = some x := ⟨_, List.getElem?_eq_getElem (by omega)⟩
    have hx := hok.ls x (List.mem_of_getElem? hxi)
    have hxin := hb.each x (List.mem_of_getElem? hxi)
    obtain ⟨ad, e0, _, hat⟩ := hb.ls.atA Line.enc_len hxi
    have hKi : (b.lines.map Line.keyL)[i]? = some x.keyL := by rw [List.getElem?_map, hxi]; rfl
    have hmn := join_nums hx.1.m
    have hbn := join_nums hx.1.b
    have hmn2 : (joinW (x.main.map decW)).length ≤ 42 := by have h0 : x.keyL.1.length = x.main.length := rfl; have h1 : (joinW (x.main.map decW)).length ≤ 3 * x.keyL.1.length := hmn; omega
    have hbn2 : (joinW (x.bonus.map decW)).length ≤ 12 := by have h0 : x.keyL.2.length = x.bonus.length := rfl; have h1 : (joinW (x.bonus.map decW)).length ≤ 3 * x.keyL.2.length := hbn; omega
    have hsp := iteb_len (c := 0 < i) (l := [32, 47, 32]) (n := 3) (Nat.le_refl _)
    refine SWP_merge1 [5, 15, 16, 17, 18] [5]
        (fun vs σ' m' => vs = [.string (bA (joinW (lnsTok ((b.lines.map Line.keyL).take i)) ++ (if 0 < i then [32, 47, 32] else [])))] ∧ σ' = [(B3, Cells 30 b.enc), (B2, Cells 25 g.enc)] ∧ m = m')
        rfl ?_ ?_
    · skip
      refine SWP_seq (SWP_region ?_)
      first | refine pI rfl rfl ?_ | refine pu rfl rfl ?_
      refine pc rfl rfl (fun c16 => ?_) (fun c16 => ?_)
      · skip
        refine SL_nil (nx (SWP_ct rfl (SWP_region ?_)))
        first | refine pS rfl rfl ?_ | refine pu rfl rfl ?_
        refine sadd (a := bA (joinW (lnsTok ((b.lines.map Line.keyL).take i)))) (b := bA ([32, 47, 32])) rfl rfl (by rw [bA_size, bA_size]; simp only [List.length_append, List.length_cons, List.length_nil]; omega) rfl ?_
        rw [bA_app]
        first | refine pS rfl rfl ?_ | refine pu rfl rfl ?_
        refine SL_nil (nx ?_)
        refine ⟨by repeat (first | with_reducible exact Under.refl _ _ | exact Under.upds rfl (Under.hav _ _ _) | exact Under.hav _ _ _ | refine Under.upd rfl ?_ | refine Under.upds rfl ?_ | refine Under.hav2 rfl ?_), ?_⟩
        first | (rw [if_pos (show 0 < i by omega)]; exact ⟨rfl, rfl, rfl⟩) | (rw [if_neg (show ¬ 0 < i by omega), List.append_nil]; exact ⟨rfl, rfl, rfl⟩)
      refine SL_nil (nx (SWP_cf rfl (SWP_skip (nx ?_))))
      refine ⟨by repeat (first | with_reducible exact Under.refl _ _ | exact Under.upds rfl (Under.hav _ _ _) | exact Under.hav _ _ _ | refine Under.upd rfl ?_ | refine Under.upds rfl ?_ | refine Under.hav2 rfl ?_), ?_⟩
      first | (rw [if_pos (show 0 < i by omega)]; exact ⟨rfl, rfl, rfl⟩) | (rw [if_neg (show ¬ 0 < i by omega), List.append_nil]; exact ⟨rfl, rfl, rfl⟩)
    intro uM0 vM0 σM0 mM0 hM0 _
    obtain ⟨rfl, rfl, rfl⟩ := hM0
    refine SWP_seq (SWP_region ?_)
    first | refine pS rfl rfl ?_ | refine pu rfl rfl ?_
    refine pu rfl rfl ?_
    refine lw (v := .slice _ _ _) B3 0 rfl rfl rfl rfl ?_
    first | refine pI rfl rfl ?_ | refine pu rfl rfl ?_
    refine ia (es := 2) (ad := ad) rfl rfl rfl rfl (by show Value.slice b.la _ _ = _; rw [e0]) rfl (by omega) rfl ?_
    refine pu rfl rfl ?_
    refine ldF (v := .slice x.ma x.main.length x.mc) rfl rfl hat rfl rfl ?_
    refine SL_pcall rfl rfl cb61 (rowR hxin.mn hx.1.m (by omega)) rfl ?_
    refine sadd (a := bA ((joinW (lnsTok ((b.lines.map Line.keyL).take i)) ++ (if 0 < i then [32, 47, 32] else [])))) (b := bA (joinW (x.main.map decW))) rfl rfl (by rw [bA_size, bA_size]; simp only [List.length_append, List.length_cons, List.length_nil]; omega) rfl ?_
    rw [bA_app]
    first | refine pS rfl rfl ?_ | refine pu rfl rfl ?_
    refine SL_nil (nx (SWP_seq (SWP_region ?_)))
    refine pu rfl rfl ?_
    refine lw (v := .slice _ _ _) B3 0 rfl rfl rfl rfl ?_
    first | refine pI rfl rfl ?_ | refine pu rfl rfl ?_
    refine ia (es := 2) (ad := ad) rfl rfl rfl rfl (by show Value.slice b.la _ _ = _; rw [e0]) rfl (by omega) rfl ?_
    refine pu rfl rfl ?_
    refine ldF (v := .slice x.ba x.bonus.length x.bc) rfl rfl hat rfl rfl ?_
    refine pu rfl rfl ?_
    refine pc rfl rfl (fun c35 => ?_) (fun c35 => ?_)
    · skip
      refine SL_nil (nx (SWP_ct rfl (SWP_region ?_)))
      first | refine pS rfl rfl ?_ | refine pu rfl rfl ?_
      refine sadd (a := bA (((joinW (lnsTok ((b.lines.map Line.keyL).take i)) ++ (if 0 < i then [32, 47, 32] else [])) ++ joinW (x.main.map decW)))) (b := bA ([32, 43, 32])) rfl rfl (by rw [bA_size, bA_size]; simp only [List.length_append, List.length_cons, List.length_nil]; omega) rfl ?_
      rw [bA_app]
      refine pu rfl rfl ?_
      refine lw (v := .slice _ _ _) B3 0 rfl rfl rfl rfl ?_
      first | refine pI rfl rfl ?_ | refine pu rfl rfl ?_
      refine ia (es := 2) (ad := ad) rfl rfl rfl rfl (by show Value.slice b.la _ _ = _; rw [e0]) rfl (by omega) rfl ?_
      refine pu rfl rfl ?_
      refine ldF (v := .slice x.ba x.bonus.length x.bc) rfl rfl hat rfl rfl ?_
      refine SL_pcall rfl rfl cb61 (rowR hxin.bn hx.1.b (by omega)) rfl ?_
      refine sadd (a := bA (((joinW (lnsTok ((b.lines.map Line.keyL).take i)) ++ (if 0 < i then [32, 47, 32] else [])) ++ joinW (x.main.map decW)) ++ [32, 43, 32])) (b := bA (joinW (x.bonus.map decW))) rfl rfl (by rw [bA_size, bA_size]; simp only [List.length_append, List.length_cons, List.length_nil]; omega) rfl ?_
      rw [bA_app]
      first | refine pS rfl rfl ?_ | refine pu rfl rfl ?_
      refine SL_nil (nb (nx (SWP_region ?_)))
      first | refine pI rfl rfl ?_ | refine pu rfl rfl ?_
      first | refine pw rfl rfl (w64 (by omega) (by omega)) ?_ | refine pu rfl rfl ?_
      refine pI rfl rfl ?_
      refine SL_nil (nx ?_)
      refine ⟨by repeat (first | exact Under.upds rfl (Under.hav _ _ _) | exact Under.hav _ _ _ | refine Under.upd rfl ?_ | refine Under.upds rfl ?_ | refine Under.hav2 rfl ?_), ?_, ?_⟩
      · have e1 := join_step hKi hKn
        have hmne : x.main ≠ [] := hx.1.ne
        rw [join_lnTok hmne, ← List.append_assoc] at e1
        first
          | (have hb0 : ¬ x.bonus = [] := fun e => by have h0 := congrArg List.length e; rw [List.length_nil] at h0; omega
             rw [if_neg hb0, ← List.append_assoc] at e1
             refine ⟨i + 1, ?_, by omega, ?_, rfl, rfl⟩
             · rw [e1]; rfl
             · rw [e1]; simp only [List.length_append, List.length_cons, List.length_nil]; omega)
          | (have hb0 : x.bonus = [] := List.eq_nil_of_length_eq_zero (by omega)
             rw [if_pos hb0, List.append_nil] at e1
             refine ⟨i + 1, ?_, by omega, ?_, rfl, rfl⟩
             · rw [e1]; rfl
             · rw [e1]; simp only [List.length_append]; omega)
      · simp only [L_vals, List.map, List.getD]; show b.lines.length - (i + 1) < b.lines.length - i; omega
    refine SL_nil (nx (SWP_cf rfl (SWP_skip (nb (nx (SWP_region ?_))))))
    first | refine pI rfl rfl ?_ | refine pu rfl rfl ?_
    first | refine pw rfl rfl (w64 (by omega) (by omega)) ?_ | refine pu rfl rfl ?_
    refine pI rfl rfl ?_
    refine SL_nil (nx ?_)
    refine ⟨by repeat (first | exact Under.upds rfl (Under.hav _ _ _) | exact Under.hav _ _ _ | refine Under.upd rfl ?_ | refine Under.upds rfl ?_ | refine Under.hav2 rfl ?_), ?_, ?_⟩
    · have e1 := join_step hKi hKn
      have hmne : x.main ≠ [] := hx.1.ne
      rw [join_lnTok hmne, ← List.append_assoc] at e1
      first
        | (have hb0 : ¬ x.bonus = [] := fun e => by have h0 := congrArg List.length e; rw [List.length_nil] at h0; omega
           rw [if_neg hb0, ← List.append_assoc] at e1
           refine ⟨i + 1, ?_, by omega, ?_, rfl, rfl⟩
           · rw [e1]; rfl
           · rw [e1]; simp only [List.length_append, List.length_cons, List.length_nil]; omega)
        | (have hb0 : x.bonus = [] := List.eq_nil_of_length_eq_zero (by omega)
           rw [if_pos hb0, List.append_nil] at e1
           refine ⟨i + 1, ?_, by omega, ?_, rfl, rfl⟩
           · rw [e1]; rfl
           · rw [e1]; simp only [List.length_append]; omega)
    · simp only [L_vals, List.map, List.getD]; show b.lines.length - (i + 1) < b.lines.length - i; omega
  refine SL_nil (nx (SWP_cf rfl (SWP_exit (ne (ne (be rfl (nx ?_)))))))
  have hi1 : i = (b.lines.map Line.keyL).length := by omega
  subst hi1
  rw [List.take_length] at hBl
  rw [List.take_length]
  refine SWP_merge1 [5, 46, 47, 48, 49, 50, 51, 52, 53, 54] [5]
      (fun vs σ' m' => vs = [.string (bA (joinW (lnsTok (b.lines.map Line.keyL) ++ (if b.draws ≠ 1 then [[120], decW b.draws] else []))))] ∧ (joinW (lnsTok (b.lines.map Line.keyL) ++ (if b.draws ≠ 1 then [[120], decW b.draws] else []))).length ≤ 1610 ∧ σ' = [(B3, Cells 30 b.enc), (B2, Cells 25 g.enc)] ∧ m = m')
      rfl ?_ ?_
  · skip
    refine SWP_seq (SWP_region ?_)
    refine pu rfl rfl ?_
    refine lw (v := .int .i64 _) B3 2 rfl rfl rfl rfl ?_
    refine pc rfl rfl (fun c48 => ?_) (fun c48 => ?_)
    · skip
      refine SL_nil (nx (SWP_ct rfl (SWP_region ?_)))
      first | refine pS rfl rfl ?_ | refine pu rfl rfl ?_
      refine sadd (a := bA (joinW (lnsTok (b.lines.map Line.keyL)))) (b := bA ([32, 120, 32])) rfl rfl (by rw [bA_size, bA_size]; simp only [List.length_append, List.length_cons, List.length_nil]; omega) rfl ?_
      rw [bA_app]
      refine pu rfl rfl ?_
      refine lw (v := .int .i64 _) B3 2 rfl rfl rfl rfl ?_
      refine SL_pcall rfl rfl cb62 (fmtWR hdr) rfl ?_
      refine sadd (a := bA (joinW (lnsTok (b.lines.map Line.keyL)) ++ [32, 120, 32])) (b := bA (decW b.draws)) rfl rfl (by rw [bA_size, bA_size]; simp only [List.length_append, List.length_cons, List.length_nil]; omega) rfl ?_
      rw [bA_app]
      first | refine pS rfl rfl ?_ | refine pu rfl rfl ?_
      refine SL_nil (nx ?_)
      refine ⟨by repeat (first | with_reducible exact Under.refl _ _ | exact Under.upds rfl (Under.hav _ _ _) | exact Under.hav _ _ _ | refine Under.upd rfl ?_ | refine Under.upds rfl ?_ | refine Under.hav2 rfl ?_), ?_⟩
      first
      | (have e1 : joinW ((lnsTok (b.lines.map Line.keyL)) ++ [[120], decW b.draws]) = (joinW (lnsTok (b.lines.map Line.keyL)) ++ [32, 120, 32]) ++ decW b.draws := by rw [joinW_app hne (by simp)]; simp [joinW]
         rw [if_pos (show b.draws ≠ 1 by assumption), e1]
         refine ⟨rfl, ?_, rfl, rfl⟩
         simp only [List.length_append, List.length_cons, List.length_nil]; omega)
      | (rw [if_neg (show ¬ b.draws ≠ 1 by assumption), List.append_nil]
         exact ⟨rfl, by omega, rfl, rfl⟩)
    refine SL_nil (nx (SWP_cf rfl (SWP_skip (nx ?_))))
    refine ⟨by repeat (first | with_reducible exact Under.refl _ _ | exact Under.upds rfl (Under.hav _ _ _) | exact Under.hav _ _ _ | refine Under.upd rfl ?_ | refine Under.upds rfl ?_ | refine Under.hav2 rfl ?_), ?_⟩
    first
    | (have e1 : joinW ((lnsTok (b.lines.map Line.keyL)) ++ [[120], decW b.draws]) = (joinW (lnsTok (b.lines.map Line.keyL)) ++ [32, 120, 32]) ++ decW b.draws := by rw [joinW_app hne (by simp)]; simp [joinW]
       rw [if_pos (show b.draws ≠ 1 by assumption), e1]
       refine ⟨rfl, ?_, rfl, rfl⟩
       simp only [List.length_append, List.length_cons, List.length_nil]; omega)
    | (rw [if_neg (show ¬ b.draws ≠ 1 by assumption), List.append_nil]
       exact ⟨rfl, by omega, rfl, rfl⟩)
  intro uM1 vM1 σM1 mM1 hM1 _
  obtain ⟨rfl, hb1, rfl, rfl⟩ := hM1
  refine SWP_merge1 [5, 55, 56, 57, 58] [5]
      (fun vs σ' m' => vs = [.string (bA (joinW ((lnsTok (b.lines.map Line.keyL) ++ (if b.draws ≠ 1 then [[120], decW b.draws] else [])) ++ (if b.system = true then [[115, 121, 115]] else []))))] ∧ (joinW ((lnsTok (b.lines.map Line.keyL) ++ (if b.draws ≠ 1 then [[120], decW b.draws] else [])) ++ (if b.system = true then [[115, 121, 115]] else []))).length ≤ 1620 ∧ σ' = [(B3, Cells 30 b.enc), (B2, Cells 25 g.enc)] ∧ m = m')
      rfl ?_ ?_
  · skip
    refine SWP_seq (SWP_region ?_)
    refine pu rfl rfl ?_
    refine lw (v := .bool _) B3 1 rfl rfl rfl rfl ?_
    refine bsp 56 rfl (fun b56 => ?_) (fun b56 => ?_)
    · skip
      refine SL_nil (nx (SWP_ct rfl (SWP_region ?_)))
      first | refine pS rfl rfl ?_ | refine pu rfl rfl ?_
      refine sadd (a := bA (joinW (lnsTok (b.lines.map Line.keyL) ++ (if b.draws ≠ 1 then [[120], decW b.draws] else [])))) (b := bA ([32, 115, 121, 115])) rfl rfl (by rw [bA_size, bA_size]; simp only [List.length_append, List.length_cons, List.length_nil]; omega) rfl ?_
      rw [bA_app]
      first | refine pS rfl rfl ?_ | refine pu rfl rfl ?_
      refine SL_nil (nx ?_)
      refine ⟨by repeat (first | with_reducible exact Under.refl _ _ | exact Under.upds rfl (Under.hav _ _ _) | exact Under.hav _ _ _ | refine Under.upd rfl ?_ | refine Under.upds rfl ?_ | refine Under.hav2 rfl ?_), ?_⟩
      first
      | (have e1 : joinW ((lnsTok (b.lines.map Line.keyL) ++ (if b.draws ≠ 1 then [[120], decW b.draws] else [])) ++ [[115, 121, 115]]) = joinW (lnsTok (b.lines.map Line.keyL) ++ (if b.draws ≠ 1 then [[120], decW b.draws] else [])) ++ [32, 115, 121, 115] := by rw [joinW_app (app_ne hne) (by simp)]; simp [joinW]
         rw [if_pos (show b.system = true by assumption), e1]
         refine ⟨rfl, ?_, rfl, rfl⟩
         simp only [List.length_append, List.length_cons, List.length_nil]; omega)
      | (rw [if_neg (show ¬ b.system = true by rw [show b.system = false by assumption]; exact Bool.noConfusion), List.append_nil]
         exact ⟨rfl, by omega, rfl, rfl⟩)
    refine SL_nil (nx (SWP_cf rfl (SWP_skip (nx ?_))))
    refine ⟨by repeat (first | with_reducible exact Under.refl _ _ | exact Under.upds rfl (Under.hav _ _ _) | exact Under.hav _ _ _ | refine Under.upd rfl ?_ | refine Under.upds rfl ?_ | refine Under.hav2 rfl ?_), ?_⟩
    first
    | (have e1 : joinW ((lnsTok (b.lines.map Line.keyL) ++ (if b.draws ≠ 1 then [[120], decW b.draws] else [])) ++ [[115, 121, 115]]) = joinW (lnsTok (b.lines.map Line.keyL) ++ (if b.draws ≠ 1 then [[120], decW b.draws] else [])) ++ [32, 115, 121, 115] := by rw [joinW_app (app_ne hne) (by simp)]; simp [joinW]
       rw [if_pos (show b.system = true by assumption), e1]
       refine ⟨rfl, ?_, rfl, rfl⟩
       simp only [List.length_append, List.length_cons, List.length_nil]; omega)
    | (rw [if_neg (show ¬ b.system = true by rw [show b.system = false by assumption]; exact Bool.noConfusion), List.append_nil]
       exact ⟨rfl, by omega, rfl, rfl⟩)
  intro uM2 vM2 σM2 mM2 hM2 _
  obtain ⟨rfl, hb2, rfl, rfl⟩ := hM2
  refine SWP_merge1 [5, 59, 60, 61, 62, 63] [5]
      (fun vs σ' m' => vs = [.string (bA (joinW (((lnsTok (b.lines.map Line.keyL) ++ (if b.draws ≠ 1 then [[120], decW b.draws] else [])) ++ (if b.system = true then [[115, 121, 115]] else [])) ++ (if b.addons.toNat ≠ 0 then [[42]] else []))))] ∧ (joinW (((lnsTok (b.lines.map Line.keyL) ++ (if b.draws ≠ 1 then [[120], decW b.draws] else [])) ++ (if b.system = true then [[115, 121, 115]] else [])) ++ (if b.addons.toNat ≠ 0 then [[42]] else []))).length ≤ 1630 ∧ σ' = [(B3, Cells 30 b.enc), (B2, Cells 25 g.enc)] ∧ m = m')
      rfl ?_ ?_
  · skip
    refine SWP_seq (SWP_region ?_)
    refine pu rfl rfl ?_
    refine lw (v := .int .i64 _) B3 3 rfl rfl rfl rfl ?_
    refine pc rfl rfl (fun c61 => ?_) (fun c61 => ?_)
    · skip
      refine SL_nil (nx (SWP_ct rfl (SWP_region ?_)))
      first | refine pS rfl rfl ?_ | refine pu rfl rfl ?_
      refine sadd (a := bA (joinW ((lnsTok (b.lines.map Line.keyL) ++ (if b.draws ≠ 1 then [[120], decW b.draws] else [])) ++ (if b.system = true then [[115, 121, 115]] else [])))) (b := bA ([32, 42])) rfl rfl (by rw [bA_size, bA_size]; simp only [List.length_append, List.length_cons, List.length_nil]; omega) rfl ?_
      rw [bA_app]
      first | refine pS rfl rfl ?_ | refine pu rfl rfl ?_
      refine SL_nil (nx ?_)
      refine ⟨by repeat (first | with_reducible exact Under.refl _ _ | exact Under.upds rfl (Under.hav _ _ _) | exact Under.hav _ _ _ | refine Under.upd rfl ?_ | refine Under.upds rfl ?_ | refine Under.hav2 rfl ?_), ?_⟩
      first
      | (have e1 : joinW (((lnsTok (b.lines.map Line.keyL) ++ (if b.draws ≠ 1 then [[120], decW b.draws] else [])) ++ (if b.system = true then [[115, 121, 115]] else [])) ++ [[42]]) = joinW ((lnsTok (b.lines.map Line.keyL) ++ (if b.draws ≠ 1 then [[120], decW b.draws] else [])) ++ (if b.system = true then [[115, 121, 115]] else [])) ++ [32, 42] := by rw [joinW_app (app_ne (app_ne hne)) (by simp)]; simp [joinW]
         rw [if_pos (show b.addons.toNat ≠ 0 by have := hok.ad; omega), e1]
         refine ⟨rfl, ?_, rfl, rfl⟩
         simp only [List.length_append, List.length_cons, List.length_nil]; omega)
      | (rw [if_neg (show ¬ b.addons.toNat ≠ 0 by omega), List.append_nil]
         exact ⟨rfl, by omega, rfl, rfl⟩)
    refine SL_nil (nx (SWP_cf rfl (SWP_skip (nx ?_))))
    refine ⟨by repeat (first | with_reducible exact Under.refl _ _ | exact Under.upds rfl (Under.hav _ _ _) | exact Under.hav _ _ _ | refine Under.upd rfl ?_ | refine Under.upds rfl ?_ | refine Under.hav2 rfl ?_), ?_⟩
    first
    | (have e1 : joinW (((lnsTok (b.lines.map Line.keyL) ++ (if b.draws ≠ 1 then [[120], decW b.draws] else [])) ++ (if b.system = true then [[115, 121, 115]] else [])) ++ [[42]]) = joinW ((lnsTok (b.lines.map Line.keyL) ++ (if b.draws ≠ 1 then [[120], decW b.draws] else [])) ++ (if b.system = true then [[115, 121, 115]] else [])) ++ [32, 42] := by rw [joinW_app (app_ne (app_ne hne)) (by simp)]; simp [joinW]
       rw [if_pos (show b.addons.toNat ≠ 0 by have := hok.ad; omega), e1]
       refine ⟨rfl, ?_, rfl, rfl⟩
       simp only [List.length_append, List.length_cons, List.length_nil]; omega)
    | (rw [if_neg (show ¬ b.addons.toNat ≠ 0 by omega), List.append_nil]
       exact ⟨rfl, by omega, rfl, rfl⟩)
  intro uM3 vM3 σM3 mM3 hM3 _
  obtain ⟨rfl, hb3, rfl, rfl⟩ := hM3
  refine SWP_seq (SWP_seq (SWP_region ?_))
  refine pI rfl rfl ?_
  refine SL_nil (nx (SWP_block ?_))
  refine SWP_loop [5, 7, 64, 65, 66, 67, 68, 69, 70, 71, 72, 73, 74, 75, 76, 77, 78, 79, 80, 81, 82, 83, 84, 85] [5, 7]
      (fun vs σ' m' => ∃ (i : Nat), vs = [.string (bA (joinW ((((lnsTok (b.lines.map Line.keyL) ++ (if b.draws ≠ 1 then [[120], decW b.draws] else [])) ++ (if b.system = true then [[115, 121, 115]] else [])) ++ (if b.addons.toNat ≠ 0 then [[42]] else [])) ++ addTokF (gNs g) b.addons.toNat 0 (i)))), .int .i64 (i : Nat)] ∧ i ≤ g.addons.length ∧ (joinW ((((lnsTok (b.lines.map Line.keyL) ++ (if b.draws ≠ 1 then [[120], decW b.draws] else [])) ++ (if b.system = true then [[115, 121, 115]] else [])) ++ (if b.addons.toNat ≠ 0 then [[42]] else [])) ++ addTokF (gNs g) b.addons.toNat 0 (i))).length ≤ 1630 + 30 * i ∧ σ' = [(B3, Cells 30 b.enc), (B2, Cells 25 g.enc)] ∧ m = m')
      (fun vs => g.addons.length - nOf (vs.getD 1 undef)) rfl ?_ ?_
  · refine ⟨0, ?_, by omega, ?_, rfl, rfl⟩
    · rw [show addTokF (gNs g) b.addons.toNat 0 0 = [] from rfl, List.append_nil]; rfl
    · rw [show addTokF (gNs g) b.addons.toNat 0 0 = [] from rfl, List.append_nil]; omega
  intro u1 vs1 σ1 m1 hJ1 _
  obtain ⟨i, rfl, hi, hBl, rfl, rfl⟩ := hJ1
  have hadn : b.addons = ((b.addons.toNat : Nat) : Int) := by have := hok.ad; omega
  have ha16 : b.addons.toNat < 16 := by
    have h1 := (bet_sm hok).a
    have h2 : 2 ^ (gNs g).length ≤ 2 ^ 4 := Nat.pow_le_pow_right (by decide) (by rw [gNs_len]; exact hgl)
    exact Nat.lt_of_lt_of_le h1 h2
  refine SWP_seq (SWP_seq (SWP_region ?_))
  first | refine pI rfl rfl ?_ | refine pu rfl rfl ?_
  refine pu rfl rfl ?_
  refine lw (v := .slice _ _ _) B2 20 rfl rfl rfl rfl ?_
  refine pu rfl rfl ?_
  refine pc rfl rfl (fun c68 => ?_) (fun c68 => ?_)
  · skip
    refine SL_nil (nx (SWP_ct rfl (SWP_skip (nx (SWP_seq (SWP_block (SWP_seq ?_)))))))
    obtain ⟨a1, hai⟩ : ∃ a, g.addons[i]? = some a := ⟨_, List.getElem?_eq_getElem (by omega)⟩
    obtain ⟨ad, e0, _, hat⟩ := hin.ads.atA Addon.enc_len hai
    have hnm : (gNs g)[i]? = some a1.name := by show (g.addons.map Addon.name)[i]? = _; rw [List.getElem?_map, hai]; rfl
    have hnl : (nmAt (gNs g) i).length ≤ 24 := by unfold nmAt; rw [hnm]; exact (name_ns (gNs_name (gameOk hok.g0) a1.name (List.mem_of_getElem? hnm))).2.2
    refine SWP_region ?_
    refine pu rfl rfl ?_
    refine lw (v := .int .i64 _) B3 3 rfl rfl rfl rfl ?_
    first | refine pI rfl rfl ?_ | refine pu rfl rfl ?_
    refine pshr (k := .i64) (c := b.addons.fdiv (2 ^ (min ((i : Nat) : Int).toNat IntKind.i64.bits))) rfl rfl (by omega) rfl rfl ?_
    refine prm rfl rfl (by omega) (show (b.addons.fdiv (2 ^ (min ((i : Nat) : Int).toNat IntKind.i64.bits))).tmod 2 = (if b.addons.toNat.testBit i = true then 1 else 0) by have h9 := bit_r ha16 (i := i) (by omega); rw [← hadn] at h9; exact h9) rfl ?_
    refine pc rfl rfl (fun c76 => ?_) (fun c76 => ?_)
    · skip
      refine SL_nil (nx (SWP_ct rfl (SWP_region ?_)))
      first | refine pS rfl rfl ?_ | refine pu rfl rfl ?_
      refine sadd (a := bA (joinW ((((lnsTok (b.lines.map Line.keyL) ++ (if b.draws ≠ 1 then [[120], decW b.draws] else [])) ++ (if b.system = true then [[115, 121, 115]] else [])) ++ (if b.addons.toNat ≠ 0 then [[42]] else [])) ++ addTokF (gNs g) b.addons.toNat 0 (i)))) (b := bA ([32])) rfl rfl (by rw [bA_size, bA_size]; simp only [List.length_append, List.length_cons, List.length_nil]; omega) rfl ?_
      rw [bA_app]
      refine pu rfl rfl ?_
      refine lw (v := .slice _ _ _) B2 20 rfl rfl rfl rfl ?_
      first | refine pI rfl rfl ?_ | refine pu rfl rfl ?_
      refine ia (es := 6) (ad := ad) rfl rfl rfl rfl (by show Value.slice g.aa _ _ = _; rw [e0]) rfl (by omega) rfl ?_
      refine pu rfl rfl ?_
      refine ldF (v := .string a1.name) rfl rfl hat rfl rfl ?_
      refine sadd (a := bA (joinW ((((lnsTok (b.lines.map Line.keyL) ++ (if b.draws ≠ 1 then [[120], decW b.draws] else [])) ++ (if b.system = true then [[115, 121, 115]] else [])) ++ (if b.addons.toNat ≠ 0 then [[42]] else [])) ++ addTokF (gNs g) b.addons.toNat 0 (i)) ++ [32])) (b := bA (nmAt (gNs g) i)) rfl (by show Value.string a1.name = _; rw [nmAt_some hnm]) (by rw [bA_size, bA_size]; simp only [List.length_append, List.length_cons, List.length_nil]; omega) rfl ?_
      rw [bA_app]
      first | refine pS rfl rfl ?_ | refine pu rfl rfl ?_
      refine SL_nil (nb (nx (SWP_region ?_)))
      first | refine pI rfl rfl ?_ | refine pu rfl rfl ?_
      first | refine pw rfl rfl (w64 (by omega) (by omega)) ?_ | refine pu rfl rfl ?_
      refine pI rfl rfl ?_
      refine SL_nil (nx ?_)
      refine ⟨by repeat (first | exact Under.upds rfl (Under.hav _ _ _) | exact Under.hav _ _ _ | refine Under.upd rfl ?_ | refine Under.upds rfl ?_ | refine Under.hav2 rfl ?_), ?_, ?_⟩
      · first
          | (have e1 : joinW ((((lnsTok (b.lines.map Line.keyL) ++ (if b.draws ≠ 1 then [[120], decW b.draws] else [])) ++ (if b.system = true then [[115, 121, 115]] else [])) ++ (if b.addons.toNat ≠ 0 then [[42]] else [])) ++ addTokF (gNs g) b.addons.toNat 0 (i + 1)) = (joinW ((((lnsTok (b.lines.map Line.keyL) ++ (if b.draws ≠ 1 then [[120], decW b.draws] else [])) ++ (if b.system = true then [[115, 121, 115]] else [])) ++ (if b.addons.toNat ≠ 0 then [[42]] else [])) ++ addTokF (gNs g) b.addons.toNat 0 (i)) ++ [32]) ++ nmAt (gNs g) i := by
               rw [addTokF_snoc, if_pos (bit_is.1 (by assumption)), ← List.append_assoc]
               exact joinW_snoc (app_ne (app_ne (app_ne (app_ne hne)))) _
             refine ⟨i + 1, ?_, by omega, ?_, rfl, rfl⟩
             · rw [e1]; rfl
             · rw [e1]; simp only [List.length_append, List.length_cons, List.length_nil]; omega)
          | (have e1 : (((lnsTok (b.lines.map Line.keyL) ++ (if b.draws ≠ 1 then [[120], decW b.draws] else [])) ++ (if b.system = true then [[115, 121, 115]] else [])) ++ (if b.addons.toNat ≠ 0 then [[42]] else [])) ++ addTokF (gNs g) b.addons.toNat 0 (i + 1) = (((lnsTok (b.lines.map Line.keyL) ++ (if b.draws ≠ 1 then [[120], decW b.draws] else [])) ++ (if b.system = true then [[115, 121, 115]] else [])) ++ (if b.addons.toNat ≠ 0 then [[42]] else [])) ++ addTokF (gNs g) b.addons.toNat 0 (i) := by rw [addTokF_snoc, if_neg (fun h => absurd (bit_is.2 h) (by assumption)), List.append_nil]
             refine ⟨i + 1, ?_, by omega, ?_, rfl, rfl⟩
             · rw [e1]; rfl
             · rw [e1]; omega)
      · simp only [L_vals, List.map, List.getD]; show g.addons.length - (i + 1) < g.addons.length - i; omega
    refine SL_nil (nx (SWP_cf rfl (SWP_skip (nb (nx (SWP_region ?_))))))
    first | refine pI rfl rfl ?_ | refine pu rfl rfl ?_
    first | refine pw rfl rfl (w64 (by omega) (by omega)) ?_ | refine pu rfl rfl ?_
    refine pI rfl rfl ?_
    refine SL_nil (nx ?_)
    refine ⟨by repeat (first | exact Under.upds rfl (Under.hav _ _ _) | exact Under.hav _ _ _ | refine Under.upd rfl ?_ | refine Under.upds rfl ?_ | refine Under.hav2 rfl ?_), ?_, ?_⟩
    · first
        | (have e1 : joinW ((((lnsTok (b.lines.map Line.keyL) ++ (if b.draws ≠ 1 then [[120], decW b.draws] else [])) ++ (if b.system = true then [[115, 121, 115]] else [])) ++ (if b.addons.toNat ≠ 0 then [[42]] else [])) ++ addTokF (gNs g) b.addons.toNat 0 (i + 1)) = (joinW ((((lnsTok (b.lines.map Line.keyL) ++ (if b.draws ≠ 1 then [[120], decW b.draws] else [])) ++ (if b.system = true then [[115, 121, 115]] else [])) ++ (if b.addons.toNat ≠ 0 then [[42]] else [])) ++ addTokF (gNs g) b.addons.toNat 0 (i)) ++ [32]) ++ nmAt (gNs g) i := by
             rw [addTokF_snoc, if_pos (bit_is.1 (by assumption)), ← List.append_assoc]
             exact joinW_snoc (app_ne (app_ne (app_ne (app_ne hne)))) _
           refine ⟨i + 1, ?_, by omega, ?_, rfl, rfl⟩
           · rw [e1]; rfl
           · rw [e1]; simp only [List.length_append, List.length_cons, List.length_nil]; omega)
        | (have e1 : (((lnsTok (b.lines.map Line.keyL) ++ (if b.draws ≠ 1 then [[120], decW b.draws] else [])) ++ (if b.system = true then [[115, 121, 115]] else [])) ++ (if b.addons.toNat ≠ 0 then [[42]] else [])) ++ addTokF (gNs g) b.addons.toNat 0 (i + 1) = (((lnsTok (b.lines.map Line.keyL) ++ (if b.draws ≠ 1 then [[120], decW b.draws] else [])) ++ (if b.system = true then [[115, 121, 115]] else [])) ++ (if b.addons.toNat ≠ 0 then [[42]] else [])) ++ addTokF (gNs g) b.addons.toNat 0 (i) := by rw [addTokF_snoc, if_neg (fun h => absurd (bit_is.2 h) (by assumption)), List.append_nil]
           refine ⟨i + 1, ?_, by omega, ?_, rfl, rfl⟩
           · rw [e1]; rfl
           · rw [e1]; omega)
    · simp only [L_vals, List.map, List.getD]; show g.addons.length - (i + 1) < g.addons.length - i; omega
  refine SL_nil (nx (SWP_cf rfl (SWP_exit (ne (ne (be rfl (nx (SWP_seq (SWP_region ?_)))))))))
  first | refine pS rfl rfl ?_ | refine pu rfl rfl ?_
  first | refine pS rfl rfl ?_ | refine pu rfl rfl ?_
  refine SL_nil (nx (SWP_ret ?_))
  refine fin [_] ⟨rfl, trivial⟩ ?_
  obtain rfl : i = g.addons.length := by omega
  have eT : (((lnsTok (b.lines.map Line.keyL) ++ (if b.draws ≠ 1 then [[120], decW b.draws] else [])) ++ (if b.system = true then [[115, 121, 115]] else [])) ++ (if b.addons.toNat ≠ 0 then [[42]] else [])) ++ addTokF (gNs g) b.addons.toNat 0 (g.addons.length) = toks (gNs g) b.key := by
    rw [← gNs_len g]
    show _ = lnsTok (b.lines.map Line.keyL) ++ ((if b.draws ≠ 1 then [[120], decW b.draws] else []) ++ ((if b.system = true then [[115, 121, 115]] else []) ++ ((if b.addons.toNat ≠ 0 then [[42]] else []) ++ addTokF (gNs g) b.addons.toNat 0 (gNs g).length)))
    simp only [List.append_assoc]
  rw [eT]
  rfl
set_option maxRecDepth 100000 in
theorem printR {m : Mem} {g : Game} {b : Bet} (hin : g.In m) (hb : b.In m) : PureCall Tryz.prog 16 [g.val, b.val] m (.tuple #[.string (bA (printL g b)), .int .i64 (betErr g b)]) := by
  refine CallsS.pure ?_
  dsimp only [Game.val, Bet.val]
  refine enter Tryz.func16 Tryz.ntmps16 rfl rfl ?_
  refine SWP_seq (SWP_region ?_)
  refine bx (v := .agg _) rfl rfl (fun B2 => ?_)
  refine bx (v := .agg _) rfl rfl (fun B3 => ?_)
  refine pS rfl rfl ?_
  refine pI rfl rfl ?_
  refine SL_nil (nx (SWP_seq (SWP_region ?_)))
  refine lw (v := .agg _) B2 0 rfl rfl rfl rfl ?_
  refine lw (v := .agg _) B3 0 rfl rfl rfl rfl ?_
  refine SL_pcall rfl rfl cb24 (betR hin hb) rfl ?_
  first | refine pI rfl rfl ?_ | refine pu rfl rfl ?_
  refine SL_nil (nx (SWP_seq (SWP_seq (SWP_region ?_))))
  first | refine pI rfl rfl ?_ | refine pu rfl rfl ?_
  refine pc rfl rfl (fun c11 => ?_) (fun c11 => ?_)
  · skip
    refine SL_nil (nx (SWP_ct rfl (SWP_seq (SWP_region ?_))))
    first | refine pI rfl rfl ?_ | refine pu rfl rfl ?_
    refine pS rfl rfl ?_
    first | refine pI rfl rfl ?_ | refine pu rfl rfl ?_
    refine SL_nil (nx (SWP_ret (nr ?_)))
    refine fin [_, _] ⟨rfl, rfl, trivial⟩ ?_
    unfold printL
    rw [if_neg (by assumption)]
    rfl
  refine SL_nil (nx (SWP_cf rfl (SWP_skip (nx (SWP_seq ?_)))))
  have hz : betErr g b = 0 := Classical.not_not.1 (by assumption)
  refine SWP_region ?_
  refine lw (v := .agg _) B2 0 rfl rfl rfl rfl ?_
  refine lw (v := .agg _) B3 0 rfl rfl rfl rfl ?_
  refine SL_pcall rfl rfl cb28 (textR hin hb (betOk hz)) rfl ?_
  first | refine pS rfl rfl ?_ | refine pu rfl rfl ?_
  refine pI rfl rfl ?_
  refine SL_nil (nx (SWP_ret ?_))
  refine fin [_, _] ⟨rfl, rfl, trivial⟩ ?_
  unfold printL
  rw [if_pos hz, hz]
  rfl
end Go.Proofs.YtifjhpaoejageaaGreatDoor
namespace Go.Proofs.YtifjhpaoejageaaGreatDoor
open Eng
def g14T : List Tier := [⟨3, 0, 0, 0, 1, 1⟩]
def g14 (B : Nat) : Game := ⟨⟨#[97]⟩, 1, 1, 3, 3, 0, 0, 0, 1, 3, 1, 0, 0, 0, 1, 0, 0, 1, 0, 0, none, 0, [], some ⟨B, 0, none⟩, 1, g14T⟩
def T17 : List UInt8 := [49, 32, 50, 32, 51, 32, 52, 32, 47, 32, 53, 32, 54, 32, 55, 32, 56, 32, 120, 32, 50, 32, 115, 121, 115, 32, 42, 32, 112, 108, 117, 115, 32, 106, 111, 107, 101, 114]
def V17 : List UInt8 := [49, 32, 50, 32, 51, 32, 42, 32, 106, 111, 107, 101, 114, 32, 112, 108, 117, 115]
def K17 : BetM := ([([1, 2, 3, 4], []), ([5, 6, 7, 8], [])], true, 2, 3)
def ads17 (F P : Nat) : List Addon := [⟨⟨#[112, 108, 117, 115]⟩, 1, 0, some ⟨F, 0, none⟩, 1, [2], 0, none, 0, []⟩, ⟨⟨#[106, 111, 107, 101, 114]⟩, 2, 0, none, 0, [], 1, some ⟨P, 0, none⟩, 1, [5]⟩]
def g17a (B : Nat) : Game := { g14 B with of := 20 }
def g17b (B : Nat) : Game := { g17a B with system := 6 }
def g17c (B : Nat) : Game := { g17b B with draws := 3 }
def g17 (B A F P : Nat) : Game := { g17c B with aa := some ⟨A, 0, none⟩, ac := 2, addons := ads17 F P }
theorem g17_ok (B A F P : Nat) : GameOk (g17 B A F P) := by
  refine ⟨by kernel_rfl, .inl rfl, ⟨?_, ?_, ?_, ?_, ?_, ?_, ?_, ?_, ?_, ?_, ?_, ?_, ?_, ?_, ?_, ?_⟩, ⟨?_, ?_, ?_, ?_, ?_, ?_, ?_, ?_, ?_, ?_⟩, by kernel_rfl, by kernel_rfl⟩ <;> exact of_decide_eq_true (by kernel_rfl)
theorem g17_zero (B A F P : Nat) : gameErr (g17 B A F P) = 0 := by
  have h := g17_ok B A F P
  unfold gameErr
  rw [if_neg (by rw [h.name]; exact Bool.noConfusion), if_neg (by have := h.kind; omega), okE_t ⟨h.mx, h.tm⟩, if_neg (by rw [h.ad]; decide)]
  exact h.tr
theorem g17_sys (B A F P : Nat) (M : List Int) (h1 : M.length = 4) (h2 : allIn 1 20 M) (h3 : M.Nodup) : sysErr (g17 B A F P) (zLine (M, [])) = 0 := by
  have e0 : sysG (g17 B A F P) = 0 := by
    unfold sysG
    rw [if_neg (fun hh => hh (g17_zero B A F P))]
    exact if_neg (fun hh => hh rfl)
  unfold sysErr
  rw [if_neg (fun hh => hh e0)]
  rw [if_neg (fun hh => hh ⟨⟨by show (3 : Int) < (M.length : Nat); omega, by show ((M.length : Nat) : Int) ≤ 6; omega⟩, rfl⟩)]
  rw [if_neg (fun hh => hh ⟨h2, fun x hx => absurd hx (by show ¬ x ∈ ([] : List Int); simp)⟩)]
  exact if_neg (fun hh => hh ⟨h3, List.nodup_nil⟩)
theorem g17_bet (B A F P : Nat) : betErrK (g17 B A F P) K17 = 0 := by
  have s1 := g17_sys B A F P [1, 2, 3, 4] rfl (by decide) (by decide)
  have s2 := g17_sys B A F P [5, 6, 7, 8] rfl (by decide) (by decide)
  have hL : (zBet K17).lines = [zLine ([1, 2, 3, 4], []), zLine ([5, 6, 7, 8], [])] := rfl
  have c1 : canonL (g17 B A F P) (zLine ([1, 2, 3, 4], [])) = ([1, 2, 3, 4], []) := by
    show (([1, 2, 3, 4] : List Int).mergeSort leI, ([] : List Int).mergeSort leI) = _
    rw [← pw_eq (X := [1, 2, 3, 4]) (by decide) (List.Perm.refl _), List.mergeSort_nil]
  have c2 : canonL (g17 B A F P) (zLine ([5, 6, 7, 8], [])) = ([5, 6, 7, 8], []) := by
    show (([5, 6, 7, 8] : List Int).mergeSort leI, ([] : List Int).mergeSort leI) = _
    rw [← pw_eq (X := [5, 6, 7, 8]) (by decide) (List.Perm.refl _), List.mergeSort_nil]
  have e2 : lnErr (g17 B A F P) true (zBet K17).lines = 0 := by
    rw [hL]
    refine lnErr_zero.2 fun j hj => ?_
    rcases j with _ | _ | j
    · rw [lnAt_some rfl]
      refine (if_neg (fun hh => hh s1)).trans (if_neg ?_)
      simp
    · rw [lnAt_some rfl]
      refine (if_neg (fun hh => hh s2)).trans (if_neg ?_)
      show canonL _ _ ∉ [canonL _ _]
      rw [c1, c2]; decide
    · simp only [List.length_cons, List.length_nil] at hj; omega
  have e3 : totN (g17 B A F P) true (zBet K17).lines = 8 := by
    rw [hL]
    show [sizeN _ _ _, sizeN _ _ _].sum = 8
    have z1 : sizeN (g17 B A F P) true (zLine ([1, 2, 3, 4], [])) = 4 := (if_pos rfl).trans ((if_neg (fun hh => hh s1)).trans rfl)
    have z2 : sizeN (g17 B A F P) true (zLine ([5, 6, 7, 8], [])) = 4 := (if_pos rfl).trans ((if_neg (fun hh => hh s2)).trans rfl)
    rw [z1, z2]; rfl
  unfold betErrK betErr
  rw [if_neg (fun hh => hh (g17_zero B A F P)), if_neg (fun hh => hh (by rw [hL]; decide))]
  rw [if_neg (fun hh => hh e2), if_neg (by rw [show (zBet K17).system = true from rfl, e3]; decide)]
  rw [if_neg (fun hh => hh (by show (1 : Int) ≤ 2 ∧ (2 : Int) ≤ 3; decide))]
  exact if_neg (fun hh => hh (by show (0 : Int) ≤ 3 ∧ (3 : Int) < 2 ^ 2; decide))
def ns17 : List ByteArray := [⟨#[112, 108, 117, 115]⟩, ⟨#[106, 111, 107, 101, 114]⟩]
theorem ns17_of (B A F P : Nat) : (g17 B A F P).addons.map Addon.name = ns17 := rfl
theorem read17 : readM ns17 (wordsL T17) = (some K17, []) := by kernel_rfl
theorem read17b : readM ns17 (wordsL V17) = (none, [[112, 108, 117, 115]]) := by kernel_rfl
theorem parse17 (B A F P : Nat) : parseO (g17 B A F P) T17 = (K17, 0, 0) := by
  rw [parseO_4 (g17_zero B A F P) (by decide) (by rw [ns17_of]; exact read17)]
  exact if_neg (fun hh => hh (g17_bet B A F P))
theorem parse17b (B A F P : Nat) : parseO (g17 B A F P) V17 = (zK, 1, 14) := by
  rw [parseO_3 (g17_zero B A F P) (by decide) (by rw [ns17_of]; exact read17b)]
  have : posR V17 [[112, 108, 117, 115]] = 14 := by decide +kernel
  rw [this]
theorem print17 (B A F P : Nat) {b : Bet} (h : b.Is K17) : betErr (g17 B A F P) b = 0 ∧ printL (g17 B A F P) b = T17 := by
  have h1 : betErr (g17 B A F P) b = 0 := (betErr_key h).trans (g17_bet B A F P)
  refine ⟨h1, ?_⟩
  unfold printL
  rw [if_pos h1]
  have e : b.key = K17 := by
    obtain ⟨q1, q2, q3, q4⟩ := h
    unfold Bet.key
    rw [q1, q2, q3, q4]; rfl
  rw [e]
  show joinW (toks ns17 K17) = T17
  decide +kernel
theorem g17_in {m : Mem} {B A F P : Nat} (h1 : (g14 B).In m) (h2 : At m ⟨A, 0, none⟩ ((ads17 F P).flatMap Addon.enc)) (h3 : At m ⟨F, 0, none⟩ (([2] : List Int).flatMap intE)) (h4 : At m ⟨P, 0, none⟩ (([5] : List Int).flatMap intE)) : (g17 B A F P).In m :=
by
  refine ⟨RL.of_at Addon.enc_len (ads17 F P) rfl rfl h2, fun a ha => ?_, h1.trs⟩
  rcases List.mem_cons.1 ha with rfl | ha
  · exact ⟨RL.of_at intE_len [2] rfl rfl h3, RL.nil _ _⟩
  · rcases List.mem_cons.1 ha with rfl | ha
    · exact ⟨RL.nil _ _, RL.of_at intE_len [5] rfl rfl h4⟩
    · cases ha
def Bet.ki (b : Bet) : List LnK × Bool × Int × Int := (b.lines.map Line.keyL, b.system, b.draws, b.addons)
theorem ki_is {a b : Bet} {k : BetM} (ha : a.Is k) (hb : b.Is k) : a.ki = b.ki := by
  obtain ⟨a1, a2, a3, a4⟩ := ha
  obtain ⟨b1, b2, b3, b4⟩ := hb
  unfold Bet.ki
  rw [a1, a2, a3, a4, b1, b2, b3, b4]
set_option maxRecDepth 100000 in
theorem game14 {m : Mem} : CallsS Tryz.prog 18 ([] : List Value).toArray [] m fun r σ' m' => σ' = [] ∧ ∃ B, r = (g14 B).val ∧ (g14 B).In m' := by
  refine CallsS.ghost (R' := fun r σ' m' => ∃ B, r = (g14 B).val ∧ (g14 B).In m') ?_ ?h2
  case h2 =>
    rintro r σ' m' hr g0 W hC
    exact ⟨_, m', hC.sublist (List.nil_sublist _), Le.refl _, rfl, hr⟩
  refine enter Tryz.func18 Tryz.ntmps18 rfl rfl ?_
  refine SWP_seq (SWP_region ?_)
  refine al rfl rfl (fun B0 => ?_)
  refine SL_nil (nx (SWP_seq (SWP_region ?_)))
  refine pu (v := .agg (Tier.enc ⟨3, 0, 0, 0, 1, 1⟩).toArray) (by kernel_rfl) rfl ?_
  refine bs (cs := (g14T).flatMap Tier.enc) rfl rfl rfl (by kernel_rfl) rfl (fun B2 => ?_)
  refine SL_freeze (fun m2 hl2 hat2 => ?_)
  refine pu (v := (g14 B2).val) (by kernel_rfl) rfl ?_
  refine swE B0 0 (g14 B2).enc (v := (g14 B2).val) rfl rfl rfl rfl (by kernel_rfl) (by kernel_rfl) (by kernel_rfl) (by kernel_rfl) ?_
  refine SL_nil (nx (SWP_ret ?_))
  refine fin [_] ⟨⟨_, _, rfl, Rd.of_cells (MemO.mem (B := B0)), rfl⟩, trivial⟩ ?_
  exact ⟨B2, by kernel_rfl, ⟨RL.nil _ _, fun a h => (by cases h), RL.of_at Tier.enc_len g14T rfl rfl hat2⟩⟩
set_option maxRecDepth 100000 in
theorem few17 {m : Mem} {g : Game} (hin : g.In m) : CallsS Tryz.prog 9 [g.val].toArray [] m fun r _ _ => ∃ b, r = .bool b := by
  dsimp only [Game.val]
  have hsm := hin.ads.small
  refine enter Tryz.func9 Tryz.ntmps9 rfl rfl ?_
  refine SWP_seq (SWP_region ?_)
  refine bx (v := .agg _) rfl rfl (fun B1 => ?_)
  refine pB rfl rfl ?_
  refine SL_nil (nx (SWP_seq (SWP_seq (SWP_region ?_))))
  refine pu rfl rfl ?_
  refine lw (v := .slice _ _ _) B1 20 rfl rfl rfl rfl ?_
  refine pu rfl rfl ?_
  refine pc rfl rfl (fun c7 => ?_) (fun c7 => ?_)
  · skip
    refine pB rfl rfl ?_
    refine SL_no rfl rfl ?_
    refine SL_no rfl rfl ?_
    refine SL_no rfl rfl ?_
    refine SL_no rfl rfl ?_
    refine pB rfl rfl ?_
    refine SL_nil (nx (SWP_ct rfl (SWP_seq (SWP_region ?_))))
    refine pB rfl rfl ?_
    refine SL_nil (nx (SWP_ret (nr ?_)))
    refine fin [_] ⟨rfl, trivial⟩ ?_
    exact ⟨_, rfl⟩
  refine pB rfl rfl ?_
  refine SL_yes rfl ?_
  refine pu rfl rfl ?_
  refine SL_yes rfl ?_
  refine lw (v := .slice _ _ _) B1 21 rfl rfl rfl rfl ?_
  refine SL_yes rfl ?_
  refine pu rfl rfl ?_
  refine SL_yes rfl ?_
  refine pc rfl rfl (fun c12 => ?_) (fun c12 => ?_)
  · skip
    refine pB rfl rfl ?_
    refine SL_nil (nx (SWP_ct rfl (SWP_seq (SWP_region ?_))))
    refine pB rfl rfl ?_
    refine SL_nil (nx (SWP_ret (nr ?_)))
    refine fin [_] ⟨rfl, trivial⟩ ?_
    exact ⟨_, rfl⟩
  refine pB rfl rfl ?_
  refine SL_nil (nx (SWP_cf rfl (SWP_skip (nx (SWP_seq (SWP_seq (SWP_region ?_)))))))
  refine pu rfl rfl ?_
  refine lw (v := .slice _ _ _) B1 20 rfl rfl rfl rfl ?_
  refine pu rfl rfl ?_
  refine pI rfl rfl ?_
  refine SL_nil (nx (SWP_block ?_))
  refine SWP_loop [2, 3, 17, 18, 19, 20, 21, 22, 23, 24, 25, 26, 27, 28, 29, 30, 31, 32, 33, 34, 35, 36, 37, 38] [17]
      (fun vs σ' m' => ∃ (i : Nat), vs = [.int .i64 (i : Nat)] ∧ i ≤ g.addons.length ∧ σ' = [(B1, Cells 25 g.enc)] ∧ m = m')
      (fun vs => g.addons.length - nOf (vs.getD 0 undef)) rfl ?_ ?_
  · exact ⟨0, rfl, by omega, rfl, rfl⟩
  intro u0 vs0 σ0 m0 hJ0 _
  obtain ⟨i, rfl, hi, rfl, rfl⟩ := hJ0
  refine SWP_seq (SWP_region ?_)
  refine pc rfl rfl (fun c18 => ?_) (fun c18 => ?_)
  · skip
    refine SL_nil (nx (SWP_seq (SWP_ct rfl (SWP_skip (nx (SWP_seq (SWP_block (SWP_seq (SWP_region ?_)))))))))
    first | refine pI rfl rfl ?_ | refine pu rfl rfl ?_
    first | refine pI rfl rfl ?_ | refine pu rfl rfl ?_
    refine SL_nil (nx (SWP_seq ?_))
    obtain ⟨a, ha⟩ : ∃ a, g.addons[i]? = some a := ⟨_, List.getElem?_eq_getElem (by omega)⟩
    obtain ⟨ad, e0, _, hat⟩ := hin.ads.atA Addon.enc_len ha
    refine SWP_region ?_
    refine pu rfl rfl ?_
    refine lw (v := .slice _ _ _) B1 20 rfl rfl rfl rfl ?_
    first | refine pI rfl rfl ?_ | refine pu rfl rfl ?_
    refine ia (es := 6) (ad := ad) rfl rfl rfl rfl (by show Value.slice g.aa _ _ = _; rw [e0]) rfl (by omega) rfl ?_
    refine pu rfl rfl ?_
    refine ldF (v := .slice _ _ _) rfl rfl (by assumption) rfl rfl ?_
    refine pu rfl rfl ?_
    refine pc rfl rfl (fun c27 => ?_) (fun c27 => ?_)
    · skip
      refine pB rfl rfl ?_
      refine SL_no rfl rfl ?_
      refine SL_no rfl rfl ?_
      refine SL_no rfl rfl ?_
      refine SL_no rfl rfl ?_
      refine SL_no rfl rfl ?_
      refine SL_no rfl rfl ?_
      refine SL_no rfl rfl ?_
      refine SL_no rfl rfl ?_
      refine pB rfl rfl ?_
      refine SL_nil (nx (SWP_ct rfl (SWP_seq (SWP_region ?_))))
      refine pB rfl rfl ?_
      refine SL_nil (nx (SWP_ret (br (nr (nr (br (nr ?_)))))))
      refine fin [_] ⟨rfl, trivial⟩ ?_
      exact ⟨_, rfl⟩
    refine pB rfl rfl ?_
    refine SL_yes rfl ?_
    refine pu rfl rfl ?_
    refine SL_yes rfl ?_
    refine lw (v := .slice _ _ _) B1 20 rfl rfl rfl rfl ?_
    refine SL_yes rfl ?_
    first | refine pI rfl rfl ?_ | refine pu rfl rfl ?_
    refine SL_yes rfl ?_
    refine ia (es := 6) (ad := ad) rfl rfl rfl rfl (by show Value.slice g.aa _ _ = _; rw [e0]) rfl (by omega) rfl ?_
    refine SL_yes rfl ?_
    refine pu rfl rfl ?_
    refine SL_yes rfl ?_
    refine ldF (v := .slice _ _ _) rfl rfl (by assumption) rfl rfl ?_
    refine SL_yes rfl ?_
    refine pu rfl rfl ?_
    refine SL_yes rfl ?_
    refine pc rfl rfl (fun c36 => ?_) (fun c36 => ?_)
    · skip
      refine pB rfl rfl ?_
      refine SL_nil (nx (SWP_ct rfl (SWP_seq (SWP_region ?_))))
      refine pB rfl rfl ?_
      refine SL_nil (nx (SWP_ret (br (nr (nr (br (nr ?_)))))))
      refine fin [_] ⟨rfl, trivial⟩ ?_
      exact ⟨_, rfl⟩
    refine pB rfl rfl ?_
    refine SL_nil (nx (SWP_cf rfl (SWP_skip (nb (nx (SWP_region ?_))))))
    first | refine pw rfl rfl (w64 (by omega) (by omega)) ?_ | refine pu rfl rfl ?_
    refine pI rfl rfl ?_
    refine SL_nil (nx ?_)
    refine ⟨by repeat (first | exact Under.upds rfl (Under.hav _ _ _) | exact Under.hav _ _ _ | refine Under.upd rfl ?_), ?_, ?_⟩
    · exact ⟨i + 1, rfl, by omega, rfl, rfl⟩
    · simp only [L_vals, List.map, List.getD]; show g.addons.length - (i + 1) < g.addons.length - i; omega
  refine SL_nil (nx (SWP_seq (SWP_cf rfl (SWP_exit (ne (ne (be rfl (nx (SWP_seq (SWP_region ?_))))))))))
  refine pB rfl rfl ?_
  refine SL_nil (nx (SWP_ret ?_))
  refine fin [_] ⟨rfl, trivial⟩ ?_
  exact ⟨_, rfl⟩
set_option maxRecDepth 100000 in
theorem short17 {m : Mem} {b : Bet} (hb : b.In m) : CallsS Tryz.prog 14 [b.val].toArray [] m fun r _ _ => ∃ b, r = .bool b := by
  dsimp only [Bet.val]
  have hsm := hb.ls.small
  refine enter Tryz.func14 Tryz.ntmps14 rfl rfl ?_
  refine SWP_seq (SWP_region ?_)
  refine bx (v := .agg _) rfl rfl (fun B1 => ?_)
  refine pB rfl rfl ?_
  refine SL_nil (nx (SWP_seq (SWP_seq (SWP_region ?_))))
  refine pu rfl rfl ?_
  refine lw (v := .slice _ _ _) B1 0 rfl rfl rfl rfl ?_
  refine pu rfl rfl ?_
  refine pc rfl rfl (fun c7 => ?_) (fun c7 => ?_)
  · skip
    refine SL_nil (nx (SWP_ct rfl (SWP_seq (SWP_region ?_))))
    refine pB rfl rfl ?_
    refine SL_nil (nx (SWP_ret (nr ?_)))
    refine fin [_] ⟨rfl, trivial⟩ ?_
    exact ⟨_, rfl⟩
  refine SL_nil (nx (SWP_cf rfl (SWP_skip (nx (SWP_seq (SWP_seq (SWP_region ?_)))))))
  refine pu rfl rfl ?_
  refine lw (v := .slice _ _ _) B1 0 rfl rfl rfl rfl ?_
  refine pu rfl rfl ?_
  refine pI rfl rfl ?_
  refine SL_nil (nx (SWP_block ?_))
  refine SWP_loop [2, 3, 11, 12, 13, 14, 15, 16, 17, 18, 19, 20, 21, 22, 23, 24, 25, 26, 27, 28, 29, 30, 31, 32] [11]
      (fun vs σ' m' => ∃ (i : Nat), vs = [.int .i64 (i : Nat)] ∧ i ≤ b.lines.length ∧ σ' = [(B1, Cells 30 b.enc)] ∧ m = m')
      (fun vs => b.lines.length - nOf (vs.getD 0 undef)) rfl ?_ ?_
  · exact ⟨0, rfl, by omega, rfl, rfl⟩
  intro u0 vs0 σ0 m0 hJ0 _
  obtain ⟨i, rfl, hi, rfl, rfl⟩ := hJ0
  refine SWP_seq (SWP_region ?_)
  refine pc rfl rfl (fun c12 => ?_) (fun c12 => ?_)
  · skip
    refine SL_nil (nx (SWP_seq (SWP_ct rfl (SWP_skip (nx (SWP_seq (SWP_block (SWP_seq (SWP_region ?_)))))))))
    first | refine pI rfl rfl ?_ | refine pu rfl rfl ?_
    first | refine pI rfl rfl ?_ | refine pu rfl rfl ?_
    refine SL_nil (nx (SWP_seq ?_))
    obtain ⟨x, hx⟩ : ∃ x, b.lines[i]? = some x := ⟨_, List.getElem?_eq_getElem (by omega)⟩
    obtain ⟨ad, e0, _, hat⟩ := hb.ls.atA Line.enc_len hx
    refine SWP_region ?_
    refine pu rfl rfl ?_
    refine lw (v := .slice _ _ _) B1 0 rfl rfl rfl rfl ?_
    first | refine pI rfl rfl ?_ | refine pu rfl rfl ?_
    refine ia (es := 2) (ad := ad) rfl rfl rfl rfl (by show Value.slice b.la _ _ = _; rw [e0]) rfl (by omega) rfl ?_
    refine pu rfl rfl ?_
    refine ldF (v := .slice x.ma x.main.length x.mc) rfl rfl hat rfl rfl ?_
    refine pu rfl rfl ?_
    refine pc rfl rfl (fun c21 => ?_) (fun c21 => ?_)
    · skip
      refine pB rfl rfl ?_
      refine SL_no rfl rfl ?_
      refine SL_no rfl rfl ?_
      refine SL_no rfl rfl ?_
      refine SL_no rfl rfl ?_
      refine SL_no rfl rfl ?_
      refine SL_no rfl rfl ?_
      refine SL_no rfl rfl ?_
      refine SL_no rfl rfl ?_
      refine pB rfl rfl ?_
      refine SL_nil (nx (SWP_ct rfl (SWP_seq (SWP_region ?_))))
      refine pB rfl rfl ?_
      refine SL_nil (nx (SWP_ret (br (nr (nr (br (nr ?_)))))))
      refine fin [_] ⟨rfl, trivial⟩ ?_
      exact ⟨_, rfl⟩
    refine pB rfl rfl ?_
    refine SL_yes rfl ?_
    refine pu rfl rfl ?_
    refine SL_yes rfl ?_
    refine lw (v := .slice _ _ _) B1 0 rfl rfl rfl rfl ?_
    refine SL_yes rfl ?_
    first | refine pI rfl rfl ?_ | refine pu rfl rfl ?_
    refine SL_yes rfl ?_
    refine ia (es := 2) (ad := ad) rfl rfl rfl rfl (by show Value.slice b.la _ _ = _; rw [e0]) rfl (by omega) rfl ?_
    refine SL_yes rfl ?_
    refine pu rfl rfl ?_
    refine SL_yes rfl ?_
    refine ldF (v := .slice x.ba x.bonus.length x.bc) rfl rfl hat rfl rfl ?_
    refine SL_yes rfl ?_
    refine pu rfl rfl ?_
    refine SL_yes rfl ?_
    refine pc rfl rfl (fun c30 => ?_) (fun c30 => ?_)
    · skip
      refine pB rfl rfl ?_
      refine SL_nil (nx (SWP_ct rfl (SWP_seq (SWP_region ?_))))
      refine pB rfl rfl ?_
      refine SL_nil (nx (SWP_ret (br (nr (nr (br (nr ?_)))))))
      refine fin [_] ⟨rfl, trivial⟩ ?_
      exact ⟨_, rfl⟩
    refine pB rfl rfl ?_
    refine SL_nil (nx (SWP_cf rfl (SWP_skip (nb (nx (SWP_region ?_))))))
    first | refine pw rfl rfl (w64 (by omega) (by omega)) ?_ | refine pu rfl rfl ?_
    refine pI rfl rfl ?_
    refine SL_nil (nx ?_)
    refine ⟨by repeat (first | exact Under.upds rfl (Under.hav _ _ _) | exact Under.hav _ _ _ | refine Under.upd rfl ?_), ?_, ?_⟩
    · exact ⟨i + 1, rfl, by omega, rfl, rfl⟩
    · simp only [L_vals, List.map, List.getD]; show b.lines.length - (i + 1) < b.lines.length - i; omega
  refine SL_nil (nx (SWP_seq (SWP_cf rfl (SWP_exit (ne (ne (be rfl (nx (SWP_seq (SWP_region ?_))))))))))
  refine pB rfl rfl ?_
  refine SL_nil (nx (SWP_ret ?_))
  refine fin [_] ⟨rfl, trivial⟩ ?_
  exact ⟨_, rfl⟩
set_option maxRecDepth 100000 in
set_option maxHeartbeats 800000 in
theorem lives17 {m : Mem} : PureCall Tryz.prog 10 [] m (.bool true) := by
  refine CallsS.pure ?_
  refine enter Tryz.func10 Tryz.ntmps10 rfl rfl ?_
  refine SWP_seq (SWP_region ?_)
  refine pB rfl rfl ?_
  refine SL_nil (nx (SWP_seq (SWP_region ?_)))
  refine SL_call rfl rfl cb18 (game14) rfl (fun v1_0 σ1_0 m1_0 hl1_0 hR1_0 => ?_)
  obtain ⟨rfl, BG, rfl, hinG⟩ := hR1_0
  refine al rfl rfl (fun B1 => ?_)
  refine swE B1 0 (g14 BG).enc (v := (g14 BG).val) rfl rfl rfl rfl (by kernel_rfl) (by kernel_rfl) (by kernel_rfl) (by kernel_rfl) ?_
  refine SL_nil (nx (SWP_seq (SWP_region ?_)))
  refine pu rfl rfl ?_
  refine swE B1 4 (g17a BG).enc (v := .int .i64 20) rfl rfl rfl rfl rfl rfl rfl rfl ?_
  refine pu rfl rfl ?_
  refine swE B1 9 (g17b BG).enc (v := .int .i64 6) rfl rfl rfl rfl rfl rfl rfl rfl ?_
  refine pu rfl rfl ?_
  refine swE B1 8 (g17c BG).enc (v := .int .i64 3) rfl rfl rfl rfl rfl rfl rfl rfl ?_
  refine SL_nil (nx (SWP_seq (SWP_region ?_)))
  refine bs (cs := (([2] : List Int)).flatMap intE) rfl rfl rfl (by kernel_rfl) rfl (fun B14 => ?_)
  refine SL_freeze (fun m14 hl14 hat14 => ?_)
  refine pu (v := .agg #[.string ⟨#[112, 108, 117, 115]⟩, .int .i64 1, .int .i64 0, .slice (some ⟨B14, 0, none⟩) 1 1, .int .i64 0, .slice none 0 0]) (by kernel_rfl) rfl ?_
  refine bs (cs := (([5] : List Int)).flatMap intE) rfl rfl rfl (by kernel_rfl) rfl (fun B16 => ?_)
  refine SL_freeze (fun m16 hl16 hat16 => ?_)
  refine pu (v := .agg #[.string ⟨#[106, 111, 107, 101, 114]⟩, .int .i64 2, .int .i64 0, .slice none 0 0, .int .i64 1, .slice (some ⟨B16, 0, none⟩) 1 1]) (by kernel_rfl) rfl ?_
  refine bs (cs := ((ads17 B14 B16)).flatMap Addon.enc) rfl rfl rfl (by kernel_rfl) rfl (fun B18 => ?_)
  refine SL_freeze (fun m18 hl18 hat18 => ?_)
  refine pu rfl rfl ?_
  refine swE B1 20 (g17 BG B18 B14 B16).enc (v := .slice (some ⟨B18, 0, none⟩) 2 2) rfl rfl rfl rfl rfl rfl rfl rfl ?_
  have hin17 : (g17 BG B18 B14 B16).In m18 := g17_in ((((hinG.mono hl14).mono hl16)).mono hl18) hat18 ((hat14.mono hl16).mono hl18) (hat16.mono hl18)
  refine SL_nil (nx (SWP_seq (SWP_region ?_)))
  refine lw (v := (g17 BG B18 B14 B16).val) B1 0 rfl rfl rfl rfl ?_
  refine SL_call rfl rfl cb11 (CallsS.frame0 (parseS hin17 T17 (by decide))) rfl (fun v4_1 σ4_1 m4_1 hl4_1 hR4_1 => ?_)
  obtain ⟨σa, rfl, rfl, bt, rfl, hbt, his⟩ := hR4_1
  rw [parse17] at his
  rw [parse17]
  rw [List.nil_append]
  have hpr := print17 BG B18 B14 B16 his
  obtain ⟨la, lc, L, s, d, ad0⟩ := bt
  obtain ⟨hk1, hk2, hk3, hk4⟩ := his
  obtain rfl : s = true := hk2
  obtain rfl : d = 2 := hk3
  obtain rfl : ad0 = 3 := hk4
  have hk1 : L.map Line.keyL = [([1, 2, 3, 4], []), ([5, 6, 7, 8], [])] := hk1
  dsimp only [Bet.val]
  have hL2 : L.length = 2 := by have h9 := congrArg List.length hk1; rw [List.length_map] at h9; exact h9
  obtain ⟨x, hx⟩ : ∃ x, L[1]? = some x := ⟨_, List.getElem?_eq_getElem (by omega)⟩
  have hx4 : x.main.length = 4 := by
    have h9 := congrArg (fun z : List LnK => z[1]?) hk1
    simp only [List.getElem?_map, hx, Option.map_some] at h9
    have h8 := congrArg Prod.fst (Option.some.inj h9)
    exact congrArg List.length h8
  obtain ⟨ad, e0, _, hat⟩ := hbt.ls.atA Line.enc_len hx
  refine pu rfl rfl ?_
  first | refine pA rfl rfl ?_ | refine pu rfl rfl ?_
  first | refine pI rfl rfl ?_ | refine pu rfl rfl ?_
  first | refine pI rfl rfl ?_ | refine pu rfl rfl ?_
  refine al rfl rfl (fun B2 => ?_)
  refine swE B2 0 [.slice la L.length lc, .bool true, .int .i64 2, .int .i64 3] (v := .agg #[.slice la L.length lc, .bool true, .int .i64 2, .int .i64 3]) rfl rfl rfl rfl rfl rfl rfl rfl ?_
  first | refine pI rfl rfl ?_ | refine pu rfl rfl ?_
  first | refine pI rfl rfl ?_ | refine pu rfl rfl ?_
  refine SL_nil (nx (SWP_seq (SWP_seq (SWP_region ?_))))
  first | refine pI rfl rfl ?_ | refine pu rfl rfl ?_
  refine pn rfl rfl (fun hh => hh rfl) ?_
  refine pB rfl rfl ?_
  refine SL_yes rfl ?_
  first | refine pI rfl rfl ?_ | refine pu rfl rfl ?_
  refine SL_yes rfl ?_
  refine pn rfl rfl (fun hh => hh rfl) ?_
  refine pB rfl rfl ?_
  refine pB rfl rfl ?_
  refine SL_yes rfl ?_
  refine pu rfl rfl ?_
  refine SL_yes rfl ?_
  refine lw (v := .bool true) B2 1 rfl rfl rfl rfl ?_
  refine SL_yes rfl ?_
  refine pB rfl rfl ?_
  refine pB rfl rfl ?_
  refine pB rfl rfl ?_
  refine SL_yes rfl ?_
  refine pu rfl rfl ?_
  refine SL_yes rfl ?_
  refine lw (v := .int .i64 _) B2 2 rfl rfl rfl rfl ?_
  refine SL_yes rfl ?_
  refine pn rfl rfl (fun hh => hh rfl) ?_
  refine pB rfl rfl ?_
  refine pB rfl rfl ?_
  refine SL_yes rfl ?_
  refine pu rfl rfl ?_
  refine SL_yes rfl ?_
  refine lw (v := .int .i64 _) B2 3 rfl rfl rfl rfl ?_
  refine SL_yes rfl ?_
  refine pn rfl rfl (fun hh => hh rfl) ?_
  refine pB rfl rfl ?_
  refine pB rfl rfl ?_
  refine SL_yes rfl ?_
  refine pu rfl rfl ?_
  refine SL_yes rfl ?_
  refine lw (v := .slice _ _ _) B2 0 rfl rfl rfl rfl ?_
  refine SL_yes rfl ?_
  refine pu rfl rfl ?_
  refine SL_yes rfl ?_
  refine pn rfl rfl (by omega) ?_
  refine pB rfl rfl ?_
  refine pB rfl rfl ?_
  refine SL_yes rfl ?_
  refine pu rfl rfl ?_
  refine SL_yes rfl ?_
  refine lw (v := .slice _ _ _) B2 0 rfl rfl rfl rfl ?_
  refine SL_yes rfl ?_
  refine ia (es := 2) (k := 1) (ad := ad) rfl rfl rfl rfl (by show Value.slice la _ _ = _; rw [show la = some ad from e0]) rfl (by omega) rfl ?_
  refine SL_yes rfl ?_
  refine pu rfl rfl ?_
  refine SL_yes rfl ?_
  refine ldF (v := .slice x.ma x.main.length x.mc) rfl rfl hat rfl rfl ?_
  refine SL_yes rfl ?_
  refine pu rfl rfl ?_
  refine SL_yes rfl ?_
  refine pn rfl rfl (by omega) ?_
  refine pB rfl rfl ?_
  refine SL_nil (nx (SWP_cf rfl (SWP_skip (nx (SWP_seq (SWP_region ?_))))))
  refine lw (v := (g17 BG B18 B14 B16).val) B1 0 rfl rfl rfl rfl ?_
  refine lw (v := (Bet.mk la lc L true 2 3).val) B2 0 rfl rfl rfl rfl ?_
  refine SL_pcall rfl rfl cb15 (printG (hin17.mono hl4_1) hbt) rfl ?_
  rw [hpr.1, hpr.2]
  refine pu rfl rfl ?_
  first | refine pS rfl rfl ?_ | refine pu rfl rfl ?_
  first | refine pI rfl rfl ?_ | refine pu rfl rfl ?_
  first | refine pS rfl rfl ?_ | refine pu rfl rfl ?_
  first | refine pI rfl rfl ?_ | refine pu rfl rfl ?_
  refine SL_nil (nx (SWP_seq (SWP_region ?_)))
  refine lw (v := (g17 BG B18 B14 B16).val) B1 0 rfl rfl rfl rfl ?_
  refine SL_call rfl rfl cb11 (CallsS.frame0 (parseS (hin17.mono hl4_1) V17 (by decide))) rfl (fun v8_1 σ8_1 m8_1 hl8_1 hR8_1 => ?_)
  obtain ⟨σa, rfl, rfl, bt2, rfl, hbt2, his2⟩ := hR8_1
  rw [parse17b]
  rw [List.nil_append]
  refine pu rfl rfl ?_
  first | refine pA rfl rfl ?_ | refine pu rfl rfl ?_
  first | refine pI rfl rfl ?_ | refine pu rfl rfl ?_
  first | refine pI rfl rfl ?_ | refine pu rfl rfl ?_
  refine al rfl rfl (fun B7 => ?_)
  refine swE B7 0 bt2.enc (v := bt2.val) rfl rfl rfl rfl rfl rfl rfl rfl ?_
  first | refine pI rfl rfl ?_ | refine pu rfl rfl ?_
  first | refine pI rfl rfl ?_ | refine pu rfl rfl ?_
  refine SL_nil (nx (SWP_seq (SWP_region ?_)))
  first | refine pI rfl rfl ?_ | refine pu rfl rfl ?_
  refine pt rfl rfl (rfl) ?_
  refine pB rfl rfl ?_
  refine SL_yes rfl ?_
  first | refine pS rfl rfl ?_ | refine pu rfl rfl ?_
  refine SL_yes rfl ?_
  refine pt rfl rfl (rfl) ?_
  refine pB rfl rfl ?_
  refine pB rfl rfl ?_
  refine SL_yes rfl ?_
  first | refine pI rfl rfl ?_ | refine pu rfl rfl ?_
  refine SL_yes rfl ?_
  refine pt rfl rfl (rfl) ?_
  refine pB rfl rfl ?_
  refine pB rfl rfl ?_
  refine SL_yes rfl ?_
  first | refine pI rfl rfl ?_ | refine pu rfl rfl ?_
  refine SL_yes rfl ?_
  refine pt rfl rfl (rfl) ?_
  refine pB rfl rfl ?_
  refine pB rfl rfl ?_
  refine SL_nil (nx (SWP_ret ?_))
  refine fin [_] ⟨rfl, trivial⟩ ?_
  rfl
end Go.Proofs.YtifjhpaoejageaaGreatDoor
namespace Go.Proofs.YtifjhpaoejageaaGreatDoor
open Eng
theorem lnsTok_le : ∀ (L : List LnK), (∀ x ∈ L, (lnTok x).length ≤ 19) → (lnsTok L).length ≤ 20 * L.length
  | [], _ => Nat.le_refl _
  | [x], h => by have := h x (List.mem_cons_self ..); show (lnTok x).length ≤ 20 * 1; omega
  | x :: y :: r, h => by
    have ih := lnsTok_le (y :: r) (fun z hz => h z (List.mem_cons_of_mem _ hz))
    have := h x (List.mem_cons_self ..)
    rw [lnsTok_cons x (by simp), List.length_append, List.length_cons]
    simp only [List.length_cons] at *
    omega
theorem toks_few {g : Game} {b : Bet} (h : BetOk g b) : (toks (gNs g) b.key).length ≤ 328 := by
  have h1 : (lnsTok b.key.1).length ≤ 20 * b.key.1.length := lnsTok_le _ (fun x hx => by
    obtain ⟨y, hy, rfl⟩ := List.mem_map.1 (show x ∈ b.lines.map Line.keyL from hx)
    exact lnTok_le (h.ls y hy).2.1 (h.ls y hy).2.2)
  have h2 : b.key.1.length = b.lines.length := List.length_map ..
  have h3 := h.ln
  have h4 : (addTok (gNs g) b.key.2.2.2).length ≤ (gNs g).length := addTokF_le _ _ _
  have h5 := addons_few (gameOk h.g0)
  have h6 := gNs_len g
  unfold toks tailTok
  simp only [List.length_append]
  have e1 := ite_len (c := b.key.2.2.1 ≠ 1) (l := [[120], decW b.key.2.2.1]) (n := 2) (Nat.le_refl _)
  have e2 := ite_len (c := b.key.2.1 = true) (l := [[115, 121, 115]]) (n := 1) (Nat.le_refl _)
  have e3 := ite_len (c := b.key.2.2.2 ≠ 0) (l := [[42]]) (n := 1) (Nat.le_refl _)
  omega
theorem toks_size {g : Game} {b : Bet} (h : BetOk g b) : (joinW (toks (gNs g) b.key)).length ≤ 8200 := by
  have h1 := joinW_len _ 24 (toks_short h)
  have h2 := toks_few h
  omega
theorem key_is {g : Game} {b : Bet} (h : BetOk g b) : b.Is b.key := ⟨rfl, rfl, rfl, by have := h.ad; show b.addons = ((b.addons.toNat : Nat) : Int); omega⟩
theorem names_ns {g : Game} (h : GameOk g) : ∀ w ∈ gNs g, (32 : UInt8) ∉ w.data.toList := fun w hw => (name_ns (gNs_name h w hw)).1
theorem printL_ok {g : Game} {b : Bet} (h : betErr g b = 0) : printL g b = joinW (toks (gNs g) b.key) := by unfold printL; exact if_pos h
theorem round_trip {g : Game} {b : Bet} (h : betErr g b = 0) : parseO g (printL g b) = (b.key, 0, 0) := by
  have ho := betOk h
  have hg := gameOk ho.g0
  have hs := bet_sm ho
  have hsz := toks_size ho
  rw [printL_ok h]
  have hr : readM (g.addons.map Addon.name) (wordsL (joinW (toks (gNs g) b.key))) = (some b.key, []) := by
    rw [words_toks (names_ns hg) hs]
    exact readM_tok (gNs_dis hg) hs
  rw [parseO_4 ho.g0 (by omega) hr]
  exact if_neg (fun hh => hh ((betErr_key (key_is ho)).symm.trans h))
theorem apart {g : Game} {a b : Bet} (ha : betErr g a = 0) (hb : betErr g b = 0) : bA (printL g a) = bA (printL g b) ↔ a.ki = b.ki := by
  rw [bA_inj]
  constructor
  · intro h
    have h1 := round_trip ha
    have h2 := round_trip hb
    rw [h, h2] at h1
    have hk : b.key = a.key := congrArg Prod.fst h1
    exact ki_is (key_is (betOk ha)) (by rw [← hk]; exact key_is (betOk hb))
  · intro h
    unfold Bet.ki at h
    simp only [Prod.mk.injEq] at h
    have e : a.key = b.key := by unfold Bet.key; rw [h.1, h.2.1, h.2.2.1, h.2.2.2]
    rw [printL_ok ha, printL_ok hb, e]
set_option maxRecDepth 100000 in
theorem lawSlipPrints {m : Mem} {g : Game} {b : Bet} (hin : g.In m) (hb : b.In m) : CallsS Tryz.prog 4 [g.val, b.val].toArray [] m fun r _ _ => r = .bool true := by
  dsimp only [Game.val, Bet.val]
  refine enter Tryz.func4 Tryz.ntmps4 rfl rfl ?_
  refine SWP_seq (SWP_region ?_)
  refine bx (v := .agg _) rfl rfl (fun B2 => ?_)
  refine bx (v := .agg _) rfl rfl (fun B3 => ?_)
  refine pB rfl rfl ?_
  refine SL_nil (nx (SWP_seq (SWP_seq (SWP_region ?_))))
  refine lw (v := .agg _) B2 0 rfl rfl rfl rfl ?_
  refine SL_call rfl rfl cb9 (CallsS.forget (few17 hin)) rfl (fun v1_1 σ1_1 m1_1 hl1_1 hR1_1 => ?_)
  obtain ⟨rfl, hm1_1, bf, rfl⟩ := hR1_1
  have hn1_1 := hm1_1.symm
  subst hn1_1
  refine bsp 10 rfl (fun b10 => ?_) (fun b10 => ?_)
  · skip
    refine pB rfl rfl ?_
    refine pB rfl rfl ?_
    refine SL_yes rfl ?_
    refine lw (v := .agg _) B3 0 rfl rfl rfl rfl ?_
    refine SL_yes rfl ?_
    refine SL_call rfl rfl cb14 (CallsS.forget (short17 hb)) rfl (fun v1_5 σ1_5 m1_5 hl1_5 hR1_5 => ?_)
    obtain ⟨rfl, hm1_5, bs9, rfl⟩ := hR1_5
    have hn1_5 := hm1_5.symm
    subst hn1_5
    refine bsp 14 rfl (fun b14 => ?_) (fun b14 => ?_)
    · skip
      refine SL_yes rfl ?_
      refine pB rfl rfl ?_
      refine pB rfl rfl ?_
      refine SL_nil (nx (SWP_cf rfl (SWP_skip (nx (SWP_seq (SWP_region ?_))))))
      refine lw (v := .agg _) B2 0 rfl rfl rfl rfl ?_
      refine lw (v := .agg _) B3 0 rfl rfl rfl rfl ?_
      refine SL_pcall rfl rfl cb15 (printG hin hb) rfl ?_
      refine pu rfl rfl ?_
      first | refine pS rfl rfl ?_ | refine pu rfl rfl ?_
      first | refine pI rfl rfl ?_ | refine pu rfl rfl ?_
      first | refine pS rfl rfl ?_ | refine pu rfl rfl ?_
      first | refine pI rfl rfl ?_ | refine pu rfl rfl ?_
      refine SL_nil (nx (SWP_seq (SWP_region ?_)))
      refine lw (v := .agg _) B2 0 rfl rfl rfl rfl ?_
      refine lw (v := .agg _) B3 0 rfl rfl rfl rfl ?_
      refine SL_pcall rfl rfl cb16 (printR hin hb) rfl ?_
      refine pu rfl rfl ?_
      first | refine pS rfl rfl ?_ | refine pu rfl rfl ?_
      first | refine pI rfl rfl ?_ | refine pu rfl rfl ?_
      first | refine pS rfl rfl ?_ | refine pu rfl rfl ?_
      first | refine pI rfl rfl ?_ | refine pu rfl rfl ?_
      refine SL_nil (nx (SWP_seq (SWP_region ?_)))
      first | refine pS rfl rfl ?_ | refine pu rfl rfl ?_
      first | refine pS rfl rfl ?_ | refine pu rfl rfl ?_
      refine pt rfl rfl (rfl) ?_
      refine pB rfl rfl ?_
      refine SL_yes rfl ?_
      first | refine pI rfl rfl ?_ | refine pu rfl rfl ?_
      refine SL_yes rfl ?_
      first | refine pI rfl rfl ?_ | refine pu rfl rfl ?_
      refine SL_yes rfl ?_
      refine pt rfl rfl (rfl) ?_
      refine pB rfl rfl ?_
      refine pB rfl rfl ?_
      refine SL_yes rfl ?_
      refine SL_pcall rfl rfl cb10 (lives17) rfl ?_
      refine pB rfl rfl ?_
      refine pB rfl rfl ?_
      refine SL_nil (nx (SWP_ret ?_))
      refine fin [_] ⟨rfl, trivial⟩ ?_
      rfl
    refine SL_yes rfl ?_
    refine pB rfl rfl ?_
    refine pB rfl rfl ?_
    refine SL_nil (nx (SWP_ct rfl (SWP_seq (SWP_region ?_))))
    refine SL_pcall rfl rfl cb10 (lives17) rfl ?_
    first | refine pB rfl rfl ?_ | refine pu rfl rfl ?_
    refine SL_nil (nx (SWP_ret (nr ?_)))
    refine fin [_] ⟨rfl, trivial⟩ ?_
    rfl
  refine pB rfl rfl ?_
  refine pB rfl rfl ?_
  refine SL_no rfl rfl ?_
  refine SL_no rfl rfl ?_
  refine SL_no rfl rfl ?_
  refine pB rfl rfl ?_
  refine SL_nil (nx (SWP_ct rfl (SWP_seq (SWP_region ?_))))
  refine SL_pcall rfl rfl cb10 (lives17) rfl ?_
  first | refine pB rfl rfl ?_ | refine pu rfl rfl ?_
  refine SL_nil (nx (SWP_ret (nr ?_)))
  refine fin [_] ⟨rfl, trivial⟩ ?_
  rfl
end Go.Proofs.YtifjhpaoejageaaGreatDoor
