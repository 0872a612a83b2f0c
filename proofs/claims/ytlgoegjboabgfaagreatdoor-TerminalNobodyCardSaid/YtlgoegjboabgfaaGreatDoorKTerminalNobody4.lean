/- What the claim rests on, part 4: models of the functions in plain Lean and walks through their code; printed by programs. -/
import Derived.Lib.LaidTab
import Derived.Test.YtlgoegjboabgfaaGreatDoorKTerminalNobody3
set_option linter.unusedVariables false
set_option linter.unusedSimpArgs false
namespace Go.Proofs.YtlgoegjboabgfaaGreatDoor
open Eng
theorem ite_len {c : Prop} [Decidable c] {l : List Wd} {n : Nat} (h : l.length ≤ n) : (if c then l else []).length ≤ n := by
  split
  · exact h
  · exact Nat.zero_le _
set_option maxRecDepth 100000 in
theorem printG {m : Mem} {g : Game} {b : Bet} (hin : g.In m) (hb : b.In m) : PureCall Tryz.prog 47 [g.val, b.val] m (.tuple #[.string (bA (printL g b)), .int .i64 (betErr g b)]) := by
  refine CallsS.pure ?_
  dsimp only [Game.val, Bet.val]
  refine enter Tryz.func47 Tryz.ntmps47 rfl rfl ?_
  refine SWP_seq (SWP_region ?_)
  refine bx (v := .agg _) rfl rfl (fun B2 => ?_)
  refine bx (v := .agg _) rfl rfl (fun B3 => ?_)
  refine pS rfl rfl (pI rfl rfl (SL_nil (nx (SWP_seq (SWP_seq (SWP_region ?_))))))
  refine lw (v := .agg _) B2 0 rfl rfl rfl rfl ?_
  refine lw (v := .agg _) B3 0 rfl rfl rfl rfl ?_
  refine SL_pcall rfl rfl cb74 (betI hin hb) rfl ?_
  refine pI rfl rfl (SL_nil (nx (SWP_seq (SWP_region (pI rfl rfl ?_)))))
  refine pc rfl rfl (fun c20 => ?_) (fun c20 => ?_)
  · skip
    refine SL_nil (nx (SWP_ct rfl (SWP_seq (SWP_region (pI rfl rfl (pS rfl rfl (pI rfl rfl (SL_nil (nx (SWP_ret (nr ?_)))))))))))
    refine fin [_, _] ⟨rfl, rfl, trivial⟩ ?_
    unfold printL
    rw [if_neg (by assumption)]
    rfl
  refine SL_nil (nx (SWP_cf rfl (SWP_skip (nx (SWP_seq ?_)))))
  have hz : betErr g b = 0 := Classical.not_not.1 (by assumption)
  have hok := betOk hz
  have hln := hok.ln
  have hdr : Sm b.draws := (bet_sm hok).d
  have hKl : (b.lines.map Line.keyL).length = b.lines.length := List.length_map ..
  refine SWP_region (pL rfl rfl (SL_nil (nx (SWP_seq (SWP_seq (SWP_region (pu rfl rfl ?_)))))))
  refine lw (v := .slice _ _ _) B3 0 rfl rfl rfl rfl ?_
  refine pu rfl rfl (pI rfl rfl (SL_nil (nx (SWP_block ?_))))
  refine SWP_loop [7, 8, 9, 11, 13, 25, 26, 27, 28, 29, 30, 31, 32, 33, 34, 35, 36, 37, 38, 39, 40, 41, 42, 43, 44, 45, 46, 47, 48, 49, 50, 51, 52, 53, 54, 55, 56, 57, 58, 59, 60, 61, 62, 63, 64, 65, 66, 67, 68] [7, 25]
      (fun vs σ' m' => ∃ (i : Nat) (a : Option Addr) (c : Nat) (σe : Sig), vs = [.slice a ((lnsTok ((b.lines.map Line.keyL).take i))).length c, .int .i64 (i : Nat)] ∧ i ≤ b.lines.length ∧ OwnS 9 1 (.slice a ((lnsTok ((b.lines.map Line.keyL).take i))).length c) (((lnsTok ((b.lines.map Line.keyL).take i))).flatMap wE) σe ∧ ((lnsTok ((b.lines.map Line.keyL).take i))).length ≤ 20 * i ∧ σ' = (B3, Cells 51 b.enc) :: (B2, Cells 31 g.enc) :: σe ∧ m = m')
      (fun vs => b.lines.length - nOf (vs.getD 1 undef)) rfl ?_ ?_
  · exact ⟨0, none, 0, [], rfl, by omega, .nil, Nat.le_refl _, rfl, rfl⟩
  intro u0 vs0 σ0 m0 hJ0 _
  obtain ⟨i, a, c, σe, rfl, hi, hown, hBl, rfl, rfl⟩ := hJ0
  refine SWP_seq (SWP_region ?_)
  refine pc rfl rfl (fun c26 => ?_) (fun c26 => ?_)
  · skip
    refine SL_nil (nx (SWP_seq (SWP_ct rfl (SWP_skip (nx (SWP_seq (SWP_block (SWP_seq ?_))))))))
    obtain ⟨x, hxi⟩ : ∃ x, b.lines[i]? = some x := ⟨_, List.getElem?_eq_getElem (by omega)⟩
    have hx := hok.ls x (List.mem_of_getElem? hxi)
    have hxin := hb.each x (List.mem_of_getElem? hxi)
    obtain ⟨ad, e0, _, hat⟩ := hb.ls.atA Line.enc_len hxi
    have hKi : (b.lines.map Line.keyL)[i]? = some x.keyL := by rw [List.getElem?_map, hxi]; rfl
    have hp3 : (if 0 < i then [[47]] else [] : List Wd).length ≤ 1 := by split <;> simp
    have hTBl : (lnsTok ((b.lines.map Line.keyL).take i) ++ (if 0 < i then [[47]] else [])).length ≤ 20 * i + 1 := by rw [List.length_append]; omega
    refine SWP_region (pI rfl rfl ?_)
    refine ia (es := 2) (ad := ad) rfl rfl rfl rfl (by show Value.slice b.la _ _ = _; rw [e0]) rfl (by omega) rfl ?_
    refine ldA (v := x.val) rfl hat rfl rfl ?_
    refine al rfl rfl (fun B9 => ?_)
    refine pI rfl rfl ?_
    refine swE B9 0 x.enc rfl rfl rfl rfl rfl rfl rfl rfl ?_
    refine SL_nil (nx ?_)
    refine SWP_merge1 [7, 30, 31, 32, 33, 34] [7]
        (fun vs σ' m' => ∃ (a : Option Addr) (c : Nat) (σe : Sig), vs = [.slice a ((lnsTok ((b.lines.map Line.keyL).take i) ++ (if 0 < i then [[47]] else []))).length c] ∧ OwnS 9 1 (.slice a ((lnsTok ((b.lines.map Line.keyL).take i) ++ (if 0 < i then [[47]] else []))).length c) (((lnsTok ((b.lines.map Line.keyL).take i) ++ (if 0 < i then [[47]] else []))).flatMap wE) σe ∧ σ' = (B9, Cells 142 x.enc) :: (B3, Cells 51 b.enc) :: (B2, Cells 31 g.enc) :: σe ∧ m = m')
        rfl ?_ ?_
    · skip
      refine SWP_seq (SWP_region (pI rfl rfl ?_))
      refine pc rfl rfl (fun c31 => ?_) (fun c31 => ?_)
      · skip
        refine SL_nil (nx (SWP_ct rfl (SWP_region (pL rfl rfl ?_))))
        refine bs (cs := [.string (bA [47])]) rfl rfl rfl rfl rfl (fun B99 => ?_)
        refine ap (e := 9) (size := 1) (bytes := 16) rfl rfl rfl rfl rfl rfl rfl hown (List.perm_append_comm (l₁ := [_, _, _, _]) (l₂ := σe)) rfl (Rd.of_cells (.head _)) rfl rfl (by rw [flatMap_len wE_len]; omega) rfl rfl (fun v99 σ9 hown9 => ?_)
        refine SL_weak (List.Sublist.append_left (List.sublist_cons_self _ _) _) ?_
        refine SL_perm (σ' := _ :: _ :: _ :: σ9) (List.perm_append_comm (l₂ := [_, _, _])) ?_
        have hown8 : OwnS 9 1 v99 (((lnsTok ((b.lines.map Line.keyL).take i)) ++ [[47]]).flatMap wE) σ9 := by rw [List.flatMap_append]; exact hown9
        obtain ⟨a5, c5, e5⟩ := hown8.lenL (by omega) wE_len
        subst e5
        refine pL rfl rfl (SL_nil (nx ?_))
        refine ⟨by repeat (first | with_reducible exact Under.refl _ _ | exact Under.upds rfl (Under.hav _ _ _) | exact Under.hav _ _ _ | refine Under.upd rfl ?_ | refine Under.upds rfl ?_ | refine Under.hav2 rfl ?_), ?_⟩
        first
        | (refine ⟨a5, c5, σ9, ?_⟩
           rw [if_pos (show 0 < i by omega)]
           exact ⟨rfl, hown8, rfl, rfl⟩)
        | (refine ⟨a, c, σe, ?_⟩
           rw [if_neg (show ¬ 0 < i by omega), List.append_nil]
           exact ⟨rfl, hown, rfl, rfl⟩)
      refine SL_nil (nx (SWP_cf rfl (SWP_skip (nx ?_))))
      refine ⟨by repeat (first | with_reducible exact Under.refl _ _ | exact Under.upds rfl (Under.hav _ _ _) | exact Under.hav _ _ _ | refine Under.upd rfl ?_ | refine Under.upds rfl ?_ | refine Under.hav2 rfl ?_), ?_⟩
      first
      | (refine ⟨a5, c5, σ9, ?_⟩
         rw [if_pos (show 0 < i by omega)]
         exact ⟨rfl, hown8, rfl, rfl⟩)
      | (refine ⟨a, c, σe, ?_⟩
         rw [if_neg (show ¬ 0 < i by omega), List.append_nil]
         exact ⟨rfl, hown, rfl, rfl⟩)
    intro uM0 vM0 σM0 mM0 hM0 _
    obtain ⟨a, c, σe, rfl, hown, rfl, rfl⟩ := hM0
    refine SWP_seq (SWP_seq (SWP_region (pu rfl rfl ?_)))
    refine lw (v := .slice x.ma x.main.length x.mc) B9 0 rfl rfl rfl rfl ?_
    refine pu rfl rfl (pI rfl rfl (SL_nil (nx (SWP_block ?_))))
    refine SWP_loop [7, 11, 38, 39, 40, 41, 42, 43, 44, 45, 46, 47] [7, 38]
        (fun vs σ' m' => ∃ (j : Nat) (a : Option Addr) (c : Nat) (σe : Sig), vs = [.slice a ((lnsTok ((b.lines.map Line.keyL).take i) ++ (if 0 < i then [[47]] else [])) ++ (x.main.take j).map decW).length c, .int .i64 (j : Nat)] ∧ j ≤ x.main.length ∧ OwnS 9 1 (.slice a ((lnsTok ((b.lines.map Line.keyL).take i) ++ (if 0 < i then [[47]] else [])) ++ (x.main.take j).map decW).length c) (((lnsTok ((b.lines.map Line.keyL).take i) ++ (if 0 < i then [[47]] else [])) ++ (x.main.take j).map decW).flatMap wE) σe ∧ σ' = (B9, Cells 142 x.enc) :: (B3, Cells 51 b.enc) :: (B2, Cells 31 g.enc) :: σe ∧ m = m')
        (fun vs => x.main.length - nOf (vs.getD 1 undef)) rfl ?_ ?_
    · exact ⟨0, a, c, σe, by rw [List.take_zero, List.map_nil, List.append_nil]; rfl, by omega, by rw [List.take_zero, List.map_nil, List.append_nil]; exact hown, rfl, rfl⟩
    intro u1 vs1 σ1 m1 hJ1 _
    obtain ⟨j, a, c, σe, rfl, hj, hown, rfl, rfl⟩ := hJ1
    have hTl : ((lnsTok ((b.lines.map Line.keyL).take i) ++ (if 0 < i then [[47]] else [])) ++ (x.main.take j).map decW).length ≤ 20 * i + 20 := by simp only [List.length_append, List.length_map, List.length_take]; omega
    refine SWP_seq (SWP_region ?_)
    refine pc rfl rfl (fun c39 => ?_) (fun c39 => ?_)
    · skip
      refine SL_nil (nx (SWP_seq (SWP_ct rfl (SWP_skip (nx (SWP_seq (SWP_block (SWP_seq (SWP_region ?_)))))))))
      obtain ⟨n, hn⟩ : ∃ n, x.main[j]? = some n := ⟨_, List.getElem?_eq_getElem (by omega)⟩
      obtain ⟨ad9, e9, _, hat9⟩ := hxin.mn.atI hn
      refine ia (es := 1) (ad := ad9) rfl rfl rfl (Nat.mul_one _) (by show Value.slice x.ma _ _ = _; rw [e9]) rfl (by omega) rfl ?_
      refine ldA (v := .int .i64 n) rfl hat9 rfl rfl ?_
      refine pI rfl rfl (SL_nil (nx (SWP_region (pL rfl rfl (pI rfl rfl ?_)))))
      refine SL_pcall rfl rfl cb75 (fmtW (hx.1.m n (List.mem_of_getElem? hn))) rfl ?_
      refine bs (cs := [.string (bA (decW n))]) rfl rfl rfl rfl rfl (fun B99 => ?_)
      refine ap (e := 9) (size := 1) (bytes := 16) rfl rfl rfl rfl rfl rfl rfl hown (List.perm_append_comm (l₁ := [_, _, _, _]) (l₂ := σe)) rfl (Rd.of_cells (.head _)) rfl rfl (by rw [flatMap_len wE_len]; omega) rfl rfl (fun v99 σ9 hown9 => ?_)
      refine SL_weak (List.Sublist.append_left (List.sublist_cons_self _ _) _) ?_
      refine SL_perm (σ' := _ :: _ :: _ :: σ9) (List.perm_append_comm (l₂ := [_, _, _])) ?_
      have hown8 : OwnS 9 1 v99 (((lnsTok ((b.lines.map Line.keyL).take i) ++ (if 0 < i then [[47]] else [])) ++ (x.main.take j).map decW ++ [decW n]).flatMap wE) σ9 := by rw [List.flatMap_append]; exact hown9
      obtain ⟨a5, c5, e5⟩ := hown8.lenL (by omega) wE_len
      subst e5
      refine pL rfl rfl (SL_nil (nb (nx (SWP_region ?_))))
      refine pw rfl rfl (w64 (by omega) (by omega)) ?_
      refine pI rfl rfl (SL_nil (nx ?_))
      refine ⟨by repeat (first | exact Under.upds rfl (Under.hav _ _ _) | exact Under.hav _ _ _ | refine Under.upd rfl ?_ | refine Under.upds rfl ?_ | refine Under.hav2 rfl ?_), ?_, ?_⟩
      · have e1 : ((lnsTok ((b.lines.map Line.keyL).take i) ++ (if 0 < i then [[47]] else [])) ++ (x.main.take j).map decW) ++ [decW n] = (lnsTok ((b.lines.map Line.keyL).take i) ++ (if 0 < i then [[47]] else [])) ++ (x.main.take (j + 1)).map decW := by rw [take_snocA hn, List.map_append]; simp only [List.append_assoc, List.map_cons, List.map_nil]
        rw [e1] at hown8
        rw [e1]
        exact ⟨j + 1, a5, c5, σ9, rfl, by omega, hown8, rfl, rfl⟩
      · simp only [L_vals, List.map, List.getD]; show x.main.length - (j + 1) < x.main.length - j; omega
    refine SL_nil (nx (SWP_seq (SWP_cf rfl (SWP_exit (ne (ne (be rfl (nx ?_))))))))
    have hj1 : j = x.main.length := by omega
    subst hj1
    rw [List.take_length] at hown hTl
    rw [List.take_length]
    refine SWP_merge1 [7, 48, 49, 50, 51, 52, 53, 54] [7]
        (fun vs σ' m' => ∃ (a : Option Addr) (c : Nat) (σe : Sig), vs = [.slice a ((lnsTok ((b.lines.map Line.keyL).take i) ++ (if 0 < i then [[47]] else [])) ++ x.main.map decW ++ (if x.bonus = [] then [] else [[43]])).length c] ∧ OwnS 9 1 (.slice a ((lnsTok ((b.lines.map Line.keyL).take i) ++ (if 0 < i then [[47]] else [])) ++ x.main.map decW ++ (if x.bonus = [] then [] else [[43]])).length c) (((lnsTok ((b.lines.map Line.keyL).take i) ++ (if 0 < i then [[47]] else [])) ++ x.main.map decW ++ (if x.bonus = [] then [] else [[43]])).flatMap wE) σe ∧ σ' = (B9, Cells 142 x.enc) :: (B3, Cells 51 b.enc) :: (B2, Cells 31 g.enc) :: σe ∧ m = m')
        rfl ?_ ?_
    · skip
      refine SWP_seq (SWP_region (pu rfl rfl ?_))
      refine lw (v := .slice x.ba x.bonus.length x.bc) B9 1 rfl rfl rfl rfl ?_
      refine pu rfl rfl ?_
      refine pc rfl rfl (fun c51 => ?_) (fun c51 => ?_)
      · skip
        refine SL_nil (nx (SWP_ct rfl (SWP_region (pL rfl rfl ?_))))
        refine bs (cs := [.string (bA [43])]) rfl rfl rfl rfl rfl (fun B99 => ?_)
        refine ap (e := 9) (size := 1) (bytes := 16) rfl rfl rfl rfl rfl rfl rfl hown (List.perm_append_comm (l₁ := [_, _, _, _]) (l₂ := σe)) rfl (Rd.of_cells (.head _)) rfl rfl (by rw [flatMap_len wE_len]; omega) rfl rfl (fun v99 σ9 hown9 => ?_)
        refine SL_weak (List.Sublist.append_left (List.sublist_cons_self _ _) _) ?_
        refine SL_perm (σ' := _ :: _ :: _ :: σ9) (List.perm_append_comm (l₂ := [_, _, _])) ?_
        have hown8 : OwnS 9 1 v99 (((lnsTok ((b.lines.map Line.keyL).take i) ++ (if 0 < i then [[47]] else [])) ++ x.main.map decW ++ [[43]]).flatMap wE) σ9 := by rw [List.flatMap_append]; exact hown9
        obtain ⟨a5, c5, e5⟩ := hown8.lenL (by omega) wE_len
        subst e5
        refine pL rfl rfl (SL_nil (nx ?_))
        refine ⟨by repeat (first | with_reducible exact Under.refl _ _ | exact Under.upds rfl (Under.hav _ _ _) | exact Under.hav _ _ _ | refine Under.upd rfl ?_ | refine Under.upds rfl ?_ | refine Under.hav2 rfl ?_), ?_⟩
        first
        | (refine ⟨a5, c5, σ9, ?_⟩
           rw [if_neg (show ¬ x.bonus = [] from fun e => by have h0 := congrArg List.length e; rw [List.length_nil] at h0; omega)]
           exact ⟨rfl, hown8, rfl, rfl⟩)
        | (refine ⟨a, c, σe, ?_⟩
           rw [if_pos (show x.bonus = [] from List.eq_nil_of_length_eq_zero (by omega)), List.append_nil]
           exact ⟨rfl, hown, rfl, rfl⟩)
      refine SL_nil (nx (SWP_cf rfl (SWP_skip (nx ?_))))
      refine ⟨by repeat (first | with_reducible exact Under.refl _ _ | exact Under.upds rfl (Under.hav _ _ _) | exact Under.hav _ _ _ | refine Under.upd rfl ?_ | refine Under.upds rfl ?_ | refine Under.hav2 rfl ?_), ?_⟩
      first
      | (refine ⟨a5, c5, σ9, ?_⟩
         rw [if_neg (show ¬ x.bonus = [] from fun e => by have h0 := congrArg List.length e; rw [List.length_nil] at h0; omega)]
         exact ⟨rfl, hown8, rfl, rfl⟩)
      | (refine ⟨a, c, σe, ?_⟩
         rw [if_pos (show x.bonus = [] from List.eq_nil_of_length_eq_zero (by omega)), List.append_nil]
         exact ⟨rfl, hown, rfl, rfl⟩)
    intro uM1 vM1 σM1 mM1 hM1 _
    obtain ⟨a, c, σe, rfl, hown, rfl, rfl⟩ := hM1
    refine SWP_seq (SWP_region (pu rfl rfl ?_))
    refine lw (v := .slice x.ba x.bonus.length x.bc) B9 1 rfl rfl rfl rfl ?_
    refine pu rfl rfl (pI rfl rfl (SL_nil (nx (SWP_block ?_))))
    refine SWP_loop [7, 13, 58, 59, 60, 61, 62, 63, 64, 65, 66, 67] [7, 58]
        (fun vs σ' m' => ∃ (j : Nat) (a : Option Addr) (c : Nat) (σe : Sig), vs = [.slice a (((lnsTok ((b.lines.map Line.keyL).take i) ++ (if 0 < i then [[47]] else [])) ++ x.main.map decW ++ (if x.bonus = [] then [] else [[43]])) ++ (x.bonus.take j).map decW).length c, .int .i64 (j : Nat)] ∧ j ≤ x.bonus.length ∧ OwnS 9 1 (.slice a (((lnsTok ((b.lines.map Line.keyL).take i) ++ (if 0 < i then [[47]] else [])) ++ x.main.map decW ++ (if x.bonus = [] then [] else [[43]])) ++ (x.bonus.take j).map decW).length c) ((((lnsTok ((b.lines.map Line.keyL).take i) ++ (if 0 < i then [[47]] else [])) ++ x.main.map decW ++ (if x.bonus = [] then [] else [[43]])) ++ (x.bonus.take j).map decW).flatMap wE) σe ∧ σ' = (B9, Cells 142 x.enc) :: (B3, Cells 51 b.enc) :: (B2, Cells 31 g.enc) :: σe ∧ m = m')
        (fun vs => x.bonus.length - nOf (vs.getD 1 undef)) rfl ?_ ?_
    · exact ⟨0, a, c, σe, by rw [List.take_zero, List.map_nil, List.append_nil]; rfl, by omega, by rw [List.take_zero, List.map_nil, List.append_nil]; exact hown, rfl, rfl⟩
    intro u2 vs2 σ2 m2 hJ2 _
    obtain ⟨j, a, c, σe, rfl, hj, hown, rfl, rfl⟩ := hJ2
    have hp4 : (if x.bonus = [] then [] else [[43]] : List Wd).length ≤ 1 := by split <;> simp
    have hTl : (((lnsTok ((b.lines.map Line.keyL).take i) ++ (if 0 < i then [[47]] else [])) ++ x.main.map decW ++ (if x.bonus = [] then [] else [[43]])) ++ (x.bonus.take j).map decW).length ≤ 20 * i + 40 := by simp only [List.length_append, List.length_map, List.length_take]; omega
    refine SWP_seq (SWP_region ?_)
    refine pc rfl rfl (fun c59 => ?_) (fun c59 => ?_)
    · skip
      refine SL_nil (nx (SWP_seq (SWP_ct rfl (SWP_skip (nx (SWP_seq (SWP_block (SWP_seq (SWP_region ?_)))))))))
      obtain ⟨n, hn⟩ : ∃ n, x.bonus[j]? = some n := ⟨_, List.getElem?_eq_getElem (by omega)⟩
      obtain ⟨ad9, e9, _, hat9⟩ := hxin.bn.atI hn
      refine ia (es := 1) (ad := ad9) rfl rfl rfl (Nat.mul_one _) (by show Value.slice x.ba _ _ = _; rw [e9]) rfl (by omega) rfl ?_
      refine ldA (v := .int .i64 n) rfl hat9 rfl rfl ?_
      refine pI rfl rfl (SL_nil (nx (SWP_region (pL rfl rfl (pI rfl rfl ?_)))))
      refine SL_pcall rfl rfl cb75 (fmtW (hx.1.b n (List.mem_of_getElem? hn))) rfl ?_
      refine bs (cs := [.string (bA (decW n))]) rfl rfl rfl rfl rfl (fun B99 => ?_)
      refine ap (e := 9) (size := 1) (bytes := 16) rfl rfl rfl rfl rfl rfl rfl hown (List.perm_append_comm (l₁ := [_, _, _, _]) (l₂ := σe)) rfl (Rd.of_cells (.head _)) rfl rfl (by rw [flatMap_len wE_len]; omega) rfl rfl (fun v99 σ9 hown9 => ?_)
      refine SL_weak (List.Sublist.append_left (List.sublist_cons_self _ _) _) ?_
      refine SL_perm (σ' := _ :: _ :: _ :: σ9) (List.perm_append_comm (l₂ := [_, _, _])) ?_
      have hown8 : OwnS 9 1 v99 ((((lnsTok ((b.lines.map Line.keyL).take i) ++ (if 0 < i then [[47]] else [])) ++ x.main.map decW ++ (if x.bonus = [] then [] else [[43]])) ++ (x.bonus.take j).map decW ++ [decW n]).flatMap wE) σ9 := by rw [List.flatMap_append]; exact hown9
      obtain ⟨a5, c5, e5⟩ := hown8.lenL (by omega) wE_len
      subst e5
      refine pL rfl rfl (SL_nil (nb (nx (SWP_region ?_))))
      refine pw rfl rfl (w64 (by omega) (by omega)) ?_
      refine pI rfl rfl (SL_nil (nx ?_))
      refine ⟨by repeat (first | exact Under.upds rfl (Under.hav _ _ _) | exact Under.hav _ _ _ | refine Under.upd rfl ?_ | refine Under.upds rfl ?_ | refine Under.hav2 rfl ?_), ?_, ?_⟩
      · have e1 : (((lnsTok ((b.lines.map Line.keyL).take i) ++ (if 0 < i then [[47]] else [])) ++ x.main.map decW ++ (if x.bonus = [] then [] else [[43]])) ++ (x.bonus.take j).map decW) ++ [decW n] = ((lnsTok ((b.lines.map Line.keyL).take i) ++ (if 0 < i then [[47]] else [])) ++ x.main.map decW ++ (if x.bonus = [] then [] else [[43]])) ++ (x.bonus.take (j + 1)).map decW := by rw [take_snocA hn, List.map_append]; simp only [List.append_assoc, List.map_cons, List.map_nil]
        rw [e1] at hown8
        rw [e1]
        exact ⟨j + 1, a5, c5, σ9, rfl, by omega, hown8, rfl, rfl⟩
      · simp only [L_vals, List.map, List.getD]; show x.bonus.length - (j + 1) < x.bonus.length - j; omega
    refine SL_nil (nx (SWP_seq (SWP_cf rfl (SWP_exit (ne (ne (be rfl (nb (nx ?_)))))))))
    refine SWP_weak (List.sublist_cons_self _ _) ?_
    refine SWP_region ?_
    refine pw rfl rfl (w64 (by omega) (by omega)) ?_
    refine pI rfl rfl (SL_nil (nx ?_))
    refine ⟨by repeat (first | exact Under.upds rfl (Under.hav _ _ _) | exact Under.hav _ _ _ | refine Under.upd rfl ?_ | refine Under.upds rfl ?_ | refine Under.hav2 rfl ?_), ?_, ?_⟩
    · have hj2 : j = x.bonus.length := by omega
      subst hj2
      rw [List.take_length] at hown
      rw [List.take_length]
      have e1 : ((lnsTok ((b.lines.map Line.keyL).take i) ++ (if 0 < i then [[47]] else [])) ++ x.main.map decW ++ (if x.bonus = [] then [] else [[43]])) ++ x.bonus.map decW = (lnsTok ((b.lines.map Line.keyL).take (i + 1))) := by
        rw [lnsTok_step hKi]
        show _ = (lnsTok ((b.lines.map Line.keyL).take i) ++ (if 0 < i then [[47]] else [])) ++ (x.main.map decW ++ (if x.bonus = [] then [] else [43] :: x.bonus.map decW))
        by_cases hb0 : x.bonus = []
        · rw [if_pos hb0, if_pos hb0, hb0]; simp only [List.append_assoc, List.append_nil, List.map_nil]
        · rw [if_neg hb0, if_neg hb0]; simp only [List.append_assoc, List.singleton_append]
      rw [e1] at hown
      rw [e1]
      refine ⟨i + 1, a, c, σe, rfl, by omega, hown, ?_, rfl, rfl⟩
      rw [lnsTok_step hKi, List.length_append]
      have := lnTok_le hx.2.1 hx.2.2
      have := hTBl
      omega
    · simp only [L_vals, List.map, List.getD]; show b.lines.length - (i + 1) < b.lines.length - i; omega
  refine SL_nil (nx (SWP_seq (SWP_cf rfl (SWP_exit (ne (ne (be rfl (nx ?_))))))))
  have hi1 : i = (b.lines.map Line.keyL).length := by omega
  subst hi1
  rw [List.take_length] at hown hBl
  rw [List.take_length]
  have hU0 : (lnsTok (b.lines.map Line.keyL)).length ≤ 320 := by omega
  have hU1 : (lnsTok (b.lines.map Line.keyL) ++ (if b.draws ≠ 1 then [[120], decW b.draws] else [])).length ≤ 322 := by rw [List.length_append]; have := ite_len (c := b.draws ≠ 1) (l := [[120], decW b.draws]) (n := 2) (Nat.le_refl _); omega
  have hU2 : ((lnsTok (b.lines.map Line.keyL) ++ (if b.draws ≠ 1 then [[120], decW b.draws] else [])) ++ (if b.system = true then [[115, 121, 115]] else [])).length ≤ 323 := by rw [List.length_append]; have := ite_len (c := b.system = true) (l := [[115, 121, 115]]) (n := 1) (Nat.le_refl _); omega
  have hU3 : (((lnsTok (b.lines.map Line.keyL) ++ (if b.draws ≠ 1 then [[120], decW b.draws] else [])) ++ (if b.system = true then [[115, 121, 115]] else [])) ++ (if b.addons.toNat ≠ 0 then [[42]] else [])).length ≤ 324 := by rw [List.length_append]; have := ite_len (c := b.addons.toNat ≠ 0) (l := [[42]]) (n := 1) (Nat.le_refl _); omega
  have hgl := addons_few (gameOk hok.g0)
  refine SWP_merge1 [7, 69, 70, 71, 72, 73, 74, 75, 76, 77] [7]
      (fun vs σ' m' => ∃ (a : Option Addr) (c : Nat) (σe : Sig), vs = [.slice a (lnsTok (b.lines.map Line.keyL) ++ (if b.draws ≠ 1 then [[120], decW b.draws] else [])).length c] ∧ OwnS 9 1 (.slice a (lnsTok (b.lines.map Line.keyL) ++ (if b.draws ≠ 1 then [[120], decW b.draws] else [])).length c) ((lnsTok (b.lines.map Line.keyL) ++ (if b.draws ≠ 1 then [[120], decW b.draws] else [])).flatMap wE) σe ∧ σ' = (B3, Cells 51 b.enc) :: (B2, Cells 31 g.enc) :: σe ∧ m = m')
      rfl ?_ ?_
  · skip
    refine SWP_seq (SWP_region (pu rfl rfl ?_))
    refine lw (v := .int .i64 _) B3 2 rfl rfl rfl rfl ?_
    refine pc rfl rfl (fun c71 => ?_) (fun c71 => ?_)
    · skip
      refine SL_nil (nx (SWP_ct rfl (SWP_region (pL rfl rfl (pu rfl rfl ?_)))))
      refine lw (v := .int .i64 _) B3 2 rfl rfl rfl rfl ?_
      refine SL_pcall rfl rfl cb75 (fmtW hdr) rfl ?_
      refine bs (cs := [.string (bA [120]), .string (bA (decW b.draws))]) rfl rfl rfl rfl rfl (fun B99 => ?_)
      refine ap (e := 9) (size := 1) (bytes := 16) rfl rfl rfl rfl rfl rfl rfl hown (List.perm_append_comm (l₁ := [_, _, _]) (l₂ := σe)) rfl (Rd.of_cells (.head _)) rfl rfl (by rw [flatMap_len wE_len]; omega) rfl rfl (fun v99 σ9 hown9 => ?_)
      refine SL_weak (List.Sublist.append_left (List.sublist_cons_self _ _) _) ?_
      refine SL_perm (σ' := _ :: _ :: σ9) (List.perm_append_comm (l₂ := [_, _])) ?_
      have hown8 : OwnS 9 1 v99 ((lnsTok (b.lines.map Line.keyL) ++ [[120], decW b.draws]).flatMap wE) σ9 := by rw [List.flatMap_append]; exact hown9
      obtain ⟨a5, c5, e5⟩ := hown8.lenL (by omega) wE_len
      subst e5
      refine pL rfl rfl (SL_nil (nx ?_))
      refine ⟨by repeat (first | with_reducible exact Under.refl _ _ | exact Under.upds rfl (Under.hav _ _ _) | exact Under.hav _ _ _ | refine Under.upd rfl ?_ | refine Under.upds rfl ?_ | refine Under.hav2 rfl ?_), ?_⟩
      first
      | (refine ⟨a5, c5, σ9, ?_⟩
         rw [if_pos (show b.draws ≠ 1 by assumption)]
         exact ⟨rfl, hown8, rfl, rfl⟩)
      | (refine ⟨a, c, σe, ?_⟩
         rw [if_neg (show ¬ b.draws ≠ 1 by assumption), List.append_nil]
         exact ⟨rfl, hown, rfl, rfl⟩)
    refine SL_nil (nx (SWP_cf rfl (SWP_skip (nx ?_))))
    refine ⟨by repeat (first | with_reducible exact Under.refl _ _ | exact Under.upds rfl (Under.hav _ _ _) | exact Under.hav _ _ _ | refine Under.upd rfl ?_ | refine Under.upds rfl ?_ | refine Under.hav2 rfl ?_), ?_⟩
    first
    | (refine ⟨a5, c5, σ9, ?_⟩
       rw [if_pos (show b.draws ≠ 1 by assumption)]
       exact ⟨rfl, hown8, rfl, rfl⟩)
    | (refine ⟨a, c, σe, ?_⟩
       rw [if_neg (show ¬ b.draws ≠ 1 by assumption), List.append_nil]
       exact ⟨rfl, hown, rfl, rfl⟩)
  intro uM2 vM2 σM2 mM2 hM2 _
  obtain ⟨a, c, σe, rfl, hown, rfl, rfl⟩ := hM2
  refine SWP_merge1 [7, 78, 79, 80, 81, 82] [7]
      (fun vs σ' m' => ∃ (a : Option Addr) (c : Nat) (σe : Sig), vs = [.slice a ((lnsTok (b.lines.map Line.keyL) ++ (if b.draws ≠ 1 then [[120], decW b.draws] else [])) ++ (if b.system = true then [[115, 121, 115]] else [])).length c] ∧ OwnS 9 1 (.slice a ((lnsTok (b.lines.map Line.keyL) ++ (if b.draws ≠ 1 then [[120], decW b.draws] else [])) ++ (if b.system = true then [[115, 121, 115]] else [])).length c) (((lnsTok (b.lines.map Line.keyL) ++ (if b.draws ≠ 1 then [[120], decW b.draws] else [])) ++ (if b.system = true then [[115, 121, 115]] else [])).flatMap wE) σe ∧ σ' = (B3, Cells 51 b.enc) :: (B2, Cells 31 g.enc) :: σe ∧ m = m')
      rfl ?_ ?_
  · skip
    refine SWP_seq (SWP_region (pu rfl rfl ?_))
    refine lw (v := .bool _) B3 1 rfl rfl rfl rfl ?_
    refine bsp 79 rfl (fun b79 => ?_) (fun b79 => ?_)
    · skip
      refine SL_nil (nx (SWP_ct rfl (SWP_region (pL rfl rfl ?_))))
      refine bs (cs := [.string (bA [115, 121, 115])]) rfl rfl rfl rfl rfl (fun B99 => ?_)
      refine ap (e := 9) (size := 1) (bytes := 16) rfl rfl rfl rfl rfl rfl rfl hown (List.perm_append_comm (l₁ := [_, _, _]) (l₂ := σe)) rfl (Rd.of_cells (.head _)) rfl rfl (by rw [flatMap_len wE_len]; omega) rfl rfl (fun v99 σ9 hown9 => ?_)
      refine SL_weak (List.Sublist.append_left (List.sublist_cons_self _ _) _) ?_
      refine SL_perm (σ' := _ :: _ :: σ9) (List.perm_append_comm (l₂ := [_, _])) ?_
      have hown8 : OwnS 9 1 v99 ((lnsTok (b.lines.map Line.keyL) ++ (if b.draws ≠ 1 then [[120], decW b.draws] else []) ++ [[115, 121, 115]]).flatMap wE) σ9 := by rw [List.flatMap_append]; exact hown9
      obtain ⟨a5, c5, e5⟩ := hown8.lenL (by omega) wE_len
      subst e5
      refine pL rfl rfl (SL_nil (nx ?_))
      refine ⟨by repeat (first | with_reducible exact Under.refl _ _ | exact Under.upds rfl (Under.hav _ _ _) | exact Under.hav _ _ _ | refine Under.upd rfl ?_ | refine Under.upds rfl ?_ | refine Under.hav2 rfl ?_), ?_⟩
      first
      | (refine ⟨a5, c5, σ9, ?_⟩
         rw [if_pos (show b.system = true by assumption)]
         exact ⟨rfl, hown8, rfl, rfl⟩)
      | (refine ⟨a, c, σe, ?_⟩
         rw [if_neg (show ¬ b.system = true by rw [show b.system = false by assumption]; exact Bool.noConfusion), List.append_nil]
         exact ⟨rfl, hown, rfl, rfl⟩)
    refine SL_nil (nx (SWP_cf rfl (SWP_skip (nx ?_))))
    refine ⟨by repeat (first | with_reducible exact Under.refl _ _ | exact Under.upds rfl (Under.hav _ _ _) | exact Under.hav _ _ _ | refine Under.upd rfl ?_ | refine Under.upds rfl ?_ | refine Under.hav2 rfl ?_), ?_⟩
    first
    | (refine ⟨a5, c5, σ9, ?_⟩
       rw [if_pos (show b.system = true by assumption)]
       exact ⟨rfl, hown8, rfl, rfl⟩)
    | (refine ⟨a, c, σe, ?_⟩
       rw [if_neg (show ¬ b.system = true by rw [show b.system = false by assumption]; exact Bool.noConfusion), List.append_nil]
       exact ⟨rfl, hown, rfl, rfl⟩)
  intro uM3 vM3 σM3 mM3 hM3 _
  obtain ⟨a, c, σe, rfl, hown, rfl, rfl⟩ := hM3
  refine SWP_merge1 [7, 83, 84, 85, 86, 87, 88] [7]
      (fun vs σ' m' => ∃ (a : Option Addr) (c : Nat) (σe : Sig), vs = [.slice a (((lnsTok (b.lines.map Line.keyL) ++ (if b.draws ≠ 1 then [[120], decW b.draws] else [])) ++ (if b.system = true then [[115, 121, 115]] else [])) ++ (if b.addons.toNat ≠ 0 then [[42]] else [])).length c] ∧ OwnS 9 1 (.slice a (((lnsTok (b.lines.map Line.keyL) ++ (if b.draws ≠ 1 then [[120], decW b.draws] else [])) ++ (if b.system = true then [[115, 121, 115]] else [])) ++ (if b.addons.toNat ≠ 0 then [[42]] else [])).length c) ((((lnsTok (b.lines.map Line.keyL) ++ (if b.draws ≠ 1 then [[120], decW b.draws] else [])) ++ (if b.system = true then [[115, 121, 115]] else [])) ++ (if b.addons.toNat ≠ 0 then [[42]] else [])).flatMap wE) σe ∧ σ' = (B3, Cells 51 b.enc) :: (B2, Cells 31 g.enc) :: σe ∧ m = m')
      rfl ?_ ?_
  · skip
    refine SWP_seq (SWP_region (pu rfl rfl ?_))
    refine lw (v := .int .i64 _) B3 3 rfl rfl rfl rfl ?_
    refine pc rfl rfl (fun c85 => ?_) (fun c85 => ?_)
    · skip
      refine SL_nil (nx (SWP_ct rfl (SWP_region (pL rfl rfl ?_))))
      refine bs (cs := [.string (bA [42])]) rfl rfl rfl rfl rfl (fun B99 => ?_)
      refine ap (e := 9) (size := 1) (bytes := 16) rfl rfl rfl rfl rfl rfl rfl hown (List.perm_append_comm (l₁ := [_, _, _]) (l₂ := σe)) rfl (Rd.of_cells (.head _)) rfl rfl (by rw [flatMap_len wE_len]; omega) rfl rfl (fun v99 σ9 hown9 => ?_)
      refine SL_weak (List.Sublist.append_left (List.sublist_cons_self _ _) _) ?_
      refine SL_perm (σ' := _ :: _ :: σ9) (List.perm_append_comm (l₂ := [_, _])) ?_
      have hown8 : OwnS 9 1 v99 (((lnsTok (b.lines.map Line.keyL) ++ (if b.draws ≠ 1 then [[120], decW b.draws] else [])) ++ (if b.system = true then [[115, 121, 115]] else []) ++ [[42]]).flatMap wE) σ9 := by rw [List.flatMap_append]; exact hown9
      obtain ⟨a5, c5, e5⟩ := hown8.lenL (by omega) wE_len
      subst e5
      refine pL rfl rfl (SL_nil (nx ?_))
      refine ⟨by repeat (first | with_reducible exact Under.refl _ _ | exact Under.upds rfl (Under.hav _ _ _) | exact Under.hav _ _ _ | refine Under.upd rfl ?_ | refine Under.upds rfl ?_ | refine Under.hav2 rfl ?_), ?_⟩
      first
      | (refine ⟨a5, c5, σ9, ?_⟩
         rw [if_pos (show b.addons.toNat ≠ 0 by have := hok.ad; omega)]
         exact ⟨rfl, hown8, rfl, rfl⟩)
      | (refine ⟨a, c, σe, ?_⟩
         rw [if_neg (show ¬ b.addons.toNat ≠ 0 by omega), List.append_nil]
         exact ⟨rfl, hown, rfl, rfl⟩)
    refine SL_nil (nx (SWP_cf rfl (SWP_skip (nx ?_))))
    refine ⟨by repeat (first | with_reducible exact Under.refl _ _ | exact Under.upds rfl (Under.hav _ _ _) | exact Under.hav _ _ _ | refine Under.upd rfl ?_ | refine Under.upds rfl ?_ | refine Under.hav2 rfl ?_), ?_⟩
    first
    | (refine ⟨a5, c5, σ9, ?_⟩
       rw [if_pos (show b.addons.toNat ≠ 0 by have := hok.ad; omega)]
       exact ⟨rfl, hown8, rfl, rfl⟩)
    | (refine ⟨a, c, σe, ?_⟩
       rw [if_neg (show ¬ b.addons.toNat ≠ 0 by omega), List.append_nil]
       exact ⟨rfl, hown, rfl, rfl⟩)
  intro uM4 vM4 σM4 mM4 hM4 _
  obtain ⟨a, c, σe, rfl, hown, rfl, rfl⟩ := hM4
  refine SWP_seq (SWP_seq (SWP_region (pu rfl rfl ?_)))
  refine lw (v := .slice _ _ _) B2 20 rfl rfl rfl rfl ?_
  refine pu rfl rfl (pI rfl rfl (SL_nil (nx (SWP_block ?_))))
  refine SWP_loop [7, 14, 15, 92, 93, 94, 95, 96, 97, 98, 99, 100, 101, 102, 103, 104, 105, 106, 107, 108] [7, 92]
      (fun vs σ' m' => ∃ (i : Nat) (a : Option Addr) (c : Nat) (σe : Sig), vs = [.slice a ((((lnsTok (b.lines.map Line.keyL) ++ (if b.draws ≠ 1 then [[120], decW b.draws] else [])) ++ (if b.system = true then [[115, 121, 115]] else [])) ++ (if b.addons.toNat ≠ 0 then [[42]] else [])) ++ addTokF (gNs g) b.addons.toNat 0 (i)).length c, .int .i64 (i : Nat)] ∧ i ≤ g.addons.length ∧ OwnS 9 1 (.slice a ((((lnsTok (b.lines.map Line.keyL) ++ (if b.draws ≠ 1 then [[120], decW b.draws] else [])) ++ (if b.system = true then [[115, 121, 115]] else [])) ++ (if b.addons.toNat ≠ 0 then [[42]] else [])) ++ addTokF (gNs g) b.addons.toNat 0 (i)).length c) (((((lnsTok (b.lines.map Line.keyL) ++ (if b.draws ≠ 1 then [[120], decW b.draws] else [])) ++ (if b.system = true then [[115, 121, 115]] else [])) ++ (if b.addons.toNat ≠ 0 then [[42]] else [])) ++ addTokF (gNs g) b.addons.toNat 0 (i)).flatMap wE) σe ∧ σ' = (B3, Cells 51 b.enc) :: (B2, Cells 31 g.enc) :: σe ∧ m = m')
      (fun vs => g.addons.length - nOf (vs.getD 1 undef)) rfl ?_ ?_
  · exact ⟨0, a, c, σe, by rw [show addTokF (gNs g) b.addons.toNat 0 0 = [] from rfl, List.append_nil]; rfl, by omega, by rw [show addTokF (gNs g) b.addons.toNat 0 0 = [] from rfl, List.append_nil]; exact hown, rfl, rfl⟩
  intro u3 vs3 σ3 m3 hJ3 _
  obtain ⟨i, a, c, σe, rfl, hi, hown, rfl, rfl⟩ := hJ3
  have hTl : ((((lnsTok (b.lines.map Line.keyL) ++ (if b.draws ≠ 1 then [[120], decW b.draws] else [])) ++ (if b.system = true then [[115, 121, 115]] else [])) ++ (if b.addons.toNat ≠ 0 then [[42]] else [])) ++ addTokF (gNs g) b.addons.toNat 0 (i)).length ≤ 400 := by have := addTokF_le (gNs g) b.addons.toNat i; rw [List.length_append]; omega
  have hadn : b.addons = ((b.addons.toNat : Nat) : Int) := by have := hok.ad; omega
  have ha16 : b.addons.toNat < 16 := by
    have h1 := (bet_sm hok).a
    have h2 : 2 ^ (gNs g).length ≤ 2 ^ 4 := Nat.pow_le_pow_right (by decide) (by rw [gNs_len]; exact hgl)
    exact Nat.lt_of_lt_of_le h1 h2
  refine SWP_seq (SWP_region ?_)
  refine pc rfl rfl (fun c93 => ?_) (fun c93 => ?_)
  · skip
    refine SL_nil (nx (SWP_seq (SWP_ct rfl (SWP_skip (nx (SWP_seq (SWP_block (SWP_seq ?_))))))))
    obtain ⟨a1, hai⟩ : ∃ a, g.addons[i]? = some a := ⟨_, List.getElem?_eq_getElem (by omega)⟩
    obtain ⟨ad, e0, _, hat⟩ := hin.ads.atA Addon.enc_len hai
    have hnm : (gNs g)[i]? = some a1.name := by show (g.addons.map Addon.name)[i]? = _; rw [List.getElem?_map, hai]; rfl
    refine SWP_region (pI rfl rfl ?_)
    refine ia (es := 6) (ad := ad) rfl rfl rfl rfl (by show Value.slice g.aa _ _ = _; rw [e0]) rfl (by omega) rfl ?_
    refine ldA (v := a1.val) rfl hat rfl rfl ?_
    refine al rfl rfl (fun B15 => ?_)
    refine pI rfl rfl ?_
    refine swE B15 0 a1.enc rfl rfl rfl rfl rfl rfl rfl rfl ?_
    refine SL_nil (nx (SWP_seq (SWP_region (pu rfl rfl ?_))))
    refine lw (v := .int .i64 _) B3 3 rfl rfl rfl rfl ?_
    refine pI rfl rfl ?_
    refine pshr (k := .i64) rfl rfl (by omega) rfl rfl ?_
    refine pu (v := .int .i64 (bits .and .i64 (((b.addons.toNat : Nat) : Int).fdiv (2 ^ (min ((i : Nat) : Int).toNat IntKind.i64.bits))) 1)) (by rw [← hadn]; rfl) rfl ?_
    rw [bit_g ha16 (by omega)]
    refine pc rfl rfl (fun c102 => ?_) (fun c102 => ?_)
    · skip
      refine SL_nil (nx (SWP_ct rfl (SWP_region (pL rfl rfl (pu rfl rfl ?_)))))
      refine lw (v := .string a1.name) B15 0 rfl rfl rfl rfl ?_
      refine bs (cs := [.string (bA (nmAt (gNs g) i))]) rfl rfl rfl (by rw [nmAt_some hnm]; rfl) rfl (fun B99 => ?_)
      refine ap (e := 9) (size := 1) (bytes := 16) rfl rfl rfl rfl rfl rfl rfl hown (List.perm_append_comm (l₁ := [_, _, _, _]) (l₂ := σe)) rfl (Rd.of_cells (.head _)) rfl rfl (by rw [flatMap_len wE_len]; omega) rfl rfl (fun v99 σ9 hown9 => ?_)
      refine SL_weak (List.Sublist.append_left (List.sublist_cons_self _ _) _) ?_
      refine SL_perm (σ' := _ :: _ :: _ :: σ9) (List.perm_append_comm (l₂ := [_, _, _])) ?_
      have hown8 : OwnS 9 1 v99 (((((lnsTok (b.lines.map Line.keyL) ++ (if b.draws ≠ 1 then [[120], decW b.draws] else [])) ++ (if b.system = true then [[115, 121, 115]] else [])) ++ (if b.addons.toNat ≠ 0 then [[42]] else [])) ++ addTokF (gNs g) b.addons.toNat 0 (i) ++ [nmAt (gNs g) i]).flatMap wE) σ9 := by rw [List.flatMap_append]; exact hown9
      obtain ⟨a5, c5, e5⟩ := hown8.lenL (by omega) wE_len
      subst e5
      refine pL rfl rfl (SL_nil (nb (nx ?_)))
      refine SWP_weak (List.sublist_cons_self _ _) ?_
      refine SWP_region ?_
      refine pw rfl rfl (w64 (by omega) (by omega)) ?_
      refine pI rfl rfl (SL_nil (nx ?_))
      refine ⟨by repeat (first | exact Under.upds rfl (Under.hav _ _ _) | exact Under.hav _ _ _ | refine Under.upd rfl ?_ | refine Under.upds rfl ?_ | refine Under.hav2 rfl ?_), ?_, ?_⟩
      · have e1 : ((((lnsTok (b.lines.map Line.keyL) ++ (if b.draws ≠ 1 then [[120], decW b.draws] else [])) ++ (if b.system = true then [[115, 121, 115]] else [])) ++ (if b.addons.toNat ≠ 0 then [[42]] else [])) ++ addTokF (gNs g) b.addons.toNat 0 (i)) ++ [nmAt (gNs g) i] = (((lnsTok (b.lines.map Line.keyL) ++ (if b.draws ≠ 1 then [[120], decW b.draws] else [])) ++ (if b.system = true then [[115, 121, 115]] else [])) ++ (if b.addons.toNat ≠ 0 then [[42]] else [])) ++ addTokF (gNs g) b.addons.toNat 0 (i + 1) := by rw [addTokF_snoc, if_pos (bit_is.1 (by assumption)), List.append_assoc]
        rw [e1] at hown8
        rw [e1]
        exact ⟨i + 1, a5, c5, σ9, rfl, by omega, hown8, rfl, rfl⟩
      · simp only [L_vals, List.map, List.getD]; show g.addons.length - (i + 1) < g.addons.length - i; omega
    refine SL_nil (nx (SWP_cf rfl (SWP_skip (nb (nx ?_)))))
    refine SWP_weak (List.sublist_cons_self _ _) ?_
    refine SWP_region ?_
    refine pw rfl rfl (w64 (by omega) (by omega)) ?_
    refine pI rfl rfl (SL_nil (nx ?_))
    refine ⟨by repeat (first | exact Under.upds rfl (Under.hav _ _ _) | exact Under.hav _ _ _ | refine Under.upd rfl ?_ | refine Under.upds rfl ?_ | refine Under.hav2 rfl ?_), ?_, ?_⟩
    · have e1 : (((lnsTok (b.lines.map Line.keyL) ++ (if b.draws ≠ 1 then [[120], decW b.draws] else [])) ++ (if b.system = true then [[115, 121, 115]] else [])) ++ (if b.addons.toNat ≠ 0 then [[42]] else [])) ++ addTokF (gNs g) b.addons.toNat 0 (i) = (((lnsTok (b.lines.map Line.keyL) ++ (if b.draws ≠ 1 then [[120], decW b.draws] else [])) ++ (if b.system = true then [[115, 121, 115]] else [])) ++ (if b.addons.toNat ≠ 0 then [[42]] else [])) ++ addTokF (gNs g) b.addons.toNat 0 (i + 1) := by rw [addTokF_snoc, if_neg (fun h => absurd (bit_is.2 h) (by assumption)), List.append_nil]
      rw [e1] at hown
      rw [e1]
      exact ⟨i + 1, a, c, σe, rfl, by omega, hown, rfl, rfl⟩
    · simp only [L_vals, List.map, List.getD]; show g.addons.length - (i + 1) < g.addons.length - i; omega
  refine SL_nil (nx (SWP_seq (SWP_cf rfl (SWP_exit (ne (ne (be rfl (nx (SWP_seq ?_)))))))))
  obtain rfl : i = g.addons.length := by omega
  have eT : (((lnsTok (b.lines.map Line.keyL) ++ (if b.draws ≠ 1 then [[120], decW b.draws] else [])) ++ (if b.system = true then [[115, 121, 115]] else [])) ++ (if b.addons.toNat ≠ 0 then [[42]] else [])) ++ addTokF (gNs g) b.addons.toNat 0 (g.addons.length) = toks (gNs g) b.key := by
    rw [← gNs_len g]
    show _ = lnsTok (b.lines.map Line.keyL) ++ ((if b.draws ≠ 1 then [[120], decW b.draws] else []) ++ ((if b.system = true then [[115, 121, 115]] else []) ++ ((if b.addons.toNat ≠ 0 then [[42]] else []) ++ addTokF (gNs g) b.addons.toNat 0 (gNs g).length)))
    simp only [List.append_assoc]
  rw [eT] at hown hTl
  rw [eT]
  refine SWP_region ?_
  refine SL_perm (List.perm_append_comm (l₁ := [_, _])) ?_
  refine SL_freezeL (by omega) wE_len hown (fun m9 hl9 hb9 => ?_)
  refine pu rfl rfl ?_
  refine SL_pcall rfl rfl cb76 (joinI hb9 (toks_ne (bet_sm hok)) (by omega) (by have := joinW_len (toks (gNs g) b.key) 24 (toks_short hok); omega)) rfl ?_
  refine pS rfl rfl (pI rfl rfl (SL_nil (nx (SWP_ret ?_))))
  refine fin [_, _] ⟨rfl, rfl, trivial⟩ ?_
  unfold printL
  rw [if_pos hz, hz]
  rfl
end Go.Proofs.YtlgoegjboabgfaaGreatDoor
namespace Go.Proofs.YtlgoegjboabgfaaGreatDoor
open Eng
def sum7 (f : Int → Int) : Int := f 0 + f 1 + f 2 + f 3 + f 4 + f 5 + f 6
def nextG (b : Int → Bool) (a after : Int) : Nat → Int → Option Int
  | 0, _ => none
  | f + 1, day => if 1073741824 < day * 1440 + a then none else if after < day * 1440 + a ∧ b ((day + 5) % 7) = true then some (day * 1440 + a) else nextG b a after f (day + 1)
def nextF (b : Int → Bool) (a after : Int) : Option Int := nextG b a after 8 ((max after 0) / 1440)
def stepsF (b : Int → Bool) (a : Int) : Nat → Int → Option Int
  | 0, t => some t
  | k + 1, t => match nextF b a t with
    | none => none
    | some t' => stepsF b a k t'
def popF (b : Int → Bool) : Int := sum7 fun d => if b ((5 + d) % 7) = true then 1 else 0
def drawF (b : Int → Bool) (a n : Int) : Option Int :=
  if n < 1 then none else if 106522 < (n - 1) / popF b then none else stepsF b a (((n - 1) % popF b + 1).toNat) ((n - 1) / popF b * 10080 - 1)
def untilF (b : Int → Bool) (a t : Int) : Int := t / 10080 * popF b + sum7 fun d => if b ((5 + d) % 7) = true ∧ d * 1440 + a ≤ t % 10080 then 1 else 0
def cntF (b : Int → Bool) (a x : Int) : Int := sum7 fun d => if b ((5 + d) % 7) = true then (x - (d * 1440 + a)) / 10080 + 1 else 0
theorem sum7_le {f g : Int → Int} (h : ∀ d, 0 ≤ d → d < 7 → f d ≤ g d) : sum7 f ≤ sum7 g := by
  unfold sum7
  have h0 := h 0 (by decide) (by decide); have h1 := h 1 (by decide) (by decide); have h2 := h 2 (by decide) (by decide); have h3 := h 3 (by decide) (by decide)
  have h4 := h 4 (by decide) (by decide); have h5 := h 5 (by decide) (by decide); have h6 := h 6 (by decide) (by decide)
  omega
theorem sum7_lt {f g : Int → Int} (h : ∀ d, 0 ≤ d → d < 7 → f d ≤ g d) {e : Int} (he0 : 0 ≤ e) (he : e < 7) (hs : f e + 1 ≤ g e) : sum7 f + 1 ≤ sum7 g := by
  unfold sum7
  have h0 := h 0 (by decide) (by decide); have h1 := h 1 (by decide) (by decide); have h2 := h 2 (by decide) (by decide); have h3 := h 3 (by decide) (by decide)
  have h4 := h 4 (by decide) (by decide); have h5 := h 5 (by decide) (by decide); have h6 := h 6 (by decide) (by decide)
  have hc : e = 0 ∨ e = 1 ∨ e = 2 ∨ e = 3 ∨ e = 4 ∨ e = 5 ∨ e = 6 := by omega
  rcases hc with rfl | rfl | rfl | rfl | rfl | rfl | rfl <;> omega
theorem sum7_eq {f g : Int → Int} (h : ∀ d, 0 ≤ d → d < 7 → f d = g d) : sum7 f = sum7 g :=
  Int.le_antisymm (sum7_le fun d h0 h1 => by rw [h d h0 h1]; exact Int.le_refl _) (sum7_le fun d h0 h1 => by rw [h d h0 h1]; exact Int.le_refl _)
theorem sum7_mul (c : Int) (f : Int → Int) : c * sum7 f = sum7 fun d => c * f d := by
  unfold sum7; simp only [Int.mul_add]
theorem sum7_add (f g : Int → Int) : sum7 f + sum7 g = sum7 fun d => f d + g d := by
  unfold sum7; dsimp only; omega
section
variable {b : Int → Bool} {a : Int}
theorem cnt_mono {x y : Int} (h : x ≤ y) : cntF b a x ≤ cntF b a y := sum7_le fun d _ _ => by
  show (if b ((5 + d) % 7) = true then _ else _) ≤ (if b ((5 + d) % 7) = true then _ else _)
  split
  · omega
  · exact Int.le_refl _
theorem cnt_until (h0 : 0 ≤ a) (h1 : a < 1440) (t : Int) : cntF b a t = untilF b a t := by
  unfold cntF untilF popF
  rw [sum7_mul, sum7_add]
  refine sum7_eq fun d hd0 hd1 => ?_
  show (if b ((5 + d) % 7) = true then _ else _) = t / 10080 * (if b ((5 + d) % 7) = true then 1 else 0) + (if b ((5 + d) % 7) = true ∧ _ then 1 else 0)
  by_cases hb : b ((5 + d) % 7) = true
  · rw [if_pos hb, if_pos hb]
    by_cases hc : d * 1440 + a ≤ t % 10080
    · rw [if_pos ⟨hb, hc⟩]; omega
    · rw [if_neg (fun hh => hc hh.2)]; omega
  · rw [if_neg hb, if_neg hb, if_neg (fun hh => hb hh.1)]; omega
theorem cnt_week (h0 : 0 ≤ a) (h1 : a < 1440) (w : Int) : cntF b a (w * 10080 - 1) = w * popF b := by
  unfold cntF popF
  rw [sum7_mul]
  refine sum7_eq fun d hd0 hd1 => ?_
  show (if b ((5 + d) % 7) = true then _ else _) = w * (if b ((5 + d) % 7) = true then 1 else 0)
  by_cases hb : b ((5 + d) % 7) = true
  · rw [if_pos hb, if_pos hb]; omega
  · rw [if_neg hb, if_neg hb]; omega
theorem nextG_some {after : Int} : ∀ {f : Nat} {day t : Int}, 0 ≤ day → nextG b a after f day = some t → after < t ∧ t ≤ 1073741824 ∧ ∃ q, 0 ≤ q ∧ t = q * 1440 + a ∧ b ((q + 5) % 7) = true
  | 0, _, _, _, h => by cases h
  | f + 1, day, t, hd, h => by
    unfold nextG at h
    by_cases h1 : 1073741824 < day * 1440 + a
    · rw [if_pos h1] at h; cases h
    rw [if_neg h1] at h
    by_cases h2 : after < day * 1440 + a ∧ b ((day + 5) % 7) = true
    · rw [if_pos h2] at h
      cases h
      exact ⟨h2.1, by omega, day, hd, rfl, h2.2⟩
    · rw [if_neg h2] at h
      exact nextG_some (by omega) h
theorem nextF_some {after t : Int} (h : nextF b a after = some t) : after < t ∧ t ≤ 1073741824 ∧ ∃ q, 0 ≤ q ∧ t = q * 1440 + a ∧ b ((q + 5) % 7) = true :=
  nextG_some (Int.ediv_nonneg (by omega) (by decide)) h
theorem next_cnt (h0 : 0 ≤ a) (h1 : a < 1440) {after t : Int} (h : nextF b a after = some t) : cntF b a after + 1 ≤ cntF b a t := by
  obtain ⟨hlt, _, q, hq, rfl, hb⟩ := nextF_some h
  have hb' : b ((5 + q % 7) % 7) = true := by rw [show (5 + q % 7) % 7 = (q + 5) % 7 by omega]; exact hb
  refine sum7_lt (e := q % 7) (fun d _ _ => ?_) (by omega) (by omega) ?_
  · show (if b ((5 + d) % 7) = true then _ else _) ≤ (if b ((5 + d) % 7) = true then _ else _)
    split
    · omega
    · exact Int.le_refl _
  · show (if b ((5 + q % 7) % 7) = true then _ else _) + 1 ≤ (if b ((5 + q % 7) % 7) = true then _ else _)
    rw [if_pos hb', if_pos hb']
    omega
theorem steps_cnt (h0 : 0 ≤ a) (h1 : a < 1440) : ∀ {k : Nat} {t0 t : Int}, stepsF b a k t0 = some t → cntF b a t0 + k ≤ cntF b a t
  | 0, _, _, h => by cases h; simp
  | k + 1, t0, t, h => by
    unfold stepsF at h
    cases hn : nextF b a t0 with
    | none => rw [hn] at h; cases h
    | some t' =>
      rw [hn] at h
      have h2 := next_cnt h0 h1 hn
      have h3 := steps_cnt h0 h1 h
      push_cast
      omega
theorem steps_range : ∀ {k : Nat} {t0 t : Int}, 0 ≤ a → -1 ≤ t0 → stepsF b a (k + 1) t0 = some t → t0 < t ∧ t ≤ 1073741824
  | 0, t0, t, _, _, h => by
    unfold stepsF at h
    cases hn : nextF b a t0 with
    | none => rw [hn] at h; cases h
    | some t' =>
      rw [hn] at h; cases h
      exact ⟨(nextF_some hn).1, (nextF_some hn).2.1⟩
  | k + 1, t0, t, ha, ht, h => by
    unfold stepsF at h
    cases hn : nextF b a t0 with
    | none => rw [hn] at h; cases h
    | some t' =>
      rw [hn] at h
      have h1 := nextF_some hn
      have h2 := steps_range (k := k) ha (by omega) h
      exact ⟨by omega, h2.2⟩
theorem draw_after (h0 : 0 ≤ a) (h1 : a < 1440) (hp : 1 ≤ popF b) {n T t : Int} (h : drawF b a n = some T) (ht : untilF b a t < n) : t < T := by
  unfold drawF at h
  by_cases hn : n < 1
  · rw [if_pos hn] at h; cases h
  rw [if_neg hn] at h
  by_cases hw : 106522 < (n - 1) / popF b
  · rw [if_pos hw] at h; cases h
  rw [if_neg hw] at h
  have hc := steps_cnt h0 h1 h
  rw [cnt_week h0 h1] at hc
  have hm : 0 ≤ (n - 1) % popF b := Int.emod_nonneg _ (by omega)
  have hd := Int.mul_ediv_add_emod (n - 1) (popF b)
  rw [Int.mul_comm (popF b)] at hd
  have hcT : n ≤ cntF b a T := by
    have e : ((((n - 1) % popF b + 1).toNat : Nat) : Int) = (n - 1) % popF b + 1 := Int.toNat_of_nonneg (by omega)
    rw [e] at hc
    omega
  refine Int.not_le.1 fun hle => ?_
  have := cnt_mono (b := b) (a := a) hle
  rw [cnt_until h0 h1 t] at this
  omega
theorem draw_range (h0 : 0 ≤ a) (hp : 1 ≤ popF b) {n T : Int} (h : drawF b a n = some T) : 0 ≤ T ∧ T ≤ 1073741824 ∧ 1 ≤ n := by
  unfold drawF at h
  by_cases hn : n < 1
  · rw [if_pos hn] at h; cases h
  rw [if_neg hn] at h
  by_cases hw : 106522 < (n - 1) / popF b
  · rw [if_pos hw] at h; cases h
  rw [if_neg hw] at h
  have hm : 0 ≤ (n - 1) % popF b := Int.emod_nonneg _ (by omega)
  have hd : 0 ≤ (n - 1) / popF b := Int.ediv_nonneg (by omega) (by omega)
  obtain ⟨k, hk⟩ : ∃ k : Nat, ((n - 1) % popF b + 1).toNat = k + 1 := ⟨((n - 1) % popF b).toNat, by omega⟩
  rw [hk] at h
  have := steps_range h0 (by omega) h
  exact ⟨by omega, this.2, by omega⟩
end
def dayB (days : Int) (d : Int) : Bool := days.toNat.testBit d.toNat
theorem pop_posF : ∀ n : Fin 128, n.val ≠ 0 → 1 ≤ popF (dayB ((n.val : Nat) : Int)) := by decide +kernel
theorem pop_pos {days : Int} (h0 : 1 ≤ days) (h1 : days ≤ 127) : 1 ≤ popF (dayB days) := by
  have := pop_posF ⟨days.toNat, by omega⟩ (by show days.toNat ≠ 0; omega)
  rw [show (((⟨days.toNat, by omega⟩ : Fin 128).val : Nat) : Int) = days by show ((days.toNat : Nat) : Int) = days; omega] at this
  exact this
theorem pop_leF : ∀ n : Fin 128, popF (dayB ((n.val : Nat) : Int)) ≤ 7 := by decide +kernel
theorem pop_le {days : Int} (h0 : 1 ≤ days) (h1 : days ≤ 127) : popF (dayB days) ≤ 7 := by
  have := pop_leF ⟨days.toNat, by omega⟩
  rw [show (((⟨days.toNat, by omega⟩ : Fin 128).val : Nat) : Int) = days by show ((days.toNat : Nat) : Int) = days; omega] at this
  exact this
def padR : Nat → Nat → Wd
  | 0, _ => []
  | w + 1, n => padR w (n / 10) ++ [UInt8.ofNat (48 + n % 10)]
theorem padR_len : ∀ (w n : Nat), (padR w n).length = w
  | 0, _ => rfl
  | w + 1, n => by rw [padR, List.length_append, padR_len w]; rfl
theorem dig_ofNat {n : Nat} (h : n < 10) : (UInt8.ofNat (48 + n)).toNat = 48 + n := by rw [UInt8.toNat_ofNat']; omega
theorem padR_dig : ∀ (w n : Nat), (padR w n).all digB = true
  | 0, _ => rfl
  | w + 1, n => by
    rw [padR, List.all_append, padR_dig w, Bool.true_and]
    have : digB (UInt8.ofNat (48 + n % 10)) = true := by
      unfold digB
      rw [dig_ofNat (Nat.mod_lt _ (by decide))]
      exact decide_eq_true (by omega)
    rw [List.all_cons, this]; rfl
theorem padR_val : ∀ (w n : Nat), n < 10 ^ w → valB (padR w n) = n
  | 0, n, h => by have : n = 0 := by simpa using h
                  subst this; rfl
  | w + 1, n, h => by
    rw [padR, valB_snoc, padR_val w (n / 10) (by rw [Nat.pow_succ] at h; omega), dig_ofNat (Nat.mod_lt _ (by decide))]
    omega
theorem padR_back : ∀ (w : Nat) (l : Wd), l.length = w → l.all digB = true → padR w (valB l) = l
  | 0, l, h, _ => by rw [List.eq_nil_of_length_eq_zero h]; rfl
  | w + 1, l, h, ha => by
    obtain ⟨r, b, rfl⟩ : ∃ r b, l = r ++ [b] := ⟨l.dropLast, l.getLast (by intro e; rw [e] at h; cases h), (List.dropLast_concat_getLast (by intro e; rw [e] at h; cases h)).symm⟩
    rw [List.length_append] at h
    rw [List.all_append, Bool.and_eq_true] at ha
    have hb : 48 ≤ b.toNat ∧ b.toNat ≤ 57 := by simpa [digB] using ha.2
    rw [valB_snoc, padR, show (10 * valB r + (b.toNat - 48)) / 10 = valB r by omega, show (10 * valB r + (b.toNat - 48)) % 10 = b.toNat - 48 by omega, padR_back w r (by simpa using h) ha.1]
    congr 2
    rw [show 48 + (b.toNat - 48) = b.toNat by omega]; simp
theorem dec_len : ∀ (w n : Nat), n < 10 ^ (w + 1) → (Lib.decDigits n).length ≤ w + 1
  | 0, n, h => by rw [Lib.decDigits, dif_pos (by simpa using h)]; exact Nat.le_refl _
  | w + 1, n, h => by
    rw [Lib.decDigits]
    by_cases h1 : n < 10
    · rw [dif_pos h1]; simp
    · rw [dif_neg h1, List.length_append]
      have := dec_len w (n / 10) (by rw [Nat.pow_succ] at h; omega)
      simp only [List.length_cons, List.length_nil]; omega
theorem padR_zero : ∀ (w : Nat), padR w 0 = List.replicate w 48
  | 0 => rfl
  | w + 1 => by
    rw [padR, Nat.zero_div, padR_zero w, List.replicate_succ']
    rfl
theorem pad_dec : ∀ (w n : Nat), n < 10 ^ (w + 1) → List.replicate (w + 1 - (Lib.decDigits n).length) 48 ++ Lib.decDigits n = padR (w + 1) n
  | 0, n, h => by
    have h1 : n < 10 := by simpa using h
    rw [Lib.decDigits, dif_pos h1, padR, Nat.mod_eq_of_lt h1]
    rfl
  | w + 1, n, h => by
    rw [padR, Lib.decDigits]
    by_cases h1 : n < 10
    · rw [dif_pos h1, Nat.div_eq_of_lt h1, Nat.mod_eq_of_lt h1, padR_zero]
      rfl
    · rw [dif_neg h1]
      have hl := dec_len w (n / 10) (by rw [Nat.pow_succ] at h; omega)
      have ih := pad_dec w (n / 10) (by rw [Nat.pow_succ] at h; omega)
      rw [← ih, List.length_append]
      simp only [List.length_cons, List.length_nil, Nat.zero_add]
      rw [show w + 1 + 1 - ((Lib.decDigits (n / 10)).length + 1) = w + 1 - (Lib.decDigits (n / 10)).length by omega, List.append_assoc]
def wts : List Int := [15, 50, 5, 49, 34, 81, 76, 27, 90, 9, 30, 3]
def chkI (l : Wd) : Int := 98 - (((wts.zip l).map fun p => p.1 * ((p.2.toNat - 48 : Nat) : Int)).sum) % 97
def numT (t s : Nat) : Wd := (padR 2 t ++ padR 10 s) ++ padR 2 (chkI (padR 2 t ++ padR 10 s)).toNat
theorem chkI_rng (l : Wd) : 2 ≤ chkI l ∧ chkI l ≤ 98 := by unfold chkI; omega
theorem zip_take : ∀ (a : List Int) (b c : Wd), a.length ≤ b.length → a.zip (b ++ c) = a.zip b
  | [], _, _, _ => by simp
  | _ :: _, [], _, h => absurd h (by simp)
  | x :: a, y :: b, c, h => by
    rw [List.cons_append, List.zip_cons_cons, List.zip_cons_cons, zip_take a b c (by simpa using h)]
theorem chkI_app {b c : Wd} (h : 12 ≤ b.length) : chkI (b ++ c) = chkI b := by
  unfold chkI
  rw [zip_take wts b c (by simpa [wts] using h)]
theorem body_len (t s : Nat) : (padR 2 t ++ padR 10 s).length = 12 := by rw [List.length_append, padR_len, padR_len]
theorem numT_len (t s : Nat) : (numT t s).length = 14 := by unfold numT; rw [List.length_append, body_len, padR_len]
theorem numT_dig (t s : Nat) : (numT t s).all digB = true := by unfold numT; rw [List.all_append, List.all_append, padR_dig, padR_dig, padR_dig]; rfl
theorem numT_a (t s : Nat) : (numT t s).take 2 = padR 2 t := by
  unfold numT; rw [List.append_assoc, List.take_append_of_le_length (by rw [padR_len]; exact Nat.le_refl _), List.take_of_length_le (by rw [padR_len]; exact Nat.le_refl _)]
theorem numT_b (t s : Nat) : ((numT t s).take 12).drop 2 = padR 10 s := by
  unfold numT
  rw [List.take_append_of_le_length (by rw [body_len]; exact Nat.le_refl _), List.take_of_length_le (by rw [body_len]; exact Nat.le_refl _)]
  exact List.drop_left' (padR_len 2 t)
theorem numT_c (t s : Nat) : (numT t s).drop 12 = padR 2 (chkI (padR 2 t ++ padR 10 s)).toNat := by
  unfold numT; exact List.drop_left' (body_len t s)
theorem numT_chk (t s : Nat) : (valB ((numT t s).drop 12) : Int) = chkI (numT t s) := by
  have h := chkI_rng (padR 2 t ++ padR 10 s)
  rw [numT_c, padR_val 2 _ (by omega)]
  unfold numT
  rw [chkI_app (b := padR 2 t ++ padR 10 s) (by rw [body_len]; exact Nat.le_refl _)]
  omega
theorem numT_t {t s : Nat} (ht : t < 100) : valB ((numT t s).take 2) = t := by rw [numT_a, padR_val 2 t (by omega)]
theorem numT_s {t s : Nat} (hs : s < 10000000000) : valB (((numT t s).take 12).drop 2) = s := by rw [numT_b, padR_val 10 s (by omega)]
theorem all_sub {l r : Wd} (h : l.all digB = true) (hs : ∀ x ∈ r, x ∈ l) : r.all digB = true := List.all_eq_true.2 fun x hx => List.all_eq_true.1 h x (hs x hx)
theorem numT_back {l : Wd} (hl : l.length = 14) (hd : l.all digB = true) (hc : (valB (l.drop 12) : Int) = chkI l) : l = numT (valB (l.take 2)) (valB ((l.take 12).drop 2)) := by
  have h1 : padR 2 (valB (l.take 2)) = l.take 2 := padR_back 2 _ (by rw [List.length_take]; omega) (all_sub hd fun x hx => List.mem_of_mem_take hx)
  have h2 : padR 10 (valB ((l.take 12).drop 2)) = (l.take 12).drop 2 := padR_back 10 _ (by rw [List.length_drop, List.length_take]; omega) (all_sub hd fun x hx => List.mem_of_mem_take (List.mem_of_mem_drop hx))
  have h3 : padR 2 (valB (l.drop 12)) = l.drop 12 := padR_back 2 _ (by rw [List.length_drop]; omega) (all_sub hd fun x hx => List.mem_of_mem_drop hx)
  have hb : padR 2 (valB (l.take 2)) ++ padR 10 (valB ((l.take 12).drop 2)) = l.take 12 := by
    rw [h1, h2]
    have : l.take 2 = (l.take 12).take 2 := by rw [List.take_take]; rfl
    rw [this, List.take_append_drop]
  unfold numT
  rw [hb]
  have hk : chkI (l.take 12) = chkI l := by
    have := chkI_app (b := l.take 12) (c := l.drop 12) (by rw [List.length_take]; omega)
    rw [List.take_append_drop] at this
    exact this.symm
  rw [hk, ← hc, Int.toNat_natCast, h3, List.take_append_drop]
theorem numT_inj {t s t' s' : Nat} (ht : t < 100) (hs : s < 10000000000) (ht' : t' < 100) (hs' : s' < 10000000000) (h : numT t s = numT t' s') : t = t' ∧ s = s' := by
  refine ⟨?_, ?_⟩
  · rw [← numT_t (s := s) ht, h, numT_t ht']
  · rw [← numT_s (t := t) hs, h, numT_s hs']
def shrI (n : Nat) (x : Int) : Int := x.fdiv (2 ^ n)
def xorI (a b : Int) : Int := bits .xor .u64 a b
def mulU (a b : Int) : Int := IntKind.u64.wrap (a * b)
def mixI (x : Int) : Int :=
  xorI (mulU (xorI (mulU (xorI x (shrI 30 x)) 13787848793156543929) (shrI 27 (mulU (xorI x (shrI 30 x)) 13787848793156543929))) 10723151780598845931)
    (shrI 31 (mulU (xorI (mulU (xorI x (shrI 30 x)) 13787848793156543929) (shrI 27 (mulU (xorI x (shrI 30 x)) 13787848793156543929))) 10723151780598845931))
def keyedI (k s : Int) : Int := mixI (xorI (mixI k) s)
end Go.Proofs.YtlgoegjboabgfaaGreatDoor
namespace Go.Proofs.YtlgoegjboabgfaaGreatDoor
open Eng
noncomputable def drawE (g : Game) (n : Int) : Int × Int := if gameErr g ≠ 0 then (0, gameErr g) else match drawF (dayB g.days) g.minute n with
  | none => (0, 2)
  | some T => (T, 0)
noncomputable def closeE (g : Game) (n : Int) : Int × Int := if (drawE g n).2 ≠ 0 then (0, (drawE g n).2) else ((drawE g n).1 - g.close, 0)
def nextN (g : Game) (t : Int) : Int := untilF (dayB g.days) g.minute (t + g.close) + 1
noncomputable def openE (g : Game) (t : Int) : Int × Int :=
  if gameErr g ≠ 0 then (0, gameErr g) else if t < 0 ∨ 1073741824 < t then (0, 2) else if (drawE g (nextN g t)).2 ≠ 0 then (0, (drawE g (nextN g t)).2) else (nextN g t, 0)
theorem drawE_some {g : Game} {n : Int} (h : (drawE g n).2 = 0) : gameErr g = 0 ∧ drawF (dayB g.days) g.minute n = some (drawE g n).1 := by
  unfold drawE at h ⊢
  by_cases h1 : gameErr g ≠ 0
  · rw [if_pos h1] at h; exact absurd h h1
  · rw [if_neg h1] at h ⊢
    refine ⟨Classical.not_not.1 h1, ?_⟩
    cases hd : drawF (dayB g.days) g.minute n with
    | none => rw [hd] at h; exact absurd (show (2 : Int) = 0 from h) (by decide)
    | some T => rfl
theorem drawE_rng {g : Game} {n : Int} (h : (drawE g n).2 = 0) : 0 ≤ (drawE g n).1 ∧ (drawE g n).1 ≤ 1073741824 ∧ 1 ≤ n := by
  obtain ⟨h1, h2⟩ := drawE_some h
  have hg := gameOk h1
  exact draw_range hg.tm.h2.1 (pop_pos hg.tm.h1.1 hg.tm.h1.2) h2
theorem openE_ok {g : Game} {t : Int} (h : (openE g t).2 = 0) : gameErr g = 0 ∧ 0 ≤ t ∧ t ≤ 1073741824 ∧ (drawE g (nextN g t)).2 = 0 ∧ (openE g t).1 = nextN g t := by
  unfold openE at h ⊢
  by_cases h1 : gameErr g ≠ 0
  · rw [if_pos h1] at h; exact absurd h h1
  rw [if_neg h1] at h ⊢
  by_cases h2 : t < 0 ∨ 1073741824 < t
  · rw [if_pos h2] at h; exact absurd (show (2 : Int) = 0 from h) (by decide)
  rw [if_neg h2] at h ⊢
  by_cases h3 : (drawE g (nextN g t)).2 ≠ 0
  · rw [if_pos h3] at h; exact absurd h h3
  · rw [if_neg h3]
    exact ⟨Classical.not_not.1 h1, by omega, by omega, Classical.not_not.1 h3, rfl⟩
theorem open_close {g : Game} {t : Int} (h : (openE g t).2 = 0) : (closeE g (openE g t).1).2 = 0 ∧ t < (closeE g (openE g t).1).1 := by
  obtain ⟨h0, h1, h2, h3, h4⟩ := openE_ok h
  have hg := gameOk h0
  obtain ⟨_, hd⟩ := drawE_some h3
  rw [h4]
  have hc : closeE g (nextN g t) = ((drawE g (nextN g t)).1 - g.close, 0) := if_neg (fun hh => hh h3)
  rw [hc]
  refine ⟨rfl, ?_⟩
  have hq := hg.tm.h2
  have := draw_after hg.tm.h2.1 (by omega) (pop_pos hg.tm.h1.1 hg.tm.h1.2) hd (t := t + g.close) (by unfold nextN; omega)
  show t < (drawE g (nextN g t)).1 - g.close
  omega
def extraN (ads : List Addon) (a : Nat) (tot : Int) : Nat → Int
  | 0 => 0
  | i + 1 => extraN ads a tot i + (match ads[i]? with
    | none => 0
    | some x => if a.testBit i = true then (if x.kind = 1 then x.price * tot else x.price) else 0)
noncomputable def stakeE (g : Game) (b : Bet) : Int × Int × Int := if betErr g b ≠ 0 then (0, 0, betErr g b) else (g.price * (totN g b.system b.lines : Nat), extraN g.addons b.addons.toNat (totN g b.system b.lines : Nat) g.addons.length, 0)
noncomputable def priceE (g : Game) (b : Bet) : Int × Int := if (stakeE g b).2.2 ≠ 0 then (0, (stakeE g b).2.2) else (((stakeE g b).1 + (stakeE g b).2.1) * b.draws, 0)
theorem addon_price {g : Game} (h : GameOk g) {a : Addon} (ha : a ∈ g.addons) : 0 ≤ a.price ∧ a.price ≤ 1000000 := by
  have := addons_each (ad_from h) a ha
  unfold addonErr at this
  by_cases h1 : nameB a.name = false
  · rw [if_pos h1] at this; cases this
  rw [if_neg h1] at this
  by_cases h2 : a.kind ≠ 1 ∧ a.kind ≠ 2
  · rw [if_pos h2] at this; cases this
  rw [if_neg h2] at this
  by_cases h3 : ¬ (0 ≤ a.price ∧ a.price ≤ 1000000)
  · rw [if_pos h3] at this; cases this
  exact Classical.not_not.1 h3
theorem extraN_rng {g : Game} (h : GameOk g) (a : Nat) {tot : Int} (h0 : 0 ≤ tot) (h1 : tot ≤ 1024) : ∀ i, 0 ≤ extraN g.addons a tot i ∧ extraN g.addons a tot i ≤ i * 1024000000
  | 0 => ⟨Int.le_refl _, Int.le_refl _⟩
  | i + 1 => by
    have ih := extraN_rng h a h0 h1 i
    unfold extraN
    cases hx : g.addons[i]? with
    | none => dsimp only; omega
    | some x =>
      have hp := addon_price h (List.mem_of_getElem? hx)
      have hm : 0 ≤ x.price * tot ∧ x.price * tot ≤ 1024000000 := ⟨Int.mul_nonneg hp.1 h0, Int.le_trans (Int.mul_le_mul hp.2 h1 h0 (by decide)) (by decide)⟩
      dsimp only
      split
      · split <;> omega
      · omega
theorem betErr_tot {g : Game} {b : Bet} (h : betErr g b = 0) : totN g b.system b.lines ≤ 1024 := by
  unfold betErr at h
  have ho := betOk (g := g) (b := b) h
  by_cases h3 : lnErr g b.system b.lines ≠ 0
  · rw [if_neg (fun hh => hh ho.g0), if_neg (fun hh => hh ho.ln), if_pos h3] at h; exact absurd h h3
  by_cases h4 : 1024 < totN g b.system b.lines
  · rw [if_neg (fun hh => hh ho.g0), if_neg (fun hh => hh ho.ln), if_neg h3, if_pos h4] at h; exact absurd h (by decide)
  omega
theorem stakeE_rng {g : Game} {b : Bet} (h : betErr g b = 0) : 0 ≤ (stakeE g b).1 ∧ (stakeE g b).1 ≤ 1024000000 ∧ 0 ≤ (stakeE g b).2.1 ∧ (stakeE g b).2.1 ≤ 4096000000 ∧ (stakeE g b).2.2 = 0 := by
  have ho := betOk h
  have hg := gameOk ho.g0
  have ht := betErr_tot h
  have hp := hg.mx.h1
  have hf := addons_few hg
  have he := extraN_rng hg b.addons.toNat (tot := (totN g b.system b.lines : Nat)) (by omega) (by omega) g.addons.length
  have e : stakeE g b = (g.price * (totN g b.system b.lines : Nat), extraN g.addons b.addons.toNat (totN g b.system b.lines : Nat) g.addons.length, 0) := if_neg (fun hh => hh h)
  rw [e]
  have hm : 0 ≤ g.price * ((totN g b.system b.lines : Nat) : Int) ∧ g.price * ((totN g b.system b.lines : Nat) : Int) ≤ 1024000000 := ⟨Int.mul_nonneg (by omega) (by omega), Int.le_trans (Int.mul_le_mul hp.2 (show ((totN g b.system b.lines : Nat) : Int) ≤ 1024 by omega) (by omega) (by decide)) (by decide)⟩
  refine ⟨hm.1, hm.2, he.1, ?_, rfl⟩
  show extraN g.addons b.addons.toNat (totN g b.system b.lines : Nat) g.addons.length ≤ 4096000000
  omega
theorem priceE_ok {g : Game} {b : Bet} (h : betErr g b = 0) : priceE g b = (((stakeE g b).1 + (stakeE g b).2.1) * b.draws, 0) := if_neg (fun hh => hh (stakeE_rng h).2.2.2.2)
theorem priceE_rng {g : Game} {b : Bet} (h : betErr g b = 0) : 0 ≤ (priceE g b).1 ∧ (priceE g b).1 ≤ 163840000000 := by
  have hr := stakeE_rng h
  have hd := (betOk h).dr
  rw [priceE_ok h]
  show 0 ≤ ((stakeE g b).1 + (stakeE g b).2.1) * b.draws ∧ ((stakeE g b).1 + (stakeE g b).2.1) * b.draws ≤ 163840000000
  exact ⟨Int.mul_nonneg (by omega) (by omega), Int.le_trans (Int.mul_le_mul (show (stakeE g b).1 + (stakeE g b).2.1 ≤ 5120000000 by omega) hd.2 (by omega) (by decide)) (by decide)⟩
theorem stakeE_key {g : Game} {b : Bet} {k : BetM} (h : b.Is k) : stakeE g b = stakeE g (zBet k) := by
  have he := betErr_key (g := g) h
  have ht : totN g b.system b.lines = totN g (zBet k).system (zBet k).lines := by
    obtain ⟨h1, h2, h3, h4⟩ := h
    have e : (zBet k).lines = b.lines.map fun x => zLine x.keyL := by show k.1.map zLine = _; rw [← h1, List.map_map]; rfl
    rw [e, show (zBet k).system = b.system from h2.symm, totN_z]
  unfold stakeE
  rw [he, ht, show b.addons = (zBet k).addons from h.2.2.2]
  rfl
theorem priceE_key {g : Game} {b : Bet} {k : BetM} (h : b.Is k) : priceE g b = priceE g (zBet k) := by
  unfold priceE
  rw [stakeE_key h, show b.draws = (zBet k).draws from h.2.2.1]
end Go.Proofs.YtlgoegjboabgfaaGreatDoor
namespace Go.Proofs.YtlgoegjboabgfaaGreatDoor
open Eng
abbrev IMap := List (Int × Bool)
def Asc (S : List Int) : Prop := S.Pairwise (· < ·)
theorem asc_eq : ∀ (a b : List Int), Asc a → Asc b → (∀ x, x ∈ a ↔ x ∈ b) → a = b
  | [], [], _, _, _ => rfl
  | [], y :: b, _, _, h => by have := (h y).2 (by simp); cases this
  | x :: a, [], _, _, h => by have := (h x).1 (by simp); cases this
  | x :: a, y :: b, ha, hb, h => by
    unfold Asc at ha hb
    rw [List.pairwise_cons] at ha hb
    have hxy : x = y := by
      rcases List.mem_cons.1 ((h x).1 (by simp)) with e | hx
      · exact e
      · rcases List.mem_cons.1 ((h y).2 (by simp)) with e | hy
        · exact e.symm
        · have := ha.1 y hy
          have := hb.1 x hx
          omega
    subst hxy
    rw [asc_eq a b ha.2 hb.2 fun z => ?_]
    constructor
    · intro hz
      rcases List.mem_cons.1 ((h z).1 (List.mem_cons_of_mem _ hz)) with e | hz'
      · have := ha.1 z hz; omega
      · exact hz'
    · intro hz
      rcases List.mem_cons.1 ((h z).2 (List.mem_cons_of_mem _ hz)) with e | hz'
      · have := hb.1 z hz; omega
      · exact hz'
theorem Asc.nodup {S : List Int} (h : Asc S) : S.Nodup := h.imp fun {a b} hab => by omega
def insI (n : Int) : List Int → List Int
  | [] => [n]
  | x :: l => if x < n then x :: insI n l else n :: x :: l
theorem mem_ins {n x : Int} : ∀ {l : List Int}, x ∈ insI n l ↔ x = n ∨ x ∈ l
  | [] => by simp [insI]
  | y :: l => by
    unfold insI
    split
    · rw [List.mem_cons, mem_ins, List.mem_cons]
      constructor
      · rintro (h | h | h)
        · exact .inr (.inl h)
        · exact .inl h
        · exact .inr (.inr h)
      · rintro (h | h | h)
        · exact .inr (.inl h)
        · exact .inl h
        · exact .inr (.inr h)
    · rw [List.mem_cons]
theorem Asc.ins {n : Int} : ∀ {l : List Int}, Asc l → n ∉ l → Asc (insI n l)
  | [], _, _ => by simp [insI, Asc]
  | x :: l, h, hn => by
    unfold Asc at h
    rw [List.pairwise_cons] at h
    have hx : n ≠ x := fun e => hn (by simp [e])
    unfold insI
    split
    · rename_i hlt
      show List.Pairwise _ _
      rw [List.pairwise_cons]
      refine ⟨fun y hy => ?_, Asc.ins h.2 fun hm => hn (List.mem_cons_of_mem _ hm)⟩
      rcases mem_ins.1 hy with rfl | hy
      · exact hlt
      · exact h.1 y hy
    · show List.Pairwise _ _
      rw [List.pairwise_cons]
      refine ⟨fun y hy => ?_, List.pairwise_cons.2 h⟩
      rcases List.mem_cons.1 hy with rfl | hy
      · omega
      · have := h.1 y hy; omega
def nextFrom (k : Int) : List Int → Int
  | [] => k
  | x :: l => if x = k then nextFrom (k + 1) l else k
def iota : Nat → List Int
  | 0 => []
  | n + 1 => iota n ++ [(n : Int) + 1]
theorem mem_iota {x : Int} : ∀ {n : Nat}, x ∈ iota n ↔ 1 ≤ x ∧ x ≤ n
  | 0 => by simp [iota]; omega
  | n + 1 => by
    unfold iota
    rw [List.mem_append, mem_iota, List.mem_singleton]; omega
theorem iota_len : ∀ n : Nat, (iota n).length = n
  | 0 => rfl
  | n + 1 => by unfold iota; rw [List.length_append, iota_len n]; rfl
theorem iota_asc : ∀ n : Nat, Asc (iota n)
  | 0 => List.Pairwise.nil
  | n + 1 => by
    unfold iota Asc
    rw [List.pairwise_append]
    refine ⟨iota_asc n, by simp, fun a ha b hb => ?_⟩
    have := (mem_iota.1 ha).2
    simp only [List.mem_singleton] at hb
    omega
theorem nextFrom_append {K : List Int} : ∀ {l : List Int} {k : Int}, nextFrom k (l ++ K) = if l = (List.range l.length).map (fun i => k + (i : Nat)) then nextFrom (k + l.length) K else nextFrom k l
  | [], k => by simp
  | x :: l, k => by
    show (if x = k then nextFrom (k + 1) (l ++ K) else k) = if x :: l = (List.range (l.length + 1)).map (fun i : Nat => k + (i : Int)) then nextFrom (k + ((l.length + 1 : Nat) : Int)) K else (if x = k then nextFrom (k + 1) l else k)
    rw [List.range_succ_eq_map, List.map_cons, List.map_map]
    by_cases h : x = k
    · rw [if_pos h, if_pos h, nextFrom_append]
      have e : (List.range l.length).map ((fun i : Nat => k + (i : Int)) ∘ Nat.succ) = (List.range l.length).map (fun i : Nat => k + 1 + (i : Int)) := List.map_congr_left fun i _ => by
        simp only [Function.comp]; omega
      rw [e]
      have e2 : (x :: l = (k + ((0 : Nat) : Int)) :: (List.range l.length).map (fun i : Nat => k + 1 + (i : Int))) ↔ l = (List.range l.length).map (fun i : Nat => k + 1 + (i : Int)) := by
        rw [List.cons.injEq]; constructor
        · exact fun h => h.2
        · exact fun h' => ⟨by omega, h'⟩
      by_cases h2 : l = (List.range l.length).map (fun i : Nat => k + 1 + (i : Int))
      · rw [if_pos h2, if_pos (e2.2 h2)]
        exact congrArg (fun z => nextFrom z K) (by push_cast; omega)
      · rw [if_neg h2, if_neg (fun h' => h2 (e2.1 h'))]
    · rw [if_neg h, if_neg (fun e => h (by rw [List.cons.injEq] at e; omega)), if_neg h]
theorem iota_range : ∀ n : Nat, iota n = (List.range n).map fun i : Nat => (1 : Int) + (i : Int)
  | 0 => rfl
  | n + 1 => by
    unfold iota
    rw [List.range_succ, List.map_append, iota_range n]
    simp only [List.map_cons, List.map_nil]
    congr 2; omega
theorem nextFrom_iota {n : Nat} {K : List Int} (hK : ∀ x ∈ K, (n : Int) + 1 < x) : nextFrom 1 (iota n ++ K) = n + 1 := by
  rw [nextFrom_append, if_pos (by rw [iota_len]; exact iota_range n), iota_len]
  match K, hK with
  | [], _ => simp only [nextFrom]; omega
  | x :: K, h =>
    unfold nextFrom
    have := h x (by simp)
    rw [if_neg (by omega)]; omega
def takeE (most : Int) (S : List Int) (n : Int) : Int := if n < 1 ∨ most < n then 2 else if n ∈ S then 14 else 0
def takeS (most : Int) (S : List Int) (n : Int) : List Int := if takeE most S n = 0 then insI n S else S
theorem takeE_zero {most : Int} {S : List Int} {n : Int} (h : takeE most S n = 0) : 1 ≤ n ∧ n ≤ most ∧ n ∉ S := by
  unfold takeE at h
  split at h
  · cases h
  · split at h
    · cases h
    · rename_i h1 h2
      exact ⟨by omega, by omega, h2⟩
structure Good (most : Int) (S : List Int) : Prop where
  asc : Asc S
  rng : ∀ x ∈ S, 1 ≤ x ∧ x ≤ most
  m0 : 1 ≤ most
  m1 : most ≤ 1048576
theorem Good.new {most : Int} (h : 1 ≤ most) (h' : most ≤ 1048576) : Good most [] := ⟨List.Pairwise.nil, fun _ h => (by cases h), h, h'⟩
theorem Good.take {most : Int} {S : List Int} (h : Good most S) (n : Int) : Good most (takeS most S n) := by
  unfold takeS
  split
  · rename_i he
    obtain ⟨h1, h2, h3⟩ := takeE_zero he
    refine ⟨h.asc.ins h3, fun x hx => ?_, h.m0, h.m1⟩
    rcases mem_ins.1 hx with rfl | hx
    · exact ⟨h1, h2⟩
    · exact h.rng x hx
  · exact h
abbrev keysL (l : IMap) : List Int := l.map (·.1)
structure Rep (most : Int) (S : List Int) (low : Nat) (l : IMap) : Prop where
  good : Good most S
  mem : ∀ x, x ∈ S ↔ (1 ≤ x ∧ x ≤ low) ∨ x ∈ keysL l
  nodup : (keysL l).Nodup
  vals : ∀ p ∈ l, p.2 = true
  above : ∀ x ∈ keysL l, (low : Int) < x
  lo : (low : Int) ≤ most
theorem Rep.low_le {most : Int} {S : List Int} {low : Nat} {l : IMap} (h : Rep most S low l) : (low : Int) ≤ 1048576 := by have := h.lo; have := h.good.m1; omega
theorem Rep.perm {most : Int} {S : List Int} {low : Nat} {l : IMap} (h : Rep most S low l) : S.Perm (iota low ++ keysL l) := by
  refine (List.perm_ext_iff_of_nodup h.good.asc.nodup ?_).2 fun x => ?_
  · rw [List.nodup_append]
    refine ⟨(iota_asc low).nodup, h.nodup, fun a ha b hb e => ?_⟩
    have := (mem_iota.1 ha).2
    have := h.above b hb
    omega
  · rw [h.mem, List.mem_append, mem_iota]
theorem Rep.len {most : Int} {S : List Int} {low : Nat} {l : IMap} (h : Rep most S low l) : S.length = low + l.length := by
  rw [h.perm.length_eq, List.length_append, iota_len, List.length_map]
theorem sort_asc {l : List Int} (h : l.Nodup) : Asc (l.mergeSort leI) := by
  have tr : ∀ a b c : Int, leI a b = true → leI b c = true → leI a c = true := fun a b c h1 h2 => by simp only [leI, decide_eq_true_eq] at *; exact Int.le_trans h1 h2
  have tot : ∀ a b : Int, (leI a b || leI b a) = true := fun a b => by simp only [leI, Bool.or_eq_true, decide_eq_true_eq]; exact Int.le_total a b
  have h1 := List.pairwise_mergeSort tr tot l
  have h2 : (l.mergeSort leI).Nodup := (List.mergeSort_perm l leI).nodup_iff.2 h
  exact (h1.and h2).imp fun {a b} ⟨h3, h4⟩ => by simp only [leI, decide_eq_true_eq] at h3; omega
theorem Rep.form {most : Int} {S : List Int} {low : Nat} {l : IMap} (h : Rep most S low l) : S = iota low ++ (keysL l).mergeSort leI := by
  refine asc_eq _ _ h.good.asc ?_ fun x => ?_
  · unfold Asc
    rw [List.pairwise_append]
    refine ⟨iota_asc low, sort_asc h.nodup, fun a ha b hb => ?_⟩
    have := (mem_iota.1 ha).2
    have := h.above b ((List.mergeSort_perm _ _).mem_iff.1 hb)
    omega
  · rw [h.mem, List.mem_append, mem_iota, (List.mergeSort_perm _ _).mem_iff]
theorem Rep.next {most : Int} {S : List Int} {low : Nat} {l : IMap} (h : Rep most S low l) (hf : (low : Int) + 1 ∉ keysL l) : nextFrom 1 S = low + 1 := by
  rw [h.form]
  refine nextFrom_iota fun x hx => ?_
  have hx' := (List.mergeSort_perm _ _).mem_iff.1 hx
  have h1 := h.above x hx'
  have h2 : x ≠ low + 1 := fun e => hf (by rw [← e]; exact hx')
  omega
theorem lookI_val {k : Int} : ∀ {l : IMap}, (∀ p ∈ l, p.2 = true) → (mlook k l).getD false = decide (k ∈ keysL l)
  | [], _ => by simp [mlook]
  | p :: l, h => by
    unfold mlook
    by_cases e : k = p.1
    · rw [if_pos e, h p (by simp)]; simp [e]
    · rw [if_neg e, lookI_val fun q hq => h q (List.mem_cons_of_mem _ hq)]
      simp [e]
theorem putI_mem {k x : Int} : ∀ {l : IMap}, x ∈ keysL (mput k true l) ↔ x = k ∨ x ∈ keysL l
  | [] => by simp [mput]
  | p :: l => by
    unfold mput
    by_cases e : k = p.1
    · rw [if_pos e]; simp [e]
    · rw [if_neg e]
      show x ∈ p.1 :: keysL (mput k true l) ↔ x = k ∨ x ∈ p.1 :: keysL l
      rw [List.mem_cons, putI_mem, List.mem_cons]
      constructor
      · rintro (h | h | h)
        · exact .inr (.inl h)
        · exact .inl h
        · exact .inr (.inr h)
      · rintro (h | h | h)
        · exact .inr (.inl h)
        · exact .inl h
        · exact .inr (.inr h)
theorem putI_nodup {k : Int} : ∀ {l : IMap}, (keysL l).Nodup → (keysL (mput k true l)).Nodup
  | [], _ => by simp [mput]
  | p :: l, h => by
    have h' : p.1 ∉ keysL l ∧ (keysL l).Nodup := List.nodup_cons.1 h
    unfold mput
    by_cases e : k = p.1
    · rw [if_pos e]
      show (k :: keysL l).Nodup
      rw [e]; exact List.nodup_cons.2 h'
    · rw [if_neg e]
      show (p.1 :: keysL (mput k true l)).Nodup
      refine List.nodup_cons.2 ⟨fun hm => ?_, putI_nodup h'.2⟩
      rcases putI_mem.1 hm with h1 | h1
      · exact e h1.symm
      · exact h'.1 h1
theorem putI_vals {k : Int} : ∀ {l : IMap}, (∀ p ∈ l, p.2 = true) → ∀ p ∈ mput k true l, p.2 = true
  | [], _, p, hp => by simp [mput] at hp; rw [hp]
  | q :: l, h, p, hp => by
    unfold mput at hp
    by_cases e : k = q.1
    · rw [if_pos e] at hp
      rcases List.mem_cons.1 hp with rfl | hp
      · rfl
      · exact h p (List.mem_cons_of_mem _ hp)
    · rw [if_neg e] at hp
      rcases List.mem_cons.1 hp with rfl | hp
      · exact h _ (by simp)
      · exact putI_vals (fun r hr => h r (List.mem_cons_of_mem _ hr)) p hp
theorem delI_sub {k : Int} : ∀ {l : IMap} {p : Int × Bool}, p ∈ mdel k l → p ∈ l
  | [], _, h => by cases h
  | q :: l, p, h => by
    unfold mdel at h
    by_cases e : k = q.1
    · rw [if_pos e] at h; exact List.mem_cons_of_mem _ h
    · rw [if_neg e] at h
      rcases List.mem_cons.1 h with rfl | h
      · simp
      · exact List.mem_cons_of_mem _ (delI_sub h)
theorem delI_mem {k x : Int} : ∀ {l : IMap}, (keysL l).Nodup → (x ∈ keysL (mdel k l) ↔ x ≠ k ∧ x ∈ keysL l)
  | [], _ => by simp [mdel]
  | p :: l, h => by
    have h' : p.1 ∉ keysL l ∧ (keysL l).Nodup := List.nodup_cons.1 h
    unfold mdel
    by_cases e : k = p.1
    · rw [if_pos e]
      show x ∈ keysL l ↔ x ≠ k ∧ x ∈ p.1 :: keysL l
      rw [List.mem_cons]
      constructor
      · intro hx
        exact ⟨fun e2 => h'.1 (by rw [← e, ← e2]; exact hx), .inr hx⟩
      · rintro ⟨h1, h2 | h2⟩
        · exact absurd (h2.trans e.symm) h1
        · exact h2
    · rw [if_neg e]
      show x ∈ p.1 :: keysL (mdel k l) ↔ x ≠ k ∧ x ∈ p.1 :: keysL l
      rw [List.mem_cons, delI_mem h'.2, List.mem_cons]
      constructor
      · rintro (h1 | ⟨h1, h2⟩)
        · exact ⟨fun e2 => e (e2.symm.trans h1), .inl h1⟩
        · exact ⟨h1, .inr h2⟩
      · rintro ⟨h1, h2 | h2⟩
        · exact .inl h2
        · exact .inr ⟨h1, h2⟩
theorem delI_nodup {k : Int} : ∀ {l : IMap}, (keysL l).Nodup → (keysL (mdel k l)).Nodup
  | [], h => h
  | p :: l, h => by
    have h' : p.1 ∉ keysL l ∧ (keysL l).Nodup := List.nodup_cons.1 h
    unfold mdel
    by_cases e : k = p.1
    · rw [if_pos e]; exact h'.2
    · rw [if_neg e]
      show (p.1 :: keysL (mdel k l)).Nodup
      exact List.nodup_cons.2 ⟨fun hm => h'.1 ((delI_mem h'.2).1 hm).2, delI_nodup h'.2⟩
theorem delI_len {k : Int} : ∀ {l : IMap}, k ∈ keysL l → (mdel k l).length + 1 = l.length
  | [], h => by cases h
  | p :: l, h => by
    unfold mdel
    by_cases e : k = p.1
    · rw [if_pos e]; rfl
    · rw [if_neg e]
      have h2 : k ∈ keysL l := by
        rcases List.mem_cons.1 (show k ∈ p.1 :: keysL l from h) with h | h
        · exact absurd h e
        · exact h
      rw [List.length_cons, delI_len h2, List.length_cons]
theorem Rep.put {most : Int} {S : List Int} {low : Nat} {l : IMap} {n : Int} (h : Rep most S low l) (he : takeE most S n = 0) : Rep most (insI n S) low (mput n true l) := by
  obtain ⟨h1, h2, h3⟩ := takeE_zero he
  have hg := h.good.take n
  unfold takeS at hg
  rw [if_pos he] at hg
  refine ⟨hg, fun x => ?_, putI_nodup h.nodup, putI_vals h.vals, fun x hx => ?_, h.lo⟩
  · rw [mem_ins, h.mem, putI_mem]
    constructor
    · rintro (h | h | h)
      · exact .inr (.inl h)
      · exact .inl h
      · exact .inr (.inr h)
    · rintro (h | h | h)
      · exact .inr (.inl h)
      · exact .inl h
      · exact .inr (.inr h)
  · rcases putI_mem.1 hx with rfl | hx
    · have : ¬ x ≤ low := fun hl => h3 ((h.mem x).2 (.inl ⟨h1, hl⟩))
      omega
    · exact h.above x hx
theorem Rep.step {most : Int} {S : List Int} {low : Nat} {l : IMap} (h : Rep most S low l) (hm : (low : Int) + 1 ∈ keysL l) : Rep most S (low + 1) (mdel ((low : Int) + 1) l) := by
  have hS : (low : Int) + 1 ∈ S := (h.mem _).2 (.inr hm)
  refine ⟨h.good, fun x => ?_, delI_nodup h.nodup, fun p hp => h.vals p (delI_sub hp), fun x hx => ?_, ?_⟩
  · rw [h.mem, delI_mem h.nodup]
    push_cast
    constructor
    · rintro (h1 | h1)
      · exact .inl ⟨h1.1, by omega⟩
      · by_cases e : x = (low : Int) + 1
        · exact .inl ⟨by omega, by omega⟩
        · exact .inr ⟨e, h1⟩
    · rintro (h1 | h1)
      · by_cases e : x = (low : Int) + 1
        · exact .inr (by rw [e]; exact hm)
        · exact .inl ⟨h1.1, by omega⟩
      · exact .inr h1.2
  · obtain ⟨h1, h2⟩ := (delI_mem h.nodup).1 hx
    have := h.above x h2
    push_cast; omega
  · have := (h.good.rng _ hS).2
    push_cast; omega
theorem Rep.seen {most : Int} {S : List Int} {low : Nat} {l : IMap} (h : Rep most S low l) {n : Int} (h1 : 1 ≤ n) : decide (n ∈ S) = (decide (n ≤ (low : Int)) || (mlook n l).getD false) := by
  rw [lookI_val h.vals]
  by_cases a : n ≤ (low : Int)
  · rw [decide_eq_true a, decide_eq_true ((h.mem n).2 (.inl ⟨h1, a⟩))]; rfl
  · rw [decide_eq_false a, Bool.false_or]
    exact decide_eq_decide.2 (by rw [h.mem]; constructor; · rintro (h | h); exact absurd h.2 a; exact h
                                 · exact .inr)
theorem Rep.new {most : Int} (h : 1 ≤ most) (h' : most ≤ 1048576) : Rep most [] 0 [] := ⟨.new h h', fun x => (by simp; omega), List.nodup_nil, fun _ h => (by cases h), fun _ h => (by cases h), by omega⟩
def GuC (B M : Nat) (most : Int) (low : Nat) (l : IMap) : Sig := [(B, Cells 130 [.int .i64 most, .int .i64 (low : Nat), .map (some M)]), (M, MapC iK bV l)]
def clampI (x : Int) : Int := min (max x 1) 1048576
set_option maxRecDepth 100000 in
theorem guNew {m : Mem} (x : Int) : CallsS Tryz.prog 41 [.int .i64 x].toArray [] m fun r σ' m' => ∃ B M, r = .pointer (some ⟨B, 0, none⟩) ∧ σ' = GuC B M (clampI x) 0 [] ∧ m' = m := by
  refine enter Tryz.func41 Tryz.ntmps41 rfl rfl ?_
  refine SWP_seq (SWP_region (pP rfl rfl (SL_nil (nx (SWP_seq (SWP_region (pI rfl rfl (pu rfl rfl (pu rfl rfl ?_)))))))))
  refine mk (kc := iK) (vc := bV) rfl (fun M => ?_)
  refine pA rfl rfl ?_
  refine bx (v := .agg _) rfl rfl (fun B8 => ?_)
  refine pP rfl rfl (SL_nil (nx (SWP_ret ?_)))
  refine fin [_] ⟨rfl, trivial⟩ ?_
  exact ⟨_, _, rfl, rfl, rfl⟩
set_option maxRecDepth 100000 in
theorem guSeen {m : Mem} {B M : Nat} {most : Int} {low : Nat} {l : IMap} {S : List Int} (h : Rep most S low l) (n : Int) : CallsS Tryz.prog 109 [.pointer (some ⟨B, 0, none⟩), .int .i64 n].toArray (GuC B M most low l) m fun r σ' m' => r = .bool (decide (n ∈ S)) ∧ σ' = GuC B M most low l ∧ m' = m := by
  refine enter Tryz.func109 Tryz.ntmps109 rfl rfl ?_
  refine SWP_seq (SWP_region (pB rfl rfl (SL_nil (nx (SWP_seq (SWP_seq (SWP_region (pP rfl rfl ?_))))))))
  refine pu (v := .bool false) rfl rfl ?_
  refine pB rfl rfl (SL_yes rfl (pI rfl rfl (SL_yes rfl ?_)))
  refine pc rfl rfl (fun c9 => ?_) (fun c9 => ?_)
  · skip
    refine pB rfl rfl (pB rfl rfl (SL_no rfl rfl (SL_no rfl rfl (SL_no rfl rfl (SL_no rfl rfl (SL_no rfl rfl (SL_no rfl rfl (pB rfl rfl (SL_nil (nx (SWP_ct rfl ?_)))))))))))
    refine SWP_seq (SWP_region (pB rfl rfl (SL_nil (nx (SWP_ret (nr ?_))))))
    refine fin [_] ⟨rfl, trivial⟩ ?_
    exact ⟨congrArg Value.bool (decide_eq_false fun hm => by have := h.good.rng n hm; omega).symm, rfl, rfl⟩
  refine pB rfl rfl (pB rfl rfl (SL_yes rfl (pI rfl rfl (SL_yes rfl (pP rfl rfl (SL_yes rfl (pu rfl rfl (SL_yes rfl (pu rfl rfl (SL_yes rfl ?_))))))))))
  refine ld (v := .int .i64 _) (off := 0) (Rd.of_cells (.head _)) rfl rfl rfl rfl ?_
  refine SL_yes rfl ?_
  refine pc rfl rfl (fun c17 => ?_) (fun c17 => ?_)
  · skip
    refine pB rfl rfl (SL_nil (nx (SWP_ct rfl (SWP_seq (SWP_region (pB rfl rfl (SL_nil (nx (SWP_ret (nr ?_))))))))))
    refine fin [_] ⟨rfl, trivial⟩ ?_
    exact ⟨congrArg Value.bool (decide_eq_false fun hm => by have := h.good.rng n hm; omega).symm, rfl, rfl⟩
  refine pB rfl rfl (SL_nil (nx (SWP_cf rfl (SWP_skip (nx (SWP_seq (SWP_region (pI rfl rfl (pP rfl rfl (pu rfl rfl (pu rfl rfl ?_)))))))))))
  refine ld (v := .int .i64 _) (off := 1) (Rd.of_cells (.head _)) rfl rfl rfl rfl ?_
  refine pc rfl rfl (fun c24 => ?_) (fun c24 => ?_)
  · skip
    refine pB rfl rfl (SL_no rfl rfl (SL_no rfl rfl (SL_no rfl rfl (SL_no rfl rfl (SL_no rfl rfl (SL_no rfl rfl (pB rfl rfl (pB rfl rfl (SL_nil (nx (SWP_ret ?_)))))))))))
    refine fin [_] ⟨rfl, trivial⟩ ?_
    exact ⟨congrArg Value.bool (by rw [h.seen (by omega), decide_eq_true c24]; rfl), rfl, rfl⟩
  refine pB rfl rfl (SL_yes rfl (pP rfl rfl (SL_yes rfl (pu rfl rfl (SL_yes rfl (pu rfl rfl (SL_yes rfl ?_)))))))
  refine ld (v := .map _) (off := 2) (Rd.of_cells (.head _)) rfl rfl rfl rfl ?_
  refine SL_yes rfl (pI rfl rfl (SL_yes rfl ?_))
  refine lk (kc := iK) (vc := bV) (a := n) (l := l) rfl rfl rfl (keyInt .i64) rfl rfl (.tail _ (.head _)) (lookB _ l) rfl ?_
  refine pB rfl rfl (pB rfl rfl (SL_nil (nx (SWP_ret ?_))))
  refine fin [_] ⟨rfl, trivial⟩ ?_
  exact ⟨congrArg Value.bool (by rw [h.seen (by omega), decide_eq_false c24]; rfl), rfl, rfl⟩
set_option maxRecDepth 100000 in
theorem guTake {m : Mem} {B M : Nat} {most : Int} {low : Nat} {l : IMap} {S : List Int} (h : Rep most S low l) (hf : (low : Int) + 1 ∉ keysL l) (n : Int) : CallsS Tryz.prog 78 [.pointer (some ⟨B, 0, none⟩), .int .i64 n].toArray (GuC B M most low l) m
      fun r σ' m' => r = .int .i64 (takeE most S n) ∧ m' = m ∧ ∃ low' l', σ' = GuC B M most low' l' ∧ Rep most (takeS most S n) low' l' ∧ (low' : Int) + 1 ∉ keysL l' := by
  refine enter Tryz.func78 Tryz.ntmps78 rfl rfl ?_
  refine SWP_seq (SWP_region (pI rfl rfl (SL_nil (nx (SWP_seq (SWP_seq (SWP_region (pP rfl rfl ?_))))))))
  refine pu (v := .bool false) rfl rfl ?_
  refine SL_nil (nx (SWP_cf rfl (SWP_skip (nx (SWP_seq (SWP_seq (SWP_region (pI rfl rfl ?_))))))))
  refine pc rfl rfl (fun c8 => ?_) (fun c8 => ?_)
  · skip
    refine pB rfl rfl (SL_no rfl rfl (SL_no rfl rfl (SL_no rfl rfl (SL_no rfl rfl (SL_no rfl rfl (SL_no rfl rfl (pB rfl rfl (SL_nil (nx (SWP_ct rfl (SWP_seq ?_)))))))))))
    refine SWP_region (pI rfl rfl (SL_nil (nx (SWP_ret (nr ?_)))))
    refine fin [_] ⟨rfl, trivial⟩ ?_
    have e0 : takeE most S n = 2 := by unfold takeE; rw [if_pos (by omega)]
    refine ⟨congrArg (Value.int .i64) e0.symm, rfl, low, l, rfl, ?_, hf⟩
    unfold takeS
    rw [e0]
    exact h
  refine pB rfl rfl (SL_yes rfl (pI rfl rfl (SL_yes rfl (pP rfl rfl (SL_yes rfl (pu rfl rfl (SL_yes rfl (pu rfl rfl (SL_yes rfl ?_)))))))))
  refine ld (v := .int .i64 _) (off := 0) (Rd.of_cells (.head _)) rfl rfl rfl rfl ?_
  refine SL_yes rfl ?_
  refine pc rfl rfl (fun c15 => ?_) (fun c15 => ?_)
  · skip
    refine pB rfl rfl (SL_nil (nx (SWP_ct rfl (SWP_seq (SWP_region (pI rfl rfl (SL_nil (nx (SWP_ret (nr ?_))))))))))
    refine fin [_] ⟨rfl, trivial⟩ ?_
    have e0 : takeE most S n = 2 := by unfold takeE; rw [if_pos (by omega)]
    refine ⟨congrArg (Value.int .i64) e0.symm, rfl, low, l, rfl, ?_, hf⟩
    unfold takeS
    rw [e0]
    exact h
  refine pB rfl rfl (SL_nil (nx (SWP_cf rfl (SWP_skip (nx (SWP_seq (SWP_seq (SWP_region (pP rfl rfl (pI rfl rfl ?_))))))))))
  refine SL_pcallS rfl rfl cb109 (guSeen h n) rfl ?_
  refine bsp 19 rfl (fun b19 => ?_) (fun b19 => ?_)
  · skip
    refine SL_nil (nx (SWP_ct rfl (SWP_seq (SWP_region (pI rfl rfl (SL_nil (nx (SWP_ret (nr ?_)))))))))
    refine fin [_] ⟨rfl, trivial⟩ ?_
    have hn : n ∈ S := by simpa using b19
    have e0 : takeE most S n = 14 := by unfold takeE; rw [if_neg (by omega), if_pos hn]
    refine ⟨congrArg (Value.int .i64) e0.symm, rfl, low, l, rfl, ?_, hf⟩
    unfold takeS
    rw [e0]
    exact h
  refine SL_nil (nx (SWP_cf rfl (SWP_skip (nx (SWP_seq ?_)))))
  have hn : n ∉ S := by simpa using b19
  have e0 : takeE most S n = 0 := by unfold takeE; rw [if_neg (by omega), if_neg hn]
  refine SWP_region (pP rfl rfl (pu rfl rfl (pu rfl rfl ?_)))
  refine ld (v := .map _) (off := 2) (Rd.of_cells (.head _)) rfl rfl rfl rfl ?_
  refine pI rfl rfl ?_
  refine mu (kc := iK) (vc := bV) (a := n) (b := true) (l := l) (σ₁ := [_]) rfl rfl (keyInt .i64) rfl rfl rfl rfl ?_
  refine SL_nil (nx (SWP_seq (SWP_block ?_)))
  refine SWP_loopN [25, 26, 27, 28, 29, 30, 31, 32, 33, 34, 35, 36, 37, 38, 39, 40, 41, 42, 43, 44, 45, 46, 47, 48, 49] []
      (fun k vs σ' m' => ∃ (low2 : Nat) (l2 : IMap), vs = [] ∧ k = l2.length ∧ Rep most (insI n S) low2 l2 ∧ σ' = GuC B M most low2 l2 ∧ m = m')
      rfl ((mput n true l).length) ?_ ?_
  · exact ⟨low, mput n true l, rfl, rfl, h.put e0, rfl, rfl⟩
  intro k0 u0 vs0 σ0 m0 hJ0 _
  obtain ⟨low2, l2, rfl, rfl, h2, rfl, rfl⟩ := hJ0
  have hlo := h2.low_le
  refine SWP_seq (SWP_seq ?_)
  refine SWP_draws (by kernel_rfl) (by kernel_rfl) ?_
  refine pP rfl rfl (pu rfl rfl (pu rfl rfl ?_))
  refine ld (v := .map _) (off := 2) (Rd.of_cells (.head _)) rfl rfl rfl rfl ?_
  refine pP rfl rfl (pu rfl rfl (pu rfl rfl ?_))
  refine ld (v := .int .i64 _) (off := 1) (Rd.of_cells (.head _)) rfl rfl rfl rfl ?_
  refine pw rfl rfl (w64 (by omega) (by omega)) ?_
  refine lk (kc := iK) (vc := bV) (a := ((low2 : Nat) : Int) + 1) (l := l2) rfl rfl rfl (keyInt .i64) rfl rfl (.tail _ (.head _)) (lookB _ l2) rfl ?_
  refine bsp 34 rfl (fun b34 => ?_) (fun b34 => ?_)
  · skip
    refine SL_nil (nx (SWP_ct rfl (SWP_skip (nx (SWP_block (SWP_seq ?_))))))
    have hmem : (low2 : Int) + 1 ∈ keysL l2 := by rw [lookI_val h2.vals] at b34; exact of_decide_eq_true b34
    refine SWP_region (pP rfl rfl (pu rfl rfl (pu rfl rfl ?_)))
    refine ld (v := .int .i64 _) (off := 1) (Rd.of_cells (.head _)) rfl rfl rfl rfl ?_
    refine pw rfl rfl (w64 (by omega) (by omega)) ?_
    refine pu rfl rfl (pu rfl rfl ?_)
    refine st (v := .int .i64 _) (off := 1) (σ₁ := []) rfl rfl rfl rfl rfl rfl rfl rfl ?_
    refine SL_nil (nx ?_)
    refine SWP_tail 8 (by kernel_rfl) (by kernel_rfl) ?_
    refine pP rfl rfl (pu rfl rfl (pu rfl rfl ?_))
    refine ld (v := .map _) (off := 2) (Rd.of_cells (.head _)) rfl rfl rfl rfl ?_
    refine pP rfl rfl (pu rfl rfl (pu rfl rfl ?_))
    refine ld (v := .int .i64 _) (off := 1) (Rd.of_cells (.head _)) rfl rfl rfl rfl ?_
    refine SL_nil ?_
    refine dl0 (kc := iK) (vc := bV) (a := ((low2 + 1 : Nat) : Int)) (l := l2) (σ₁ := [_]) rfl rfl (keyInt .i64) rfl rfl rfl ?_
    refine SL_nil (nb (nx ?_))
    refine ⟨by repeat (first | exact Under.upds rfl (Under.hav _ _ _) | exact Under.hav _ _ _ | refine Under.upd rfl ?_), ?_⟩
    · have hs := h2.step hmem
      have hd := delI_len hmem
      refine ⟨_, ?_, low2 + 1, mdel ((low2 : Int) + 1) l2, rfl, rfl, hs, rfl, rfl⟩
      omega
  refine SL_nil (nx (SWP_cf rfl (SWP_exit (ne (ne (be rfl (nx (SWP_seq ?_))))))))
  have hmem : (low2 : Int) + 1 ∉ keysL l2 := by rw [lookI_val h2.vals] at b34; exact of_decide_eq_false b34
  refine SWP_region (pI rfl rfl (SL_nil (nx (SWP_ret ?_))))
  refine fin [_] ⟨rfl, trivial⟩ ?_
  refine ⟨congrArg (Value.int .i64) e0.symm, rfl, low2, l2, rfl, ?_, hmem⟩
  unfold takeS
  rw [if_pos e0]
  exact h2
end Go.Proofs.YtlgoegjboabgfaaGreatDoor
namespace Go.Proofs.YtlgoegjboabgfaaGreatDoor
open Eng
structure Tk where
  number : ByteArray
  game : ByteArray
  bet : Bet
  serial : ByteArray
  first : Int
  price : Int
  at_ : Int
  terminal : Int
  seq : Int
  player : Int
  cancelled : Bool
def Tk.enc (t : Tk) : List Value := [.string t.number, .string t.game, .slice t.bet.la t.bet.lines.length t.bet.lc, .bool t.bet.system, .int .i64 t.bet.draws, .int .i64 t.bet.addons, .string t.serial, .int .i64 t.first, .int .i64 t.price, .int .i64 t.at_, .int .i64 t.terminal, .int .i64 t.seq, .int .i64 t.player, .bool t.cancelled]
def Tk.val (t : Tk) : Value := .agg #[.string t.number, .string t.game, .slice t.bet.la t.bet.lines.length t.bet.lc, .bool t.bet.system, .int .i64 t.bet.draws, .int .i64 t.bet.addons, .string t.serial, .int .i64 t.first, .int .i64 t.price, .int .i64 t.at_, .int .i64 t.terminal, .int .i64 t.seq, .int .i64 t.player, .bool t.cancelled]
theorem Tk.enc_len (t : Tk) : t.enc.length = 14 := rfl
theorem Game.enc_len (g : Game) : g.enc.length = 22 := rfl
structure Rc where
  number : ByteArray
  game : ByteArray
  slip : ByteArray
  first : Int
  price : Int
  at_ : Int
  sign : Int
deriving DecidableEq
def Rc.enc (r : Rc) : List Value := [.string r.number, .string r.game, .string r.slip, .int .i64 r.first, .int .i64 r.price, .int .i64 r.at_, .int .u64 r.sign]
def Rc.val (r : Rc) : Value := .agg #[.string r.number, .string r.game, .string r.slip, .int .i64 r.first, .int .i64 r.price, .int .i64 r.at_, .int .u64 r.sign]
theorem Rc.enc_len (r : Rc) : r.enc.length = 7 := rfl
def zeroRc : Rc := ⟨⟨#[]⟩, ⟨#[]⟩, ⟨#[]⟩, 0, 0, 0, 0⟩
def zeroTk : Tk := ⟨⟨#[]⟩, ⟨#[]⟩, zeroBet, ⟨#[]⟩, 0, 0, 0, 0, 0, 0, false⟩
structure Gd where
  B : Nat
  M : Nat
  low : Nat
  l : IMap
  S : List Int
def Gd.sig (x : Gd) : Sig := GuC x.B x.M 1048576 x.low x.l
def Gd.Ok (x : Gd) : Prop := Rep 1048576 x.S x.low x.l ∧ (x.low : Int) + 1 ∉ keysL x.l
def Gd.ptr (x : Gd) : Value := .pointer (some ⟨x.B, 0, none⟩)
abbrev sK (s : ByteArray) : Value := .string s
abbrev iV (i : Int) : Value := .int .i64 i
structure Reg where
  B : Nat
  M : Nat
  key : Int
  ga : Option Addr
  gc : Nat
  gs : List Game
  ta : Option Addr
  tc : Nat
  ts : List Tk
  pl : List (ByteArray × Int)
  gd : List Gd
  st : Sig
def Reg.cells (R : Reg) : List Value := .slice R.ga R.gs.length R.gc :: .slice R.ta R.ts.length R.tc :: .map (some R.M) :: .int .u64 R.key :: R.gd.map Gd.ptr
def Reg.gS (R : Reg) (a : Nat) : List Int := ((R.gd[a]?).map Gd.S).getD []
def Reg.ptr (R : Reg) : Value := .pointer (some ⟨R.B, 0, none⟩)
def Reg.sig (R : Reg) : Sig := (R.B, Cells 95 R.cells) :: (R.M, MapC sK iV R.pl) :: (R.gd.flatMap Gd.sig ++ R.st)
def posT (n : ByteArray) : List Tk → Nat → Option Int
  | [], _ => none
  | t :: l, i => if t.number = n then some (i : Nat) else posT n l (i + 1)
structure Reg.Ok (m : Mem) (R : Reg) : Prop where
  gsr : RL m Game.enc 22 (.slice R.ga R.gs.length R.gc) R.gs
  gin : ∀ g ∈ R.gs, g.In m
  gok : ∀ g ∈ R.gs, gameErr g = 0
  own : OwnS 53 14 (.slice R.ta R.ts.length R.tc) (R.ts.flatMap Tk.enc) R.st
  tin : ∀ t ∈ R.ts, t.bet.In m
  few : R.ts.length ≤ 2048
  gdl : R.gd.length = 33
  gdo : ∀ x ∈ R.gd, x.Ok
  pls : ∀ n, mlook n R.pl = posT n R.ts 0
  num : ∀ t ∈ R.ts, ∃ (a b : Nat) (x : Gd), t.terminal = a ∧ t.seq = b ∧ 1 ≤ a ∧ a ≤ 32 ∧ 1 ≤ b ∧ b ≤ 1048576 ∧ t.number = bA (numT a b) ∧ R.gd[a]? = some x ∧ (b : Int) ∈ x.S
  nd : (R.ts.map Tk.number).Nodup
  gam : ∀ t ∈ R.ts, ∃ g ∈ R.gs, g.name = t.game
  rng : ∀ t ∈ R.ts, 0 ≤ t.at_ ∧ t.at_ ≤ 1073741824 ∧ 1 ≤ t.first ∧ t.first ≤ 1000000 ∧ 1 ≤ t.bet.draws ∧ t.bet.draws ≤ 32
  bsm : ∀ t ∈ R.ts, t.bet.lines.length ≤ 16 ∧ ∀ l ∈ t.bet.lines, l.main.length ≤ 100000 ∧ l.bonus.length ≤ 100000
theorem Reg.Ok.mono {m m' : Mem} {R : Reg} (h : R.Ok m) (hl : Le m m') : R.Ok m' :=
  ⟨h.gsr.mono hl, fun g hg => (h.gin g hg).mono hl, h.gok, h.own, fun t ht => (h.tin t ht).mono hl, h.few, h.gdl, h.gdo, h.pls, h.num, h.nd, h.gam, h.rng, h.bsm⟩
end Go.Proofs.YtlgoegjboabgfaaGreatDoor
namespace Go.Proofs.YtlgoegjboabgfaaGreatDoor
open Eng
def uvarN : Nat → Nat → List UInt8
  | 0, x => [UInt8.ofNat (x % 256)]
  | f + 1, x => if 128 ≤ x then UInt8.ofNat (x % 128 + 128) :: uvarN f (x / 128) else [UInt8.ofNat x]
def uvar (x : Nat) : List UInt8 := uvarN 10 x
theorem uvarN_len : ∀ f x, (uvarN f x).length ≤ f + 1
  | 0, _ => Nat.le_refl _
  | f + 1, x => by
    unfold uvarN
    split
    · have := uvarN_len f (x / 128); simp only [List.length_cons]; omega
    · simp
def zz (x : Int) : Nat := if x < 0 then (2 * (-(x + 1)) + 1).toNat else (2 * x).toNat
theorem or128F : ∀ n : Fin 256, bits .or .u8 ((n.val : Nat) : Int) 128 = (((UInt8.ofNat (n.val % 128 + 128)).toNat : Nat) : Int) := by decide +kernel
theorem or_one {k : Nat} (h : 2 * k + 1 < 2 ^ 64) : bits .or .u64 (((2 * k : Nat) : Int)) 1 = ((2 * k + 1 : Nat) : Int) := by
  unfold bits
  have e : ∀ {z : Nat}, z < 2 ^ 64 → (BitVec.ofInt IntKind.u64.bits (z : Int)).toNat = z := fun {z} hz => by
    show (BitVec.ofInt 64 (z : Int)).toNat = z
    rw [BitVec.toNat_ofInt]
    have : ((z : Int) % ((2 ^ 64 : Nat) : Int)).toNat = z := by
      rw [← Int.natCast_emod, Nat.mod_eq_of_lt hz]; rfl
    simpa using this
  have h1 : ((BitVec.ofInt IntKind.u64.bits ((2 * k : Nat) : Int)) ||| (BitVec.ofInt IntKind.u64.bits ((1 : Nat) : Int))).toNat = 2 * k ||| 1 := by
    rw [BitVec.toNat_or, e (by omega), e (by decide)]
  show IntKind.u64.wrap ((((BitVec.ofInt IntKind.u64.bits ((2 * k : Nat) : Int)) ||| (BitVec.ofInt IntKind.u64.bits ((1 : Nat) : Int))).toNat : Nat) : Int) = _
  rw [h1]
  have h2 : 2 * k ||| 1 = 2 * k + 1 := by
    have := Nat.two_pow_add_eq_or_of_lt (i := 1) (b := 1) (by decide) k
    simpa [Nat.mul_comm] using this.symm
  rw [h2]
  have hw : IntKind.u64.wrap ((2 * k + 1 : Nat) : Int) = ((2 * k + 1 : Nat) : Int) % 18446744073709551616 := by simp [IntKind.wrap, IntKind.bits, IntKind.signed]
  rw [hw]
  omega
def sumB (l : List UInt8) : Int := l.foldl (fun x b => mulU (xorI x ((b.toNat : Nat) : Int)) 1099511628211) 14695981039346656037
theorem sumB_snoc (l : List UInt8) (b : UInt8) : sumB (l ++ [b]) = mulU (xorI (sumB l) ((b.toNat : Nat) : Int)) 1099511628211 := by unfold sumB; rw [List.foldl_append]; rfl
theorem mixG {m : Mem} (x : Int) : PureCall Tryz.prog 125 [.int .u64 x] m (.int .u64 (mixI x)) := by
  refine CallsS.pure ?_
  refine enter Tryz.func125 Tryz.ntmps125 rfl rfl ?_
  refine SWP_seq (SWP_region (pI rfl rfl (SL_nil (nx (SWP_seq (SWP_region (pI rfl rfl (pI rfl rfl ?_))))))))
  refine pshr (c := shrI 30 _) rfl rfl (by decide) rfl rfl ?_
  refine pu (v := .int .u64 (xorI _ _)) rfl rfl ?_
  refine pI rfl rfl (SL_nil (nx (SWP_seq (SWP_region (pI rfl rfl ?_)))))
  refine pu (v := .int .u64 (mulU _ _)) rfl rfl ?_
  refine pI rfl rfl (SL_nil (nx (SWP_seq (SWP_region (pI rfl rfl (pI rfl rfl ?_))))))
  refine pshr (c := shrI 27 _) rfl rfl (by decide) rfl rfl ?_
  refine pu (v := .int .u64 (xorI _ _)) rfl rfl ?_
  refine pI rfl rfl (SL_nil (nx (SWP_seq (SWP_region (pI rfl rfl ?_)))))
  refine pu (v := .int .u64 (mulU _ _)) rfl rfl ?_
  refine pI rfl rfl (SL_nil (nx (SWP_seq (SWP_region (pI rfl rfl (pI rfl rfl ?_))))))
  refine pshr (c := shrI 31 _) rfl rfl (by decide) rfl rfl ?_
  refine pu (v := .int .u64 (xorI _ _)) rfl rfl ?_
  refine pI rfl rfl (SL_nil (nx (SWP_seq (SWP_region (pI rfl rfl (pI rfl rfl (SL_nil (nx (SWP_ret ?_)))))))))
  refine fin [_] ⟨rfl, trivial⟩ ?_
  rfl
set_option maxRecDepth 100000 in
theorem sumG {m : Mem} (l : List UInt8) (hl : l.length ≤ 10000000) : PureCall Tryz.prog 126 [.string (bA l)] m (.int .u64 (sumB l)) := by
  refine CallsS.pure ?_
  have hsz := bA_size l
  refine enter Tryz.func126 Tryz.ntmps126 rfl rfl ?_
  refine SWP_seq (SWP_region (pI rfl rfl (SL_nil (nx (SWP_seq (SWP_region (pI rfl rfl (SL_nil (nx (SWP_seq (SWP_seq ?_)))))))))))
  refine SWP_region (pS rfl rfl (pu rfl rfl (pI rfl rfl (SL_nil (nx (SWP_block ?_))))))
  refine SWP_loop [3, 4, 7, 8, 9, 10, 11, 12, 13, 14, 15, 16, 17, 18] [3, 7]
      (fun vs σ' m' => ∃ (i : Nat), vs = [.int .u64 (sumB (l.take i)), .int .i64 (i : Nat)] ∧ i ≤ l.length ∧ σ' = [] ∧ m = m')
      (fun vs => l.length - nOf (vs.getD 1 undef)) rfl ?_ ?_
  · exact ⟨0, rfl, by omega, rfl, rfl⟩
  intro u0 vs0 σ0 m0 hJ0 _
  obtain ⟨i, rfl, hi, rfl, rfl⟩ := hJ0
  refine SWP_seq (SWP_region ?_)
  refine pc rfl rfl (fun c8 => ?_) (fun c8 => ?_)
  · skip
    refine SL_nil (nx (SWP_seq (SWP_ct rfl (SWP_skip (nx (SWP_seq (SWP_block (SWP_seq (SWP_region (pI rfl rfl (pI rfl rfl ?_)))))))))))
    refine SL_nil (nx (SWP_seq ?_))
    obtain ⟨b, hb⟩ : ∃ b, l[i]? = some b := ⟨_, List.getElem?_eq_getElem (by omega)⟩
    have hbr := b.toNat_lt
    refine SWP_region (pI rfl rfl (pS rfl rfl (pI rfl rfl ?_)))
    refine ixs (k := i) rfl rfl rfl hb rfl ?_
    refine pw rfl rfl (by rw [wrapU]; omega) ?_
    refine pu (v := .int .u64 (xorI (sumB (l.take i)) ((b.toNat : Nat) : Int))) rfl rfl ?_
    refine pI rfl rfl (SL_nil (nx (SWP_region (pI rfl rfl ?_))))
    refine pu (v := .int .u64 (mulU (xorI (sumB (l.take i)) ((b.toNat : Nat) : Int)) 1099511628211)) rfl rfl ?_
    refine pI rfl rfl (SL_nil (nb (nx (SWP_region ?_))))
    refine pw rfl rfl (w64 (by omega) (by omega)) ?_
    refine pI rfl rfl (SL_nil (nx ?_))
    refine ⟨by repeat (first | exact Under.upds rfl (Under.hav _ _ _) | exact Under.hav _ _ _ | refine Under.upd rfl ?_), ?_, ?_⟩
    · refine ⟨i + 1, ?_, by omega, rfl, rfl⟩
      rw [take_snocA hb, sumB_snoc]
      rfl
    · simp only [L_vals, List.map, List.getD]; show l.length - (i + 1) < l.length - i; omega
  refine SL_nil (nx (SWP_seq (SWP_cf rfl (SWP_exit (ne (ne (be rfl (nx (SWP_seq (SWP_region (pI rfl rfl ?_)))))))))))
  refine pI rfl rfl (SL_nil (nx (SWP_ret ?_)))
  refine fin [_] ⟨rfl, trivial⟩ ?_
  obtain rfl : i = l.length := by omega
  rw [List.take_length]
  rfl
theorem keyedG {m : Mem} (k : Int) (l : List UInt8) (hl : l.length ≤ 10000000) : PureCall Tryz.prog 88 [.int .u64 k, .string (bA l)] m (.int .u64 (keyedI k (sumB l))) := by
  refine CallsS.pure ?_
  refine enter Tryz.func88 Tryz.ntmps88 rfl rfl ?_
  refine SWP_seq (SWP_region (pI rfl rfl (SL_nil (nx (SWP_seq (SWP_region (pI rfl rfl ?_)))))))
  refine SL_pcall rfl rfl cb125 (mixG k) rfl ?_
  refine pS rfl rfl ?_
  refine SL_pcall rfl rfl cb126 (sumG l hl) rfl ?_
  refine pu (v := .int .u64 (xorI (mixI k) (sumB l))) rfl rfl ?_
  refine SL_pcall rfl rfl cb125 (mixG (xorI (mixI k) (sumB l))) rfl ?_
  refine pI rfl rfl (SL_nil (nx (SWP_ret ?_)))
  refine fin [_] ⟨rfl, trivial⟩ ?_
  rfl
theorem mulZ {m : Mem} {a b : Int} (ha : 0 ≤ a ∧ a ≤ 100000000000) (hb : 0 ≤ b ∧ b ≤ 10000) : PureCall Tryz.prog 86 [.int .i64 a, .int .i64 b] m (.tuple #[.int .i64 (a * b), .int .i64 0]) := by
  obtain ⟨x, rfl⟩ := Int.eq_ofNat_of_zero_le ha.1
  obtain ⟨y, rfl⟩ := Int.eq_ofNat_of_zero_le hb.1
  have h := mulNI (m := m) x y (Nat.le_trans (Nat.mul_le_mul (show x ≤ 100000000000 by omega) (show y ≤ 10000 by omega)) (by decide)) (by omega) (by omega)
  rwa [Int.natCast_mul] at h
set_option maxRecDepth 100000 in
theorem stakeI {m : Mem} {g : Game} {b : Bet} (hin : g.In m) (hb : b.In m) : PureCall Tryz.prog 53 [g.val, b.val] m (.tuple #[.int .i64 (stakeE g b).1, .int .i64 (stakeE g b).2.1, .int .i64 (stakeE g b).2.2]) := by
  refine CallsS.pure ?_
  dsimp only [Game.val, Bet.val]
  refine enter Tryz.func53 Tryz.ntmps53 rfl rfl ?_
  refine SWP_seq (SWP_region ?_)
  refine bx (v := .agg _) rfl rfl (fun B2 => ?_)
  refine bx (v := .agg _) rfl rfl (fun B3 => ?_)
  refine pI rfl rfl (pI rfl rfl (pI rfl rfl (SL_nil (nx (SWP_seq (SWP_region ?_))))))
  refine lw (v := .agg _) B2 0 rfl rfl rfl rfl ?_
  refine lw (v := .agg _) B3 0 rfl rfl rfl rfl ?_
  refine SL_pcall rfl rfl cb85 (checkB hin hb) rfl ?_
  refine pu rfl rfl (pI rfl rfl (pI rfl rfl (pI rfl rfl (pI rfl rfl (SL_nil (nx (SWP_seq (SWP_seq (SWP_region (pI rfl rfl ?_))))))))))
  refine pc rfl rfl (fun c20 => ?_) (fun c20 => ?_)
  · skip
    refine SL_nil (nx (SWP_ct rfl (SWP_seq (SWP_region (pI rfl rfl (pI rfl rfl (pI rfl rfl (pI rfl rfl (SL_nil (nx (SWP_ret ?_)))))))))))
    refine nr ?_
    refine fin [_, _, _] ⟨rfl, rfl, rfl, trivial⟩ ?_
    have e : stakeE g b = (0, 0, betErr g b) := if_pos (by assumption)
    rw [e]
    rfl
  refine SL_nil (nx (SWP_cf rfl (SWP_skip (nx (SWP_seq ?_)))))
  have hz : betErr g b = 0 := Classical.not_not.1 (by assumption)
  have hok := betOk hz
  have hg := gameOk hok.g0
  have hp1 := hg.mx.h1
  have ht := betErr_tot hz
  have hgl := addons_few hg
  rw [if_neg (fun hh => hh hz)]
  refine SWP_region (pu rfl rfl ?_)
  refine lw (v := .int .i64 _) B2 2 rfl rfl rfl rfl ?_
  refine pI rfl rfl ?_
  refine SL_pcall rfl rfl cb86 (mulZ (by omega) (by omega)) rfl ?_
  refine pu rfl rfl (pI rfl rfl (pI rfl rfl (pI rfl rfl (pI rfl rfl (SL_nil (nx (SWP_seq (SWP_seq (SWP_region (pI rfl rfl ?_))))))))))
  refine pn rfl rfl (fun hh => hh rfl) ?_
  refine SL_nil (nx (SWP_cf rfl (SWP_skip (nx (SWP_seq (SWP_region (pI rfl rfl (SL_nil (nx (SWP_seq (SWP_seq ?_)))))))))))
  refine SWP_region (pu rfl rfl ?_)
  refine lw (v := .slice _ _ _) B2 20 rfl rfl rfl rfl ?_
  refine pu rfl rfl (pI rfl rfl (SL_nil (nx (SWP_block ?_))))
  refine SWP_loop [10, 11, 12, 35, 36, 37, 38, 39, 40, 41, 42, 43, 44, 45, 46, 47, 48, 49, 50, 51, 52, 53, 54, 55, 56, 57, 58, 59] [10, 35]
      (fun vs σ' m' => ∃ (i : Nat), vs = [.int .i64 (extraN g.addons b.addons.toNat ((totN g b.system b.lines : Nat) : Int) (i)), .int .i64 (i : Nat)] ∧ i ≤ g.addons.length ∧ σ' = [(B3, Cells 51 b.enc), (B2, Cells 31 g.enc)] ∧ m = m')
      (fun vs => g.addons.length - nOf (vs.getD 1 undef)) rfl ?_ ?_
  · exact ⟨0, rfl, by omega, rfl, rfl⟩
  intro u0 vs0 σ0 m0 hJ0 _
  obtain ⟨i, rfl, hi, rfl, rfl⟩ := hJ0
  refine SWP_seq (SWP_region ?_)
  refine pc rfl rfl (fun c36 => ?_) (fun c36 => ?_)
  · skip
    refine SL_nil (nx (SWP_seq (SWP_ct rfl (SWP_skip (nx (SWP_seq (SWP_block (SWP_seq ?_))))))))
    obtain ⟨a1, hai⟩ : ∃ a, g.addons[i]? = some a := ⟨_, List.getElem?_eq_getElem (by omega)⟩
    obtain ⟨ad, e0, _, hat⟩ := hin.ads.atA Addon.enc_len hai
    have hpr := addon_price hg (List.mem_of_getElem? hai)
    have hxr := extraN_rng hg b.addons.toNat (tot := ((totN g b.system b.lines : Nat) : Int)) (by omega) (by omega) i
    have hpm : 0 ≤ a1.price * ((totN g b.system b.lines : Nat) : Int) ∧ a1.price * ((totN g b.system b.lines : Nat) : Int) ≤ 1024000000 := ⟨Int.mul_nonneg hpr.1 (by omega), Int.le_trans (Int.mul_le_mul hpr.2 (show ((totN g b.system b.lines : Nat) : Int) ≤ 1024 by omega) (by omega) (by decide)) (by decide)⟩
    have hadn : b.addons = ((b.addons.toNat : Nat) : Int) := by have := hok.ad; omega
    have ha16 : b.addons.toNat < 16 := by
      have h1 := (bet_sm hok).a
      have h2 : 2 ^ (gNs g).length ≤ 2 ^ 4 := Nat.pow_le_pow_right (by decide) (by rw [gNs_len]; exact hgl)
      exact Nat.lt_of_lt_of_le h1 h2
    refine SWP_region (pI rfl rfl ?_)
    refine ia (es := 6) (ad := ad) rfl rfl rfl rfl (by show Value.slice g.aa _ _ = _; rw [e0]) rfl (by omega) rfl ?_
    refine ldA (v := a1.val) rfl hat rfl rfl ?_
    refine al rfl rfl (fun B12 => ?_)
    refine pI rfl rfl ?_
    refine swE B12 0 a1.enc rfl rfl rfl rfl rfl rfl rfl rfl ?_
    refine SL_nil (nx (SWP_seq (SWP_seq (SWP_region (pu rfl rfl ?_)))))
    refine lw (v := .int .i64 _) B3 3 rfl rfl rfl rfl ?_
    refine pI rfl rfl ?_
    refine pshr (k := .i64) rfl rfl (by omega) rfl rfl ?_
    refine pu (v := .int .i64 (bits .and .i64 (((b.addons.toNat : Nat) : Int).fdiv (2 ^ (min ((i : Nat) : Int).toNat IntKind.i64.bits))) 1)) (by rw [← hadn]; rfl) rfl ?_
    rw [bit_g ha16 (by omega)]
    refine pc rfl rfl (fun c45 => ?_) (fun c45 => ?_)
    · skip
      refine SL_nil (nx (SWP_ct rfl (SWP_exit (ne (be rfl (nx ?_))))))
      refine SWP_weak (List.sublist_cons_self _ _) ?_
      refine SWP_region ?_
      refine pw rfl rfl (w64 (by omega) (by omega)) ?_
      refine pI rfl rfl (SL_nil (nx ?_))
      refine ⟨by repeat (first | exact Under.upds rfl (Under.hav _ _ _) | exact Under.hav _ _ _ | refine Under.upd rfl ?_), ?_, ?_⟩
      · refine ⟨i + 1, ?_, by omega, rfl, rfl⟩
        have e1 : extraN g.addons b.addons.toNat ((totN g b.system b.lines : Nat) : Int) (i + 1) = extraN g.addons b.addons.toNat ((totN g b.system b.lines : Nat) : Int) (i) + (if b.addons.toNat.testBit i = true then (if a1.kind = 1 then a1.price * ((totN g b.system b.lines : Nat) : Int) else a1.price) else 0) := by rw [extraN, hai]
        have hbit : ¬ b.addons.toNat.testBit i = true := fun h => by rw [if_pos h] at c45; exact absurd c45 (by decide)
        rw [if_neg hbit, Int.add_zero] at e1
        rw [e1]
        rfl
      · simp only [L_vals, List.map, List.getD]; show g.addons.length - (i + 1) < g.addons.length - i; omega
    refine SL_nil (nx (SWP_cf rfl (SWP_skip (nx (SWP_seq (SWP_region (pu rfl rfl ?_)))))))
    refine lw (v := .int .i64 _) B12 1 rfl rfl rfl rfl ?_
    refine pc rfl rfl (fun c48 => ?_) (fun c48 => ?_)
    · skip
      refine SL_nil (nx (SWP_ct rfl (SWP_region (pI rfl rfl (pu rfl rfl ?_)))))
      refine lw (v := .int .i64 _) B12 2 rfl rfl rfl rfl ?_
      refine pI rfl rfl ?_
      refine pw rfl rfl (w64 (by omega) (by omega)) ?_
      refine pw rfl rfl (w64 (by omega) (by omega)) ?_
      refine pI rfl rfl (SL_nil (nb (nx ?_)))
      refine SWP_weak (List.sublist_cons_self _ _) ?_
      refine SWP_region ?_
      refine pw rfl rfl (w64 (by omega) (by omega)) ?_
      refine pI rfl rfl (SL_nil (nx ?_))
      refine ⟨by repeat (first | exact Under.upds rfl (Under.hav _ _ _) | exact Under.hav _ _ _ | refine Under.upd rfl ?_), ?_, ?_⟩
      · refine ⟨i + 1, ?_, by omega, rfl, rfl⟩
        have e1 : extraN g.addons b.addons.toNat ((totN g b.system b.lines : Nat) : Int) (i + 1) = extraN g.addons b.addons.toNat ((totN g b.system b.lines : Nat) : Int) (i) + (if b.addons.toNat.testBit i = true then (if a1.kind = 1 then a1.price * ((totN g b.system b.lines : Nat) : Int) else a1.price) else 0) := by rw [extraN, hai]
        have hbit : b.addons.toNat.testBit i = true := Classical.byContradiction fun h => c45 (by rw [if_neg h])
        have hk : a1.kind = 1 := by assumption
        rw [if_pos hbit, if_pos hk] at e1
        rw [e1]
        rfl
      · simp only [L_vals, List.map, List.getD]; show g.addons.length - (i + 1) < g.addons.length - i; omega
    refine SL_nil (nx (SWP_cf rfl (SWP_region (pI rfl rfl (pu rfl rfl ?_)))))
    refine lw (v := .int .i64 _) B12 2 rfl rfl rfl rfl ?_
    refine pw rfl rfl (w64 (by omega) (by omega)) ?_
    refine pI rfl rfl (SL_nil (nb (nx ?_)))
    refine SWP_weak (List.sublist_cons_self _ _) ?_
    refine SWP_region ?_
    refine pw rfl rfl (w64 (by omega) (by omega)) ?_
    refine pI rfl rfl (SL_nil (nx ?_))
    refine ⟨by repeat (first | exact Under.upds rfl (Under.hav _ _ _) | exact Under.hav _ _ _ | refine Under.upd rfl ?_), ?_, ?_⟩
    · refine ⟨i + 1, ?_, by omega, rfl, rfl⟩
      have e1 : extraN g.addons b.addons.toNat ((totN g b.system b.lines : Nat) : Int) (i + 1) = extraN g.addons b.addons.toNat ((totN g b.system b.lines : Nat) : Int) (i) + (if b.addons.toNat.testBit i = true then (if a1.kind = 1 then a1.price * ((totN g b.system b.lines : Nat) : Int) else a1.price) else 0) := by rw [extraN, hai]
      have hbit : b.addons.toNat.testBit i = true := Classical.byContradiction fun h => c45 (by rw [if_neg h])
      have hk : ¬ a1.kind = 1 := by assumption
      rw [if_pos hbit, if_neg hk] at e1
      rw [e1]
      rfl
    · simp only [L_vals, List.map, List.getD]; show g.addons.length - (i + 1) < g.addons.length - i; omega
  refine SL_nil (nx (SWP_seq (SWP_cf rfl (SWP_exit (ne (ne (be rfl (nx (SWP_seq (SWP_region (pI rfl rfl ?_)))))))))))
  refine pI rfl rfl (pI rfl rfl (pI rfl rfl (pI rfl rfl (SL_nil (nx (SWP_ret ?_))))))
  refine fin [_, _, _] ⟨rfl, rfl, rfl, trivial⟩ ?_
  obtain rfl : i = g.addons.length := by omega
  have e : stakeE g b = (g.price * ((totN g b.system b.lines : Nat) : Int), extraN g.addons b.addons.toNat ((totN g b.system b.lines : Nat) : Int) (g.addons.length), 0) := if_neg (fun hh => hh hz)
  rw [e]
  rfl
set_option maxRecDepth 100000 in
theorem priceI {m : Mem} {g : Game} {b : Bet} (hin : g.In m) (hb : b.In m) : PureCall Tryz.prog 98 [g.val, b.val] m (.tuple #[.int .i64 (priceE g b).1, .int .i64 (priceE g b).2]) := by
  refine CallsS.pure ?_
  dsimp only [Game.val, Bet.val]
  refine enter Tryz.func98 Tryz.ntmps98 rfl rfl ?_
  refine SWP_seq (SWP_region ?_)
  refine bx (v := .agg _) rfl rfl (fun B2 => ?_)
  refine bx (v := .agg _) rfl rfl (fun B3 => ?_)
  refine pI rfl rfl (pI rfl rfl (SL_nil (nx (SWP_seq (SWP_region ?_)))))
  refine lw (v := .agg _) B2 0 rfl rfl rfl rfl ?_
  refine lw (v := .agg _) B3 0 rfl rfl rfl rfl ?_
  refine SL_pcall rfl rfl cb53 (stakeI hin hb) rfl ?_
  refine pu rfl rfl (pI rfl rfl (pI rfl rfl (pI rfl rfl (pI rfl rfl (pI rfl rfl (pI rfl rfl (SL_nil (nx (SWP_seq (SWP_seq (SWP_region ?_)))))))))))
  refine pI rfl rfl ?_
  refine pc rfl rfl (fun c17 => ?_) (fun c17 => ?_)
  · skip
    refine SL_nil (nx (SWP_ct rfl (SWP_seq (SWP_region (pI rfl rfl (pI rfl rfl (pI rfl rfl (SL_nil (nx (SWP_ret (nr ?_)))))))))))
    refine fin [_, _] ⟨rfl, rfl, trivial⟩ ?_
    have e : priceE g b = (0, (stakeE g b).2.2) := if_pos (by assumption)
    rw [e]
    rfl
  refine SL_nil (nx (SWP_cf rfl (SWP_skip (nx (SWP_seq ?_)))))
  have hz : betErr g b = 0 := Classical.byContradiction fun h => by
    have e : (stakeE g b).2.2 = betErr g b := by unfold stakeE; rw [if_pos h]
    have h2 := Classical.not_not.1 (show ¬ (stakeE g b).2.2 ≠ 0 by assumption)
    rw [e] at h2; exact h h2
  have hr := stakeE_rng hz
  have hd := (betOk hz).dr
  refine SWP_region (pI rfl rfl (pI rfl rfl ?_))
  refine pw rfl rfl (w64 (by omega) (by omega)) ?_
  refine pu rfl rfl ?_
  refine lw (v := .int .i64 _) B3 2 rfl rfl rfl rfl ?_
  refine SL_pcall rfl rfl cb86 (mulZ (by omega) (by omega)) rfl ?_
  refine pI rfl rfl (pI rfl rfl (pI rfl rfl (pI rfl rfl (SL_nil (nx (SWP_ret ?_))))))
  refine fin [_, _] ⟨rfl, rfl, trivial⟩ ?_
  rw [priceE_ok hz]
  rfl
end Go.Proofs.YtlgoegjboabgfaaGreatDoor
namespace Go.Proofs.YtlgoegjboabgfaaGreatDoor
open Eng
def addU (a b : Int) : Int := IntKind.u64.wrap (a + b)
def oc1 (x : Int) : Int := addU (bits .and .u64 (shrI 1 x) 6148914691236517205) (bits .and .u64 x 6148914691236517205)
def oc2 (x : Int) : Int := addU (bits .and .u64 (shrI 2 x) 3689348814741910323) (bits .and .u64 x 3689348814741910323)
def oc3 (x : Int) : Int := bits .and .u64 (addU (shrI 4 x) x) 1085102592571150095
def oc4 (n : Nat) (x : Int) : Int := addU x (shrI n x)
def ocF (x : Int) : Int := bits .and .i64 (IntKind.i64.wrap (oc4 32 (oc4 16 (oc4 8 (oc3 (oc2 (oc1 x))))))) 127
theorem oc_popF : ∀ n : Fin 128, ocF ((n.val : Nat) : Int) = popF (dayB ((n.val : Nat) : Int)) := by decide +kernel
theorem oc_pop {x : Int} (h0 : 0 ≤ x) (h1 : x ≤ 127) : ocF x = popF (dayB x) := by
  have := oc_popF ⟨x.toNat, by omega⟩
  rw [show (((⟨x.toNat, by omega⟩ : Fin 128).val : Nat) : Int) = x by show ((x.toNat : Nat) : Int) = x; omega] at this
  exact this
theorem day_bitF : ∀ (n : Fin 128) (w : Fin 7), bits .and .i64 (((n.val : Nat) : Int).fdiv (2 ^ (min (((w.val : Nat) : Int)).toNat IntKind.i64.bits))) 1 = if dayB ((n.val : Nat) : Int) ((w.val : Nat) : Int) = true then 1 else 0 := by decide +kernel
theorem day_bit {x w : Int} (h0 : 0 ≤ x) (h1 : x ≤ 127) (h2 : 0 ≤ w) (h3 : w < 7) : bits .and .i64 (x.fdiv (2 ^ (min w.toNat IntKind.i64.bits))) 1 = if dayB x w = true then 1 else 0 := by
  have := day_bitF ⟨x.toNat, by omega⟩ ⟨w.toNat, by omega⟩
  rw [show (((⟨x.toNat, by omega⟩ : Fin 128).val : Nat) : Int) = x by show ((x.toNat : Nat) : Int) = x; omega, show (((⟨w.toNat, by omega⟩ : Fin 7).val : Nat) : Int) = w by show ((w.toNat : Nat) : Int) = w; omega] at this
  exact this
theorem ite_one {p : Prop} [Decidable p] : ((if p then 1 else 0 : Int) = 1) ↔ p := by
  by_cases h : p
  · rw [if_pos h]; exact ⟨fun _ => h, fun _ => rfl⟩
  · rw [if_neg h]; exact ⟨fun e => absurd e (by decide), fun e => absurd e h⟩
theorem nextG_s {b : Int → Bool} {a after day : Int} {f : Nat} (h1 : ¬ 1073741824 < day * 1440 + a) (h2 : ¬ (after < day * 1440 + a ∧ b ((day + 5) % 7) = true)) : nextG b a after (f + 1) day = nextG b a after f (day + 1) := by rw [nextG, if_neg h1, if_neg h2]
theorem nextG_n {b : Int → Bool} {a after day : Int} {f : Nat} (h1 : 1073741824 < day * 1440 + a) : nextG b a after (f + 1) day = none := by rw [nextG, if_pos h1]
theorem nextG_y {b : Int → Bool} {a after day : Int} {f : Nat} (h1 : ¬ 1073741824 < day * 1440 + a) (h2 : after < day * 1440 + a ∧ b ((day + 5) % 7) = true) : nextG b a after (f + 1) day = some (day * 1440 + a) := by rw [nextG, if_neg h1, if_pos h2]
set_option maxRecDepth 100000 in
theorem ones64 {m : Mem} {x : Int} (h0 : 0 ≤ x) (h1 : x ≤ 127) : PureCall Tryz.prog 114 [.int .u64 x] m (.int .i64 (popF (dayB x))) := by
  refine CallsS.pure ?_
  refine enter Tryz.func114 Tryz.ntmps114 rfl rfl ?_
  refine SWP_seq (SWP_region (pI rfl rfl (SL_nil (nx (SWP_seq (SWP_region (pI rfl rfl ?_)))))))
  refine pshr (c := shrI 1 _) rfl rfl (by decide) rfl rfl ?_
  refine pI rfl rfl (pI rfl rfl (pI rfl rfl ?_))
  refine pu (v := .int .u64 (oc1 x)) rfl rfl ?_
  refine pI rfl rfl (SL_nil (nx (SWP_seq (SWP_region (pI rfl rfl ?_)))))
  refine pshr (c := shrI 2 _) rfl rfl (by decide) rfl rfl ?_
  refine pI rfl rfl (pI rfl rfl (pI rfl rfl ?_))
  refine pu (v := .int .u64 (oc2 (oc1 x))) rfl rfl ?_
  refine pI rfl rfl (SL_nil (nx (SWP_seq (SWP_region (pI rfl rfl ?_)))))
  refine pshr (c := shrI 4 _) rfl rfl (by decide) rfl rfl ?_
  refine pI rfl rfl (pu rfl rfl ?_)
  refine pu (v := .int .u64 (oc3 (oc2 (oc1 x)))) rfl rfl ?_
  refine pI rfl rfl (SL_nil (nx (SWP_seq (SWP_region (pI rfl rfl (pI rfl rfl ?_))))))
  refine pshr (c := shrI 8 _) rfl rfl (by decide) rfl rfl ?_
  refine pu (v := .int .u64 (oc4 8 (oc3 (oc2 (oc1 x))))) rfl rfl ?_
  refine pI rfl rfl (SL_nil (nx (SWP_seq (SWP_region (pI rfl rfl (pI rfl rfl ?_))))))
  refine pshr (c := shrI 16 _) rfl rfl (by decide) rfl rfl ?_
  refine pu (v := .int .u64 (oc4 16 (oc4 8 (oc3 (oc2 (oc1 x)))))) rfl rfl ?_
  refine pI rfl rfl (SL_nil (nx (SWP_seq (SWP_region (pI rfl rfl (pI rfl rfl ?_))))))
  refine pshr (c := shrI 32 _) rfl rfl (by decide) rfl rfl ?_
  refine pu (v := .int .u64 (oc4 32 (oc4 16 (oc4 8 (oc3 (oc2 (oc1 x))))))) rfl rfl ?_
  refine pI rfl rfl (SL_nil (nx (SWP_seq (SWP_region (pI rfl rfl ?_)))))
  refine pu (v := .int .i64 (IntKind.i64.wrap (oc4 32 (oc4 16 (oc4 8 (oc3 (oc2 (oc1 x)))))))) rfl rfl ?_
  refine pu (v := .int .i64 (ocF x)) rfl rfl ?_
  refine pI rfl rfl (SL_nil (nx (SWP_ret ?_)))
  refine fin [_] ⟨rfl, trivial⟩ ?_
  exact congrArg (Value.int .i64) (oc_pop h0 h1)
set_option maxRecDepth 100000 in
theorem onesI {m : Mem} {x : Int} (h0 : 0 ≤ x) (h1 : x ≤ 127) : PureCall Tryz.prog 82 [.int .u64 x] m (.int .i64 (popF (dayB x))) := by
  refine CallsS.pure ?_
  refine enter Tryz.func82 Tryz.ntmps82 rfl rfl ?_
  refine SWP_seq (SWP_region (pI rfl rfl (SL_nil (nx (SWP_seq (SWP_cf rfl (SWP_skip (nx (SWP_seq (SWP_region (pI rfl rfl ?_)))))))))))
  refine SL_pcall rfl rfl cb114 (ones64 h0 h1) rfl ?_
  refine pI rfl rfl (SL_nil (nx (SWP_ret ?_)))
  refine fin [_] ⟨rfl, trivial⟩ ?_
  rfl
theorem wdayI {m : Mem} {d : Int} (h0 : 0 ≤ d) (h1 : d ≤ 1000000) : PureCall Tryz.prog 115 [.int .i64 d] m (.int .i64 ((d + 5) % 7)) := by
  refine CallsS.pure ?_
  refine enter Tryz.func115 Tryz.ntmps115 rfl rfl ?_
  refine SWP_seq (SWP_region (pI rfl rfl (SL_nil (nx (SWP_seq (SWP_region (pI rfl rfl ?_)))))))
  refine pw rfl rfl (w64 (by omega) (by omega)) ?_
  refine prm rfl rfl (by omega) (Int.tmod_eq_emod_of_nonneg (by omega)) rfl ?_
  refine pI rfl rfl (SL_nil (nx (SWP_ret ?_)))
  refine fin [_] ⟨rfl, trivial⟩ ?_
  rfl
set_option maxRecDepth 100000 in
theorem nextI {m : Mem} {days a after : Int} (hd : 1 ≤ days ∧ days ≤ 127) (ha : 0 ≤ a ∧ a < 1440) (hf : -1 ≤ after ∧ after ≤ 1073741824) : PureCall Tryz.prog 84 [.int .i64 days, .int .i64 a, .int .i64 after] m (.tuple #[.int .i64 ((nextF (dayB days) a after).getD 0), .int .i64 (if (nextF (dayB days) a after).isSome = true then 0 else 2)]) := by
  refine CallsS.pure ?_
  have hm0 : 0 ≤ max after 0 ∧ max after 0 ≤ 1073741824 := by omega
  have hd0 : 0 ≤ max after 0 / 1440 ∧ max after 0 / 1440 ≤ 745655 := by omega
  refine enter Tryz.func84 Tryz.ntmps84 rfl rfl ?_
  refine SWP_seq (SWP_region (pI rfl rfl (pI rfl rfl (SL_nil (nx (SWP_seq (SWP_seq (SWP_region (pI rfl rfl ?_)))))))))
  refine pn rfl rfl (by omega) ?_
  refine pB rfl rfl (SL_yes rfl (pI rfl rfl (SL_yes rfl ?_)))
  refine pn rfl rfl (by omega) ?_
  refine pB rfl rfl (pB rfl rfl (SL_yes rfl (pI rfl rfl (SL_yes rfl ?_))))
  refine pn rfl rfl (by omega) ?_
  refine pB rfl rfl (pB rfl rfl (SL_yes rfl (pI rfl rfl (SL_yes rfl ?_))))
  refine pn rfl rfl (by omega) ?_
  refine pB rfl rfl (pB rfl rfl (SL_yes rfl (pI rfl rfl (SL_yes rfl ?_))))
  refine pn rfl rfl (by omega) ?_
  refine pB rfl rfl (pB rfl rfl (SL_yes rfl (pI rfl rfl (SL_yes rfl ?_))))
  refine pn rfl rfl (by omega) ?_
  refine pB rfl rfl (SL_nil (nx (SWP_cf rfl (SWP_skip (nx (SWP_seq (SWP_region (pI rfl rfl ?_))))))))
  refine pu (v := .int .i64 (max after 0)) rfl rfl ?_
  refine pqu rfl rfl (by omega) (show IntKind.i64.wrap ((max after 0).tdiv 1440) = max after 0 / 1440 by rw [Int.tdiv_eq_ediv_of_nonneg hm0.1, w64 (by omega) (by omega)]) rfl ?_
  refine pI rfl rfl (SL_nil (nx (SWP_seq (SWP_seq (SWP_region (pI rfl rfl (SL_nil (nx (SWP_block ?_)))))))))
  refine SWP_loop [6, 7, 8, 9, 35, 36, 37, 38, 39, 40, 41, 42, 43, 44, 45, 46, 47, 48, 49, 50, 51, 52, 53, 54, 55, 56, 57] [8, 35]
      (fun vs σ' m' => ∃ (k : Nat) (day : Int), vs = [.int .i64 day, .int .i64 (k : Nat)] ∧ k ≤ 8 ∧ 0 ≤ day ∧ day ≤ 745655 + k ∧ nextF (dayB days) a after = nextG (dayB days) a after (8 - k) day ∧ σ' = [] ∧ m = m')
      (fun vs => 8 - nOf (vs.getD 1 undef)) rfl ?_ ?_
  · exact ⟨0, _, rfl, by omega, hd0.1, by omega, rfl, rfl, rfl⟩
  intro u0 vs0 σ0 m0 hJ0 _
  obtain ⟨k, day, rfl, hk, hdy, hdz, hnx, rfl, rfl⟩ := hJ0
  refine SWP_seq (SWP_region ?_)
  refine pc rfl rfl (fun c36 => ?_) (fun c36 => ?_)
  · skip
    refine SL_nil (nx (SWP_seq (SWP_ct rfl (SWP_skip (nx (SWP_seq (SWP_block (SWP_seq (SWP_region (pI rfl rfl ?_))))))))))
    refine pw rfl rfl (w64 (by omega) (by omega)) ?_
    refine pI rfl rfl ?_
    refine pw rfl rfl (w64 (by omega) (by omega)) ?_
    refine pI rfl rfl (SL_nil (nx (SWP_seq (SWP_seq (SWP_region (pI rfl rfl ?_))))))
    refine pc rfl rfl (fun c42 => ?_) (fun c42 => ?_)
    · skip
      refine SL_nil (nx (SWP_ct rfl (SWP_exit (ne (bo rfl (ne (ne (be rfl (nx (SWP_seq (SWP_region ?_)))))))))))
      refine pI rfl rfl (pI rfl rfl (SL_nil (nx (SWP_ret ?_))))
      refine fin [_, _] ⟨rfl, rfl, trivial⟩ ?_
      have e : nextF (dayB days) a after = none := by rw [hnx, show 8 - k = (8 - (k + 1)) + 1 by omega]; exact nextG_n (by assumption)
      rw [e]; rfl
    refine SL_nil (nx (SWP_cf rfl (SWP_skip (nx (SWP_seq (SWP_seq (SWP_region (pI rfl rfl (pI rfl rfl ?_)))))))))
    refine pc rfl rfl (fun c45 => ?_) (fun c45 => ?_)
    · skip
      refine pB rfl rfl (SL_yes rfl (pI rfl rfl (SL_yes rfl (pI rfl rfl (SL_yes rfl ?_)))))
      refine SL_pcall rfl rfl cb115 (wdayI (by omega) (by omega)) rfl ?_
      refine SL_yes rfl ?_
      refine pshr (k := .i64) rfl rfl (by omega) rfl rfl ?_
      refine SL_yes rfl ?_
      refine pu (v := .int .i64 (bits .and .i64 (days.fdiv (2 ^ (min ((day + 5) % 7).toNat IntKind.i64.bits))) 1)) rfl rfl ?_
      rw [day_bit (by omega) hd.2 (by omega) (by omega)]
      refine SL_yes rfl ?_
      refine pc rfl rfl (fun c52 => ?_) (fun c52 => ?_)
      · skip
        refine pB rfl rfl (SL_nil (nx (SWP_ct rfl (SWP_seq (SWP_region (pI rfl rfl (pI rfl rfl (pI rfl rfl (SL_nil (nx (SWP_ret ?_)))))))))))
        refine nr (br (nr (nr (br (nr ?_)))))
        refine fin [_, _] ⟨rfl, rfl, trivial⟩ ?_
        have e : nextF (dayB days) a after = some (day * 1440 + a) := by rw [hnx, show 8 - k = (8 - (k + 1)) + 1 by omega]; exact nextG_y (by assumption) ⟨by assumption, ite_one.1 (by assumption)⟩
        rw [e]; rfl
      refine pB rfl rfl (SL_nil (nx (SWP_cf rfl (SWP_skip (nx (SWP_region (pI rfl rfl ?_)))))))
      refine pw rfl rfl (w64 (by omega) (by omega)) ?_
      refine pI rfl rfl (SL_nil (nb (nx (SWP_region ?_))))
      refine pw rfl rfl (w64 (by omega) (by omega)) ?_
      refine pI rfl rfl (SL_nil (nx ?_))
      refine ⟨by repeat (first | exact Under.upds rfl (Under.hav _ _ _) | exact Under.hav _ _ _ | refine Under.upd rfl ?_), ?_, ?_⟩
      · refine ⟨k + 1, day + 1, rfl, by omega, by omega, by omega, ?_, rfl, rfl⟩
        rw [hnx, show 8 - k = (8 - (k + 1)) + 1 by omega]
        exact nextG_s (by assumption) (fun hh => by first | exact absurd hh.1 (by assumption) | exact absurd (ite_one.2 hh.2) (by assumption))
      · simp only [L_vals, List.map, List.getD]; show 8 - (k + 1) < 8 - k; omega
    refine pB rfl rfl (SL_no rfl rfl (SL_no rfl rfl (SL_no rfl rfl (SL_no rfl rfl (SL_no rfl rfl (SL_no rfl rfl (pB rfl rfl (SL_nil (nx (SWP_cf rfl (SWP_skip ?_)))))))))))
    refine nx (SWP_region (pI rfl rfl ?_))
    refine pw rfl rfl (w64 (by omega) (by omega)) ?_
    refine pI rfl rfl (SL_nil (nb (nx (SWP_region ?_))))
    refine pw rfl rfl (w64 (by omega) (by omega)) ?_
    refine pI rfl rfl (SL_nil (nx ?_))
    refine ⟨by repeat (first | exact Under.upds rfl (Under.hav _ _ _) | exact Under.hav _ _ _ | refine Under.upd rfl ?_), ?_, ?_⟩
    · refine ⟨k + 1, day + 1, rfl, by omega, by omega, by omega, ?_, rfl, rfl⟩
      rw [hnx, show 8 - k = (8 - (k + 1)) + 1 by omega]
      exact nextG_s (by assumption) (fun hh => by first | exact absurd hh.1 (by assumption) | exact absurd (ite_one.2 hh.2) (by assumption))
    · simp only [L_vals, List.map, List.getD]; show 8 - (k + 1) < 8 - k; omega
  refine SL_nil (nx (SWP_seq (SWP_cf rfl (SWP_exit (ne (ne (be rfl (nx (SWP_seq (SWP_region (pI rfl rfl ?_)))))))))))
  refine pI rfl rfl (SL_nil (nx (SWP_ret ?_)))
  refine fin [_, _] ⟨rfl, rfl, trivial⟩ ?_
  have e : nextF (dayB days) a after = none := by rw [hnx, show 8 - k = 0 by omega]; rfl
  rw [e]; rfl
end Go.Proofs.YtlgoegjboabgfaaGreatDoor
namespace Go.Proofs.YtlgoegjboabgfaaGreatDoor
open Eng
theorem stepsF_one {b : Int → Bool} {a : Int} {k : Nat} {t : Int} (h : (nextF b a t).isSome = true) : stepsF b a (k + 1) t = stepsF b a k ((nextF b a t).getD 0) := by
  rw [stepsF]
  cases hn : nextF b a t with
  | none => rw [hn] at h; cases h
  | some t' => rfl
theorem stepsF_bad {b : Int → Bool} {a : Int} {k : Nat} {t : Int} (h : (nextF b a t).isSome = false) : stepsF b a (k + 1) t = none := by
  rw [stepsF]
  cases hn : nextF b a t with
  | none => rfl
  | some t' => rw [hn] at h; cases h
theorem nextF_get {b : Int → Bool} {a t : Int} (h : (nextF b a t).isSome = true) (h0 : 0 ≤ a) : -1 ≤ (nextF b a t).getD 0 ∧ (nextF b a t).getD 0 ≤ 1073741824 := by
  cases hn : nextF b a t with
  | none => rw [hn] at h; cases h
  | some t' =>
    obtain ⟨_, h2, q, h3, h4, _⟩ := nextF_some hn
    show -1 ≤ t' ∧ t' ≤ 1073741824
    omega
theorem errI {o : Option Int} : ((if o.isSome = true then 0 else 2 : Int) ≠ 0) ↔ o.isSome = false := by
  cases o with
  | none => exact ⟨fun _ => rfl, fun _ => by decide⟩
  | some x => exact ⟨fun h => absurd rfl h, fun h => by cases h⟩
set_option maxRecDepth 100000 in
theorem stepS {m : Mem} {g : Game} (hg : GameOk g) {t : Int} (ht : -1 ≤ t ∧ t ≤ 1073741824) (B2 B10 : Nat) : CallsS Tryz.prog 83 [.pointer (some ⟨B2, 0, none⟩), .pointer (some ⟨B10, 0, none⟩)].toArray [(B10, Cells 3 [.int .i64 t]), (B2, Cells 31 g.enc)] m fun r σ' m' => r = .int .i64 (if (nextF (dayB g.days) g.minute t).isSome = true then 0 else 2) ∧ σ' = [(B10, Cells 3 [.int .i64 ((nextF (dayB g.days) g.minute t).getD 0)]), (B2, Cells 31 g.enc)] ∧ m' = m := by
  refine enter Tryz.func83 Tryz.ntmps83 rfl rfl ?_
  refine SWP_seq (SWP_region (pI rfl rfl (SL_nil (nx (SWP_seq (SWP_region (pu rfl rfl ?_)))))))
  refine lw (v := .int .i64 _) B2 10 rfl rfl rfl rfl ?_
  refine pu rfl rfl ?_
  refine lw (v := .int .i64 _) B2 11 rfl rfl rfl rfl ?_
  refine lw (v := .int .i64 _) B10 0 rfl rfl rfl rfl ?_
  refine SL_pcall rfl rfl cb84 (nextI hg.tm.h1 ⟨hg.tm.h2.1, by have := hg.tm.h2; omega⟩ ht) rfl ?_
  refine pu rfl rfl (pI rfl rfl (pI rfl rfl (pI rfl rfl (pI rfl rfl (SL_nil (nx (SWP_seq (SWP_region (pI rfl rfl ?_)))))))))
  refine sw (v := .int .i64 _) B10 0 rfl rfl rfl rfl rfl rfl rfl ?_
  refine SL_nil (nx (SWP_seq (SWP_region (pI rfl rfl (pI rfl rfl (SL_nil (nx (SWP_ret ?_))))))))
  refine fin [_] ⟨rfl, trivial⟩ ?_
  exact ⟨rfl, rfl, rfl⟩
set_option maxRecDepth 100000 in
theorem drawI {m : Mem} {g : Game} (hin : g.In m) (n : Int) (hn : n ≤ 4611686018427387904) : PureCall Tryz.prog 50 [g.val, .int .i64 n] m (.tuple #[.int .i64 (drawE g n).1, .int .i64 (drawE g n).2]) := by
  refine CallsS.pure ?_
  dsimp only [Game.val]
  refine enter Tryz.func50 Tryz.ntmps50 rfl rfl ?_
  refine SWP_seq (SWP_region ?_)
  refine bx (v := .agg _) rfl rfl (fun B2 => ?_)
  refine pI rfl rfl (pI rfl rfl (SL_nil (nx (SWP_seq (SWP_seq (SWP_region ?_))))))
  refine lw (v := .agg _) B2 0 rfl rfl rfl rfl ?_
  refine SL_call rfl rfl cb42 (CallsS.frame0 (checkI hin)) rfl (fun v1_1 σ1_1 m1_1 hl1_1 hR1_1 => ?_)
  obtain ⟨σc, rfl, rfl, hm1_1, s0, rfl⟩ := hR1_1
  have hn1_1 := hm1_1.symm
  subst hn1_1
  rw [List.nil_append]
  refine pu rfl rfl (pI rfl rfl (pS rfl rfl (pI rfl rfl (pS rfl rfl (SL_nil (nx (SWP_seq (SWP_region (pI rfl rfl ?_)))))))))
  refine pc rfl rfl (fun c18 => ?_) (fun c18 => ?_)
  · skip
    refine SL_nil (nx (SWP_ct rfl (SWP_seq (SWP_region (pI rfl rfl (pI rfl rfl (pI rfl rfl (SL_nil (nx (SWP_ret (nr ?_)))))))))))
    refine fin [_, _] ⟨rfl, rfl, trivial⟩ ?_
    have e : drawE g n = (0, gameErr g) := if_pos (by assumption)
    rw [e]; rfl
  refine SL_nil (nx (SWP_cf rfl (SWP_skip (nx (SWP_seq (SWP_seq ?_))))))
  have hz : gameErr g = 0 := Classical.not_not.1 (by assumption)
  have hg := gameOk hz
  have hd := hg.tm.h1
  have hp1 := pop_pos hd.1 hd.2
  have hp7 := pop_le (days := g.days) hd.1 hd.2
  refine SWP_region (pI rfl rfl ?_)
  refine pc rfl rfl (fun c21 => ?_) (fun c21 => ?_)
  · skip
    refine SL_nil (nx (SWP_ct rfl (SWP_seq (SWP_region (pI rfl rfl (pI rfl rfl (SL_nil (nx (SWP_ret (nr ?_))))))))))
    refine fin [_, _] ⟨rfl, rfl, trivial⟩ ?_
    have e : drawE g n = (0, 2) := by
      unfold drawE
      rw [if_neg (fun hh => hh hz), show drawF (dayB g.days) g.minute n = none from if_pos (by omega)]
    rw [e]; rfl
  refine SL_nil (nx (SWP_cf rfl (SWP_skip (nx (SWP_seq (SWP_region (pu rfl rfl ?_)))))))
  refine lw (v := .int .i64 _) B2 10 rfl rfl rfl rfl ?_
  refine pw rfl rfl (by rw [wrapU]; omega) ?_
  refine SL_pcall rfl rfl cb82 (onesI (by omega) (by omega)) rfl ?_
  refine pI rfl rfl (SL_nil (nx (SWP_seq ?_)))
  have hq0 : 0 ≤ (n - 1) / popF (dayB g.days) := Int.ediv_nonneg (by omega) (by omega)
  have hq1 : (n - 1) / popF (dayB g.days) ≤ n - 1 := Int.ediv_le_self _ (by omega)
  have hr0 : 0 ≤ (n - 1) % popF (dayB g.days) := Int.emod_nonneg _ (by omega)
  have hr1 : (n - 1) % popF (dayB g.days) < popF (dayB g.days) := Int.emod_lt_of_pos _ (by omega)
  have hde : drawE g n = match drawF (dayB g.days) g.minute n with
    | none => (0, 2)
    | some T => (T, 0) := if_neg (fun hh => hh hz)
  have hdf : drawF (dayB g.days) g.minute n = if 106522 < (n - 1) / popF (dayB g.days) then none else stepsF (dayB g.days) g.minute ((n - 1) % popF (dayB g.days) + 1).toNat ((n - 1) / popF (dayB g.days) * 10080 - 1) := if_neg (by omega)
  refine SWP_region (pI rfl rfl ?_)
  refine pw rfl rfl (w64 (by omega) (by omega)) ?_
  refine pI rfl rfl ?_
  refine pqu rfl rfl (by omega) (show IntKind.i64.wrap ((n - 1).tdiv (popF (dayB g.days))) = (n - 1) / popF (dayB g.days) by rw [Int.tdiv_eq_ediv_of_nonneg (by omega), w64 (by omega) (by omega)]) rfl ?_
  refine pI rfl rfl (SL_nil (nx (SWP_seq (SWP_seq (SWP_region (pI rfl rfl ?_))))))
  refine pc rfl rfl (fun c31 => ?_) (fun c31 => ?_)
  · skip
    refine SL_nil (nx (SWP_ct rfl (SWP_seq (SWP_region (pI rfl rfl (pI rfl rfl (SL_nil (nx (SWP_ret (nr ?_))))))))))
    refine fin [_, _] ⟨rfl, rfl, trivial⟩ ?_
    have e : drawE g n = (0, 2) := by rw [hde, hdf, if_pos (by omega)]
    rw [e]; rfl
  refine SL_nil (nx (SWP_cf rfl (SWP_skip (nx (SWP_seq (SWP_region (pI rfl rfl ?_)))))))
  refine pw rfl rfl (w64 (by omega) (by omega)) ?_
  refine pw rfl rfl (w64 (by omega) (by omega)) ?_
  refine al rfl rfl (fun B10 => ?_)
  refine sw (v := .int .i64 _) B10 0 rfl rfl rfl rfl rfl rfl rfl ?_
  refine SL_nil (nx (SWP_seq (SWP_region (pu rfl rfl (pu rfl rfl (SL_nil (nx (SWP_seq (SWP_seq (SWP_region (pI rfl rfl ?_)))))))))))
  refine pw rfl rfl (w64 (by omega) (by omega)) ?_
  refine pI rfl rfl ?_
  refine prm rfl rfl (by omega) (Int.tmod_eq_emod_of_nonneg (by omega)) rfl ?_
  refine pw rfl rfl (w64 (by omega) (by omega)) ?_
  obtain ⟨cn, hcn⟩ : ∃ cn : Nat, (n - 1) % popF (dayB g.days) + 1 = cn := ⟨((n - 1) % popF (dayB g.days) + 1).toNat, by omega⟩
  rw [hcn]
  have hcn2 : ((n - 1) % popF (dayB g.days) + 1).toNat = cn := by rw [hcn]; rfl
  refine pI rfl rfl (SL_nil (nx (SWP_block ?_)))
  refine SWP_loop [4, 5, 41, 42, 43, 44, 45, 46] [41]
      (fun vs σ' m' => ∃ (i : Nat) (t : Int), vs = [.int .i64 (i : Nat)] ∧ i ≤ cn ∧ -1 ≤ t ∧ t ≤ 1073741824 ∧ stepsF (dayB g.days) g.minute cn ((n - 1) / popF (dayB g.days) * 10080 - 1) = stepsF (dayB g.days) g.minute (cn - i) t ∧ σ' = [(B10, Cells 3 [.int .i64 t]), (B2, Cells 31 g.enc)] ∧ m = m')
      (fun vs => cn - nOf (vs.getD 0 undef)) rfl ?_ ?_
  · exact ⟨0, _, rfl, by omega, by omega, by omega, rfl, rfl, rfl⟩
  intro u0 vs0 σ0 m0 hJ0 _
  obtain ⟨i, t, rfl, hi, ht0, ht1, hst, rfl, rfl⟩ := hJ0
  refine SWP_seq (SWP_region ?_)
  refine pc rfl rfl (fun c42 => ?_) (fun c42 => ?_)
  · skip
    refine SL_nil (nx (SWP_seq (SWP_ct rfl (SWP_skip (nx (SWP_seq (SWP_block (SWP_seq (SWP_region (pu rfl rfl ?_))))))))))
    refine SL_callC rfl rfl cb83 (stepS hg ⟨ht0, ht1⟩ B2 B10) rfl rfl (fun v14_1 σ14_1 m14_1 hl14_1 hR14_1 => ?_)
    obtain ⟨rfl, rfl, hm14_1⟩ := hR14_1
    have hn14_1 := hm14_1.symm
    subst hn14_1
    refine pc rfl rfl (fun c45 => ?_) (fun c45 => ?_)
    · skip
      refine SL_nil (nx (SWP_ct rfl (SWP_seq (SWP_region (pI rfl rfl (pI rfl rfl (SL_nil (nx (SWP_ret (br (nr ?_)))))))))))
      refine nr (br (nr ?_))
      refine fin [_, _] ⟨rfl, rfl, trivial⟩ ?_
      have e : drawE g n = (0, 2) := by rw [hde, hdf, if_neg (by omega), hcn2, hst, show cn - i = (cn - (i + 1)) + 1 by omega, stepsF_bad (errI.1 (by assumption))]
      rw [e]; rfl
    refine SL_nil (nx (SWP_cf rfl (SWP_skip (nb (nx (SWP_region ?_))))))
    refine pw rfl rfl (w64 (by omega) (by omega)) ?_
    refine pI rfl rfl (SL_nil (nx ?_))
    refine ⟨by repeat (first | exact Under.upds rfl (Under.hav _ _ _) | exact Under.hav _ _ _ | refine Under.upd rfl ?_), ?_, ?_⟩
    · have hsm : (nextF (dayB g.days) g.minute t).isSome = true := by
        cases hh : (nextF (dayB g.days) g.minute t).isSome with
        | true => rfl
        | false => exact absurd (errI.2 hh) (by assumption)
      have hrg := nextF_get hsm hg.tm.h2.1
      refine ⟨i + 1, _, rfl, by omega, hrg.1, hrg.2, ?_, rfl, rfl⟩
      rw [hst, show cn - i = (cn - (i + 1)) + 1 by omega, stepsF_one hsm]
    · simp only [L_vals, List.map, List.getD]; show cn - (i + 1) < cn - i; omega
  refine SL_nil (nx (SWP_seq (SWP_cf rfl (SWP_exit (ne (ne (be rfl (nx (SWP_seq (SWP_region ?_))))))))))
  refine lw (v := .int .i64 _) B10 0 rfl rfl rfl rfl ?_
  refine pI rfl rfl (pI rfl rfl (SL_nil (nx (SWP_ret ?_))))
  refine fin [_, _] ⟨rfl, rfl, trivial⟩ ?_
  have e : drawE g n = (t, 0) := by rw [hde, hdf, if_neg (by omega), hcn2, hst, show cn - i = 0 by omega]; rfl
  rw [e]; rfl
set_option maxRecDepth 100000 in
theorem closeI {m : Mem} {g : Game} (hin : g.In m) (n : Int) (hn : n ≤ 4611686018427387904) : PureCall Tryz.prog 16 [g.val, .int .i64 n] m (.tuple #[.int .i64 (closeE g n).1, .int .i64 (closeE g n).2]) := by
  refine CallsS.pure ?_
  dsimp only [Game.val]
  refine enter Tryz.func16 Tryz.ntmps16 rfl rfl ?_
  refine SWP_seq (SWP_region ?_)
  refine bx (v := .agg _) rfl rfl (fun B2 => ?_)
  refine pI rfl rfl (pI rfl rfl (SL_nil (nx (SWP_seq (SWP_region ?_)))))
  refine lw (v := .agg _) B2 0 rfl rfl rfl rfl ?_
  refine pI rfl rfl ?_
  refine SL_pcall rfl rfl cb50 (drawI hin n hn) rfl ?_
  refine pu rfl rfl (pI rfl rfl (pI rfl rfl (pI rfl rfl (pI rfl rfl (SL_nil (nx (SWP_seq (SWP_seq (SWP_region (pI rfl rfl ?_))))))))))
  refine pc rfl rfl (fun c15 => ?_) (fun c15 => ?_)
  · skip
    refine SL_nil (nx (SWP_ct rfl (SWP_seq (SWP_region (pI rfl rfl (pI rfl rfl (pI rfl rfl (SL_nil (nx (SWP_ret (nr ?_)))))))))))
    refine fin [_, _] ⟨rfl, rfl, trivial⟩ ?_
    have e : closeE g n = (0, (drawE g n).2) := if_pos (by assumption)
    rw [e]
    rfl
  refine SL_nil (nx (SWP_cf rfl (SWP_skip (nx (SWP_seq ?_)))))
  have hz : (drawE g n).2 = 0 := Classical.not_not.1 (by assumption)
  have hr := drawE_rng hz
  have hc := (gameOk (drawE_some hz).1).tm.h3
  refine SWP_region (pI rfl rfl (pu rfl rfl ?_))
  refine lw (v := .int .i64 _) B2 12 rfl rfl rfl rfl ?_
  refine pw rfl rfl (w64 (by omega) (by omega)) ?_
  refine pI rfl rfl (pI rfl rfl (SL_nil (nx (SWP_ret ?_))))
  refine fin [_, _] ⟨rfl, rfl, trivial⟩ ?_
  have e : closeE g n = ((drawE g n).1 - g.close, 0) := if_neg (fun hh => hh hz)
  rw [e]
  rfl
end Go.Proofs.YtlgoegjboabgfaaGreatDoor
namespace Go.Proofs.YtlgoegjboabgfaaGreatDoor
open Eng
def psum (f : Int → Int) : Nat → Int
  | 0 => 0
  | n + 1 => psum f n + f (n : Nat)
theorem psum7 (f : Int → Int) : psum f 7 = sum7 f := by
  unfold sum7
  show 0 + f ((0 : Nat) : Int) + f ((1 : Nat) : Int) + f ((2 : Nat) : Int) + f ((3 : Nat) : Int) + f ((4 : Nat) : Int) + f ((5 : Nat) : Int) + f ((6 : Nat) : Int) = _
  rw [Int.zero_add]
  rfl
def fU (g : Game) (t d : Int) : Int := if dayB g.days ((5 + d) % 7) = true ∧ d * 1440 + g.minute ≤ t % 10080 then 1 else 0
theorem fU_rng (g : Game) (t d : Int) : 0 ≤ fU g t d ∧ fU g t d ≤ 1 := by unfold fU; split <;> omega
theorem psumU (g : Game) (t : Int) : ∀ n : Nat, 0 ≤ psum (fU g t) n ∧ psum (fU g t) n ≤ n
  | 0 => ⟨Int.le_refl _, Int.le_refl _⟩
  | n + 1 => by
    have ih := psumU g t n
    have h := fU_rng g t (n : Nat)
    rw [psum]
    omega
theorem until_eq (g : Game) (t : Int) : untilF (dayB g.days) g.minute t = t / 10080 * popF (dayB g.days) + psum (fU g t) 7 := by rw [psum7]; rfl
theorem until_rng {g : Game} (hg : GameOk g) {t : Int} (h0 : 0 ≤ t) (h1 : t ≤ 1073743264) : 0 ≤ untilF (dayB g.days) g.minute t ∧ untilF (dayB g.days) g.minute t ≤ 745668 := by
  have hp1 := pop_pos hg.tm.h1.1 hg.tm.h1.2
  have hp7 := pop_le (days := g.days) hg.tm.h1.1 hg.tm.h1.2
  have hs := psumU g t 7
  rw [until_eq]
  have hq0 : 0 ≤ t / 10080 := Int.ediv_nonneg h0 (by decide)
  have hq1 : t / 10080 ≤ 106522 := by omega
  have hm : 0 ≤ t / 10080 * popF (dayB g.days) ∧ t / 10080 * popF (dayB g.days) ≤ 745654 := ⟨Int.mul_nonneg hq0 (by omega), Int.le_trans (Int.mul_le_mul hq1 hp7 (by omega) (by decide)) (by decide)⟩
  omega
set_option maxRecDepth 100000 in
theorem untilI {m : Mem} {g : Game} (hin : g.In m) (hg : GameOk g) {t : Int} (h0 : 0 ≤ t) (h1 : t ≤ 1073743264) : PureCall Tryz.prog 138 [g.val, .int .i64 t] m (.int .i64 (untilF (dayB g.days) g.minute t)) := by
  refine CallsS.pure ?_
  dsimp only [Game.val]
  have hd := hg.tm.h1
  have hmn := hg.tm.h2
  have hp1 := pop_pos hd.1 hd.2
  have hp7 := pop_le (days := g.days) hd.1 hd.2
  have hq0 : 0 ≤ t / 10080 := Int.ediv_nonneg h0 (by decide)
  have hq1 : t / 10080 ≤ 106522 := by omega
  have hqm : 0 ≤ t / 10080 * popF (dayB g.days) ∧ t / 10080 * popF (dayB g.days) ≤ 745654 := ⟨Int.mul_nonneg hq0 (by omega), Int.le_trans (Int.mul_le_mul hq1 hp7 (by omega) (by decide)) (by decide)⟩
  refine enter Tryz.func138 Tryz.ntmps138 rfl rfl ?_
  refine SWP_seq (SWP_region ?_)
  refine bx (v := .agg _) rfl rfl (fun B2 => ?_)
  refine pI rfl rfl (SL_nil (nx (SWP_seq (SWP_region (pI rfl rfl ?_)))))
  refine pqu rfl rfl (by omega) (show IntKind.i64.wrap (t.tdiv 10080) = t / 10080 by rw [Int.tdiv_eq_ediv_of_nonneg h0, w64 (by omega) (by omega)]) rfl ?_
  refine pu rfl rfl ?_
  refine lw (v := .int .i64 _) B2 10 rfl rfl rfl rfl ?_
  refine pw rfl rfl (by rw [wrapU]; omega) ?_
  refine SL_pcall rfl rfl cb82 (onesI (by omega) (by omega)) rfl ?_
  refine pw rfl rfl (w64 (by omega) (by omega)) ?_
  refine pI rfl rfl (SL_nil (nx (SWP_seq (SWP_seq (SWP_region (pI rfl rfl (SL_nil (nx (SWP_block ?_)))))))))
  refine SWP_loop [5, 6, 7, 15, 16, 17, 18, 19, 20, 21, 22, 23, 24, 25, 26, 27, 28, 29, 30, 31, 32, 33, 34, 35, 36, 37, 38, 39] [5, 15]
      (fun vs σ' m' => ∃ (d : Nat), vs = [.int .i64 (t / 10080 * popF (dayB g.days) + psum (fU g t) d), .int .i64 (d : Nat)] ∧ d ≤ 7 ∧ σ' = [(B2, Cells 31 g.enc)] ∧ m = m')
      (fun vs => 7 - nOf (vs.getD 1 undef)) rfl ?_ ?_
  · refine ⟨0, ?_, by omega, rfl, rfl⟩
    rw [show psum (fU g t) 0 = 0 from rfl, Int.add_zero]
    rfl
  intro u0 vs0 σ0 m0 hJ0 _
  obtain ⟨d, rfl, hd7, rfl, rfl⟩ := hJ0
  have hps := psumU g t d
  refine SWP_seq (SWP_region ?_)
  refine pc rfl rfl (fun c16 => ?_) (fun c16 => ?_)
  · skip
    refine SL_nil (nx (SWP_seq (SWP_ct rfl (SWP_skip (nx (SWP_seq (SWP_block (SWP_seq (SWP_region (pI rfl rfl (pI rfl rfl ?_)))))))))))
    refine SL_nil (nx (SWP_seq (SWP_region (pI rfl rfl ?_))))
    refine pw rfl rfl (w64 (by omega) (by omega)) ?_
    refine prm rfl rfl (by omega) (Int.tmod_eq_emod_of_nonneg (by omega)) rfl ?_
    refine pI rfl rfl (SL_nil (nx (SWP_seq (SWP_region (pu rfl rfl ?_)))))
    refine lw (v := .int .i64 _) B2 10 rfl rfl rfl rfl ?_
    refine pI rfl rfl ?_
    refine pshr (k := .i64) rfl rfl (by omega) rfl rfl ?_
    refine pu (v := .int .i64 (bits .and .i64 (g.days.fdiv (2 ^ (min ((5 + ((d : Nat) : Int)) % 7).toNat IntKind.i64.bits))) 1)) rfl rfl ?_
    rw [day_bit (by omega) hd.2 (by omega) (by omega)]
    refine pc rfl rfl (fun c26 => ?_) (fun c26 => ?_)
    · skip
      refine pB rfl rfl (SL_yes rfl (pI rfl rfl (SL_yes rfl ?_)))
      refine pw rfl rfl (w64 (by omega) (by omega)) ?_
      refine SL_yes rfl (pu rfl rfl (SL_yes rfl ?_))
      refine lw (v := .int .i64 _) B2 11 rfl rfl rfl rfl ?_
      refine SL_yes rfl ?_
      refine pw rfl rfl (w64 (by omega) (by omega)) ?_
      refine SL_yes rfl (pI rfl rfl (SL_yes rfl ?_))
      refine prm rfl rfl (by omega) (Int.tmod_eq_emod_of_nonneg h0) rfl ?_
      refine SL_yes rfl ?_
      refine pc rfl rfl (fun c35 => ?_) (fun c35 => ?_)
      · skip
        refine pB rfl rfl (SL_nil (nx (SWP_ct rfl (SWP_region (pI rfl rfl ?_)))))
        refine pw rfl rfl (w64 (by omega) (by omega)) ?_
        refine pI rfl rfl (SL_nil (nb (nx (SWP_region ?_))))
        refine pw rfl rfl (w64 (by omega) (by omega)) ?_
        refine pI rfl rfl (SL_nil (nx ?_))
        refine ⟨by repeat (first | exact Under.upds rfl (Under.hav _ _ _) | exact Under.hav _ _ _ | refine Under.upd rfl ?_), ?_, ?_⟩
        · refine ⟨d + 1, ?_, by omega, rfl, rfl⟩
          rw [show psum (fU g t) (d + 1) = psum (fU g t) d + fU g t (d : Nat) from rfl]
          rw [show fU g t (d : Nat) = 1 from if_pos ⟨ite_one.1 (by assumption), by assumption⟩, ← Int.add_assoc]; rfl
        · simp only [L_vals, List.map, List.getD]; show 7 - (d + 1) < 7 - d; omega
      refine pB rfl rfl (SL_nil (nx (SWP_cf rfl (SWP_skip (nb (nx (SWP_region ?_)))))))
      refine pw rfl rfl (w64 (by omega) (by omega)) ?_
      refine pI rfl rfl (SL_nil (nx ?_))
      refine ⟨by repeat (first | exact Under.upds rfl (Under.hav _ _ _) | exact Under.hav _ _ _ | refine Under.upd rfl ?_), ?_, ?_⟩
      · refine ⟨d + 1, ?_, by omega, rfl, rfl⟩
        rw [show psum (fU g t) (d + 1) = psum (fU g t) d + fU g t (d : Nat) from rfl]
        rw [show fU g t (d : Nat) = 0 from if_neg (fun hh => by first | exact absurd hh.2 (by assumption) | exact absurd (ite_one.2 hh.1) (by assumption)), Int.add_zero]; rfl
      · simp only [L_vals, List.map, List.getD]; show 7 - (d + 1) < 7 - d; omega
    refine pB rfl rfl (SL_no rfl rfl (SL_no rfl rfl (SL_no rfl rfl (SL_no rfl rfl (SL_no rfl rfl (SL_no rfl rfl (SL_no rfl rfl (SL_no rfl rfl (pB rfl rfl (SL_nil (nx ?_)))))))))))
    refine SWP_cf rfl (SWP_skip (nb (nx (SWP_region ?_))))
    refine pw rfl rfl (w64 (by omega) (by omega)) ?_
    refine pI rfl rfl (SL_nil (nx ?_))
    refine ⟨by repeat (first | exact Under.upds rfl (Under.hav _ _ _) | exact Under.hav _ _ _ | refine Under.upd rfl ?_), ?_, ?_⟩
    · refine ⟨d + 1, ?_, by omega, rfl, rfl⟩
      rw [show psum (fU g t) (d + 1) = psum (fU g t) d + fU g t (d : Nat) from rfl]
      rw [show fU g t (d : Nat) = 0 from if_neg (fun hh => by first | exact absurd hh.2 (by assumption) | exact absurd (ite_one.2 hh.1) (by assumption)), Int.add_zero]; rfl
    · simp only [L_vals, List.map, List.getD]; show 7 - (d + 1) < 7 - d; omega
  refine SL_nil (nx (SWP_seq (SWP_cf rfl (SWP_exit (ne (ne (be rfl (nx (SWP_seq (SWP_region (pI rfl rfl ?_)))))))))))
  refine pI rfl rfl (SL_nil (nx (SWP_ret ?_)))
  refine fin [_] ⟨rfl, trivial⟩ ?_
  obtain rfl : d = 7 := by omega
  rw [until_eq]
  rfl
set_option maxRecDepth 100000 in
theorem openI {m : Mem} {g : Game} (hin : g.In m) (t : Int) : PureCall Tryz.prog 97 [g.val, .int .i64 t] m (.tuple #[.int .i64 (openE g t).1, .int .i64 (openE g t).2]) := by
  refine CallsS.pure ?_
  dsimp only [Game.val]
  refine enter Tryz.func97 Tryz.ntmps97 rfl rfl ?_
  refine SWP_seq (SWP_region ?_)
  refine bx (v := .agg _) rfl rfl (fun B2 => ?_)
  refine pI rfl rfl (pI rfl rfl (SL_nil (nx (SWP_seq (SWP_seq (SWP_region ?_))))))
  refine lw (v := .agg _) B2 0 rfl rfl rfl rfl ?_
  refine SL_call rfl rfl cb42 (CallsS.frame0 (checkI hin)) rfl (fun v1_1 σ1_1 m1_1 hl1_1 hR1_1 => ?_)
  obtain ⟨σc, rfl, rfl, hm1_1, s0, rfl⟩ := hR1_1
  have hn1_1 := hm1_1.symm
  subst hn1_1
  rw [List.nil_append]
  refine pu rfl rfl (pI rfl rfl (pS rfl rfl (pI rfl rfl (pS rfl rfl (SL_nil (nx (SWP_seq (SWP_region (pI rfl rfl ?_)))))))))
  refine pc rfl rfl (fun c17 => ?_) (fun c17 => ?_)
  · skip
    refine SL_nil (nx (SWP_ct rfl (SWP_seq (SWP_region (pI rfl rfl (pI rfl rfl (pI rfl rfl (SL_nil (nx (SWP_ret (nr ?_)))))))))))
    refine fin [_, _] ⟨rfl, rfl, trivial⟩ ?_
    have e : openE g t = (0, gameErr g) := if_pos (by assumption)
    rw [e]; rfl
  refine SL_nil (nx (SWP_cf rfl (SWP_skip (nx (SWP_seq (SWP_seq ?_))))))
  have hz : gameErr g = 0 := Classical.not_not.1 (by assumption)
  have hg := gameOk hz
  have hcl := hg.tm.h3
  refine SWP_region (pI rfl rfl ?_)
  refine pc rfl rfl (fun c20 => ?_) (fun c20 => ?_)
  · skip
    refine pB rfl rfl (SL_no rfl rfl (SL_no rfl rfl (pB rfl rfl (SL_nil (nx (SWP_ct rfl (SWP_seq (SWP_region (pI rfl rfl (pI rfl rfl (SL_nil ?_)))))))))))
    refine nx (SWP_ret (nr ?_))
    refine fin [_, _] ⟨rfl, rfl, trivial⟩ ?_
    have e : openE g t = (0, 2) := (if_neg (fun hh => hh hz)).trans (if_pos (by omega))
    rw [e]; rfl
  refine pB rfl rfl (SL_yes rfl (pI rfl rfl (SL_yes rfl ?_)))
  refine pc rfl rfl (fun c23 => ?_) (fun c23 => ?_)
  · skip
    refine pB rfl rfl (SL_nil (nx (SWP_ct rfl (SWP_seq (SWP_region (pI rfl rfl (pI rfl rfl (SL_nil (nx (SWP_ret (nr ?_)))))))))))
    refine fin [_, _] ⟨rfl, rfl, trivial⟩ ?_
    have e : openE g t = (0, 2) := (if_neg (fun hh => hh hz)).trans (if_pos (by omega))
    rw [e]; rfl
  refine pB rfl rfl (SL_nil (nx (SWP_cf rfl (SWP_skip (nx (SWP_seq ?_))))))
  have hur := until_rng hg (t := t + g.close) (by omega) (by omega)
  have hnn : nextN g t = untilF (dayB g.days) g.minute (t + g.close) + 1 := rfl
  refine SWP_region ?_
  refine lw (v := .agg _) B2 0 rfl rfl rfl rfl ?_
  refine pI rfl rfl (pu rfl rfl ?_)
  refine lw (v := .int .i64 _) B2 12 rfl rfl rfl rfl ?_
  refine pw rfl rfl (w64 (by omega) (by omega)) ?_
  refine SL_pcall rfl rfl cb138 (untilI hin hg (t := t + g.close) (by omega) (by omega)) rfl ?_
  refine pw rfl rfl (w64 (by omega) (by omega)) ?_
  rw [← hnn]
  refine pI rfl rfl (SL_nil (nx (SWP_seq (SWP_seq (SWP_region ?_)))))
  refine lw (v := .agg _) B2 0 rfl rfl rfl rfl ?_
  refine pI rfl rfl ?_
  refine SL_pcall rfl rfl cb50 (drawI hin (nextN g t) (by omega)) rfl ?_
  refine pu rfl rfl (pI rfl rfl (pI rfl rfl (pI rfl rfl (pI rfl rfl (SL_nil (nx (SWP_seq (SWP_region (pI rfl rfl ?_)))))))))
  refine pc rfl rfl (fun c39 => ?_) (fun c39 => ?_)
  · skip
    refine SL_nil (nx (SWP_ct rfl (SWP_seq (SWP_region (pI rfl rfl (pI rfl rfl (pI rfl rfl (SL_nil (nx (SWP_ret (nr ?_)))))))))))
    refine fin [_, _] ⟨rfl, rfl, trivial⟩ ?_
    have e : openE g t = (0, (drawE g (nextN g t)).2) := (if_neg (fun hh => hh hz)).trans ((if_neg (by omega)).trans (if_pos (by assumption)))
    rw [e]; rfl
  refine SL_nil (nx (SWP_cf rfl (SWP_skip (nx (SWP_seq (SWP_region (pI rfl rfl (pI rfl rfl (pI rfl rfl (SL_nil (nx ?_)))))))))))
  refine SWP_ret ?_
  refine fin [_, _] ⟨rfl, rfl, trivial⟩ ?_
  have e : openE g t = (nextN g t, 0) := (if_neg (fun hh => hh hz)).trans ((if_neg (by omega)).trans (if_neg (by assumption)))
  rw [e]; rfl
end Go.Proofs.YtlgoegjboabgfaaGreatDoor
namespace Go.Proofs.YtlgoegjboabgfaaGreatDoor
open Eng
def Addon.norm (a : Addon) : Addon := ⟨a.name, a.kind, a.price, none, 0, a.factors, a.digits, none, 0, a.prizes⟩
def Game.norm (g : Game) : Game := { g with aa := none, ac := 0, addons := g.addons.map Addon.norm, ta := none, tc := 0 }
theorem addonsFrom_norm : ∀ (l pre : List Addon), addonsFrom (pre.map Addon.norm) (l.map Addon.norm) = addonsFrom pre l
  | [], _ => rfl
  | a :: l, pre => by
    have ih := addonsFrom_norm l (pre ++ [a])
    rw [List.map_append] at ih
    have e : (∃ b ∈ pre.map Addon.norm, b.name = a.norm.name ∨ b.kind = a.norm.kind) ↔ (∃ b ∈ pre, b.name = a.name ∨ b.kind = a.kind) := by
      constructor
      · rintro ⟨b, hb, h⟩
        obtain ⟨c, hc, rfl⟩ := List.mem_map.1 hb
        exact ⟨c, hc, h⟩
      · rintro ⟨b, hb, h⟩
        exact ⟨b.norm, List.mem_map.2 ⟨b, hb, rfl⟩, h⟩
    rw [List.map_cons, addonsFrom, addonsFrom, show addonErr a.norm = addonErr a from rfl]
    by_cases h1 : addonErr a ≠ 0
    · rw [if_pos h1, if_pos h1]
    · rw [if_neg h1, if_neg h1]
      by_cases h2 : ∃ b ∈ pre, b.name = a.name ∨ b.kind = a.kind
      · rw [if_pos h2, if_pos (e.2 h2)]
      · rw [if_neg h2, if_neg (fun h => h2 (e.1 h))]
        exact ih
theorem addonsErr_norm (l : List Addon) : addonsErr (l.map Addon.norm) = addonsErr l := by
  have h := addonsFrom_norm l []
  unfold addonsErr
  rw [List.length_map]
  exact congrArg (fun z => if 4 < l.length then (3 : Int) else z) h
theorem tiersFrom_norm (g : Game) : ∀ (l pre : List Tier), tiersFrom g.norm pre l = tiersFrom g pre l
  | [], _ => rfl
  | t :: l, pre => by
    rw [tiersFrom, tiersFrom, tiersFrom_norm g l (pre ++ [t])]
    rfl
theorem mxOk_norm (g : Game) : MxOk g.norm ↔ MxOk g := ⟨fun h => ⟨h.h1, h.h2, h.h3, h.h4, h.h5, h.h6, h.h7, h.h8, h.h9, h.h10, h.h11, h.h12, h.h13, h.h14, h.h15, h.h16⟩, fun h => ⟨h.h1, h.h2, h.h3, h.h4, h.h5, h.h6, h.h7, h.h8, h.h9, h.h10, h.h11, h.h12, h.h13, h.h14, h.h15, h.h16⟩⟩
theorem tmOk_norm (g : Game) : TmOk g.norm ↔ TmOk g := ⟨fun h => ⟨h.h1, h.h2, h.h3, h.h4, h.h5, h.h6, h.h7, h.h8, h.h9, h.h10⟩, fun h => ⟨h.h1, h.h2, h.h3, h.h4, h.h5, h.h6, h.h7, h.h8, h.h9, h.h10⟩⟩
theorem tiersErr_norm (g : Game) : tiersErr g.norm = tiersErr g := by
  unfold tiersErr
  exact congrArg (fun z => if ¬ (1 ≤ g.tiers.length ∧ g.tiers.length ≤ 12) then (3 : Int) else z) (tiersFrom_norm g g.tiers [])
theorem gameErr_norm (g : Game) : gameErr g.norm = gameErr g := by
  have e1 : (MxOk g.norm ∧ TmOk g.norm) = (MxOk g ∧ TmOk g) := propext (and_congr (mxOk_norm g) (tmOk_norm g))
  have e2 : addonsErr g.norm.addons = addonsErr g.addons := addonsErr_norm g.addons
  unfold gameErr
  rw [e1, e2, tiersErr_norm]
  rfl
theorem gameErr_same {g g' : Game} (h : g'.norm = g.norm) : gameErr g' = gameErr g := by rw [← gameErr_norm g', h, gameErr_norm]
def gameF : List Game → ByteArray → Option Game
  | [], _ => none
  | g :: l, n => if g.name = n then some g else gameF l n
theorem gameF_some : ∀ {l : List Game} {n : ByteArray} {g : Game}, gameF l n = some g → g ∈ l ∧ g.name = n
  | [], _, _, h => by cases h
  | x :: l, n, g, h => by
    unfold gameF at h
    split at h
    · rename_i hx
      cases h
      exact ⟨List.mem_cons_self .., hx⟩
    · obtain ⟨h1, h2⟩ := gameF_some h
      exact ⟨List.mem_cons_of_mem _ h1, h2⟩
noncomputable def offerE (g : Game) (k : BetM) (t : Int) : Int :=
  if (openE g t).2 ≠ 0 then (openE g t).2 else if (drawE g ((openE g t).1 + k.2.2.1 - 1)).2 ≠ 0 then (drawE g ((openE g t).1 + k.2.2.1 - 1)).2 else (priceE g (zBet k)).2
theorem offerE_zero {g : Game} {k : BetM} {t : Int} (h : offerE g k t = 0) : (openE g t).2 = 0 ∧ (drawE g ((openE g t).1 + k.2.2.1 - 1)).2 = 0 ∧ (priceE g (zBet k)).2 = 0 := by
  unfold offerE at h
  by_cases h1 : (openE g t).2 ≠ 0
  · rw [if_pos h1] at h; exact absurd h h1
  rw [if_neg h1] at h
  by_cases h2 : (drawE g ((openE g t).1 + k.2.2.1 - 1)).2 ≠ 0
  · rw [if_pos h2] at h; exact absurd h h2
  rw [if_neg h2] at h
  exact ⟨Classical.not_not.1 h1, Classical.not_not.1 h2, h⟩
noncomputable def draftE (L : List Game) (n : ByteArray) (l : List UInt8) (t : Int) : Int :=
  match gameF L n with
  | none => 5
  | some g => if (parseO g l).2.1 ≠ 0 then (parseO g l).2.1 else offerE g (parseO g l).1 t
theorem draftE_none {L : List Game} {n : ByteArray} (h : gameF L n = none) (l : List UInt8) (t : Int) : draftE L n l t = 5 := by unfold draftE; rw [h]
theorem draftE_some {L : List Game} {n : ByteArray} {g : Game} (h : gameF L n = some g) (l : List UInt8) (t : Int) : draftE L n l t = if (parseO g l).2.1 ≠ 0 then (parseO g l).2.1 else offerE g (parseO g l).1 t := by unfold draftE; rw [h]
theorem draftE_zero {L : List Game} {n : ByteArray} {l : List UInt8} {t : Int} (h : draftE L n l t = 0) : ∃ g, gameF L n = some g ∧ (parseO g l).2.1 = 0 ∧ offerE g (parseO g l).1 t = 0 := by
  cases hg : gameF L n with
  | none => rw [draftE_none hg] at h; exact absurd h (by decide)
  | some g =>
    rw [draftE_some hg] at h
    by_cases h1 : (parseO g l).2.1 ≠ 0
    · rw [if_pos h1] at h; exact absurd h h1
    · rw [if_neg h1] at h
      exact ⟨g, rfl, Classical.not_not.1 h1, h⟩
theorem parse_ok {g : Game} {l : List UInt8} (h : (parseO g l).2.1 = 0) : gameErr g = 0 ∧ betErrK g (parseO g l).1 = 0 := by
  unfold parseO at h ⊢
  by_cases h1 : gameErr g ≠ 0
  · rw [if_pos h1] at h; exact absurd h h1
  rw [if_neg h1] at h ⊢
  refine ⟨Classical.not_not.1 h1, ?_⟩
  by_cases h2 : 32768 < l.length
  · rw [if_pos h2] at h; exact absurd h (by decide)
  rw [if_neg h2] at h ⊢
  cases h3 : (readM (g.addons.map Addon.name) (wordsL l)).1 with
  | none => rw [h3] at h; exact absurd h (by show ¬ (1 : Int) = 0; decide)
  | some k =>
    rw [h3] at h
    show betErrK g (if betErrK g k ≠ 0 then (zK, betErrK g k, 0) else (k, 0, 0)).1 = 0
    by_cases h4 : betErrK g k ≠ 0
    · have h' : (if betErrK g k ≠ 0 then ((zK, betErrK g k, 0) : BetM × Int × Nat) else (k, 0, 0)).2.1 = 0 := h
      rw [if_pos h4] at h'; exact absurd h' h4
    · rw [if_neg h4]; exact Classical.not_not.1 h4
end Go.Proofs.YtlgoegjboabgfaaGreatDoor
namespace Go.Proofs.YtlgoegjboabgfaaGreatDoor
open Eng
theorem CallsS.keep {P : Program} {F : FuncId} {args : Array Value} {m : Mem} {σ : Sig} {R : Value → Mem → Prop} (h : CallsS P F args σ m fun u σ' m' => Sub σ σ' ∧ R u m') : CallsS P F args σ m fun u σ' m' => σ' = σ ∧ R u m' :=
  CallsS.ghost h fun v σ' m' ⟨hs, hr⟩ g W hC => ⟨σ, m', hs.conc hC, Le.refl _, rfl, hr⟩
theorem CallsS.keep0 {P : Program} {F : FuncId} {args : Array Value} {m : Mem} {σ : Sig} {R : Value → Mem → Prop} (h : CallsS P F args [] m fun u _ m' => R u m') : CallsS P F args σ m fun u σ' m' => σ' = σ ∧ R u m' :=
  CallsS.ghost (CallsS.frame0 h) fun v σ' m' ⟨σ₁, e, hr⟩ g W hC => by
    subst e
    exact ⟨σ, m', hC.sublist (List.sublist_append_right σ₁ σ), Le.refl _, rfl, hr⟩
def idxG (n : ByteArray) : List Game → Nat → Int
  | [], _ => -1
  | g :: l, i => if g.name = n then (i : Int) else idxG n l (i + 1)
theorem idxG_cases (n : ByteArray) : ∀ (l : List Game) (i : Nat), (idxG n l i = -1 ∧ gameF l n = none) ∨ ∃ (j : Nat) (g : Game), idxG n l i = ((i + j : Nat) : Int) ∧ l[j]? = some g ∧ gameF l n = some g
  | [], _ => .inl ⟨rfl, rfl⟩
  | g :: l, i => by
    unfold idxG gameF
    by_cases h : g.name = n
    · rw [if_pos h, if_pos h]
      exact .inr ⟨0, g, rfl, rfl, rfl⟩
    · rw [if_neg h, if_neg h]
      rcases idxG_cases n l (i + 1) with h1 | ⟨j, x, h1, h2, h3⟩
      · exact .inl h1
      · exact .inr ⟨j + 1, x, by rw [h1]; congr 1; omega, h2, h3⟩
theorem Tier.all_one : ∀ L : List Tier, (L.flatMap Tier.enc).all (·.oneCell') = true
  | [] => rfl
  | x :: l => by rw [List.flatMap_cons, List.all_append, Tier.all_one l]; rfl
theorem Addon.all_one : ∀ L : List Addon, (L.flatMap Addon.enc).all (·.oneCell') = true
  | [] => rfl
  | x :: l => by rw [List.flatMap_cons, List.all_append, Addon.all_one l]; rfl
set_option maxRecDepth 100000 in
theorem gameC {m : Mem} {g : Game} {p : Addr} {s : ByteArray} (hp : At m p [.string s]) : PureCall Tryz.prog 70 [g.val, .pointer (some p)] m (.bool (decide (g.name = s))) := by
  refine CallsS.pure ?_
  dsimp only [Game.val]
  refine enter Tryz.func70 Tryz.ntmps70 rfl rfl ?_
  refine SWP_seq (SWP_region ?_)
  refine bx (v := .agg _) rfl rfl (fun B2 => ?_)
  refine pB rfl rfl (SL_nil (nx (SWP_seq (SWP_region (pu rfl rfl ?_)))))
  refine lw (v := .string _) B2 0 rfl rfl rfl rfl ?_
  refine ldA (v := .string _) rfl (by assumption) rfl rfl ?_
  refine pu rfl rfl (pB rfl rfl (SL_nil (nx (SWP_ret ?_))))
  refine fin [_] ⟨rfl, trivial⟩ ?_
  rfl
set_option maxRecDepth 100000 in
theorem idxGF {m : Mem} {v : Value} {L : List Game} (h : RL m Game.enc 22 v L) {p : Addr} {s : ByteArray} (hp : At m p [.string s]) : PureCall Tryz.prog 69 [v, .func (.func 70) #[] #[.pointer (some p)]] m (.int .i64 (idxG s L 0)) := by
  refine CallsS.pure ?_
  have hsm := h.small
  obtain ⟨pa, pcap, rfl⟩ := h.len
  refine enter Tryz.func69 Tryz.ntmps69 rfl rfl ?_
  refine SWP_seq (SWP_region (pI rfl rfl (SL_nil (nx (SWP_seq (SWP_seq (SWP_region (pL rfl rfl (pu rfl rfl (pI rfl rfl (SL_nil ?_)))))))))))
  refine nx (SWP_block ?_)
  refine SWP_loop [4, 5, 8, 9, 10, 11, 12, 13, 14, 15, 16, 17, 18] [8]
      (fun vs σ' m' => ∃ (i : Nat), vs = [.int .i64 (i : Nat)] ∧ i ≤ L.length ∧ idxG s L 0 = idxG s (L.drop i) i ∧ σ' = [] ∧ m = m')
      (fun vs => L.length - nOf (vs.getD 0 undef)) rfl ?_ ?_
  · exact ⟨0, rfl, by omega, rfl, rfl, rfl⟩
  intro u0 vs0 σ0 m0 hJ0 _
  obtain ⟨i, rfl, hi, hno, rfl, rfl⟩ := hJ0
  refine SWP_seq (SWP_region ?_)
  refine pc rfl rfl (fun c9 => ?_) (fun c9 => ?_)
  · skip
    refine SL_nil (nx (SWP_seq (SWP_ct rfl (SWP_skip (nx (SWP_seq (SWP_block (SWP_seq ?_))))))))
    obtain ⟨x, hx⟩ : ∃ x, L[i]? = some x := ⟨_, List.getElem?_eq_getElem (by omega)⟩
    obtain ⟨ad, e0, _, hat⟩ := h.atA Game.enc_len hx
    cases e0
    have hdr : L.drop i = x :: L.drop (i + 1) := by
      have := List.drop_eq_getElem_cons (show i < L.length by omega)
      rw [(List.getElem?_eq_some_iff.1 hx).2] at this
      exact this
    refine SWP_region (pI rfl rfl (pI rfl rfl (SL_nil (nx (SWP_seq (SWP_region (pu rfl rfl (pL rfl rfl (pI rfl rfl ?_)))))))))
    refine ia (es := 22) rfl rfl rfl rfl rfl rfl (by omega) rfl ?_
    refine ldA (v := x.val) rfl hat rfl rfl ?_
    refine SL_pcallC rfl rfl cb70 (gameC hp _) rfl rfl ?_
    refine psp 16 rfl (fun c16 => ?_) (fun c16 => ?_)
    · skip
      refine SL_nil (nx (SWP_ct rfl (SWP_seq (SWP_region (pI rfl rfl (pI rfl rfl (SL_nil (nx (SWP_ret (br (nr ?_)))))))))))
      refine nr (br (nr ?_))
      refine fin [_] ⟨rfl, trivial⟩ ?_
      refine congrArg (Value.int .i64) ?_
      rw [hno, hdr]
      exact (if_pos (by assumption)).symm
    refine SL_nil (nx (SWP_cf rfl (SWP_skip (nb (nx (SWP_region ?_))))))
    refine pw rfl rfl (w64 (by omega) (by omega)) ?_
    refine pI rfl rfl (SL_nil (nx ?_))
    refine ⟨by repeat (first | exact Under.upds rfl (Under.hav _ _ _) | exact Under.hav _ _ _ | refine Under.upd rfl ?_), ?_, ?_⟩
    · refine ⟨i + 1, rfl, by omega, ?_, rfl, rfl⟩
      rw [hno, hdr]
      exact if_neg (by assumption)
    · simp only [L_vals, List.map, List.getD]; show L.length - (i + 1) < L.length - i; omega
  refine SL_nil (nx (SWP_seq (SWP_cf rfl (SWP_exit (ne (ne (be rfl (nx (SWP_seq (SWP_region (pI rfl rfl ?_)))))))))))
  refine SL_nil (nx (SWP_ret ?_))
  refine fin [_] ⟨rfl, trivial⟩ ?_
  obtain rfl : i = L.length := by omega
  refine congrArg (Value.int .i64) ?_
  rw [hno, List.drop_length]
  rfl
def GameOf (L : List Game) (n : ByteArray) (r : Value) (m : Mem) : Prop := (gameF L n = none ∧ r = .pointer none) ∨ ∃ (g : Game) (p : Addr), gameF L n = some g ∧ r = .pointer (some p) ∧ At m p g.enc
set_option maxRecDepth 100000 in
theorem gameB {m : Mem} {L : List Game} {a : Option Addr} {c B : Nat} {cs : List Value} (h : RL m Game.enc 22 (.slice a L.length c) L) (n : ByteArray) : CallsS Tryz.prog 43 [.pointer (some ⟨B, 0, none⟩), .string n].toArray [(B, Cells 95 (.slice a L.length c :: cs))] m fun r σ' m' => σ' = [(B, Cells 95 (.slice a L.length c :: cs))] ∧ m' = m ∧ GameOf L n r m := by
  refine CallsS.keep (R := fun r m' => m' = m ∧ GameOf L n r m) ?_
  have hsm := h.small
  refine enter Tryz.func43 Tryz.ntmps43 rfl rfl ?_
  refine SWP_seq (SWP_region ?_)
  refine bx (v := .string _) rfl rfl (fun B3 => ?_)
  refine pP rfl rfl (SL_nil (nx (SWP_seq (SWP_region (pP rfl rfl (pu rfl rfl (pu rfl rfl ?_)))))))
  refine lw (v := .slice _ _ _) B 0 rfl rfl rfl rfl ?_
  refine pu rfl rfl ?_
  refine SL_pcallS rfl rfl cb69 (lendC fun m2 l2 hp => idxGF (h.mono l2) hp _) rfl ?_
  refine pI rfl rfl (SL_nil (nx (SWP_seq (SWP_seq ?_))))
  have hcas := idxG_cases n L 0
  refine SWP_region (pI rfl rfl ?_)
  refine pc rfl rfl (fun c13 => ?_) (fun c13 => ?_)
  · skip
    refine SL_nil (nx (SWP_ct rfl (SWP_seq (SWP_region (pP rfl rfl (SL_nil (nx (SWP_ret (nr ?_)))))))))
    refine fin [_] ⟨rfl, trivial⟩ ?_
    refine ⟨Sub.cons _ (Sub.refl _), rfl, .inl ⟨?_, rfl⟩⟩
    rcases hcas with ⟨_, h1⟩ | ⟨j, g, h1, _, _⟩
    · exact h1
    · rw [h1] at c13; omega
  refine SL_nil (nx (SWP_cf rfl (SWP_skip (nx (SWP_seq ?_)))))
  obtain ⟨j, g, hj, hx, hgf⟩ : ∃ (j : Nat) (g : Game), idxG n L 0 = (j : Int) ∧ L[j]? = some g ∧ gameF L n = some g := by
    rcases hcas with ⟨h1, _⟩ | ⟨j, g, h1, h2, h3⟩
    · rw [h1] at c13; exact absurd (by decide) c13
    · exact ⟨j, g, by rw [h1, Nat.zero_add], h2, h3⟩
  rw [hj]
  obtain ⟨ad, e0, _, hat⟩ := h.atA Game.enc_len hx
  cases e0
  have hjl := (List.getElem?_eq_some_iff.1 hx).1
  refine SWP_region (pP rfl rfl (pu rfl rfl (pu rfl rfl ?_)))
  refine lw (v := .slice _ _ _) B 0 rfl rfl rfl rfl ?_
  refine pI rfl rfl ?_
  refine ia (es := 22) rfl rfl rfl rfl rfl rfl (by omega) rfl ?_
  refine pP rfl rfl (SL_nil (nx (SWP_ret ?_)))
  refine fin [_] ⟨rfl, trivial⟩ ?_
  exact ⟨Sub.cons _ (Sub.refl _), rfl, .inr ⟨g, _, hgf, rfl, hat⟩⟩
set_option maxRecDepth 100000 in
theorem cloneT {m : Mem} {v : Value} {l : List Tier} (h : RL m Tier.enc 6 v l) (hl : l.length ≤ 100000) : CallsS Tryz.prog 71 [v].toArray [] m fun r σ' m' => m' = m ∧ OwnS 102 6 r (l.flatMap Tier.enc) σ' := by
  obtain ⟨a, cap, rfl, hx1, hx2, hx3, hx4, hx5⟩ := h
  refine enter Tryz.func71 Tryz.ntmps71 rfl rfl ?_
  refine SWP_seq (SWP_region (pL rfl rfl (SL_nil (nx (SWP_seq (SWP_seq (SWP_region (pL rfl rfl ?_))))))))
  refine pu (v := .bool a.isNone) rfl rfl ?_
  refine bsp 4 rfl (fun b4 => ?_) (fun b4 => ?_)
  · skip
    refine SL_nil (nx (SWP_ct rfl (SWP_seq (SWP_region (pL rfl rfl (SL_nil (nx (SWP_ret (nr ?_)))))))))
    refine fin [_] ⟨rfl, trivial⟩ ?_
    have ha : a = none := by
      cases a with
      | none => rfl
      | some ad => cases b4
    have hl0 := (hx4 ha).1
    have e : l = [] := List.eq_nil_of_length_eq_zero hl0
    subst e
    exact ⟨rfl, .nil⟩
  refine SL_nil (nx (SWP_cf rfl (SWP_skip (nx (SWP_seq (SWP_region ?_))))))
  refine bs rfl rfl rfl rfl rfl (fun B5 => ?_)
  refine SL_imp (row_nil _ 6) ?_
  obtain ⟨ad, rfl⟩ : ∃ ad, a = some ad := by
    cases a with
    | none => cases b4
    | some ad => exact ⟨ad, rfl⟩
  refine pL rfl rfl ?_
  refine ap (e := 102) (size := 6) (bytes := 48) (k := l.length) rfl rfl rfl rfl rfl rfl rfl (.row B5 0 0 [] rfl (Nat.le_refl _) (Nat.zero_le _)) (.refl _) rfl (Rd.of_at (hx5 ad rfl)) (by rw [flatMap_len Tier.enc_len]) (Tier.all_one l) (by simp; omega) rfl rfl (fun v7 σ7 hown7 => ?_)
  refine pu rfl rfl (SL_nil (nx (SWP_ret ?_)))
  refine fin [_] ⟨rfl, trivial⟩ ?_
  exact ⟨rfl, by rw [List.append_nil]; exact hown7⟩
set_option maxRecDepth 100000 in
theorem cloneA {m : Mem} {v : Value} {l : List Addon} (h : RL m Addon.enc 6 v l) (hl : l.length ≤ 100000) : CallsS Tryz.prog 72 [v].toArray [] m fun r σ' m' => m' = m ∧ OwnS 122 6 r (l.flatMap Addon.enc) σ' := by
  obtain ⟨a, cap, rfl, hx1, hx2, hx3, hx4, hx5⟩ := h
  refine enter Tryz.func72 Tryz.ntmps72 rfl rfl ?_
  refine SWP_seq (SWP_region (pL rfl rfl (SL_nil (nx (SWP_seq (SWP_seq (SWP_region (pL rfl rfl ?_))))))))
  refine pu (v := .bool a.isNone) rfl rfl ?_
  refine bsp 4 rfl (fun b4 => ?_) (fun b4 => ?_)
  · skip
    refine SL_nil (nx (SWP_ct rfl (SWP_seq (SWP_region (pL rfl rfl (SL_nil (nx (SWP_ret (nr ?_)))))))))
    refine fin [_] ⟨rfl, trivial⟩ ?_
    have ha : a = none := by
      cases a with
      | none => rfl
      | some ad => cases b4
    have hl0 := (hx4 ha).1
    have e : l = [] := List.eq_nil_of_length_eq_zero hl0
    subst e
    exact ⟨rfl, .nil⟩
  refine SL_nil (nx (SWP_cf rfl (SWP_skip (nx (SWP_seq (SWP_region ?_))))))
  refine bs rfl rfl rfl rfl rfl (fun B5 => ?_)
  refine SL_imp (row_nil _ 6) ?_
  obtain ⟨ad, rfl⟩ : ∃ ad, a = some ad := by
    cases a with
    | none => cases b4
    | some ad => exact ⟨ad, rfl⟩
  refine pL rfl rfl ?_
  refine ap (e := 122) (size := 6) (bytes := 88) (k := l.length) rfl rfl rfl rfl rfl rfl rfl (.row B5 0 0 [] rfl (Nat.le_refl _) (Nat.zero_le _)) (.refl _) rfl (Rd.of_at (hx5 ad rfl)) (by rw [flatMap_len Addon.enc_len]) (Addon.all_one l) (by simp; omega) rfl rfl (fun v7 σ7 hown7 => ?_)
  refine pu rfl rfl (SL_nil (nx (SWP_ret ?_)))
  refine fin [_] ⟨rfl, trivial⟩ ?_
  exact ⟨rfl, by rw [List.append_nil]; exact hown7⟩
end Go.Proofs.YtlgoegjboabgfaaGreatDoor
namespace Go.Proofs.YtlgoegjboabgfaaGreatDoor
open Eng
def gZero : Game := ⟨⟨#[]⟩, 0, 0, 0, 0, 0, 0, 0, 0, 0, 0, 0, 0, 0, 0, 0, 0, 0, 0, 0, none, 0, [], none, 0, []⟩
def Game.setT (g : Game) (a : Option Addr) (c : Nat) : Game := { g with ta := a, tc := c }
def Game.setA (g : Game) (a : Option Addr) (c : Nat) (l : List Addon) : Game := { g with aa := a, ac := c, addons := l }
def Addon.setF (x : Addon) (a : Option Addr) (c : Nat) : Addon := { x with fa := a, fc := c }
def Addon.setP (x : Addon) (a : Option Addr) (c : Nat) : Addon := { x with pa := a, pc := c }
theorem setA_val (g : Game) (a : Option Addr) (c : Nat) {l l' : List Addon} (h : l.length = l'.length) : (g.setA a c l).val = (g.setA a c l').val := by
  unfold Game.val Game.setA
  dsimp only
  rw [h]
theorem set_norm {l : List Addon} {i : Nat} {x y : Addon} (hx : l[i]? = some x) (h : y.norm = x.norm) : (l.set i y).map Addon.norm = l.map Addon.norm := by
  rw [List.map_set, h]
  have h1 := (List.getElem?_eq_some_iff.1 hx)
  have h2 : (l.map Addon.norm)[i]? = some x.norm := by rw [List.getElem?_map, hx]; rfl
  obtain ⟨_, hget⟩ := List.getElem?_eq_some_iff.1 h2
  rw [← hget, List.set_getElem_self]
theorem mem_setA {l : List Addon} {i : Nat} {y : Addon} {Q : Addon → Prop} (hl : ∀ a ∈ l, Q a) (hy : Q y) : ∀ a ∈ l.set i y, Q a := fun a ha => by
  rcases List.mem_or_eq_of_mem_set ha with h | rfl
  · exact hl a h
  · exact hy
structure Game.Few (g : Game) : Prop where
  t : g.tiers.length ≤ 100000
  a : g.addons.length ≤ 100000
  e : ∀ a ∈ g.addons, a.factors.length ≤ 100000 ∧ a.prizes.length ≤ 100000
theorem Game.few_of {g : Game} (h : gameErr g = 0) : g.Few := by
  have hg := gameOk h
  refine ⟨?_, by have := addons_few hg; omega, fun a ha => ?_⟩
  · have := hg.tr
    unfold tiersErr at this
    split at this
    · cases this
    · omega
  · have := addons_each (ad_from hg) a ha
    unfold addonErr at this
    split at this
    · cases this
    split at this
    · cases this
    split at this
    · cases this
    split at this
    · split at this
      · cases this
      split at this
      · cases this
      omega
    · split at this
      · cases this
      split at this
      · cases this
      split at this
      · cases this
      omega
set_option maxRecDepth 100000 in
set_option maxHeartbeats 1000000 in
theorem copyG {m : Mem} {g : Game} (hin : g.In m) (hf : g.Few) : CallsS Tryz.prog 44 [g.val].toArray [] m fun r _ m' => ∃ g' : Game, r = g'.val ∧ g'.In m' ∧ g'.norm = g.norm := by
  dsimp only [Game.val]
  refine enter Tryz.func44 Tryz.ntmps44 rfl rfl ?_
  refine SWP_seq (SWP_region ?_)
  refine bx (v := .agg _) rfl rfl (fun B1 => ?_)
  refine al rfl rfl (fun B2 => ?_)
  refine SL_nil (nx (SWP_seq (SWP_region (pu rfl rfl ?_))))
  refine lw (v := .slice _ _ _) B1 21 rfl rfl rfl rfl ?_
  refine SL_call rfl rfl cb71 (CallsS.frame0 (cloneT hin.trs hf.t)) rfl (fun v1_2 σ1_2 m1_2 hl1_2 hR1_2 => ?_)
  obtain ⟨σc1_2, rfl, hm1_2, hown1_2⟩ := hR1_2
  have hn1_2 := hm1_2.symm
  subst hn1_2
  refine SL_freezeL (by decide) Tier.enc_len hown1_2 (fun mt hlt hrt => ?_)
  obtain ⟨ta2, tc2, rfl⟩ := hrt.len
  have hin1 := hin.mono hlt
  refine pu rfl rfl ?_
  refine swE B1 21 (g.setT ta2 tc2).enc (v := .slice ta2 _ tc2) rfl rfl rfl rfl rfl (by kernel_rfl) rfl (by kernel_rfl) ?_
  refine SL_nil (nx (SWP_seq (SWP_region (pu rfl rfl ?_))))
  refine lw (v := .slice _ _ _) B1 20 rfl rfl rfl rfl ?_
  refine SL_call rfl rfl cb72 (CallsS.frame0 (cloneA hin1.ads hf.a)) rfl (fun v2_2 σ2_2 m2_2 hl2_2 hR2_2 => ?_)
  obtain ⟨σc2_2, rfl, hm2_2, hown2_2⟩ := hR2_2
  have hn2_2 := hm2_2.symm
  subst hn2_2
  obtain ⟨aa2, ac2, rfl⟩ := OwnS.lenL (by decide) Addon.enc_len hown2_2
  have howna := hown2_2
  refine pu rfl rfl ?_
  refine swE B1 20 ((g.setT ta2 tc2).setA aa2 ac2 g.addons).enc (v := .slice aa2 _ ac2) rfl rfl rfl rfl rfl (by kernel_rfl) rfl (by kernel_rfl) ?_
  refine SL_nil (nx (SWP_seq (SWP_seq (SWP_region (pu rfl rfl ?_)))))
  refine lw (v := .slice aa2 g.addons.length ac2) B1 20 rfl rfl rfl rfl ?_
  refine pu rfl rfl (pI rfl rfl (SL_nil (nx (SWP_block ?_))))
  refine SWP_loop [3, 4, 16, 17, 18, 19, 20, 21, 22, 23, 24, 25, 26, 27, 28, 29, 30, 31, 32, 33, 34, 35, 36, 37, 38, 39] [16]
      (fun vs σ' m' => ∃ (i : Nat) (L : List Addon) (σe : Sig), vs = [.int .i64 (i : Nat)] ∧ i ≤ g.addons.length ∧ L.length = g.addons.length ∧ L.map Addon.norm = g.addons.map Addon.norm ∧ (∀ a ∈ L, a.In m') ∧ (∀ a ∈ L, a.factors.length ≤ 100000 ∧ a.prizes.length ≤ 100000) ∧ OwnS 122 6 (.slice aa2 g.addons.length ac2) (L.flatMap Addon.enc) σe ∧ σ' = σe ++ [(B2, Cells 31 gZero.enc), (B1, Cells 31 ((g.setT ta2 tc2).setA aa2 ac2 g.addons).enc)] ∧ Le mt m')
      (fun vs => g.addons.length - nOf (vs.getD 0 undef)) rfl ?_ ?_
  · exact ⟨0, g.addons, _, rfl, by omega, rfl, rfl, hin1.each, hf.e, howna, rfl, Le.refl _⟩
  intro u0 vs0 σ0 m0 hJ0 _
  obtain ⟨i, L, σe, rfl, hi, hLl, hL, hE, hE2, hown, rfl, hle⟩ := hJ0
  have hfa := hf.a
  refine SWP_seq (SWP_region ?_)
  refine pc rfl rfl (fun c17 => ?_) (fun c17 => ?_)
  · skip
    refine SL_nil (nx (SWP_seq (SWP_ct rfl (SWP_skip (nx (SWP_seq (SWP_block (SWP_seq (SWP_region (pI rfl rfl (pI rfl rfl ?_)))))))))))
    refine SL_nil (nx (SWP_seq ?_))
    obtain ⟨x, hx⟩ : ∃ x, L[i]? = some x := ⟨_, List.getElem?_eq_getElem (by omega)⟩
    obtain ⟨ad, e0, _, _, hrd⟩ := OwnS.atN (by decide) Addon.enc_len hown hx
    cases e0
    refine SWP_region (pu rfl rfl ?_)
    refine lw (v := .slice (some ad) g.addons.length ac2) B1 20 rfl rfl rfl rfl ?_
    refine pI rfl rfl ?_
    refine ia (es := 6) (ad := ad) (k := i) rfl rfl rfl rfl rfl rfl (by omega) rfl ?_
    refine pP rfl rfl (SL_nil (nx (SWP_seq (SWP_region (pP rfl rfl (pP rfl rfl (pu rfl rfl (pu rfl rfl ?_))))))))
    refine ldO (off := 3) (cs := x.enc) (p := ad.add (i * 6)) (v := .slice x.fa x.factors.length x.fc) (hrd _ _ (fun c hc => List.mem_append_left _ hc)) rfl rfl rfl rfl ?_
    refine SL_call rfl rfl cb73 (CallsS.frame0 (cloneI (hE x (List.mem_of_getElem? hx)).1 (hE2 x (List.mem_of_getElem? hx)).1)) rfl (fun v7_5 σ7_5 m7_5 hl7_5 hR7_5 => ?_)
    obtain ⟨σc7_5, rfl, hm7_5, hown7_5⟩ := hR7_5
    have hn7_5 := hm7_5.symm
    subst hn7_5
    refine SL_freezeL (by decide) intE_len hown7_5 (fun mf3 hlf3 hrf3 => ?_)
    obtain ⟨fa3, fc3, rfl⟩ := hrf3.len
    refine pu rfl rfl (pu rfl rfl ?_)
    refine stL (σe := σe) (τ := [_, _]) (k := i) (b := x) (b' := x.setF fa3 fc3) (off := 3) (u := .slice fa3 x.factors.length fc3) Addon.enc_len rfl hown (.refl _) hx rfl rfl rfl rfl (by show 3 + 1 ≤ 6; omega) rfl rfl (fun σe1 hown1 => ?_)
    have hx1 : (L.set i (x.setF fa3 fc3))[i]? = some (x.setF fa3 fc3) := List.getElem?_set_self (by omega)
    obtain ⟨ad1, e1, _, _, hrd1⟩ := OwnS.atN (by decide) Addon.enc_len hown1 hx1
    cases e1
    refine SL_nil (nx (SWP_region (pP rfl rfl (pP rfl rfl (pu rfl rfl (pu rfl rfl ?_))))))
    refine ldO (off := 5) (cs := (x.setF fa3 fc3).enc) (p := ad.add (i * 6)) (v := .slice x.pa x.prizes.length x.pc) (hrd1 _ _ (fun c hc => List.mem_append_left _ hc)) rfl rfl rfl rfl ?_
    refine SL_call rfl rfl cb73 (CallsS.frame0 (cloneI ((hE x (List.mem_of_getElem? hx)).2.mono hlf3) (hE2 x (List.mem_of_getElem? hx)).2)) rfl (fun v8_5 σ8_5 m8_5 hl8_5 hR8_5 => ?_)
    obtain ⟨σc8_5, rfl, hm8_5, hown8_5⟩ := hR8_5
    have hn8_5 := hm8_5.symm
    subst hn8_5
    refine SL_freezeL (by decide) intE_len hown8_5 (fun mf5 hlf5 hrf5 => ?_)
    obtain ⟨fa5, fc5, rfl⟩ := hrf5.len
    refine pu rfl rfl (pu rfl rfl ?_)
    refine stL (σe := σe1) (τ := [_, _]) (k := i) (b := x.setF fa3 fc3) (b' := (x.setF fa3 fc3).setP fa5 fc5) (off := 5) (u := .slice fa5 x.prizes.length fc5) Addon.enc_len rfl hown1 (.refl _) hx1 rfl rfl rfl rfl (by show 5 + 1 ≤ 6; omega) rfl rfl (fun σe2 hown2 => ?_)
    refine SL_nil (nb (nx (SWP_region ?_)))
    refine pw rfl rfl (w64 (by omega) (by omega)) ?_
    refine pI rfl rfl (SL_nil (nx ?_))
    refine ⟨by repeat (first | exact Under.upds rfl (Under.hav _ _ _) | exact Under.hav _ _ _ | refine Under.upd rfl ?_), ?_, ?_⟩
    · have hy : ((x.setF fa3 fc3).setP fa5 fc5).In mf5 := ⟨hrf3.mono hlf5, hrf5⟩
      refine ⟨i + 1, (L.set i (x.setF fa3 fc3)).set i ((x.setF fa3 fc3).setP fa5 fc5), _, rfl, by omega, by rw [List.length_set, List.length_set]; exact hLl, ?_, ?_, ?_, hown2, rfl, (hle.trans hlf3).trans hlf5⟩
      · rw [set_norm (y := (x.setF fa3 fc3).setP fa5 fc5) hx1 rfl, set_norm (y := x.setF fa3 fc3) hx rfl]; exact hL
      · refine mem_setA (mem_setA (fun a ha => (hE a ha).mono (hlf3.trans hlf5)) ?_) hy
        exact ⟨hrf3.mono hlf5, (hE x (List.mem_of_getElem? hx)).2.mono (hlf3.trans hlf5)⟩
      · exact mem_setA (mem_setA hE2 (hE2 x (List.mem_of_getElem? hx))) (hE2 x (List.mem_of_getElem? hx))
    · simp only [L_vals, List.map, List.getD]; show g.addons.length - (i + 1) < g.addons.length - i; omega
  refine SL_nil (nx (SWP_seq (SWP_cf rfl (SWP_exit (ne (ne (be rfl (nx (SWP_seq (SWP_region ?_))))))))))
  refine SL_freezeL (by decide) Addon.enc_len (hLl ▸ hown) (fun mz hlz hrz => ?_)
  refine lw (v := ((g.setT ta2 tc2).setA aa2 ac2 L).val) B1 0 rfl rfl ((show ldV tys 31 _ 0 = some ((g.setT ta2 tc2).setA aa2 ac2 g.addons).val from rfl).trans (congrArg some (setA_val _ _ _ hLl.symm))) rfl ?_
  refine swE B2 0 ((g.setT ta2 tc2).setA aa2 ac2 L).enc (v := ((g.setT ta2 tc2).setA aa2 ac2 L).val) rfl rfl rfl rfl (by kernel_rfl) (by kernel_rfl) (by kernel_rfl) (by kernel_rfl) ?_
  refine SL_nil (nx (SWP_ret ?_))
  refine fin [_] ⟨⟨_, _, rfl, Rd.of_cells (MemO.mem (B := B2)), rfl⟩, trivial⟩ ?_
  refine ⟨_, rfl, ⟨hrz, fun a ha => (hE a ha).mono hlz, hrt.mono (hle.trans hlz)⟩, ?_⟩
  show ({ (g.setT ta2 tc2).setA aa2 ac2 L with aa := none, ac := 0, addons := L.map Addon.norm, ta := none, tc := 0 } : Game) = _
  rw [hL]
  rfl
end Go.Proofs.YtlgoegjboabgfaaGreatDoor
namespace Go.Proofs.YtlgoegjboabgfaaGreatDoor
open Eng
theorem CallsS.subR {P : Program} {F : FuncId} {args : Array Value} {m : Mem} {σ : Sig} {R : Value → Sig → Mem → Prop} (h : CallsS P F args σ m fun u σ' m' => ∃ σ'', Sub σ'' σ' ∧ R u σ'' m') : CallsS P F args σ m R :=
  CallsS.ghost h fun v σ' m' ⟨σ'', hs, hr⟩ g W hC => ⟨σ'', m', hs.conc hC, Le.refl _, hr⟩
theorem Sub.of_perm {σ σ' : Sig} (h : σ'.Perm σ) : Sub σ σ' := ⟨[], by rw [List.append_nil]; exact h⟩
theorem lay_one (A : List Value) (n : Nat) (z v : Value) : laySeg (A ++ List.replicate (n + 1) z) A.length [v] = (A ++ [v]) ++ List.replicate n z := by
  have h := laySeg_right [v] A (List.replicate (n + 1) z) 0
  refine (show laySeg _ A.length [v] = laySeg _ (A.length + 0) [v] from rfl).trans (h.trans ?_)
  rw [List.append_assoc]
  rfl
def nilP : Value := .pointer none
def regC0 (k : Int) (M : Nat) (gd : List Gd) : List Value := (.slice none 0 0 :: .slice none 0 0 :: .map (some M) :: .int .u64 k :: gd.map Gd.ptr) ++ List.replicate (33 - gd.length) nilP
theorem regC0_len (k : Int) (M : Nat) (gd : List Gd) (h : gd.length ≤ 33) : (regC0 k M gd).length = 37 := by
  unfold regC0
  simp only [List.length_append, List.length_cons, List.length_map, List.length_replicate]
  omega
theorem regC0_lay (k : Int) (M : Nat) (gd : List Gd) (x : Gd) (h : gd.length < 33) : laySeg (regC0 k M gd) (4 + gd.length) [x.ptr] = regC0 k M (gd ++ [x]) := by
  unfold regC0
  have h1 := lay_one (.slice none 0 0 :: .slice none 0 0 :: .map (some M) :: .int .u64 k :: gd.map Gd.ptr) (32 - gd.length) nilP x.ptr
  rw [show (Value.slice none 0 0 :: Value.slice none 0 0 :: Value.map (some M) :: Value.int .u64 k :: gd.map Gd.ptr).length = 4 + gd.length by simp only [List.length_cons, List.length_map]; omega] at h1
  rw [show 33 - gd.length = 32 - gd.length + 1 by omega, h1, List.length_append, List.map_append, show 33 - (gd.length + [x].length) = 32 - gd.length from (show 33 - (gd.length + 1) = 32 - gd.length by omega)]
  rfl
structure Reg.Fresh (R : Reg) : Prop where
  gs : R.gs = []
  ga : R.ga = none
  gc : R.gc = 0
  ts : R.ts = []
  ta : R.ta = none
  tc : R.tc = 0
  pl : R.pl = []
  st : R.st = []
  gdl : R.gd.length = 33
  gdo : ∀ x ∈ R.gd, x.Ok ∧ x.S = []
theorem gS_nil {R : Reg} (h : ∀ x ∈ R.gd, x.S = []) (a : Nat) : R.gS a = [] := by
  unfold Reg.gS
  cases hx : R.gd[a]? with
  | none => rfl
  | some x => exact h x (List.mem_of_getElem? hx)
theorem Reg.Fresh.ok {R : Reg} (h : R.Fresh) (m : Mem) : R.Ok m := by
  obtain ⟨B, M, key, ga, gc, gs, ta, tc, ts, pl, gd, st⟩ := R
  obtain ⟨h1, h2, h3, h4, h5, h6, h7, h8, h9, h10⟩ := h
  dsimp only at h1 h2 h3 h4 h5 h6 h7 h8 h9 h10
  subst h1; subst h2; subst h3; subst h4; subst h5; subst h6; subst h7; subst h8
  exact ⟨RL.nil _ _, fun _ h => (by cases h), fun _ h => (by cases h), .nil, fun _ h => (by cases h), Nat.zero_le _, h9, fun x hx => (h10 x hx).1, fun _ => rfl, fun _ h => (by cases h), List.nodup_nil, fun _ h => (by cases h), fun _ h => (by cases h), fun _ h => (by cases h)⟩
set_option maxRecDepth 100000 in
theorem newR {m : Mem} (k : Int) : CallsS Tryz.prog 12 [.int .u64 k].toArray [] m fun r σ' m' => ∃ R : Reg, r = R.ptr ∧ σ' = R.sig ∧ m' = m ∧ R.Fresh ∧ R.key = k := by
  refine CallsS.subR ?_
  refine enter Tryz.func12 Tryz.ntmps12 rfl rfl ?_
  refine SWP_seq (SWP_region (pP rfl rfl (SL_nil (nx (SWP_seq (SWP_region (pI rfl rfl ?_)))))))
  refine pu (v := .agg (.slice none 0 0 :: .slice none 0 0 :: .map none :: .int .u64 k :: List.replicate 33 nilP).toArray) (by kernel_rfl) rfl ?_
  refine bx (v := .agg _) rfl rfl (fun B7 => ?_)
  refine pP rfl rfl (SL_nil (nx (SWP_seq (SWP_region (pP rfl rfl ?_)))))
  refine mk (kc := sK) (vc := iV) rfl (fun M => ?_)
  refine pu rfl rfl (pu rfl rfl (pu rfl rfl ?_))
  refine swE B7 2 (regC0 k M []) (v := .map (some M)) rfl rfl rfl rfl (by kernel_rfl) (by kernel_rfl) (by kernel_rfl) (by kernel_rfl) ?_
  refine SL_nil (nx (SWP_seq (SWP_seq (SWP_region (pI rfl rfl (SL_nil (nx (SWP_block ?_))))))))
  refine SWP_loop [4, 13, 14, 15, 16, 17, 18, 19, 20, 21, 22] [13]
      (fun vs σ' m' => ∃ (gd : List Gd), vs = [.int .i64 (gd.length : Nat)] ∧ gd.length ≤ 33 ∧ (∀ x ∈ gd, x.Ok ∧ x.S = []) ∧ σ' = gd.flatMap Gd.sig ++ [(M, MapC sK iV []), (B7, Cells 95 (regC0 k M gd))] ∧ m = m')
      (fun vs => 33 - nOf (vs.getD 0 undef)) rfl ?_ ?_
  · exact ⟨[], rfl, by decide, fun x hx => (by cases hx), rfl, rfl⟩
  intro u0 vs0 σ0 m0 hJ0 _
  obtain ⟨gd, rfl, hgl, hgo, rfl, rfl⟩ := hJ0
  refine SWP_seq (SWP_region ?_)
  refine pc rfl rfl (fun c14 => ?_) (fun c14 => ?_)
  · skip
    refine SL_nil (nx (SWP_seq (SWP_ct rfl (SWP_skip (nx (SWP_seq (SWP_block (SWP_seq (SWP_region (pI rfl rfl (pI rfl rfl ?_)))))))))))
    refine SL_nil (nx ?_)
    refine SWP_drawn [] [0, 1, 3, 4, 2, 5, 6] (by kernel_rfl) (by kernel_rfl) (by repeat (first | exact Sub.refl _ | exact Sub.nil _ | refine Sub.cons2 _ ?_ | refine Sub.cons _ ?_)) ?_
    refine pP rfl rfl (pI rfl rfl (pu rfl rfl (pu rfl rfl ?_)))
    refine SL_call rfl rfl cb41 (CallsS.frame0 (guNew 1048576)) rfl (fun v6_2 σ6_2 m6_2 hl6_2 hR6_2 => ?_)
    obtain ⟨σg, rfl, GB, GM, rfl, rfl, hm6_2⟩ := hR6_2
    have hn6_2 := hm6_2.symm
    subst hn6_2
    obtain ⟨x, hx⟩ : ∃ x : Gd, x = ⟨GB, GM, 0, [], []⟩ := ⟨_, rfl⟩
    have hxs : GuC GB GM (clampI 1048576) 0 [] = x.sig := by rw [hx]; rfl
    rw [hxs, show (Value.pointer (some ⟨GB, 0, none⟩)) = x.ptr by rw [hx]; rfl]
    have hxo : x.Ok ∧ x.S = [] := by rw [hx]; exact ⟨⟨.new (by decide) (by decide), by show ¬ _ ∈ ([] : List Int); simp⟩, rfl⟩
    refine iar (es := 1) rfl rfl rfl (Nat.mul_one _) rfl rfl (by omega) rfl ?_
    refine swE B7 (4 + gd.length) (regC0 k M (gd ++ [x])) (v := x.ptr) rfl rfl (by simp [Addr.add, Nat.add_assoc]) rfl rfl (Nat.ble_eq_true_of_le (by rw [regC0_len k M gd (by omega)]; show 4 + gd.length + 1 ≤ 37; omega)) rfl (regC0_lay k M gd x (by omega)) ?_
    refine SL_perm (σ' := (gd ++ [x]).flatMap Gd.sig ++ [(M, MapC sK iV []), (B7, Cells 95 (regC0 k M (gd ++ [x])))]) (by rw [List.flatMap_append]; show (x.sig ++ (gd.flatMap Gd.sig ++ _)).Perm _; rw [List.flatMap_cons, List.flatMap_nil, List.append_nil, List.append_assoc]; exact permX _ _ _) ?_
    refine SL_nil (nb (nx (SWP_region ?_)))
    refine pw rfl rfl (w64 (by omega) (by omega)) ?_
    refine pI rfl rfl (SL_nil (nx ?_))
    refine ⟨by repeat (first | exact Under.upds rfl (Under.hav _ _ _) | exact Under.hav _ _ _ | refine Under.upd rfl ?_), ?_, ?_⟩
    · refine ⟨gd ++ [x], ?_, ?_, ?_, rfl, rfl⟩
      · rw [List.length_append]; rfl
      · rw [List.length_append]; show gd.length + 1 ≤ 33; omega
      · intro y hy
        rcases List.mem_append.1 hy with hy | hy
        · exact hgo y hy
        · rw [List.mem_singleton.1 hy]; exact hxo
    · simp only [L_vals, List.map, List.getD]; show 33 - (gd.length + 1) < 33 - gd.length; omega
  refine SL_nil (nx (SWP_seq (SWP_cf rfl (SWP_exit (ne (ne (be rfl (nx (SWP_seq (SWP_region (pP rfl rfl ?_)))))))))))
  refine pP rfl rfl (SL_nil (nx (SWP_ret ?_)))
  refine fin [_] ⟨rfl, trivial⟩ ?_
  have h33 : gd.length = 33 := by omega
  refine ⟨_, Sub.of_perm (σ := (⟨B7, M, k, none, 0, [], none, 0, [], [], gd, []⟩ : Reg).sig) ?_, ⟨B7, M, k, none, 0, [], none, 0, [], [], gd, []⟩, rfl, rfl, rfl, ⟨rfl, rfl, rfl, rfl, rfl, rfl, rfl, rfl, h33, hgo⟩, rfl⟩
  have e : regC0 k M gd = (⟨B7, M, k, none, 0, [], none, 0, [], [], gd, []⟩ : Reg).cells := by
    unfold regC0
    rw [h33]
    exact List.append_nil _
  rw [e]
  show (gd.flatMap Gd.sig ++ [(M, MapC sK iV []), (B7, _)]).Perm ((B7, _) :: (M, _) :: (gd.flatMap Gd.sig ++ []))
  rw [List.append_nil]
  exact List.perm_append_comm.trans (List.Perm.swap _ _ _)
end Go.Proofs.YtlgoegjboabgfaaGreatDoor
namespace Go.Proofs.YtlgoegjboabgfaaGreatDoor
open Eng
def Reg.addG (R : Reg) (a : Option Addr) (c : Nat) (g : Game) : Reg := ⟨R.B, R.M, R.key, a, c, [g], R.ta, R.tc, R.ts, R.pl, R.gd, R.st⟩
structure Added (R R' : Reg) (g : Game) (e : Int) (m : Mem) : Prop where
  ok : R'.Ok m
  key : R'.key = R.key
  B : R'.B = R.B
  ts : R'.ts = []
  gS : ∀ a, R'.gS a = []
  gs : (gameErr g ≠ 0 ∧ e = gameErr g ∧ R'.gs = []) ∨ (gameErr g = 0 ∧ e = 0 ∧ ∃ g', R'.gs = [g'] ∧ g'.norm = g.norm)
theorem Added.no {R : Reg} {g : Game} {m : Mem} (h : R.Fresh) (hg : gameErr g ≠ 0) : Added R R g (gameErr g) m := ⟨h.ok m, rfl, rfl, h.ts, gS_nil fun x hx => (h.gdo x hx).2, .inl ⟨hg, rfl, h.gs⟩⟩
theorem Added.yes {R : Reg} {g g' : Game} {m : Mem} {a : Option Addr} {c : Nat} (h : R.Fresh) (hg : gameErr g = 0) (hn : g'.norm = g.norm) (hr : RL m Game.enc 22 (.slice a 1 c) [g']) (hin : g'.In m) : Added R (R.addG a c g') g 0 m := by
  have hk := h.ok m
  obtain ⟨B, M, key, ga, gc, gs, ta, tc, ts, pl, gd, st⟩ := R
  obtain ⟨h1, h2, h3, h4, h5, h6, h7, h8, h9, h10⟩ := h
  dsimp only at h1 h2 h3 h4 h5 h6 h7 h8 h9 h10
  subst h1; subst h2; subst h3; subst h4; subst h5; subst h6; subst h7; subst h8
  refine ⟨⟨hr, fun x hx => ?_, fun x hx => ?_, .nil, fun _ h => (by cases h), Nat.zero_le _, h9, fun x hx => (h10 x hx).1, fun _ => rfl, fun _ h => (by cases h), List.nodup_nil, fun _ h => (by cases h), fun _ h => (by cases h), fun _ h => (by cases h)⟩, rfl, rfl, rfl, gS_nil fun x hx => (h10 x hx).2, .inr ⟨hg, rfl, g', rfl, hn⟩⟩
  · rw [List.mem_singleton.1 hx]; exact hin
  · rw [List.mem_singleton.1 hx, gameErr_same hn]; exact hg
theorem game_nil {m : Mem} (n : ByteArray) {B : Nat} {cs : List Value} : CallsS Tryz.prog 43 [.pointer (some ⟨B, 0, none⟩), .string n].toArray [(B, Cells 95 (.slice none 0 0 :: cs))] m fun r σ' m' => r = .pointer none ∧ σ' = [(B, Cells 95 (.slice none 0 0 :: cs))] ∧ m' = m :=
  (gameB (L := []) (RL.nil _ _) n).mono fun v σ' m' _ ⟨h1, h2, h3⟩ => ⟨(by
    rcases h3 with ⟨_, h⟩ | ⟨g, p, h, _⟩
    · exact h
    · cases h), h1, h2⟩
set_option maxRecDepth 100000 in
set_option maxHeartbeats 1000000 in
theorem addR {m : Mem} {R : Reg} (hF : R.Fresh) {g : Game} (hin : g.In m) : CallsS Tryz.prog 13 [R.ptr, g.val].toArray R.sig m fun r σ' m' => ∃ R', σ' = R'.sig ∧ ∃ e, r = .int .i64 e ∧ Added R R' g e m' := by
  refine CallsS.subR ?_
  obtain ⟨B, M, key, ga, gc, gs, ta, tc, ts, pl, gd, st⟩ := R
  obtain ⟨f1, f2, f3, f4, f5, f6, f7, f8, f9, f10⟩ := id hF
  dsimp only at f1 f2 f3 f4 f5 f6 f7 f8 f9 f10
  subst f1; subst f2; subst f3; subst f4; subst f5; subst f6; subst f7; subst f8
  dsimp only [Game.val, Reg.sig, Reg.cells, Reg.ptr]
  refine enter Tryz.func13 Tryz.ntmps13 rfl rfl ?_
  refine SWP_seq (SWP_region ?_)
  refine bx (v := .agg _) rfl rfl (fun B3 => ?_)
  refine pI rfl rfl (SL_nil (nx (SWP_seq (SWP_seq (SWP_region (pP rfl rfl ?_))))))
  refine pu (v := .bool false) rfl rfl ?_
  refine SL_nil (nx (SWP_cf rfl (SWP_skip (nx (SWP_seq (SWP_seq (SWP_region ?_)))))))
  refine lw (v := g.val) B3 0 rfl rfl rfl rfl ?_
  refine SL_call rfl rfl cb42 (CallsS.frame0 (checkI hin)) rfl (fun v3_1 σ3_1 m3_1 hl3_1 hR3_1 => ?_)
  obtain ⟨σc, rfl, rfl, hm3_1, s0, rfl⟩ := hR3_1
  have hn3_1 := hm3_1.symm
  subst hn3_1
  rw [List.nil_append]
  refine pu rfl rfl (pI rfl rfl (pS rfl rfl (pI rfl rfl (pS rfl rfl (SL_nil (nx (SWP_seq (SWP_region (pI rfl rfl ?_)))))))))
  refine pc rfl rfl (fun c15 => ?_) (fun c15 => ?_)
  · skip
    refine SL_nil (nx (SWP_ct rfl (SWP_seq (SWP_region (pI rfl rfl (pI rfl rfl (SL_nil (nx (SWP_ret (nr ?_))))))))))
    refine fin [_] ⟨rfl, trivial⟩ ?_
    exact ⟨_, Sub.cons _ (Sub.refl _), ⟨B, M, key, none, 0, [], none, 0, [], [], gd, []⟩, rfl, _, rfl, Added.no hF (by assumption)⟩
  refine SL_nil (nx (SWP_cf rfl (SWP_skip (nx (SWP_seq (SWP_seq ?_))))))
  have hz : gameErr g = 0 := Classical.not_not.1 (by assumption)
  refine SWP_tail 5 (by kernel_rfl) (by kernel_rfl) ?_
  refine pP rfl rfl (pu rfl rfl (pu rfl rfl (pu rfl rfl ?_)))
  refine lw (v := .string _) B3 0 rfl rfl rfl rfl ?_
  refine SL_nil ?_
  refine SL_call rfl rfl cb43 (CallsS.subF _ (game_nil _) (List.Perm.swap _ _ _)) rfl (fun v6_5 σ6_5 m6_5 hl6_5 hR6_5 => ?_)
  obtain ⟨σg, rfl, rfl, rfl, hm6_5⟩ := hR6_5
  have hn6_5 := hm6_5.symm
  subst hn6_5
  refine pu (v := .bool false) rfl rfl ?_
  refine SL_nil (nx (SWP_cf rfl (SWP_skip (nx (SWP_seq (SWP_seq (SWP_region (pP rfl rfl (pu rfl rfl (pu rfl rfl (pu rfl rfl ?_)))))))))))
  refine lw (v := .slice _ _ _) B 0 rfl rfl rfl rfl ?_
  refine pu rfl rfl ?_
  refine pu (v := .bool false) rfl rfl ?_
  refine SL_nil (nx (SWP_cf rfl (SWP_skip (nx (SWP_seq ?_)))))
  refine SWP_tree [_, _] 10 (.one 0 (.one 1 (.one 2 (.one 3 (.one 4 (.one 5 (.one 6 (.one 7 (.one 8 (.one 9 (.tail [10, 11, 12, 13]))))))))))) (by kernel_rfl) (by kernel_rfl) (by repeat (first | exact Sub.refl _ | exact Sub.nil _ | refine Sub.cons2 _ ?_ | refine Sub.cons _ ?_ | refine Sub.left _ ?_)) ?_
  refine T1 rfl ?_
  refine pP rfl rfl (SL_nil ?_)
  refine T1 rfl ?_
  refine pP rfl rfl (SL_nil ?_)
  refine T1 rfl ?_
  refine pu rfl rfl (SL_nil ?_)
  refine T1 rfl ?_
  refine pu rfl rfl (SL_nil ?_)
  refine T1 rfl ?_
  refine pu rfl rfl (SL_nil ?_)
  refine T1 rfl ?_
  refine lw (v := .slice _ _ _) B 0 rfl rfl rfl rfl ?_
  refine SL_nil ?_
  refine T1 rfl ?_
  refine lw (v := g.val) B3 0 rfl rfl rfl rfl ?_
  refine SL_nil ?_
  refine T1 rfl ?_
  refine SL_call rfl rfl cb44 (CallsS.frame0 (copyG hin (Game.few_of hz))) rfl (fun v10_7 σ10_7 m10_7 hl10_7 hR10_7 => ?_)
  obtain ⟨σc, rfl, g2, rfl, hin2, hn2⟩ := hR10_7
  refine SL_nil ?_
  refine T1 rfl ?_
  refine bs (cs := g2.enc) rfl rfl rfl (by kernel_rfl) rfl (fun B39 => ?_)
  refine SL_nil ?_
  refine T1 rfl ?_
  refine ap (e := 31) (size := 22) (bytes := 216) (k := 1) (news := g2.enc) rfl rfl rfl rfl rfl rfl rfl .nil (.refl _) rfl (Rd.of_cells (.head _)) rfl rfl (by decide) rfl rfl (fun v40 σ40 hown40 => ?_)
  rw [List.nil_append] at hown40
  have hownL : OwnS 31 22 v40 ([g2].flatMap Game.enc) σ40 := by rw [List.flatMap_cons, List.flatMap_nil, List.append_nil]; exact hown40
  refine SL_freezeL (by decide) Game.enc_len hownL (fun mz hlz hrz => ?_)
  obtain ⟨ga, gc, rfl⟩ := hrz.len
  refine SL_nil ?_
  refine TT ?_
  refine pu rfl rfl (pu rfl rfl (pu rfl rfl ?_))
  refine sw (v := .slice ga 1 gc) B 0 rfl rfl rfl rfl rfl rfl rfl ?_
  refine SL_nil ?_
  refine on_ ?_
  refine nx (SWP_seq (SWP_region (pI rfl rfl (SL_nil (nx (SWP_ret ?_))))))
  refine fin [_] ⟨rfl, trivial⟩ ?_
  refine ⟨((⟨B, M, key, none, 0, [], none, 0, [], [], gd, []⟩ : Reg).addG ga gc g2).sig, ?_, (⟨B, M, key, none, 0, [], none, 0, [], [], gd, []⟩ : Reg).addG ga gc g2, rfl, _, rfl, Added.yes hF hz hn2 hrz (hin2.mono hlz)⟩
  exact Sub.cons _ (Sub.left σc (Sub.cons2 _ (Sub.cons _ (Sub.refl _))))
end Go.Proofs.YtlgoegjboabgfaaGreatDoor
namespace Go.Proofs.YtlgoegjboabgfaaGreatDoor
open Eng
noncomputable def offV (g : Game) (k : BetM) (t e : Int) : Value := .tuple #[.int .i64 (if e ≠ 0 then 0 else (openE g t).1), .int .i64 (if e ≠ 0 then 0 else (priceE g (zBet k)).1), .int .i64 e]
theorem offV_no {g : Game} {k : BetM} {t e : Int} (h : e ≠ 0) : offV g k t e = .tuple #[.int .i64 0, .int .i64 0, .int .i64 e] := by unfold offV; rw [if_pos h, if_pos h]
theorem offV_yes {g : Game} {k : BetM} {t e : Int} (h : e = 0) : offV g k t e = .tuple #[.int .i64 (openE g t).1, .int .i64 (priceE g (zBet k)).1, .int .i64 0] := by subst h; rfl
theorem openE_rng {g : Game} {t : Int} (h : (openE g t).2 = 0) : 1 ≤ (openE g t).1 ∧ (openE g t).1 ≤ 745669 := by
  obtain ⟨h0, h1, h2, h3, h4⟩ := openE_ok h
  have hg := gameOk h0
  have hcl := hg.tm.h3
  have hur := until_rng hg (t := t + g.close) (by omega) (by omega)
  rw [h4]
  unfold nextN
  omega
theorem offE_1 {g : Game} {k : BetM} {t : Int} (h : (openE g t).2 ≠ 0) : offerE g k t = (openE g t).2 := if_pos h
theorem offE_2 {g : Game} {k : BetM} {t : Int} (h : (openE g t).2 = 0) (h2 : (drawE g ((openE g t).1 + k.2.2.1 - 1)).2 ≠ 0) : offerE g k t = (drawE g ((openE g t).1 + k.2.2.1 - 1)).2 := (if_neg (fun hh => hh h)).trans (if_pos h2)
theorem offE_3 {g : Game} {k : BetM} {t : Int} (h : (openE g t).2 = 0) (h2 : (drawE g ((openE g t).1 + k.2.2.1 - 1)).2 = 0) : offerE g k t = (priceE g (zBet k)).2 := (if_neg (fun hh => hh h)).trans (if_neg (fun hh => hh h2))
set_option maxRecDepth 100000 in
theorem offerI {m : Mem} {g : Game} {b : Bet} (hin : g.In m) (hb : b.In m) {k : BetM} (hk : b.Is k) (h0 : betErrK g k = 0) (t : Int) : PureCall Tryz.prog 58 [g.val, b.val, .int .i64 t] m (offV g k t (offerE g k t)) := by
  refine CallsS.pure ?_
  have hbz : betErr g b = 0 := (betErr_key hk).trans h0
  have hdr := (betOk hbz).dr
  have hdk : b.draws = k.2.2.1 := hk.2.2.1
  dsimp only [Game.val, Bet.val]
  refine enter Tryz.func58 Tryz.ntmps58 rfl rfl ?_
  refine SWP_seq (SWP_region ?_)
  refine bx (v := .agg _) rfl rfl (fun B3 => ?_)
  refine bx (v := .agg _) rfl rfl (fun B4 => ?_)
  refine pI rfl rfl (pI rfl rfl (pI rfl rfl (SL_nil (nx (SWP_seq (SWP_region ?_))))))
  refine lw (v := .agg _) B3 0 rfl rfl rfl rfl ?_
  refine pI rfl rfl ?_
  refine SL_pcall rfl rfl cb97 (openI hin t) rfl ?_
  refine pu rfl rfl (pI rfl rfl (pI rfl rfl (pI rfl rfl (pI rfl rfl (SL_nil (nx (SWP_seq (SWP_seq (SWP_region (pI rfl rfl ?_))))))))))
  refine pc rfl rfl (fun c21 => ?_) (fun c21 => ?_)
  · skip
    refine SL_nil (nx (SWP_ct rfl (SWP_seq (SWP_region (pI rfl rfl (pI rfl rfl (pI rfl rfl (pI rfl rfl (SL_nil (nx (SWP_ret ?_)))))))))))
    refine nr ?_
    refine fin [_, _, _] ⟨rfl, rfl, rfl, trivial⟩ ?_
    rw [offE_1 (by assumption)]
    exact (offV_no (by assumption)).symm
  refine SL_nil (nx (SWP_cf rfl (SWP_skip (nx (SWP_seq (SWP_seq ?_))))))
  have hz : (openE g t).2 = 0 := Classical.not_not.1 (by assumption)
  have hor := openE_rng hz
  have hdr2 := (gameOk (openE_ok hz).1).mx.h13
  refine SWP_region ?_
  refine lw (v := .agg _) B3 0 rfl rfl rfl rfl ?_
  refine pI rfl rfl (pu rfl rfl ?_)
  refine lw (v := .int .i64 _) B4 2 rfl rfl rfl rfl ?_
  refine pw rfl rfl (w64 (by omega) (by omega)) ?_
  refine pw rfl rfl (w64 (by omega) (by omega)) ?_
  refine SL_pcall rfl rfl cb50 (drawI hin ((openE g t).1 + b.draws - 1) (by omega)) rfl ?_
  refine pu rfl rfl (pI rfl rfl (pI rfl rfl (pI rfl rfl (pI rfl rfl (SL_nil (nx (SWP_seq (SWP_region (pI rfl rfl ?_)))))))))
  refine pc rfl rfl (fun c34 => ?_) (fun c34 => ?_)
  · skip
    refine SL_nil (nx (SWP_ct rfl (SWP_seq (SWP_region (pI rfl rfl (pI rfl rfl (pI rfl rfl (pI rfl rfl (SL_nil (nx (SWP_ret ?_)))))))))))
    refine nr ?_
    refine fin [_, _, _] ⟨rfl, rfl, rfl, trivial⟩ ?_
    have h2 : (drawE g ((openE g t).1 + k.2.2.1 - 1)).2 ≠ 0 := by rw [← hdk]; assumption
    rw [offE_2 hz h2, offV_no h2, ← hdk]
    rfl
  refine SL_nil (nx (SWP_cf rfl (SWP_skip (nx (SWP_seq ?_)))))
  have hz2 : (drawE g ((openE g t).1 + k.2.2.1 - 1)).2 = 0 := by rw [← hdk]; exact Classical.not_not.1 (by assumption)
  have hpk := priceE_key (g := g) hk
  refine SWP_region ?_
  refine lw (v := .agg _) B3 0 rfl rfl rfl rfl ?_
  refine lw (v := .agg _) B4 0 rfl rfl rfl rfl ?_
  refine SL_pcall rfl rfl cb98 (priceI hin hb) rfl ?_
  refine pu rfl rfl (pI rfl rfl (pI rfl rfl (pI rfl rfl (pI rfl rfl (SL_nil (nx (SWP_seq (SWP_seq (SWP_region (pI rfl rfl ?_))))))))))
  refine pc rfl rfl (fun c43 => ?_) (fun c43 => ?_)
  · skip
    refine SL_nil (nx (SWP_ct rfl (SWP_seq (SWP_region (pI rfl rfl (pI rfl rfl (pI rfl rfl (pI rfl rfl (SL_nil (nx (SWP_ret ?_)))))))))))
    refine nr ?_
    refine fin [_, _, _] ⟨rfl, rfl, rfl, trivial⟩ ?_
    have h3 : (priceE g (zBet k)).2 ≠ 0 := by rw [← hpk]; assumption
    rw [offE_3 hz hz2, offV_no h3, ← hpk]
    rfl
  refine SL_nil (nx (SWP_cf rfl (SWP_skip (nx (SWP_seq (SWP_region (pI rfl rfl (pI rfl rfl (pI rfl rfl (pI rfl rfl (pI rfl rfl ?_)))))))))))
  refine SL_nil (nx (SWP_ret ?_))
  refine fin [_, _, _] ⟨rfl, rfl, rfl, trivial⟩ ?_
  have h3 : (priceE g (zBet k)).2 = 0 := by rw [← hpk]; exact Classical.not_not.1 (by assumption)
  rw [offE_3 hz hz2, offV_yes h3, ← hpk]
  rfl
def Tk.draft (n : ByteArray) (b : Bet) (first price t : Int) : Tk := ⟨⟨#[]⟩, n, b, ⟨#[]⟩, first, price, t, 0, 0, 0, false⟩
def DraftOf (L : List Game) (n : ByteArray) (l : List UInt8) (t : Int) (r : Value) (m : Mem) : Prop :=
  (draftE L n l t ≠ 0 ∧ r = .tuple #[zeroTk.val, .int .i64 (draftE L n l t)]) ∨
  (draftE L n l t = 0 ∧ ∃ (g : Game) (b : Bet), gameF L n = some g ∧ b.In m ∧ b.Is (parseO g l).1 ∧ r = .tuple #[(Tk.draft g.name b (openE g t).1 (priceE g (zBet (parseO g l).1)).1 t).val, .int .i64 0])
set_option maxRecDepth 100000 in
set_option maxHeartbeats 1000000 in
theorem draftI {m : Mem} {L : List Game} {a : Option Addr} {c B : Nat} {cs : List Value} (h : RL m Game.enc 22 (.slice a L.length c) L) (hL : ∀ g ∈ L, g.In m) (n : ByteArray) (l : List UInt8) (hl : l.length ≤ 1000000) (t : Int) : CallsS Tryz.prog 45 [.pointer (some ⟨B, 0, none⟩), .string n, .string (bA l), .int .i64 t].toArray [(B, Cells 95 (.slice a L.length c :: cs))] m fun r σ' m' => σ' = [(B, Cells 95 (.slice a L.length c :: cs))] ∧ DraftOf L n l t r m' := by
  refine CallsS.keep ?_
  refine enter Tryz.func45 Tryz.ntmps45 rfl rfl ?_
  refine SWP_seq (SWP_region ?_)
  refine al rfl rfl (fun B8 => ?_)
  refine pI rfl rfl (SL_nil (nx (SWP_seq (SWP_seq (SWP_region (pP rfl rfl ?_))))))
  refine pu (v := .bool false) rfl rfl ?_
  refine SL_nil (nx (SWP_cf rfl (SWP_skip (nx (SWP_seq (SWP_region (pP rfl rfl (pu rfl rfl (pu rfl rfl (pS rfl rfl ?_))))))))))
  refine SL_call rfl rfl cb43 (CallsS.subF [_] (gameB h n) (List.Perm.swap _ _ _)) rfl (fun v3_4 σ3_4 m3_4 hl3_4 hR3_4 => ?_)
  obtain ⟨σg, rfl, rfl, hm3_4, hGO⟩ := hR3_4
  have hn3_4 := hm3_4.symm
  subst hn3_4
  refine pu rfl rfl (SL_nil (nx (SWP_seq (SWP_seq (SWP_region ?_)))))
  rcases hGO with ⟨hgn, rfl⟩ | ⟨g, p, hgs, rfl, hat⟩
  · refine pP rfl rfl ?_
    refine pu (v := .bool true) rfl rfl ?_
    refine SL_nil (nx (SWP_ct rfl (SWP_seq (SWP_region ?_))))
    refine pu (v := zeroTk.val) (by kernel_rfl) rfl ?_
    refine swE B8 0 zeroTk.enc (v := zeroTk.val) rfl rfl rfl rfl (by kernel_rfl) (by kernel_rfl) (by kernel_rfl) (by kernel_rfl) ?_
    refine pI rfl rfl (SL_nil (nx (SWP_ret (nr ?_))))
    refine fin [_, _] ⟨⟨_, _, rfl, Rd.of_cells (MemO.mem (B := B8)), rfl⟩, rfl, trivial⟩ ?_
    refine ⟨(by repeat (first | exact Sub.refl _ | exact Sub.nil _ | refine Sub.cons2 _ ?_ | refine Sub.cons _ ?_)), .inl ⟨?_, ?_⟩⟩
    · rw [draftE_none hgn]; decide
    · rw [draftE_none hgn]; rfl
  · refine pP rfl rfl ?_
    refine pu (v := .bool false) rfl rfl ?_
    refine SL_nil (nx (SWP_cf rfl (SWP_skip (nx (SWP_seq (SWP_region (pP rfl rfl (pu rfl rfl ?_))))))))
    refine ldA (v := g.val) rfl hat rfl rfl ?_
    refine pS rfl rfl ?_
    refine SL_call rfl rfl cb56 (CallsS.keep0 ((parseS (hL g (gameF_some hgs).1) l hl).mono fun _ _ _ _ h => h.2)) rfl (fun v6_4 σ6_4 m6_4 hl6_4 hR6_4 => ?_)
    obtain ⟨rfl, b, rfl, hb, his⟩ := hR6_4
    refine pu rfl rfl (pA rfl rfl (pI rfl rfl (pI rfl rfl ?_)))
    refine al rfl rfl (fun B11 => ?_)
    refine swE B11 0 b.enc rfl rfl rfl rfl rfl rfl rfl rfl ?_
    refine pI rfl rfl (pI rfl rfl (SL_nil (nx (SWP_seq (SWP_seq (SWP_region (pI rfl rfl ?_)))))))
    refine pc rfl rfl (fun c37 => ?_) (fun c37 => ?_)
    · skip
      refine SL_nil (nx (SWP_ct rfl (SWP_seq (SWP_region ?_))))
      refine pu (v := zeroTk.val) (by kernel_rfl) rfl ?_
      refine pI rfl rfl ?_
      refine swE B8 0 zeroTk.enc (v := zeroTk.val) rfl rfl rfl rfl (by kernel_rfl) (by kernel_rfl) (by kernel_rfl) (by kernel_rfl) ?_
      refine pI rfl rfl (SL_nil (nx (SWP_ret (nr ?_))))
      refine fin [_, _] ⟨⟨_, _, rfl, Rd.of_cells (MemO.mem (B := B8)), rfl⟩, rfl, trivial⟩ ?_
      have hd : draftE L n l t = (parseO g l).2.1 := (draftE_some hgs l t).trans (if_pos (by assumption))
      refine ⟨(by repeat (first | exact Sub.refl _ | exact Sub.nil _ | refine Sub.cons2 _ ?_ | refine Sub.cons _ ?_)), .inl ⟨?_, ?_⟩⟩
      · rw [hd]; assumption
      · rw [hd]; rfl
    refine SL_nil (nx (SWP_cf rfl (SWP_skip (nx (SWP_seq ?_)))))
    have hp0 : (parseO g l).2.1 = 0 := Classical.not_not.1 (by assumption)
    have hpz := parse_ok hp0
    refine SWP_draws (by kernel_rfl) (by kernel_rfl) ?_
    refine pP rfl rfl (pu rfl rfl ?_)
    refine ldA (v := g.val) rfl (hat.mono hl6_4) rfl rfl ?_
    refine lw (v := b.val) B11 0 rfl rfl rfl rfl ?_
    refine pI rfl rfl ?_
    refine SL_pcall rfl rfl cb58 (offerI ((hL g (gameF_some hgs).1).mono hl6_4) hb his hpz.2 t) rfl ?_
    refine pu rfl rfl (pI rfl rfl (pI rfl rfl (pI rfl rfl (pI rfl rfl (pI rfl rfl (pI rfl rfl (SL_nil (nx (SWP_seq (SWP_seq (SWP_region ?_)))))))))))
    refine pI rfl rfl ?_
    refine pc rfl rfl (fun c51 => ?_) (fun c51 => ?_)
    · skip
      refine SL_nil (nx (SWP_ct rfl (SWP_seq (SWP_region ?_))))
      refine pu (v := zeroTk.val) (by kernel_rfl) rfl ?_
      refine pI rfl rfl ?_
      refine swE B8 0 zeroTk.enc (v := zeroTk.val) rfl rfl rfl rfl (by kernel_rfl) (by kernel_rfl) (by kernel_rfl) (by kernel_rfl) ?_
      refine pI rfl rfl (SL_nil (nx (SWP_ret (nr ?_))))
      refine fin [_, _] ⟨⟨_, _, rfl, Rd.of_cells (MemO.mem (B := B8)), rfl⟩, rfl, trivial⟩ ?_
      have hd : draftE L n l t = offerE g (parseO g l).1 t := (draftE_some hgs l t).trans (if_neg (fun hh => hh hp0))
      refine ⟨(by repeat (first | exact Sub.refl _ | exact Sub.nil _ | refine Sub.cons2 _ ?_ | refine Sub.cons _ ?_)), .inl ⟨?_, ?_⟩⟩
      · rw [hd]; assumption
      · rw [hd]; rfl
    refine SL_nil (nx (SWP_cf rfl (SWP_skip (nx (SWP_seq ?_)))))
    have he0 : offerE g (parseO g l).1 t = 0 := Classical.not_not.1 (by assumption)
    rw [if_neg (fun hh => hh he0), if_neg (fun hh => hh he0)]
    refine SWP_tail 9 (by kernel_rfl) (by kernel_rfl) ?_
    refine pP rfl rfl (pu rfl rfl (pu rfl rfl ?_))
    refine ldF (v := .string g.name) rfl rfl (hat.mono hl6_4) rfl rfl ?_
    refine lw (v := b.val) B11 0 rfl rfl rfl rfl ?_
    refine pI rfl rfl (pI rfl rfl (pI rfl rfl ?_))
    refine pu (v := (Tk.draft g.name b (openE g t).1 (priceE g (zBet (parseO g l).1)).1 t).val) (by kernel_rfl) rfl ?_
    refine SL_nil ?_
    refine swE B8 0 (Tk.draft g.name b (openE g t).1 (priceE g (zBet (parseO g l).1)).1 t).enc (v := (Tk.draft g.name b (openE g t).1 (priceE g (zBet (parseO g l).1)).1 t).val) rfl rfl rfl rfl (by kernel_rfl) (by kernel_rfl) (by kernel_rfl) (by kernel_rfl) ?_
    refine pI rfl rfl (SL_nil (nx (SWP_ret ?_)))
    refine fin [_, _] ⟨⟨_, _, rfl, Rd.of_cells (MemO.mem (B := B8)), rfl⟩, rfl, trivial⟩ ?_
    refine ⟨(by repeat (first | exact Sub.refl _ | exact Sub.nil _ | refine Sub.cons2 _ ?_ | refine Sub.cons _ ?_)), .inr ⟨?_, g, b, hgs, hb, his, rfl⟩⟩
    rw [draftE_some hgs, if_neg (fun hh => hh hp0)]
    exact he0
end Go.Proofs.YtlgoegjboabgfaaGreatDoor
namespace Go.Proofs.YtlgoegjboabgfaaGreatDoor
open Eng
abbrev b8 (b : UInt8) : Value := .int .u8 (b.toNat : Int)
theorem b8_one : ∀ l : List UInt8, (l.map b8).all (·.oneCell') = true
  | [] => rfl
  | _ :: l => b8_one l
def WrS (B : Nat) (xs : List UInt8) (σ : Sig) : Prop := ∃ (v : Value) (σe : Sig), σ = (B, Cells 210 [v]) :: σe ∧ OwnS 5 1 v (xs.map b8) σe
theorem WrS.nil (B : Nat) : WrS B [] [(B, Cells 210 [.slice none 0 0])] := ⟨_, _, rfl, .nil⟩
set_option maxRecDepth 100000 in
theorem putW {m : Mem} {xs ys : List UInt8} {v w : Value} {σe : Sig} {k : Nat} (hown : OwnS 5 1 v (xs.map b8) σe) (hw : RS m 1 w k (ys.map b8)) (hn : xs.length + ys.length ≤ 10000000) (B : Nat) : CallsS Tryz.prog 157 [.pointer (some ⟨B, 0, none⟩), w].toArray ((B, Cells 210 [v]) :: σe) m fun r σ' m' => WrS B (xs ++ ys) σ' ∧ m' = m := by
  obtain ⟨wa, wc, rfl, hwl, _⟩ := id hw
  obtain ⟨va, vn, vc, rfl, hvl, _⟩ := hown.len
  rw [List.length_map] at hwl hvl
  refine enter Tryz.func157 Tryz.ntmps157 rfl rfl ?_
  refine SWP_region (pP rfl rfl (pP rfl rfl (pu rfl rfl (pu rfl rfl ?_))))
  refine lw (v := .slice _ _ _) B 0 rfl rfl rfl rfl ?_
  refine pL rfl rfl ?_
  refine apR (e := 5) (size := 1) (bytes := 1) rfl rfl rfl rfl rfl rfl rfl hown (List.perm_append_comm (l₁ := [_]) (l₂ := σe)) rfl hw (b8_one _) (by rw [List.length_map]; omega) rfl rfl (fun v10 σ10 hown10 => ?_)
  refine SL_perm (List.perm_append_comm (l₂ := [_])) ?_
  rw [List.singleton_append]
  obtain ⟨a9, n9, c9, rfl, _, _⟩ := hown10.len
  refine pu rfl rfl (pu rfl rfl ?_)
  refine sw (v := .slice _ _ _) B 0 rfl rfl rfl rfl rfl rfl rfl ?_
  refine SL_nil ?_
  refine finn [] trivial ?_
  exact ⟨⟨_, _, rfl, by rw [List.map_append]; assumption⟩, rfl⟩
theorem zz_neg {x : Int} (h : x < 0) : ((zz x : Nat) : Int) = 2 * (0 - (x + 1)) + 1 := by
  unfold zz
  rw [if_pos h]
  omega
theorem zz_pos {x : Int} (h : ¬ x < 0) : ((zz x : Nat) : Int) = 2 * x := by
  unfold zz
  rw [if_neg h]
  omega
theorem zz_lt {x : Int} (h0 : -9223372036854775808 ≤ x) (h1 : x ≤ 9223372036854775807) : zz x < 18446744073709551616 := by
  by_cases h : x < 0
  · have := zz_neg h; omega
  · have := zz_pos h; omega
theorem zigI {m : Mem} {x : Int} (h0 : -9223372036854775808 ≤ x) (h1 : x ≤ 9223372036854775807) : PureCall Tryz.prog 158 [.int .i64 x] m (.int .u64 (zz x : Nat)) := by
  refine CallsS.pure ?_
  refine enter Tryz.func158 Tryz.ntmps158 rfl rfl ?_
  refine SWP_seq (SWP_region (pI rfl rfl (SL_nil (nx (SWP_seq (SWP_seq (SWP_region (pI rfl rfl ?_))))))))
  refine pc rfl rfl (fun c4 => ?_) (fun c4 => ?_)
  · skip
    refine SL_nil (nx (SWP_ct rfl (SWP_seq (SWP_region (pI rfl rfl ?_)))))
    refine pw rfl rfl (w64 (by omega) (by omega)) ?_
    refine pw rfl rfl (w64 (by omega) (by omega)) ?_
    refine pw rfl rfl (by rw [wrapU]; omega) ?_
    refine pshl (c := ((2 * (0 - (x + 1)).toNat : Nat) : Int)) rfl rfl (by decide) (show IntKind.u64.wrap ((0 - (x + 1)) * 2) = _ by rw [wrapU]; omega) rfl ?_
    refine pu (v := .int .u64 (bits .or .u64 ((2 * (0 - (x + 1)).toNat : Nat) : Int) 1)) rfl rfl ?_
    rw [or_one (by omega)]
    refine pI rfl rfl (SL_nil (nx (SWP_ret (nr ?_))))
    refine fin [_] ⟨rfl, trivial⟩ ?_
    refine congrArg (Value.int .u64) ?_
    rw [zz_neg (by assumption)]
    omega
  refine SL_nil (nx (SWP_cf rfl (SWP_skip (nx (SWP_seq (SWP_region (pI rfl rfl ?_)))))))
  refine pw rfl rfl (by rw [wrapU]; omega) ?_
  refine pshl (c := 2 * x) rfl rfl (by decide) (show IntKind.u64.wrap (x * 2) = _ by rw [wrapU]; omega) rfl ?_
  refine pI rfl rfl (SL_nil (nx (SWP_ret ?_)))
  refine fin [_] ⟨rfl, trivial⟩ ?_
  refine congrArg (Value.int .u64) ?_
  exact (zz_pos (by assumption)).symm
theorem newW {m : Mem} : CallsS Tryz.prog 127 #[] [] m fun r σ' m' => ∃ B, r = .pointer (some ⟨B, 0, none⟩) ∧ WrS B [] σ' ∧ m' = m := by
  refine enter Tryz.func127 Tryz.ntmps127 rfl rfl ?_
  refine SWP_seq (SWP_region (pP rfl rfl (SL_nil (nx (SWP_seq (SWP_region (pA rfl rfl ?_)))))))
  refine bx (v := .agg _) rfl rfl (fun B2 => ?_)
  refine pP rfl rfl (SL_nil (nx (SWP_ret ?_)))
  refine fin [_] ⟨rfl, trivial⟩ ?_
  exact ⟨_, rfl, WrS.nil _, rfl⟩
theorem uvar_lt {x : Nat} (f : Nat) (h : x < 128) : uvarN f x = [UInt8.ofNat x] := by
  cases f with
  | zero => rw [uvarN, Nat.mod_eq_of_lt (by omega)]
  | succ f => rw [uvarN, if_neg (by omega)]
theorem uvar_ge {x : Nat} (f : Nat) (h : 128 ≤ x) : uvarN (f + 1) x = UInt8.ofNat (x % 128 + 128) :: uvarN f (x / 128) := by rw [uvarN, if_pos h]
theorem or128 (x : Nat) : bits .or .u8 (IntKind.u8.wrap (x : Nat)) 128 = (((UInt8.ofNat (x % 128 + 128)).toNat : Nat) : Int) := by
  have e : IntKind.u8.wrap ((x : Nat) : Int) = ((x % 256 : Nat) : Int) := by simp [IntKind.wrap, IntKind.bits, IntKind.signed]
  have h := or128F ⟨x % 256, Nat.mod_lt _ (by decide)⟩
  rw [e, h]
  show (((UInt8.ofNat (x % 256 % 128 + 128)).toNat : Nat) : Int) = _
  rw [show x % 256 % 128 = x % 128 by omega]
theorem low8 {x : Nat} (h : x < 128) : IntKind.u8.wrap (x : Nat) = (((UInt8.ofNat x).toNat : Nat) : Int) := by
  have e : IntKind.u8.wrap ((x : Nat) : Int) = ((x % 256 : Nat) : Int) := by simp [IntKind.wrap, IntKind.bits, IntKind.signed]
  rw [e]
  simp
theorem RS.b8 {m : Mem} {B : Nat} {b : UInt8} (h : At m ⟨B, 0, none⟩ [b8 b]) : RS m 1 (.slice (some ⟨B, 0, none⟩) 1 1) 1 ([b].map b8) := ⟨_, _, rfl, rfl, Nat.le_refl _, by decide, (fun e => nomatch e), fun ad e => by cases e; exact h⟩
end Go.Proofs.YtlgoegjboabgfaaGreatDoor
namespace Go.Proofs.YtlgoegjboabgfaaGreatDoor
open Eng
set_option maxRecDepth 100000 in
theorem uintW {m : Mem} {xs : List UInt8} {σ : Sig} {x : Nat} (hx : x < 18446744073709551616) (B : Nat) (hW : WrS B xs σ) (hn : xs.length ≤ 9000000) : CallsS Tryz.prog 156 [.pointer (some ⟨B, 0, none⟩), .int .u64 (x : Nat)].toArray σ m fun r σ' m' => WrS B (xs ++ uvar x) σ' ∧ Le m m' := by
  obtain ⟨v, σe, rfl, hown⟩ := hW
  refine enter Tryz.func156 Tryz.ntmps156 rfl rfl ?_
  refine SWP_seq (SWP_seq (SWP_region (pP rfl rfl ?_)))
  refine pu (v := .bool false) rfl rfl ?_
  refine SL_nil (nx (SWP_cf rfl (SWP_skip (nx (SWP_seq (SWP_block ?_))))))
  refine SWP_loop [1, 6, 7, 8, 9, 10, 11, 12, 13, 14, 15] [1]
      (fun vs σ' m' => ∃ (k y : Nat) (p : List UInt8) (v : Value) (σe : Sig), vs = [.int .u64 (y : Nat)] ∧ y < 128 ^ k ∧ p.length + k ≤ 10 ∧ uvar x = p ++ uvarN k y ∧ σ' = (B, Cells 210 [v]) :: σe ∧ OwnS 5 1 v ((xs ++ p).map b8) σe ∧ Le m m')
      (fun vs => nOf (vs.getD 0 undef)) rfl ?_ ?_
  · exact ⟨10, x, [], _, _, rfl, Nat.lt_of_lt_of_le hx (by decide), by decide, rfl, rfl, by rw [List.append_nil]; exact hown, Le.refl _⟩
  intro u0 vs0 σ0 m0 hJ0 _
  obtain ⟨k, y, p, v, σe, rfl, hy, hk, hu, rfl, hown, hle⟩ := hJ0
  skip
  refine SWP_seq (SWP_seq (SWP_region (pI rfl rfl ?_)))
  refine pc rfl rfl (fun c7 => ?_) (fun c7 => ?_)
  · skip
    refine SL_nil (nx (SWP_ct rfl (SWP_skip (nx (SWP_block (SWP_seq (SWP_region (pP rfl rfl (pI rfl rfl ?_)))))))))
    refine pu (v := .int .u8 (IntKind.u8.wrap ((y : Nat) : Int))) rfl rfl ?_
    refine pu (v := .int .u8 (bits .or .u8 (IntKind.u8.wrap ((y : Nat) : Int)) 128)) rfl rfl ?_
    rw [or128]
    refine bs (cs := [b8 (UInt8.ofNat (y % 128 + 128))]) rfl rfl rfl rfl rfl (fun B12 => ?_)
    refine SL_freeze (fun m12 hl12 hat12 => ?_)
    refine SL_call rfl rfl cb157 (putW hown (RS.b8 (b := UInt8.ofNat (y % 128 + 128)) hat12) (by simp only [List.length_append, List.length_cons, List.length_nil]; omega) B) rfl (fun v2_5 σ2_5 m2_5 hl2_5 hR2_5 => ?_)
    obtain ⟨⟨v9, σ9, hσ9, hown9⟩, hm2_5⟩ := hR2_5
    have hn2_5 := hm2_5.symm
    subst hn2_5
    subst hσ9
    refine SL_nil (nx (SWP_region (pI rfl rfl ?_)))
    refine pshr (c := ((y / 128 : Nat) : Int)) rfl rfl (by decide) (show ((y : Nat) : Int).fdiv (2 ^ 7) = _ by rw [Int.fdiv_eq_ediv_of_nonneg _ (by decide)]; omega) rfl ?_
    refine pI rfl rfl (SL_nil (nb (nx ?_)))
    refine ⟨by repeat (first | exact Under.upds rfl (Under.hav _ _ _) | exact Under.hav _ _ _ | refine Under.upd rfl ?_), ?_, ?_⟩
    · cases k with
      | zero => rw [Nat.pow_zero] at hy; omega
      | succ k =>
        rw [uvar_ge k (by omega)] at hu
        refine ⟨k, y / 128, p ++ [UInt8.ofNat (y % 128 + 128)], _, _, rfl, Nat.div_lt_of_lt_mul (by rw [Nat.pow_succ] at hy; omega), by simp only [List.length_append, List.length_cons, List.length_nil]; omega, by rw [hu, List.append_assoc]; rfl, rfl, by rw [← List.append_assoc]; assumption, hle.trans hl12⟩
    · simp only [L_vals, List.map, List.getD]; show y / 128 < y; omega
  refine SL_nil (nx (SWP_cf rfl (SWP_exit (ne (ne (be rfl (nx (SWP_region (pP rfl rfl (pI rfl rfl ?_))))))))))
  refine pu (v := .int .u8 (IntKind.u8.wrap ((y : Nat) : Int))) rfl rfl ?_
  rw [low8 (by omega)]
  refine bs (cs := [b8 (UInt8.ofNat y)]) rfl rfl rfl rfl rfl (fun B19 => ?_)
  refine SL_freeze (fun m19 hl19 hat19 => ?_)
  refine SL_call rfl rfl cb157 (putW hown (RS.b8 (b := UInt8.ofNat y) hat19) (by simp only [List.length_append, List.length_cons, List.length_nil]; omega) B) rfl (fun v4_4 σ4_4 m4_4 hl4_4 hR4_4 => ?_)
  obtain ⟨⟨v9, σ9, hσ9, hown9⟩, hm4_4⟩ := hR4_4
  have hn4_4 := hm4_4.symm
  subst hn4_4
  subst hσ9
  refine SL_nil ?_
  refine finn [] trivial ?_
  refine ⟨⟨v9, σ9, rfl, ?_⟩, hle.trans hl19⟩
  rw [hu, uvar_lt k (by omega), ← List.append_assoc]
  exact hown9
end Go.Proofs.YtlgoegjboabgfaaGreatDoor
namespace Go.Proofs.YtlgoegjboabgfaaGreatDoor
open Eng
theorem uvar_len (x : Nat) : (uvar x).length ≤ 11 := uvarN_len 10 x
def txtW (l : List UInt8) : List UInt8 := uvar l.length ++ l
def intW (x : Int) : List UInt8 := uvar (zz x)
set_option maxRecDepth 100000 in
theorem intWr {m : Mem} {xs : List UInt8} {σ : Sig} (B : Nat) (hW : WrS B xs σ) (hn : xs.length ≤ 8000000) {x : Int} (h0 : -9223372036854775808 ≤ x) (h1 : x ≤ 9223372036854775807) : CallsS Tryz.prog 129 [.pointer (some ⟨B, 0, none⟩), .int .i64 x].toArray σ m fun r σ' m' => WrS B (xs ++ intW x) σ' ∧ Le m m' := by
  refine enter Tryz.func129 Tryz.ntmps129 rfl rfl ?_
  refine SWP_region (pP rfl rfl (pI rfl rfl ?_))
  refine SL_pcall rfl rfl cb158 (zigI h0 h1) rfl ?_
  refine SL_call rfl rfl cb156 (uintW (zz_lt h0 h1) B hW (by omega)) rfl (fun v0_3 σ0_3 m0_3 hl0_3 hR0_3 => ?_)
  skip
  refine SL_nil ?_
  refine finn [] trivial ?_
  exact ⟨hR0_3.1, hR0_3.2⟩
set_option maxRecDepth 100000 in
theorem textWr {m : Mem} {xs : List UInt8} {σ : Sig} (B : Nat) (hW : WrS B xs σ) (hn : xs.length ≤ 8000000) (l : List UInt8) (hl : l.length ≤ 1000000) : CallsS Tryz.prog 128 [.pointer (some ⟨B, 0, none⟩), .string (bA l)].toArray σ m fun r σ' m' => WrS B (xs ++ txtW l) σ' ∧ Le m m' := by
  have hsz := bA_size l
  have hul := uvar_len l.length
  refine enter Tryz.func128 Tryz.ntmps128 rfl rfl ?_
  refine SWP_seq (SWP_seq (SWP_region (pP rfl rfl ?_)))
  refine pu (v := .bool false) rfl rfl ?_
  refine SL_nil (nx (SWP_cf rfl (SWP_skip (nx (SWP_seq (SWP_region (pP rfl rfl (pS rfl rfl ?_))))))))
  refine pu (v := .int .i64 ((bA l).size : Nat)) rfl rfl ?_
  rw [hsz]
  refine pw rfl rfl (by rw [wrapU]; omega) ?_
  refine SL_call rfl rfl cb156 (uintW (by omega) B hW (by omega)) rfl (fun v1_4 σ1_4 m1_4 hl1_4 hR1_4 => ?_)
  obtain ⟨⟨v9, σ9, hσ9, hown9⟩, hle9⟩ := hR1_4
  subst hσ9
  refine SL_nil (nx (SWP_region (pP rfl rfl (pS rfl rfl ?_))))
  refine s2b (l := l) rfl rfl rfl rfl rfl (by unfold maxLen; omega) rfl (fun B13 c13 m13 hl13 hr13 => ?_)
  refine SL_call rfl rfl cb157 (putW hown9 hr13 (by rw [List.length_append]; omega) B) rfl (fun v2_3 σ2_3 m2_3 hl2_3 hR2_3 => ?_)
  obtain ⟨hW9, hm2_3⟩ := hR2_3
  have hn2_3 := hm2_3.symm
  subst hn2_3
  refine SL_nil ?_
  refine finn [] trivial ?_
  exact ⟨by unfold txtW; rw [← List.append_assoc]; exact hW9, hle9.trans hl13⟩
end Go.Proofs.YtlgoegjboabgfaaGreatDoor
namespace Go.Proofs.YtlgoegjboabgfaaGreatDoor
open Eng
set_option maxRecDepth 100000 in
theorem bytesWr {m : Mem} {xs : List UInt8} {σ : Sig} (B : Nat) (hW : WrS B xs σ) (hn : xs.length ≤ 9000000) : CallsS Tryz.prog 90 [.pointer (some ⟨B, 0, none⟩)].toArray σ m fun r σ' m' => ∃ σe τ, σ' = σe ++ τ ∧ OwnS 5 1 r (xs.map b8) σe ∧ WrS B xs τ ∧ m' = m := by
  obtain ⟨v, σe, rfl, hown⟩ := hW
  have hW2 : WrS B xs ((B, Cells 210 [v]) :: σe) := ⟨v, σe, rfl, hown⟩
  have hown0 := hown
  obtain ⟨va, vn, vc, rfl, hvl, _⟩ := hown.len
  rw [List.length_map] at hvl
  refine enter Tryz.func90 Tryz.ntmps90 rfl rfl ?_
  refine SWP_seq (SWP_region (pL rfl rfl (SL_nil (nx (SWP_seq (SWP_seq (SWP_region (pP rfl rfl ?_))))))))
  refine pu (v := .bool false) rfl rfl ?_
  refine SL_nil (nx (SWP_cf rfl (SWP_skip (nx (SWP_seq (SWP_region (pP rfl rfl (pu rfl rfl (pu rfl rfl ?_)))))))))
  refine lw (v := .slice _ _ _) B 0 rfl rfl rfl rfl ?_
  refine apO (e := 5) (size := 1) (bytes := 1) (xs := []) (σe := []) rfl rfl rfl rfl rfl rfl rfl .nil (.refl _) rfl hown0 (fun c hc => List.mem_cons_of_mem _ hc) (b8_one _) (by rw [List.length_map]; simp only [List.length_nil]; omega) rfl rfl (fun v9 σ9 hown9 => ?_)
  obtain ⟨a9, n9, c9, rfl, _, _⟩ := hown9.len
  refine pL rfl rfl (SL_nil (nx (SWP_ret ?_)))
  refine fin [_] ⟨rfl, trivial⟩ ?_
  exact ⟨_, _, rfl, hown9, hW2, rfl⟩
end Go.Proofs.YtlgoegjboabgfaaGreatDoor
namespace Go.Proofs.YtlgoegjboabgfaaGreatDoor
open Eng
structure RcOk (r : Rc) : Prop where
  n : r.number.data.toList.length ≤ 1000000
  g : r.game.data.toList.length ≤ 1000000
  s : r.slip.data.toList.length ≤ 1000000
  f : -9223372036854775808 ≤ r.first ∧ r.first ≤ 9223372036854775807
  p : -9223372036854775808 ≤ r.price ∧ r.price ≤ 9223372036854775807
  a : -9223372036854775808 ≤ r.at_ ∧ r.at_ ≤ 9223372036854775807
theorem textW2 {m : Mem} {xs : List UInt8} {σ : Sig} (B : Nat) (hW : WrS B xs σ) (hn : xs.length ≤ 8000000) (s : ByteArray) (hl : s.data.toList.length ≤ 1000000) : CallsS Tryz.prog 128 [.pointer (some ⟨B, 0, none⟩), .string s].toArray σ m fun r σ' m' => WrS B (xs ++ txtW s.data.toList) σ' ∧ Le m m' := by
  have h := textWr (m := m) B hW hn s.data.toList hl
  rwa [bA_of] at h
def strR (r : Rc) : List ByteArray := [r.number, r.game, r.slip]
def numR (r : Rc) : List Int := [r.first, r.price, r.at_]
def sT (l : List ByteArray) : List UInt8 := l.flatMap fun s => txtW s.data.toList
def sI (l : List Int) : List UInt8 := l.flatMap intW
theorem partS {a b c s : ByteArray} : ∀ i : Nat, [a, b, c][i]? = some s → partV tys 9 [.string a, .string b, .string c] (i * 1) = some (.string s)
  | 0, h => by cases h; rfl
  | 1, h => by cases h; rfl
  | 2, h => by cases h; rfl
  | k + 3, h => by simp at h
theorem partI {a b c s : Int} : ∀ i : Nat, [a, b, c][i]? = some s → partV tys 3 [.int .i64 a, .int .i64 b, .int .i64 c] (i * 1) = some (.int .i64 s)
  | 0, h => by cases h; rfl
  | 1, h => by cases h; rfl
  | 2, h => by cases h; rfl
  | k + 3, h => by simp at h
theorem strR_ok {r : Rc} (h : RcOk r) {s : ByteArray} (hs : s ∈ strR r) : s.data.toList.length ≤ 1000000 := by
  simp only [strR, List.mem_cons, List.not_mem_nil, or_false] at hs
  rcases hs with rfl | rfl | rfl
  · exact h.n
  · exact h.g
  · exact h.s
theorem numR_ok {r : Rc} (h : RcOk r) {s : Int} (hs : s ∈ numR r) : -9223372036854775808 ≤ s ∧ s ≤ 9223372036854775807 := by
  simp only [numR, List.mem_cons, List.not_mem_nil, or_false] at hs
  rcases hs with rfl | rfl | rfl
  · exact h.f
  · exact h.p
  · exact h.a
end Go.Proofs.YtlgoegjboabgfaaGreatDoor
namespace Go.Proofs.YtlgoegjboabgfaaGreatDoor
open Eng
set_option maxRecDepth 100000 in
theorem signedI {m : Mem} {r : Rc} (hr : RcOk r) : CallsS Tryz.prog 89 [r.val].toArray [] m fun u σ' m' => ∃ (B : Nat) (σ1 τ : Sig), u = .pointer (some ⟨B, 0, none⟩) ∧ σ' = σ1 ++ τ ∧ WrS B (sT (strR r) ++ sI (numR r)) σ1 ∧ Le m m' := by
  dsimp only [Rc.val]
  refine enter Tryz.func89 Tryz.ntmps89 rfl rfl ?_
  refine SWP_seq (SWP_region ?_)
  refine bx (v := .agg _) rfl rfl (fun B1 => ?_)
  refine pP rfl rfl (SL_nil (nx (SWP_seq (SWP_region ?_))))
  refine SL_call rfl rfl cb127 (CallsS.frame0 newW) rfl (fun v1_0 σ1_0 m1_0 hl1_0 hR1_0 => ?_)
  obtain ⟨σw, rfl, B, rfl, hW, hm1_0⟩ := hR1_0
  have hn1_0 := hm1_0.symm
  subst hn1_0
  refine pP rfl rfl (SL_nil (nx (SWP_seq (SWP_seq (SWP_region (pu rfl rfl ?_))))))
  refine lw (v := .string _) B1 0 rfl rfl rfl rfl ?_
  refine pu rfl rfl ?_
  refine lw (v := .string _) B1 1 rfl rfl rfl rfl ?_
  refine pu rfl rfl ?_
  refine lw (v := .string _) B1 2 rfl rfl rfl rfl ?_
  refine pA rfl rfl (pI rfl rfl (SL_nil (nx (SWP_block ?_))))
  refine SWP_loop [5, 16, 17, 18, 19, 20, 21, 22] [16]
      (fun vs σ' m' => ∃ (i : Nat) (xs : List UInt8) (σ1 : Sig), vs = [.int .i64 (i : Nat)] ∧ i ≤ 3 ∧ xs = sT ((strR r).take i) ∧ xs.length ≤ 0 + i * 1000011 ∧ WrS B xs σ1 ∧ σ' = σ1 ++ [(B1, Cells 34 r.enc)] ∧ Le m m')
      (fun vs => 3 - nOf (vs.getD 0 undef)) rfl ?_ ?_
  · exact ⟨0, [], _, rfl, by omega, rfl, by decide, hW, rfl, Le.refl _⟩
  intro u0 vs0 σ0 m0 hJ0 _
  obtain ⟨i, xs, σ1, rfl, hi, hxs, hxl, hW, rfl, hle⟩ := hJ0
  skip
  refine SWP_seq (SWP_region ?_)
  refine pc rfl rfl (fun c17 => ?_) (fun c17 => ?_)
  · skip
    refine SL_nil (nx (SWP_seq (SWP_ct rfl (SWP_skip (nx (SWP_seq (SWP_block (SWP_seq (SWP_region ?_)))))))))
    obtain ⟨s, hs⟩ : ∃ s, (strR r)[i]? = some s := ⟨_, List.getElem?_eq_getElem (show i < 3 by omega)⟩
    refine ix (k := i) (es := 1) rfl rfl rfl rfl rfl rfl (by omega) (partS i hs) rfl ?_
    refine pS rfl rfl (SL_nil (nx (SWP_region (pP rfl rfl (pS rfl rfl ?_)))))
    refine SL_call rfl rfl cb128 (CallsS.subF [(B1, Cells 34 r.enc)] (textW2 B hW (by omega) s (strR_ok hr (List.mem_of_getElem? hs))) (.refl _)) rfl (fun v5_2 σ5_2 m5_2 hl5_2 hR5_2 => ?_)
    obtain ⟨σ2, rfl, hW2, hl2⟩ := hR5_2
    refine SL_nil (nb (nx (SWP_region ?_)))
    refine pw rfl rfl (w64 (by omega) (by omega)) ?_
    refine pI rfl rfl (SL_nil (nx ?_))
    refine ⟨by repeat (first | exact Under.upds rfl (Under.hav _ _ _) | exact Under.hav _ _ _ | refine Under.upd rfl ?_ | refine Under.upds rfl ?_ | refine Under.hav2 rfl ?_), ?_, ?_⟩
    · have hb := uvar_len s.data.toList.length
      have hb2 := strR_ok hr (List.mem_of_getElem? hs)
      exact ⟨i + 1, _, σ2, rfl, by omega, by rw [hxs, take_snocA hs]; simp [sT], by unfold txtW; rw [List.length_append, List.length_append]; omega, hW2, rfl, hle.trans hl2⟩
    · simp only [L_vals, List.map, List.getD]; show 3 - (i + 1) < 3 - i; omega
  refine SL_nil (nx (SWP_seq (SWP_cf rfl (SWP_exit (ne (ne (be rfl (nx (SWP_seq (SWP_seq (SWP_region ?_)))))))))))
  refine pu rfl rfl ?_
  refine lw (v := .int .i64 _) B1 3 rfl rfl rfl rfl ?_
  refine pu rfl rfl ?_
  refine lw (v := .int .i64 _) B1 4 rfl rfl rfl rfl ?_
  refine pu rfl rfl ?_
  refine lw (v := .int .i64 _) B1 5 rfl rfl rfl rfl ?_
  refine pA rfl rfl (pI rfl rfl (SL_nil (nx (SWP_block ?_))))
  refine SWP_loop [7, 30, 31, 32, 33, 34, 35, 36] [30]
      (fun vs σ' m' => ∃ (i : Nat) (xs : List UInt8) (σ1 : Sig), vs = [.int .i64 (i : Nat)] ∧ i ≤ 3 ∧ xs = sT (strR r) ++ sI ((numR r).take i) ∧ xs.length ≤ 4000000 + i * 1000011 ∧ WrS B xs σ1 ∧ σ' = σ1 ++ [(B1, Cells 34 r.enc)] ∧ Le m m')
      (fun vs => 3 - nOf (vs.getD 0 undef)) rfl ?_ ?_
  · obtain rfl : i = 3 := by omega
    exact ⟨0, xs, _, rfl, by omega, by rw [hxs]; simp [sI, strR], by omega, hW, rfl, hle⟩
  intro u1 vs1 σ1 m1 hJ1 _
  obtain ⟨i, xs, σ1, rfl, hi, hxs, hxl, hW, rfl, hle⟩ := hJ1
  skip
  refine SWP_seq (SWP_region ?_)
  refine pc rfl rfl (fun c31 => ?_) (fun c31 => ?_)
  · skip
    refine SL_nil (nx (SWP_seq (SWP_ct rfl (SWP_skip (nx (SWP_seq (SWP_block (SWP_seq (SWP_region ?_)))))))))
    obtain ⟨s, hs⟩ : ∃ s, (numR r)[i]? = some s := ⟨_, List.getElem?_eq_getElem (show i < 3 by omega)⟩
    refine ix (k := i) (es := 1) rfl rfl rfl rfl rfl rfl (by omega) (partI i hs) rfl ?_
    refine pI rfl rfl (SL_nil (nx (SWP_region (pP rfl rfl (pI rfl rfl ?_)))))
    refine SL_call rfl rfl cb129 (CallsS.subF [(B1, Cells 34 r.enc)] (intWr B hW (by omega) (numR_ok hr (List.mem_of_getElem? hs)).1 (numR_ok hr (List.mem_of_getElem? hs)).2) (.refl _)) rfl (fun v10_2 σ10_2 m10_2 hl10_2 hR10_2 => ?_)
    obtain ⟨σ2, rfl, hW2, hl2⟩ := hR10_2
    refine SL_nil (nb (nx (SWP_region ?_)))
    refine pw rfl rfl (w64 (by omega) (by omega)) ?_
    refine pI rfl rfl (SL_nil (nx ?_))
    refine ⟨by repeat (first | exact Under.upds rfl (Under.hav _ _ _) | exact Under.hav _ _ _ | refine Under.upd rfl ?_ | refine Under.upds rfl ?_ | refine Under.hav2 rfl ?_), ?_, ?_⟩
    · have hb := uvar_len (zz s)
      exact ⟨i + 1, _, σ2, rfl, by omega, by rw [hxs, take_snocA hs]; simp [sI], by unfold intW; rw [List.length_append]; omega, hW2, rfl, hle.trans hl2⟩
    · simp only [L_vals, List.map, List.getD]; show 3 - (i + 1) < 3 - i; omega
  refine SL_nil (nx (SWP_seq (SWP_cf rfl (SWP_exit (ne (ne (be rfl (nx (SWP_seq (SWP_region (pP rfl rfl ?_)))))))))))
  refine pP rfl rfl (SL_nil (nx (SWP_ret ?_)))
  refine fin [_] ⟨rfl, trivial⟩ ?_
  obtain rfl : i = 3 := by omega
  exact ⟨B, σ1, _, rfl, rfl, by rw [hxs] at hW; exact hW, hle⟩
end Go.Proofs.YtlgoegjboabgfaaGreatDoor
namespace Go.Proofs.YtlgoegjboabgfaaGreatDoor
open Eng
def msgB (r : Rc) : List UInt8 := sT (strR r) ++ sI (numR r)
def signE (k : Int) (r : Rc) : Int := keyedI k (sumB (msgB r))
theorem uvar_ne (x : Nat) : uvar x ≠ [] := by
  unfold uvar
  rw [uvarN]
  split <;> simp
theorem msgB_ne (r : Rc) : msgB r ≠ [] := by
  intro h
  have h1 := (List.append_eq_nil_iff.1 h).1
  simp only [sT, strR, List.flatMap_cons, txtW, List.append_eq_nil_iff] at h1
  exact uvar_ne _ h1.1.1
end Go.Proofs.YtlgoegjboabgfaaGreatDoor
namespace Go.Proofs.YtlgoegjboabgfaaGreatDoor
open Eng
theorem msgB_len {r : Rc} (h : RcOk r) : (msgB r).length ≤ 3000200 := by
  have h1 := h.n; have h2 := h.g; have h3 := h.s
  have u1 := uvar_len r.number.data.toList.length; have u2 := uvar_len r.game.data.toList.length; have u3 := uvar_len r.slip.data.toList.length
  have u4 := uvar_len (zz r.first); have u5 := uvar_len (zz r.price); have u6 := uvar_len (zz r.at_)
  simp only [msgB, sT, sI, strR, numR, List.flatMap_cons, List.flatMap_nil, List.append_nil, List.length_append, txtW, intW]
  omega
theorem Eng.OwnS.some {e size : Nat} {v : Value} {xs : List Value} {σe : Sig} (h : OwnS e size v xs σe) (hne : xs ≠ []) : ∃ (ad : Addr) (n cap : Nat), v = .slice (some ad) n cap ∧ xs.length = n * size ∧ ∀ σ m, (∀ c ∈ σe, c ∈ σ) → Rd σ m ad xs := by
  cases h with
  | nil => exact absurd rfl hne
  | row B n cap xs hx hn hc => exact ⟨⟨B, 0, none⟩, n, cap, rfl, hx, fun σ m hs => Rd.of_row (hs _ (List.mem_cons_self ..))⟩
set_option maxRecDepth 100000 in
theorem signI {m : Mem} {r : Rc} (hr : RcOk r) (k : Int) : PureCall Tryz.prog 55 [.int .u64 k, r.val] m (.int .u64 (signE k r)) := by
  refine CallsS.pure ?_
  dsimp only [Rc.val]
  have hml := msgB_len hr
  refine enter Tryz.func55 Tryz.ntmps55 rfl rfl ?_
  refine SWP_seq (SWP_region ?_)
  refine bx (v := .agg _) rfl rfl (fun B3 => ?_)
  refine pI rfl rfl (SL_nil (nx (SWP_seq (SWP_region (pI rfl rfl ?_)))))
  refine lw (v := r.val) B3 0 rfl rfl rfl rfl ?_
  refine SL_call rfl rfl cb89 (CallsS.frame0 (signedI hr)) rfl (fun v1_2 σ1_2 m1_2 hl1_2 hR1_2 => ?_)
  obtain ⟨σs, rfl, B, σ1, τ, rfl, rfl, hW, hls⟩ := hR1_2
  refine SL_call rfl rfl cb90 (CallsS.subF (τ ++ _) (bytesWr B hW (by show (msgB r).length ≤ _; omega)) (by rw [List.append_assoc])) rfl (fun v1_3 σ1_3 m1_3 hl1_3 hR1_3 => ?_)
  obtain ⟨σb, rfl, σe, τ2, rfl, hown, hW2, hm1_3⟩ := hR1_3
  have hn1_3 := hm1_3.symm
  subst hn1_3
  obtain ⟨ad, n, cap, rfl, hln, hrd⟩ := hown.some (by intro e; exact msgB_ne r (List.map_eq_nil_iff.1 e))
  obtain rfl : n = (msgB r).length := by rw [List.length_map, Nat.mul_one] at hln; exact hln.symm
  refine c2s (l := msgB r) rfl rfl rfl rfl rfl (hrd _ _ (fun c hc => by simp [hc])) rfl ?_
  refine SL_pcall rfl rfl cb88 (keyedG k (msgB r) (by omega)) rfl ?_
  refine pI rfl rfl (SL_nil (nx (SWP_ret ?_)))
  refine fin [_] ⟨rfl, trivial⟩ ?_
  rfl
def Rc.sgn (r : Rc) (s : Int) : Rc := ⟨r.number, r.game, r.slip, r.first, r.price, r.at_, s⟩
theorem signE_sgn (k : Int) (r : Rc) (s : Int) : signE k (r.sgn s) = signE k r := rfl
def issR (t : Tk) (s : ByteArray) : Rc := ⟨t.number, t.game, s, t.first, t.price, t.at_, 0⟩
def issE (k : Int) (t : Tk) (s : ByteArray) : Rc := (issR t s).sgn (signE k (issR t s))
def verE (k : Int) (r : Rc) : Int := if r.sign = signE k r then 0 else 15
set_option maxRecDepth 100000 in
theorem issueI {m : Mem} {t : Tk} {s : ByteArray} (hr : RcOk (issR t s)) (k : Int) : PureCall Tryz.prog 49 [.int .u64 k, t.val, .string s] m (issE k t s).val := by
  refine CallsS.pure ?_
  dsimp only [Tk.val]
  refine enter Tryz.func49 Tryz.ntmps49 rfl rfl ?_
  refine SWP_seq (SWP_region ?_)
  refine bx (v := .agg _) rfl rfl (fun B4 => ?_)
  refine al rfl rfl (fun B6 => ?_)
  refine SL_nil (nx (SWP_seq (SWP_region (pu rfl rfl ?_))))
  refine lw (v := .string _) B4 0 rfl rfl rfl rfl ?_
  refine pu rfl rfl ?_
  refine lw (v := .string _) B4 1 rfl rfl rfl rfl ?_
  refine pS rfl rfl (pu rfl rfl ?_)
  refine lw (v := .int .i64 _) B4 7 rfl rfl rfl rfl ?_
  refine pu rfl rfl ?_
  refine lw (v := .int .i64 _) B4 8 rfl rfl rfl rfl ?_
  refine pu rfl rfl ?_
  refine lw (v := .int .i64 _) B4 9 rfl rfl rfl rfl ?_
  refine pu (v := (issR t s).val) (by kernel_rfl) rfl ?_
  refine al rfl rfl (fun B7 => ?_)
  refine swE B7 0 (issR t s).enc rfl rfl rfl rfl rfl rfl rfl rfl ?_
  refine SL_nil (nx (SWP_seq (SWP_region (pI rfl rfl ?_))))
  refine lw (v := (issR t s).val) B7 0 rfl rfl rfl rfl ?_
  refine SL_pcall rfl rfl cb55 (signI hr k) rfl ?_
  refine pu rfl rfl ?_
  refine swE B7 6 (issE k t s).enc rfl rfl rfl rfl rfl rfl rfl rfl ?_
  refine SL_nil (nx (SWP_seq (SWP_region ?_)))
  refine lw (v := (issE k t s).val) B7 0 rfl rfl rfl rfl ?_
  refine swE B6 0 (issE k t s).enc rfl rfl rfl rfl rfl rfl rfl rfl ?_
  refine SL_nil (nx (SWP_ret ?_))
  refine fin [_] ⟨⟨_, _, rfl, Rd.of_cells (MemO.mem (B := B6)), rfl⟩, trivial⟩ ?_
  rfl
def rcF : List (Nat × Nat) := [(0, 9), (1, 9), (2, 9), (3, 3), (4, 3), (5, 3), (6, 25)]
theorem eqRc : EqOk Tryz.prog 34 rcF := ⟨by kernel_rfl, by kernel_rfl, by kernel_rfl, by kernel_rfl, by kernel_rfl⟩
theorem eqRc_ab (a b : Rc) : eqFieldsV tys a.enc b.enc rcF = some (decide (a = b)) := by
  show some (decide (a.number = b.number) && (decide (a.game = b.game) && (decide (a.slip = b.slip) && (decide (a.first = b.first) && (decide (a.price = b.price) && (decide (a.at_ = b.at_) && (decide (a.sign = b.sign) && true))))))) = _
  refine congrArg some ?_
  rw [Bool.and_true, ← Bool.decide_and, ← Bool.decide_and, ← Bool.decide_and, ← Bool.decide_and, ← Bool.decide_and, ← Bool.decide_and]
  refine decide_eq_decide.2 ?_
  obtain ⟨a1, a2, a3, a4, a5, a6, a7⟩ := a
  obtain ⟨b1, b2, b3, b4, b5, b6, b7⟩ := b
  exact ⟨fun ⟨h1, h2, h3, h4, h5, h6, h7⟩ => by
    cases h1; cases h2; cases h3; cases h4; cases h5; cases h6; cases h7; rfl, fun h => by
    cases h; exact ⟨rfl, rfl, rfl, rfl, rfl, rfl, rfl⟩⟩
theorem sgn_eq (r : Rc) (s : Int) : (r = r.sgn s) ↔ r.sign = s := ⟨fun h => by rw [h]; rfl, fun h => by rw [← h]; rfl⟩
set_option maxRecDepth 100000 in
theorem verifyI {m : Mem} {r : Rc} (hr : RcOk r) (k : Int) : PureCall Tryz.prog 21 [.int .u64 k, r.val] m (.int .i64 (verE k r)) := by
  refine CallsS.pure ?_
  dsimp only [Rc.val]
  refine enter Tryz.func21 Tryz.ntmps21 rfl rfl ?_
  refine SWP_seq (SWP_region ?_)
  refine bx (v := .agg _) rfl rfl (fun B3 => ?_)
  refine pI rfl rfl (SL_nil (nx (SWP_seq (SWP_region ?_))))
  refine lw (v := r.val) B3 0 rfl rfl rfl rfl ?_
  refine al rfl rfl (fun B5 => ?_)
  refine swE B5 0 r.enc rfl rfl rfl rfl rfl rfl rfl rfl ?_
  refine SL_nil (nx (SWP_seq (SWP_region (pI rfl rfl ?_))))
  refine lw (v := r.val) B3 0 rfl rfl rfl rfl ?_
  refine SL_pcall rfl rfl cb55 (signI hr k) rfl ?_
  refine pu rfl rfl ?_
  refine swE B5 6 (r.sgn (signE k r)).enc rfl rfl rfl rfl rfl rfl rfl rfl ?_
  refine SL_nil (nx (SWP_seq (SWP_seq (SWP_region ?_))))
  refine lw (v := r.val) B3 0 rfl rfl rfl rfl ?_
  refine lw (v := (r.sgn (signE k r)).val) B5 0 rfl rfl rfl rfl ?_
  refine neqs (c := decide (r = r.sgn (signE k r))) eqRc rfl rfl (eqRc_ab r (r.sgn (signE k r))) rfl ?_
  refine resay 13 (.bool (decide (¬ r.sign = signE k r))) (congrArg Value.bool (decide_not.symm.trans (decide_eq_decide.2 (not_congr (sgn_eq r _))))) ?_
  refine psp 13 rfl (fun c13 => ?_) (fun c13 => ?_)
  · skip
    refine SL_nil (nx (SWP_ct rfl (SWP_seq (SWP_region (pI rfl rfl (SL_nil (nx (SWP_ret (nr ?_)))))))))
    refine fin [_] ⟨rfl, trivial⟩ ?_
    unfold verE
    rw [if_neg (by assumption)]
    rfl
  refine SL_nil (nx (SWP_cf rfl (SWP_skip (nx (SWP_seq (SWP_region (pI rfl rfl (SL_nil (nx (SWP_ret ?_))))))))))
  refine fin [_] ⟨rfl, trivial⟩ ?_
  unfold verE
  rw [if_pos (Classical.not_not.1 (by assumption))]
  rfl
end Go.Proofs.YtlgoegjboabgfaaGreatDoor
namespace Go.Proofs.YtlgoegjboabgfaaGreatDoor
open Eng
structure TabM (m : Mem) : Prop where
  pow : ∃ (t : TypeId) (z : Nat × Nat), m 2 = some (.cells (Lib.pow10Tab.map fun z => Value.int .u64 z).toArray t z)
  wts : At m ⟨0, 0, none⟩ (wts.map iV)
theorem TabM.mono {m m' : Mem} (h : TabM m) (hl : Le m m') : TabM m' := ⟨let ⟨t, z, e⟩ := h.pow; ⟨t, z, hl _ _ e⟩, h.wts.mono hl⟩
theorem TabM.tab {g : Gh} {W : World} {m : Mem} {σ : Sig} (h : TabM m) (hC : Conc g W m σ) : Lib.TabIs Tryz.prog W "internal/strconv.uint64pow10" .u64 Lib.pow10Tab := by
  obtain ⟨t, z, e⟩ := h.pow
  have hg : (Tryz.prog).globalNamed "internal/strconv.uint64pow10" = some 2 := by kernel_rfl
  have hW := hC.imm _ _ e
  unfold Lib.TabIs World.var?
  rw [hg]
  show (match W.heap[2]? with | some (.cells cs _ _) => some cs | _ => none) = _
  rw [hW]
open Go.Sort Go.RowKit in
theorem below_growS (w : World) (k : Nat) (os : Array Obj) : Go.RowKit.Below w.heap.size w (grow (w.drewN k) os) :=
  ⟨rfl, rfl, rfl, by show w.heap.size ≤ (w.heap ++ os).size; rw [Array.size_append]; omega, fun j hj => by show (w.heap ++ os)[j]? = w.heap[j]?; exact Array.getElem?_append_left hj⟩
theorem itoaG {m : Mem} (hT : TabM m) (n : Nat) (h : n ≤ 9223372036854775807) : PureCall Tryz.prog 105 [.int .i64 (n : Nat)] m (.string (bA (Lib.decDigits n))) := fun σ =>
  CallsS.below fun g W hC => (Tryz.strconv_Itoa (n : Nat) (by omega) (by omega) W (hT.tab hC)).mono fun e w' ⟨he, k, os, hw⟩ => by
    rw [Lib.itoa_nonneg] at he
    exact ⟨he, hw ▸ below_growS W k os⟩
theorem repeat_rep (b : UInt8) : ∀ c : Nat, Lib.repeatL [b] c = List.replicate c b
  | 0 => rfl
  | c + 1 => by rw [Lib.repeatL, repeat_rep b c]; rfl
theorem repeatI {m : Mem} (c : Nat) (h : c ≤ 100) : PureCall Tryz.prog 147 [.string ⟨#[48]⟩, .int .i64 (c : Nat)] m (.string (bA (List.replicate c 48))) := fun σ =>
  CallsS.below fun g W hC => (Tryz.strings_Repeat ⟨#[48]⟩ c W (by omega) (by show 1 * c ≤ _; omega)).mono fun e w' ⟨he, hw⟩ => by
    rw [show (⟨#[48]⟩ : ByteArray).data.toList = [48] from rfl, repeat_rep] at he
    exact ⟨he, hw⟩
theorem wrap8 (x : Int) : IntKind.u8.wrap x = x % 256 := by simp [IntKind.wrap, IntKind.bits, IntKind.signed]
theorem digB_rng {b : UInt8} (h : digB b = true) : 48 ≤ b.toNat ∧ b.toNat ≤ 57 := by simpa [digB] using h
def ckS (l : Wd) (i : Nat) : Int := (((wts.zip l).take i).map fun p => p.1 * ((p.2.toNat - 48 : Nat) : Int)).sum
theorem ckS_succ {l : Wd} {i : Nat} {w : Int} {b : UInt8} (hw : wts[i]? = some w) (hb : l[i]? = some b) : ckS l (i + 1) = ckS l i + w * ((b.toNat - 48 : Nat) : Int) := by
  unfold ckS
  have h : (wts.zip l)[i]? = some (w, b) := by rw [List.getElem?_zip_eq_some]; exact ⟨hw, hb⟩
  rw [take_snocA h, List.map_append, List.sum_append]
  simp
theorem ckS_all {l : Wd} (h : 12 ≤ l.length) : chkI l = 98 - ckS l 12 % 97 := by
  unfold chkI ckS
  rw [List.take_of_length_le (by rw [List.length_zip]; simp [wts]; omega)]
theorem wts_rng {w : Int} (h : w ∈ wts) : 3 ≤ w ∧ w ≤ 90 := by
  have : ∀ w ∈ wts, 3 ≤ w ∧ w ≤ 90 := by decide
  exact this w h
theorem ckS_rng {l : Wd} (hd : l.all digB = true) : ∀ i : Nat, i ≤ 12 → 12 ≤ l.length → 0 ≤ ckS l i ∧ ckS l i ≤ i * 810
  | 0, _, _ => ⟨Int.le_refl _, Int.le_refl _⟩
  | i + 1, hi, hl => by
    have ih := ckS_rng hd i (by omega) hl
    obtain ⟨w, hw⟩ : ∃ w, wts[i]? = some w := ⟨_, List.getElem?_eq_getElem (show i < wts.length by show i < 12; omega)⟩
    obtain ⟨b, hb⟩ : ∃ b, l[i]? = some b := ⟨_, List.getElem?_eq_getElem (by omega)⟩
    have h1 := wts_rng (List.mem_of_getElem? hw)
    have h2 := digB_rng (List.all_eq_true.1 hd b (List.mem_of_getElem? hb))
    have hm : 0 ≤ w * ((b.toNat - 48 : Nat) : Int) ∧ w * ((b.toNat - 48 : Nat) : Int) ≤ 810 := ⟨Int.mul_nonneg (by omega) (by omega), Int.le_trans (Int.mul_le_mul h1.2 (show ((b.toNat - 48 : Nat) : Int) ≤ 9 by omega) (by omega) (by decide)) (by decide)⟩
    rw [ckS_succ hw hb]
    push_cast
    omega
theorem partW {i : Nat} {w : Int} (h : wts[i]? = some w) : partV tys 3 (wts.map iV) (i * 1) = some (iV w) := by
  show (wts.map iV)[i * 1]? = some (iV w)
  rw [Nat.mul_one, List.getElem?_map, h]; rfl
def tnOk (a b : Int) : Prop := 1 ≤ a ∧ a ≤ 32 ∧ 1 ≤ b ∧ b ≤ 1048576
instance (a b : Int) : Decidable (tnOk a b) := by unfold tnOk; infer_instance
theorem valB_take {l : Wd} (hd : l.all digB = true) {i : Nat} (hi : i ≤ 10) : valB (l.take i) < 10000000000 := by
  have h := valB_lt (l.take i).length (l.take i) rfl (all_sub hd fun x hx => List.mem_of_mem_take hx)
  refine Nat.lt_of_lt_of_le h (Nat.le_trans (Nat.pow_le_pow_right (n := 10) (j := 10) (by decide) (by rw [List.length_take]; omega)) (by decide))
def numE (l : Wd) : Int :=
  if l.length ≠ 14 ∨ l.all digB = false then 1
  else if (valB (l.drop 12) : Int) ≠ chkI l then 15
  else if ¬ tnOk (valB (l.take 2) : Nat) (valB ((l.take 12).drop 2) : Nat) then 2 else 0
theorem numE_zero {l : Wd} (h : numE l = 0) : l = numT (valB (l.take 2)) (valB ((l.take 12).drop 2)) ∧ tnOk (valB (l.take 2) : Nat) (valB ((l.take 12).drop 2) : Nat) := by
  unfold numE at h
  by_cases h1 : l.length ≠ 14 ∨ l.all digB = false
  · rw [if_pos h1] at h; cases h
  rw [if_neg h1] at h
  by_cases h2 : (valB (l.drop 12) : Int) ≠ chkI l
  · rw [if_pos h2] at h; cases h
  rw [if_neg h2] at h
  by_cases h3 : ¬ tnOk (valB (l.take 2) : Nat) (valB ((l.take 12).drop 2) : Nat)
  · rw [if_pos h3] at h; cases h
  refine ⟨numT_back (by omega) ?_ (Classical.not_not.1 h2), Classical.not_not.1 h3⟩
  cases h4 : l.all digB with
  | true => rfl
  | false => exact absurd (.inr h4) h1
theorem fmtG {m : Mem} (hT : TabM m) (n : Nat) (h : n ≤ 9223372036854775807) : PureCall Tryz.prog 75 [.int .i64 (n : Nat)] m (.string (bA (Lib.decDigits n))) := by
  refine CallsS.pure ?_
  refine enter Tryz.func75 Tryz.ntmps75 rfl rfl ?_
  refine SWP_seq (SWP_region (pS rfl rfl (SL_nil (nx (SWP_seq (SWP_region (pI rfl rfl ?_)))))))
  refine SL_pcall rfl rfl cb105 (itoaG hT n h) rfl ?_
  refine pS rfl rfl (SL_nil (nx (SWP_ret ?_)))
  refine fin [_] ⟨rfl, trivial⟩ ?_
  rfl
set_option maxRecDepth 100000 in
theorem paddedT {m : Mem} (hT : TabM m) {n w : Nat} (hw : w ≤ 15) (h : n < 10 ^ (w + 1)) : PureCall Tryz.prog 110 [.int .i64 (n : Nat), .int .i64 ((w + 1 : Nat) : Int)] m (.string (bA (padR (w + 1) n))) := by
  refine CallsS.pure ?_
  have hdl := dec_len w n h
  have hn : n ≤ 9223372036854775807 := Nat.le_trans (Nat.le_of_lt h) (Nat.le_trans (Nat.pow_le_pow_right (n := 10) (j := 16) (by decide) (by omega)) (by decide))
  have hsz := bA_size (Lib.decDigits n)
  refine enter Tryz.func110 Tryz.ntmps110 rfl rfl ?_
  refine SWP_seq (SWP_region (pS rfl rfl (SL_nil (nx (SWP_seq (SWP_region (pI rfl rfl ?_)))))))
  refine SL_pcall rfl rfl cb75 (fmtG hT n hn) rfl ?_
  refine pS rfl rfl (SL_nil (nx (SWP_seq (SWP_region (pI rfl rfl (pS rfl rfl ?_))))))
  refine pu (v := .int .i64 ((bA (Lib.decDigits n)).size : Nat)) rfl rfl ?_
  rw [hsz]
  refine pw rfl rfl (w64 (by omega) (by omega)) ?_
  refine pu (v := .int .i64 (max 0 (((w + 1 : Nat) : Int) - ((Lib.decDigits n).length : Nat)))) rfl rfl ?_
  rw [show max 0 (((w + 1 : Nat) : Int) - ((Lib.decDigits n).length : Nat)) = ((w + 1 - (Lib.decDigits n).length : Nat) : Int) by omega]
  refine SL_pcall rfl rfl cb147 (repeatI (w + 1 - (Lib.decDigits n).length) (by omega)) rfl ?_
  refine pS rfl rfl ?_
  refine sadd (a := bA (List.replicate (w + 1 - (Lib.decDigits n).length) 48)) (b := bA (Lib.decDigits n)) rfl rfl (by rw [bA_size, bA_size, List.length_replicate]; omega) rfl ?_
  rw [bA_app, pad_dec w n h]
  refine pS rfl rfl (SL_nil (nx (SWP_ret ?_)))
  refine fin [_] ⟨rfl, trivial⟩ ?_
  rfl
set_option maxRecDepth 100000 in
theorem checkT {m : Mem} (hT : TabM m) {l : Wd} (hl : 12 ≤ l.length) (hl2 : l.length ≤ 14) (hd : l.all digB = true) : PureCall Tryz.prog 95 [.string (bA l)] m (.int .i64 (chkI l)) := by
  refine CallsS.pure ?_
  refine enter Tryz.func95 Tryz.ntmps95 rfl rfl ?_
  refine SWP_seq (SWP_region (pI rfl rfl (SL_nil (nx (SWP_seq (SWP_region (pI rfl rfl (SL_nil (nx (SWP_seq (SWP_seq ?_)))))))))))
  refine SWP_region ?_
  refine ldA (v := .agg (wts.map iV).toArray) rfl hT.wts rfl rfl ?_
  refine pI rfl rfl (SL_nil (nx (SWP_block ?_)))
  refine SWP_loop [3, 4, 5, 7, 8, 9, 10, 11, 12, 13, 14, 15, 16, 17, 18, 19, 20] [3, 7]
      (fun vs σ' m' => ∃ (i : Nat), vs = [.int .i64 (ckS l i), .int .i64 (i : Nat)] ∧ i ≤ 12 ∧ σ' = [] ∧ m = m')
      (fun vs => 12 - nOf (vs.getD 1 undef)) rfl ?_ ?_
  · exact ⟨0, rfl, by omega, rfl, rfl⟩
  intro u0 vs0 σ0 m0 hJ0 _
  obtain ⟨i, rfl, hi, rfl, rfl⟩ := hJ0
  have hcr := ckS_rng hd i (by omega) hl
  refine SWP_seq (SWP_region ?_)
  refine pc rfl rfl (fun c8 => ?_) (fun c8 => ?_)
  · skip
    refine SL_nil (nx (SWP_seq (SWP_ct rfl (SWP_skip (nx (SWP_seq (SWP_block (SWP_seq ?_))))))))
    obtain ⟨w, hw⟩ : ∃ w, wts[i]? = some w := ⟨_, List.getElem?_eq_getElem (show i < wts.length by show i < 12; omega)⟩
    refine SWP_region (pI rfl rfl ?_)
    refine ix (k := i) (es := 1) (cs := (wts.map iV).toArray) rfl rfl rfl rfl rfl rfl (by omega) (partW hw) rfl ?_
    refine pI rfl rfl (pI rfl rfl (SL_nil (nx ?_)))
    obtain ⟨b, hb⟩ : ∃ b, l[i]? = some b := ⟨_, List.getElem?_eq_getElem (by omega)⟩
    have h2 := digB_rng (List.all_eq_true.1 hd b (List.mem_of_getElem? hb))
    have h1 := wts_rng (List.mem_of_getElem? hw)
    have hm : 0 ≤ w * ((b.toNat - 48 : Nat) : Int) ∧ w * ((b.toNat - 48 : Nat) : Int) ≤ 810 := ⟨Int.mul_nonneg (by omega) (by omega), Int.le_trans (Int.mul_le_mul h1.2 (show ((b.toNat - 48 : Nat) : Int) ≤ 9 by omega) (by omega) (by decide)) (by decide)⟩
    have hcr := ckS_rng hd i (by omega) hl
    refine SWP_region (pI rfl rfl (pI rfl rfl (pS rfl rfl (pI rfl rfl ?_))))
    refine ixs (k := i) rfl rfl rfl hb rfl ?_
    refine pw rfl rfl (by rw [wrap8]; omega) ?_
    rw [show ((b.toNat : Nat) : Int) - 48 = ((b.toNat - 48 : Nat) : Int) by omega]
    refine pw rfl rfl (w64 (by omega) (by omega)) ?_
    refine pw rfl rfl (w64 (by omega) (by omega)) ?_
    refine pw rfl rfl (w64 (by omega) (by omega)) ?_
    refine pI rfl rfl (SL_nil (nb (nx (SWP_region ?_))))
    refine pw rfl rfl (w64 (by omega) (by omega)) ?_
    refine pI rfl rfl (SL_nil (nx ?_))
    refine ⟨by repeat (first | exact Under.upds rfl (Under.hav _ _ _) | exact Under.hav _ _ _ | refine Under.upd rfl ?_), ?_, ?_⟩
    · refine ⟨i + 1, ?_, by omega, rfl, rfl⟩
      rw [ckS_succ hw hb]
      rfl
    · simp only [L_vals, List.map, List.getD]; show 12 - (i + 1) < 12 - i; omega
  refine SL_nil (nx (SWP_seq (SWP_cf rfl (SWP_exit (ne (ne (be rfl (nx (SWP_seq (SWP_region (pI rfl rfl ?_)))))))))))
  refine prm rfl rfl (by omega) (Int.tmod_eq_emod_of_nonneg hcr.1) rfl ?_
  refine pw rfl rfl (w64 (by omega) (by omega)) ?_
  refine pI rfl rfl (SL_nil (nx (SWP_ret ?_)))
  refine fin [_] ⟨rfl, trivial⟩ ?_
  obtain rfl : i = 12 := by omega
  rw [ckS_all hl]
  rfl
theorem validT {m : Mem} (a b : Int) : PureCall Tryz.prog 96 [.int .i64 a, .int .i64 b] m (.bool (decide (tnOk a b))) := by
  refine CallsS.pure ?_
  refine enter Tryz.func96 Tryz.ntmps96 rfl rfl ?_
  refine SWP_seq (SWP_region (pB rfl rfl (SL_nil (nx (SWP_seq (SWP_region (pI rfl rfl ?_)))))))
  refine pc rfl rfl (fun c6 => ?_) (fun c6 => ?_)
  · skip
    refine pB rfl rfl (SL_yes rfl (pI rfl rfl (SL_yes rfl ?_)))
    refine pc rfl rfl (fun c9 => ?_) (fun c9 => ?_)
    · skip
      refine pB rfl rfl (pB rfl rfl (SL_yes rfl (pI rfl rfl (SL_yes rfl ?_))))
      refine pc rfl rfl (fun c13 => ?_) (fun c13 => ?_)
      · skip
        refine pB rfl rfl (pB rfl rfl (SL_yes rfl (pI rfl rfl (SL_yes rfl (pu rfl rfl (pB rfl rfl (pB rfl rfl (SL_nil (nx (SWP_ret ?_))))))))))
        refine fin [_] ⟨rfl, trivial⟩ ?_
        exact congrArg Value.bool (decide_eq_decide.2 ⟨fun h => ⟨by omega, by omega, by omega, h⟩, fun h => h.2.2.2⟩)
      refine pB rfl rfl (pB rfl rfl (SL_no rfl rfl (SL_no rfl rfl (pB rfl rfl (pB rfl rfl (SL_nil (nx (SWP_ret ?_))))))))
      refine fin [_] ⟨rfl, trivial⟩ ?_
      exact congrArg Value.bool (decide_eq_false (fun h => by unfold tnOk at h; omega)).symm
    refine pB rfl rfl (pB rfl rfl (SL_no rfl rfl (SL_no rfl rfl (pB rfl rfl (pB rfl rfl (SL_no rfl rfl (SL_no rfl rfl (pB rfl rfl (pB rfl rfl (SL_nil (nx ?_)))))))))))
    refine SWP_ret ?_
    refine fin [_] ⟨rfl, trivial⟩ ?_
    exact congrArg Value.bool (decide_eq_false (fun h => by unfold tnOk at h; omega)).symm
  refine pB rfl rfl (SL_no rfl rfl (SL_no rfl rfl (pB rfl rfl (pB rfl rfl (SL_no rfl rfl (SL_no rfl rfl (pB rfl rfl (pB rfl rfl (SL_no rfl rfl (SL_no rfl rfl (pB rfl rfl ?_)))))))))))
  refine pB rfl rfl (SL_nil (nx (SWP_ret ?_)))
  refine fin [_] ⟨rfl, trivial⟩ ?_
  exact congrArg Value.bool (decide_eq_false (fun h => by unfold tnOk at h; omega)).symm
def makeV (a b : Int) : Value := if tnOk a b then .tuple #[.string (bA (numT a.toNat b.toNat)), .int .i64 0] else .tuple #[.string ⟨#[]⟩, .int .i64 2]
set_option maxRecDepth 100000 in
theorem makeT {m : Mem} (hT : TabM m) (a b : Int) : PureCall Tryz.prog 79 [.int .i64 a, .int .i64 b] m (makeV a b) := by
  refine CallsS.pure ?_
  refine enter Tryz.func79 Tryz.ntmps79 rfl rfl ?_
  refine SWP_seq (SWP_region (pS rfl rfl (pI rfl rfl (SL_nil (nx (SWP_seq (SWP_seq (SWP_region (pI rfl rfl (pI rfl rfl ?_))))))))))
  refine SL_pcall rfl rfl cb96 (validT a b) rfl ?_
  refine pu (v := .bool (!decide (tnOk a b))) rfl rfl ?_
  refine resay 10 (.bool (decide (¬ tnOk a b))) (congrArg Value.bool decide_not.symm) ?_
  refine psp 10 rfl (fun c10 => ?_) (fun c10 => ?_)
  · skip
    refine SL_nil (nx (SWP_ct rfl (SWP_seq (SWP_region (pS rfl rfl (pI rfl rfl (SL_nil (nx (SWP_ret (nr ?_))))))))))
    refine fin [_, _] ⟨rfl, rfl, trivial⟩ ?_
    exact (if_neg (by assumption)).symm
  refine SL_nil (nx (SWP_cf rfl (SWP_skip (nx (SWP_seq ?_)))))
  have hok : tnOk a b := Classical.not_not.1 (by assumption)
  obtain ⟨o1, o2, o3, o4⟩ := id hok
  obtain ⟨x, hx⟩ : ∃ x : Nat, x = a.toNat := ⟨_, rfl⟩
  obtain ⟨y, hy⟩ : ∃ y : Nat, y = b.toNat := ⟨_, rfl⟩
  have ha : ((x : Nat) : Int) = a := by omega
  have hb : ((y : Nat) : Int) = b := by omega
  have hbl := body_len x y
  replace hbl : 12 ≤ (padR 2 x ++ padR 10 y).length ∧ (padR 2 x ++ padR 10 y).length ≤ 14 := by omega
  have hbd : (padR 2 x ++ padR 10 y).all digB = true := by rw [List.all_append, padR_dig, padR_dig]; rfl
  have hcr := chkI_rng (padR 2 x ++ padR 10 y)
  obtain ⟨z, hz⟩ : ∃ z : Nat, z = (chkI (padR 2 x ++ padR 10 y)).toNat := ⟨_, rfl⟩
  have hc : ((z : Nat) : Int) = chkI (padR 2 x ++ padR 10 y) := by omega
  refine SWP_region (pI rfl rfl ?_)
  refine SL_pcall rfl rfl cb110 (ha ▸ paddedT hT (n := x) (w := 1) (by decide) (by omega)) rfl ?_
  refine pI rfl rfl ?_
  refine SL_pcall rfl rfl cb110 (hb ▸ paddedT hT (n := y) (w := 9) (by decide) (by omega)) rfl ?_
  refine sadd (a := bA (padR 2 x)) (b := bA (padR 10 y)) rfl rfl (by rw [bA_size, bA_size, padR_len, padR_len]; omega) rfl ?_
  rw [bA_app]
  refine pS rfl rfl (SL_nil (nx (SWP_seq (SWP_region (pS rfl rfl (pS rfl rfl ?_))))))
  refine SL_pcall rfl rfl cb95 (checkT hT hbl.1 hbl.2 hbd) rfl ?_
  refine SL_pcall rfl rfl cb110 (hc ▸ paddedT hT (n := z) (w := 1) (by decide) (by omega)) rfl ?_
  refine sadd (a := bA (padR 2 x ++ padR 10 y)) (b := bA (padR 2 z)) rfl rfl (by rw [bA_size, bA_size, List.length_append, padR_len, padR_len, padR_len]; omega) rfl ?_
  rw [bA_app]
  refine pS rfl rfl (pI rfl rfl (SL_nil (nx (SWP_ret ?_))))
  refine fin [_, _] ⟨rfl, rfl, trivial⟩ ?_
  rw [show makeV a b = _ from if_pos hok, ← hx, ← hy]
  unfold numT
  rw [← hz]
  rfl
set_option maxRecDepth 100000 in
theorem valueT {m : Mem} {l : Wd} (hl : l.length ≤ 10) (hd : l.all digB = true) : PureCall Tryz.prog 94 [.string (bA l)] m (.int .i64 (valB l : Nat)) := by
  refine CallsS.pure ?_
  have hsz := bA_size l
  refine enter Tryz.func94 Tryz.ntmps94 rfl rfl ?_
  refine SWP_seq (SWP_region (pI rfl rfl (SL_nil (nx (SWP_seq (SWP_region (pI rfl rfl (SL_nil (nx (SWP_seq (SWP_seq ?_)))))))))))
  refine SWP_region (pS rfl rfl ?_)
  refine pu (v := .int .i64 ((bA l).size : Nat)) rfl rfl ?_
  rw [hsz]
  refine pI rfl rfl (SL_nil (nx (SWP_block ?_)))
  refine SWP_loop [3, 4, 7, 8, 9, 10, 11, 12, 13, 14, 15, 16, 17, 18] [3, 7]
      (fun vs σ' m' => ∃ (i : Nat), vs = [.int .i64 (valB (l.take i) : Nat), .int .i64 (i : Nat)] ∧ i ≤ l.length ∧ σ' = [] ∧ m = m')
      (fun vs => l.length - nOf (vs.getD 1 undef)) rfl ?_ ?_
  · exact ⟨0, rfl, by omega, rfl, rfl⟩
  intro u0 vs0 σ0 m0 hJ0 _
  obtain ⟨i, rfl, hi, rfl, rfl⟩ := hJ0
  refine SWP_seq (SWP_region ?_)
  refine pc rfl rfl (fun c8 => ?_) (fun c8 => ?_)
  · skip
    refine SL_nil (nx (SWP_seq (SWP_ct rfl (SWP_skip (nx (SWP_seq (SWP_block (SWP_seq (SWP_region (pI rfl rfl (pI rfl rfl ?_)))))))))))
    refine SL_nil (nx ?_)
    obtain ⟨b, hb⟩ : ∃ b, l[i]? = some b := ⟨_, List.getElem?_eq_getElem (by omega)⟩
    have h2 := digB_rng (List.all_eq_true.1 hd b (List.mem_of_getElem? hb))
    have hv := valB_take hd (i := i) (by omega)
    refine SWP_region (pI rfl rfl ?_)
    refine pw rfl rfl (w64 (by omega) (by omega)) ?_
    refine pS rfl rfl (pI rfl rfl ?_)
    refine ixs (k := i) rfl rfl rfl hb rfl ?_
    refine pw rfl rfl (by rw [wrap8]; omega) ?_
    rw [show ((b.toNat : Nat) : Int) - 48 = ((b.toNat - 48 : Nat) : Int) by omega]
    refine pw rfl rfl (w64 (by omega) (by omega)) ?_
    refine pw rfl rfl (w64 (by omega) (by omega)) ?_
    refine pI rfl rfl (SL_nil (nb (nx (SWP_region ?_))))
    refine pw rfl rfl (w64 (by omega) (by omega)) ?_
    refine pI rfl rfl (SL_nil (nx ?_))
    refine ⟨by repeat (first | exact Under.upds rfl (Under.hav _ _ _) | exact Under.hav _ _ _ | refine Under.upd rfl ?_), ?_, ?_⟩
    · refine ⟨i + 1, ?_, by omega, rfl, rfl⟩
      rw [take_snocA hb, valB_snoc]
      push_cast
      rfl
    · simp only [L_vals, List.map, List.getD]; show l.length - (i + 1) < l.length - i; omega
  refine SL_nil (nx (SWP_seq (SWP_cf rfl (SWP_exit (ne (ne (be rfl (nx (SWP_seq (SWP_region (pI rfl rfl ?_)))))))))))
  refine pI rfl rfl (SL_nil (nx (SWP_ret ?_)))
  refine fin [_] ⟨rfl, trivial⟩ ?_
  obtain rfl : i = l.length := by omega
  rw [List.take_length]
  rfl
end Go.Proofs.YtlgoegjboabgfaaGreatDoor
namespace Go.Proofs.YtlgoegjboabgfaaGreatDoor
open Eng
def parA (l : Wd) : Int := if numE l = 0 then (valB (l.take 2) : Nat) else 0
def parB (l : Wd) : Int := if numE l = 0 then (valB ((l.take 12).drop 2) : Nat) else 0
def parV (l : Wd) : Value := .tuple #[.int .i64 (parA l), .int .i64 (parB l), .int .i64 (numE l)]
theorem parV_no {l : Wd} {e : Int} (h : numE l = e) (he : e ≠ 0) : parV l = .tuple #[.int .i64 0, .int .i64 0, .int .i64 e] := by
  unfold parV parA parB
  rw [h, if_neg he, if_neg he]
theorem parV_yes {l : Wd} (h : numE l = 0) : parV l = .tuple #[.int .i64 (valB (l.take 2) : Nat), .int .i64 (valB ((l.take 12).drop 2) : Nat), .int .i64 0] := by
  unfold parV parA parB
  rw [h, if_pos rfl, if_pos rfl]
theorem numE_1 {l : Wd} (h : l.length ≠ 14 ∨ l.all digB = false) : numE l = 1 := if_pos h
theorem numE_15 {l : Wd} (h : l.length = 14) (hd : l.all digB = true) (hc : (valB (l.drop 12) : Int) ≠ chkI l) : numE l = 15 := by
  unfold numE
  rw [if_neg (by rw [hd]; rintro (h1 | h1); exact h1 h; cases h1), if_pos hc]
theorem numE_2 {l : Wd} (h : l.length = 14) (hd : l.all digB = true) (hc : (valB (l.drop 12) : Int) = chkI l) (ht : ¬ tnOk (valB (l.take 2) : Nat) (valB ((l.take 12).drop 2) : Nat)) : numE l = 2 := by
  unfold numE
  rw [if_neg (by rw [hd]; rintro (h1 | h1); exact h1 h; cases h1), if_neg (fun hh => hh hc), if_pos ht]
theorem numE_0 {l : Wd} (h : l.length = 14) (hd : l.all digB = true) (hc : (valB (l.drop 12) : Int) = chkI l) (ht : tnOk (valB (l.take 2) : Nat) (valB ((l.take 12).drop 2) : Nat)) : numE l = 0 := by
  unfold numE
  rw [if_neg (by rw [hd]; rintro (h1 | h1); exact h1 h; cases h1), if_neg (fun hh => hh hc), if_neg (fun hh => hh ht)]
theorem all_bad {l : Wd} {b : UInt8} {i : Nat} (hb : l[i]? = some b) (h : ¬ (48 ≤ b.toNat ∧ b.toNat ≤ 57)) : l.all digB = false := by
  cases ha : l.all digB with
  | false => rfl
  | true => exact absurd (digB_rng (List.all_eq_true.1 ha b (List.mem_of_getElem? hb))) h
set_option maxRecDepth 100000 in
theorem parseT {m : Mem} (hT : TabM m) (l : Wd) : PureCall Tryz.prog 57 [.string (bA l)] m (parV l) := by
  refine CallsS.pure ?_
  have hsz := bA_size l
  refine enter Tryz.func57 Tryz.ntmps57 rfl rfl ?_
  refine SWP_seq (SWP_region (pI rfl rfl (pI rfl rfl (pI rfl rfl (SL_nil (nx (SWP_seq (SWP_seq (SWP_region (pS rfl rfl ?_))))))))))
  refine pu (v := .int .i64 ((bA l).size : Nat)) rfl rfl ?_
  rw [hsz]
  refine pc rfl rfl (fun c10 => ?_) (fun c10 => ?_)
  · skip
    refine SL_nil (nx (SWP_ct rfl (SWP_seq (SWP_region (pI rfl rfl (pI rfl rfl (pI rfl rfl (SL_nil (nx (SWP_ret (nr ?_)))))))))))
    refine fin [_, _, _] ⟨rfl, rfl, rfl, trivial⟩ ?_
    exact (parV_no (numE_1 (.inl (by omega))) (by decide)).symm
  refine SL_nil (nx (SWP_cf rfl (SWP_skip (nx (SWP_seq (SWP_seq (SWP_region (pS rfl rfl ?_))))))))
  refine pu (v := .int .i64 ((bA l).size : Nat)) rfl rfl ?_
  rw [hsz]
  refine pI rfl rfl (SL_nil (nx (SWP_block ?_)))
  refine SWP_loop [2, 3, 4, 5, 13, 14, 15, 16, 17, 18, 19, 20, 21, 22, 23, 24, 25, 26] [13]
      (fun vs σ' m' => ∃ (i : Nat), vs = [.int .i64 (i : Nat)] ∧ i ≤ l.length ∧ (l.take i).all digB = true ∧ σ' = [] ∧ m = m')
      (fun vs => l.length - nOf (vs.getD 0 undef)) rfl ?_ ?_
  · exact ⟨0, rfl, by omega, rfl, rfl, rfl⟩
  intro u0 vs0 σ0 m0 hJ0 _
  obtain ⟨i, rfl, hi, hd, rfl, rfl⟩ := hJ0
  refine SWP_seq (SWP_region ?_)
  refine pc rfl rfl (fun c14 => ?_) (fun c14 => ?_)
  · skip
    refine SL_nil (nx (SWP_seq (SWP_ct rfl (SWP_skip (nx (SWP_seq (SWP_block (SWP_seq (SWP_region (pI rfl rfl (pI rfl rfl ?_)))))))))))
    refine SL_nil (nx (SWP_seq ?_))
    obtain ⟨b, hb⟩ : ∃ b, l[i]? = some b := ⟨_, List.getElem?_eq_getElem (by omega)⟩
    have hbr := b.toNat_lt
    refine SWP_region (pS rfl rfl (pI rfl rfl ?_))
    refine ixs (k := i) rfl rfl rfl hb rfl ?_
    refine pc rfl rfl (fun c19 => ?_) (fun c19 => ?_)
    · skip
      refine pB rfl rfl (SL_no rfl rfl (SL_no rfl rfl (SL_no rfl rfl (SL_no rfl rfl (pB rfl rfl (SL_nil (nx (SWP_ct rfl (SWP_seq (SWP_region (pI rfl rfl ?_)))))))))))
      refine pI rfl rfl (pI rfl rfl (SL_nil (nx (SWP_ret (br (nr (nr (br (nr ?_)))))))))
      refine fin [_, _, _] ⟨rfl, rfl, rfl, trivial⟩ ?_
      exact (parV_no (numE_1 (.inr (all_bad hb (by omega)))) (by decide)).symm
    refine pB rfl rfl (SL_yes rfl (pS rfl rfl (SL_yes rfl (pI rfl rfl (SL_yes rfl ?_)))))
    refine ixs (k := i) rfl rfl rfl hb rfl ?_
    refine SL_yes rfl ?_
    refine pc rfl rfl (fun c24 => ?_) (fun c24 => ?_)
    · skip
      refine pB rfl rfl (SL_nil (nx (SWP_ct rfl (SWP_seq (SWP_region (pI rfl rfl (pI rfl rfl (pI rfl rfl (SL_nil (nx (SWP_ret ?_)))))))))))
      refine br (nr (nr (br (nr ?_))))
      refine fin [_, _, _] ⟨rfl, rfl, rfl, trivial⟩ ?_
      exact (parV_no (numE_1 (.inr (all_bad hb (by omega)))) (by decide)).symm
    refine pB rfl rfl (SL_nil (nx (SWP_cf rfl (SWP_skip (nb (nx (SWP_region ?_)))))))
    refine pw rfl rfl (w64 (by omega) (by omega)) ?_
    refine pI rfl rfl (SL_nil (nx ?_))
    refine ⟨by repeat (first | exact Under.upds rfl (Under.hav _ _ _) | exact Under.hav _ _ _ | refine Under.upd rfl ?_), ?_, ?_⟩
    · refine ⟨i + 1, rfl, by omega, ?_, rfl, rfl⟩
      rw [all_takeB hb, hd, Bool.true_and]
      unfold digB
      exact decide_eq_true ⟨by omega, by omega⟩
    · simp only [L_vals, List.map, List.getD]; show l.length - (i + 1) < l.length - i; omega
  refine SL_nil (nx (SWP_seq (SWP_cf rfl (SWP_exit (ne (ne (be rfl (nx (SWP_seq (SWP_seq ?_))))))))))
  have h14 : l.length = 14 := by omega
  obtain rfl : i = l.length := by omega
  rw [List.take_length] at hd
  refine SWP_region (pS rfl rfl ?_)
  refine ssl rfl rfl rfl (by omega) (by omega) rfl ?_
  rw [show (bA l).extract ((12 : Int)).toNat (bA l).size = bA (l.drop 12) by rw [bA_ext, hsz]; show bA ((l.drop 12).take _) = _; rw [List.take_of_length_le (by rw [List.length_drop]; exact Nat.le_refl _)]]
  refine SL_pcall rfl rfl cb94 (valueT (l := l.drop 12) (by rw [List.length_drop]; omega) (all_sub hd fun x hx => List.mem_of_mem_drop hx)) rfl ?_
  refine pS rfl rfl ?_
  refine SL_pcall rfl rfl cb95 (checkT hT (by omega) (by omega) hd) rfl ?_
  refine pc rfl rfl (fun c32 => ?_) (fun c32 => ?_)
  · skip
    refine SL_nil (nx (SWP_ct rfl (SWP_seq (SWP_region (pI rfl rfl (pI rfl rfl (pI rfl rfl (SL_nil (nx (SWP_ret (nr ?_)))))))))))
    refine fin [_, _, _] ⟨rfl, rfl, rfl, trivial⟩ ?_
    exact (parV_no (numE_15 h14 hd (by assumption)) (by decide)).symm
  refine SL_nil (nx (SWP_cf rfl (SWP_skip (nx (SWP_seq ?_)))))
  have hc : (valB (l.drop 12) : Int) = chkI l := Classical.not_not.1 (by assumption)
  refine SWP_draws (by kernel_rfl) (by kernel_rfl) ?_
  refine pS rfl rfl ?_
  refine ssh rfl rfl rfl (by omega) (by omega) rfl ?_
  rw [show (bA l).extract 0 ((2 : Int)).toNat = bA (l.take 2) by rw [bA_ext]; rfl]
  refine SL_pcall rfl rfl cb94 (valueT (l := l.take 2) (by rw [List.length_take]; omega) (all_sub hd fun x hx => List.mem_of_mem_take hx)) rfl ?_
  refine pS rfl rfl ?_
  refine sst rfl rfl rfl rfl (by omega) (by omega) (by omega) rfl ?_
  rw [show (bA l).extract ((2 : Int)).toNat ((12 : Int)).toNat = bA ((l.take 12).drop 2) by rw [bA_ext, List.drop_take]; rfl]
  refine SL_pcall rfl rfl cb94 (valueT (l := (l.take 12).drop 2) (by rw [List.length_drop, List.length_take]; omega) (all_sub hd fun x hx => List.mem_of_mem_take (List.mem_of_mem_drop hx))) rfl ?_
  refine pI rfl rfl (pI rfl rfl (SL_nil (nx (SWP_seq (SWP_seq (SWP_region (pI rfl rfl (pI rfl rfl ?_))))))))
  refine SL_pcall rfl rfl cb96 (validT _ _) rfl ?_
  refine pu (v := .bool (!decide (tnOk (valB (l.take 2) : Nat) (valB ((l.take 12).drop 2) : Nat)))) rfl rfl ?_
  refine resay 42 (.bool (decide (¬ tnOk (valB (l.take 2) : Nat) (valB ((l.take 12).drop 2) : Nat)))) (congrArg Value.bool decide_not.symm) ?_
  refine psp 42 rfl (fun c42 => ?_) (fun c42 => ?_)
  · skip
    refine SL_nil (nx (SWP_ct rfl (SWP_seq (SWP_region (pI rfl rfl (pI rfl rfl (pI rfl rfl (SL_nil (nx (SWP_ret (nr ?_)))))))))))
    refine fin [_, _, _] ⟨rfl, rfl, rfl, trivial⟩ ?_
    exact (parV_no (numE_2 h14 hd hc (by assumption)) (by decide)).symm
  refine SL_nil (nx (SWP_cf rfl (SWP_skip (nx (SWP_seq (SWP_region (pI rfl rfl (pI rfl rfl (pI rfl rfl (pI rfl rfl (pI rfl rfl ?_)))))))))))
  refine SL_nil (nx (SWP_ret ?_))
  refine fin [_, _, _] ⟨rfl, rfl, rfl, trivial⟩ ?_
  exact (parV_yes (numE_0 h14 hd hc (Classical.not_not.1 (by assumption)))).symm
def plOk (p : Int) : Prop := 0 ≤ p ∧ p ≤ 128
instance (p : Int) : Decidable (plOk p) := by unfold plOk; infer_instance
theorem playerI {m : Mem} (p : Int) : PureCall Tryz.prog 46 [.int .i64 p] m (.bool (decide (plOk p))) := by
  refine CallsS.pure ?_
  refine enter Tryz.func46 Tryz.ntmps46 rfl rfl ?_
  refine SWP_seq (SWP_region (pB rfl rfl (SL_nil (nx (SWP_seq (SWP_region (pI rfl rfl ?_)))))))
  refine pc rfl rfl (fun c4 => ?_) (fun c4 => ?_)
  · skip
    refine pB rfl rfl (SL_yes rfl (pI rfl rfl (SL_yes rfl (pu rfl rfl (pB rfl rfl (pB rfl rfl (SL_nil (nx (SWP_ret ?_)))))))))
    refine fin [_] ⟨rfl, trivial⟩ ?_
    exact congrArg Value.bool (decide_eq_decide.2 ⟨fun h => ⟨by omega, h⟩, fun h => h.2⟩)
  refine pB rfl rfl (SL_no rfl rfl (SL_no rfl rfl (pB rfl rfl (pB rfl rfl (SL_nil (nx (SWP_ret ?_)))))))
  refine fin [_] ⟨rfl, trivial⟩ ?_
  exact congrArg Value.bool (decide_eq_false (fun h => by unfold plOk at h; omega)).symm
end Go.Proofs.YtlgoegjboabgfaaGreatDoor
namespace Go.Proofs.YtlgoegjboabgfaaGreatDoor
open Eng
theorem mlook_mput {α β : Type} [DecidableEq α] (a : α) (b : β) (n : α) : ∀ l : List (α × β), mlook n (mput a b l) = if n = a then some b else mlook n l
  | [] => rfl
  | p :: l => by
    unfold mput
    by_cases h : a = p.1
    · rw [if_pos h]
      show (if n = a then some b else mlook n l) = if n = a then some b else (if n = p.1 then some p.2 else mlook n l)
      by_cases h2 : n = a
      · rw [if_pos h2, if_pos h2]
      · rw [if_neg h2, if_neg h2, if_neg (fun e => h2 (e.trans h.symm))]
    · rw [if_neg h]
      show (if n = p.1 then some p.2 else mlook n (mput a b l)) = if n = a then some b else (if n = p.1 then some p.2 else mlook n l)
      rw [mlook_mput a b n l]
      by_cases h2 : n = p.1
      · rw [if_pos h2, if_pos h2, if_neg (fun e => h (e.symm.trans h2))]
      · rw [if_neg h2, if_neg h2]
theorem posT_none {n : ByteArray} : ∀ {l : List Tk} {i : Nat}, (∀ t ∈ l, t.number ≠ n) → posT n l i = none
  | [], _, _ => rfl
  | t :: l, i, h => by
    unfold posT
    rw [if_neg (h t (List.mem_cons_self ..))]
    exact posT_none fun x hx => h x (List.mem_cons_of_mem _ hx)
theorem posT_append {n : ByteArray} {t : Tk} : ∀ {l : List Tk} {i : Nat}, posT n (l ++ [t]) i = match posT n l i with | some x => some x | none => if t.number = n then some ((i + l.length : Nat) : Int) else none
  | [], i => rfl
  | u :: l, i => by
    show (if u.number = n then some ((i : Nat) : Int) else posT n (l ++ [t]) (i + 1)) = match (if u.number = n then some ((i : Nat) : Int) else posT n l (i + 1)) with | some x => some x | none => if t.number = n then some ((i + (l.length + 1) : Nat) : Int) else none
    by_cases h : u.number = n
    · rw [if_pos h, if_pos h]
    · rw [if_neg h, if_neg h, posT_append]
      rw [show i + 1 + l.length = i + (l.length + 1) by omega]
def Reg.addT (R : Reg) (a : Nat) (x' : Gd) (t : Tk) (ta : Option Addr) (tc : Nat) (st : Sig) : Reg := ⟨R.B, R.M, R.key, R.ga, R.gc, R.gs, ta, tc, R.ts ++ [t], mput t.number (R.ts.length : Int) R.pl, R.gd.set a x', st⟩
def Reg.setG (R : Reg) (a : Nat) (x' : Gd) : Reg := ⟨R.B, R.M, R.key, R.ga, R.gc, R.gs, R.ta, R.tc, R.ts, R.pl, R.gd.set a x', R.st⟩
structure Like (R R' : Reg) (m : Mem) : Prop where
  ok : R'.Ok m
  B : R'.B = R.B
  key : R'.key = R.key
  gs : R'.gs = R.gs
  ts : R'.ts = R.ts
  gS : ∀ c, R'.gS c = R.gS c
structure Grown (R R' : Reg) (a b : Nat) (t : Tk) (m : Mem) : Prop where
  ok : R'.Ok m
  B : R'.B = R.B
  key : R'.key = R.key
  gs : R'.gs = R.gs
  ts : R'.ts = R.ts ++ [t]
  gS : ∀ c, R'.gS c = if c = a then insI b (R.gS a) else R.gS c
theorem gS_at {R : Reg} {a : Nat} {x : Gd} (h : R.gd[a]? = some x) : R.gS a = x.S := by unfold Reg.gS; rw [h]; rfl
theorem setG_at {α : Type} {l : List α} {a : Nat} {x x' : α} (h : l[a]? = some x) (c : Nat) : (l.set a x')[c]? = if c = a then some x' else l[c]? := by
  have hl := (List.getElem?_eq_some_iff.1 h).1
  by_cases hc : c = a
  · subst hc
    rw [if_pos rfl, List.getElem?_set_self hl]
  · rw [if_neg hc, List.getElem?_set_ne (fun e => hc e.symm)]
theorem gS_set {R : Reg} {a : Nat} {x x' : Gd} (h : R.gd[a]? = some x) (c : Nat) : (((R.gd.set a x')[c]?).map Gd.S).getD [] = if c = a then x'.S else R.gS c := by
  rw [setG_at h]
  by_cases hc : c = a
  · rw [if_pos hc, if_pos hc]; rfl
  · rw [if_neg hc, if_neg hc]; rfl
theorem Reg.Ok.like {m : Mem} {R : Reg} (h : R.Ok m) {a : Nat} {x x' : Gd} (hx : R.gd[a]? = some x) (hx' : x'.Ok) (hS : x'.S = x.S) : Like R (R.setG a x') m := by
  have hg : ∀ c, (R.setG a x').gS c = R.gS c := fun c => by
    show (((R.gd.set a x')[c]?).map Gd.S).getD [] = _
    rw [gS_set hx]
    by_cases hc : c = a
    · rw [if_pos hc, hS, hc, gS_at hx]
    · rw [if_neg hc]
  refine ⟨⟨h.gsr, h.gin, h.gok, h.own, h.tin, h.few, ?_, fun y hy => ?_, h.pls, fun t ht => ?_, h.nd, h.gam, h.rng, h.bsm⟩, rfl, rfl, rfl, rfl, hg⟩
  · show (R.gd.set a x').length = 33
    rw [List.length_set]; exact h.gdl
  · rcases List.mem_or_eq_of_mem_set hy with hy | rfl
    · exact h.gdo y hy
    · exact hx'
  · obtain ⟨p, q, y, h1, h2, h3, h4, h5, h6, h7, h8, h9⟩ := h.num t ht
    refine ⟨p, q, if p = a then x' else y, h1, h2, h3, h4, h5, h6, h7, ?_, ?_⟩
    · show (R.gd.set a x')[p]? = _
      rw [setG_at hx]
      by_cases hp : p = a
      · rw [if_pos hp, if_pos hp]
      · rw [if_neg hp, if_neg hp, h8]
    · by_cases hp : p = a
      · rw [if_pos hp, hS]
        subst hp
        rw [h8] at hx
        cases hx
        exact h9
      · rw [if_neg hp]; exact h9
theorem Reg.Ok.fresh {m : Mem} {R : Reg} (h : R.Ok m) {a b : Nat} {x : Gd} (hx : R.gd[a]? = some x) (hab : tnOk a b) (hb : (b : Int) ∉ x.S) : ∀ t ∈ R.ts, t.number ≠ bA (numT a b) := fun t ht e => by
  obtain ⟨p, q, y, h1, h2, h3, h4, h5, h6, h7, h8, h9⟩ := h.num t ht
  obtain ⟨o1, o2, o3, o4⟩ := hab
  have h10 := bA_inj.1 (h7.symm.trans e)
  obtain ⟨rfl, rfl⟩ := numT_inj (by omega) (by omega) (by omega) (by omega) h10
  rw [hx] at h8
  cases h8
  exact hb h9
theorem Reg.Ok.grown {m : Mem} {R : Reg} (h : R.Ok m) {a b : Nat} {x x' : Gd} {t : Tk} {ta : Option Addr} {tc : Nat} {st : Sig} (hx : R.gd[a]? = some x) (hx' : x'.Ok) (hab : tnOk a b) (hb : (b : Int) ∉ x.S) (hS : x'.S = insI b x.S) (hn : t.number = bA (numT a b)) (h1 : t.terminal = a) (h2 : t.seq = b)
    (hl : R.ts.length < 2048) (ho : OwnS 53 14 (.slice ta (R.ts.length + 1) tc) ((R.ts ++ [t]).flatMap Tk.enc) st) (hbt : t.bet.In m) (hg : ∃ g ∈ R.gs, g.name = t.game) (hr : 0 ≤ t.at_ ∧ t.at_ ≤ 1073741824 ∧ 1 ≤ t.first ∧ t.first ≤ 1000000 ∧ 1 ≤ t.bet.draws ∧ t.bet.draws ≤ 32)
    (hs : t.bet.lines.length ≤ 16 ∧ ∀ l ∈ t.bet.lines, l.main.length ≤ 100000 ∧ l.bonus.length ≤ 100000) : Grown R (R.addT a x' t ta tc st) a b t m := by
  have hfr := h.fresh hx hab hb
  obtain ⟨o1, o2, o3, o4⟩ := hab
  have app : ∀ {Q : Tk → Prop}, (∀ u ∈ R.ts, Q u) → Q t → ∀ u ∈ R.ts ++ [t], Q u := fun h1 h2 u hu => by
    rcases List.mem_append.1 hu with hu | hu
    · exact h1 u hu
    · rw [List.mem_singleton.1 hu]; exact h2
  refine ⟨⟨h.gsr, h.gin, h.gok, ?_, app h.tin hbt, ?_, ?_, fun y hy => ?_, fun n => ?_, app (fun u hu => ?_) ?_, ?_, app h.gam hg, app h.rng hr, app h.bsm hs⟩, rfl, rfl, rfl, rfl, fun c => ?_⟩
  · show OwnS 53 14 (.slice ta (R.ts ++ [t]).length tc) _ _
    rw [List.length_append]; exact ho
  · show (R.ts ++ [t]).length ≤ 2048
    rw [List.length_append]; show R.ts.length + 1 ≤ 2048; omega
  · show (R.gd.set a x').length = 33
    rw [List.length_set]; exact h.gdl
  · rcases List.mem_or_eq_of_mem_set hy with hy | rfl
    · exact h.gdo y hy
    · exact hx'
  · show mlook n (mput t.number (R.ts.length : Int) R.pl) = posT n (R.ts ++ [t]) 0
    rw [mlook_mput, posT_append, h.pls n, Nat.zero_add]
    by_cases hnn : n = t.number
    · rw [if_pos hnn, posT_none (by rw [hnn, hn]; exact hfr), if_pos hnn.symm]
    · rw [if_neg hnn, if_neg (fun e => hnn e.symm)]
      cases posT n R.ts 0 <;> rfl
  · obtain ⟨p, q, y, g1, g2, g3, g4, g5, g6, g7, g8, g9⟩ := h.num u hu
    refine ⟨p, q, if p = a then x' else y, g1, g2, g3, g4, g5, g6, g7, ?_, ?_⟩
    · show (R.gd.set a x')[p]? = _
      rw [setG_at hx]
      by_cases hp : p = a
      · rw [if_pos hp, if_pos hp]
      · rw [if_neg hp, if_neg hp, g8]
    · by_cases hp : p = a
      · rw [if_pos hp, hS]
        subst hp
        rw [g8] at hx
        cases hx
        exact mem_ins.2 (.inr g9)
      · rw [if_neg hp]; exact g9
  · refine ⟨a, b, x', h1, h2, by omega, by omega, by omega, by omega, hn, ?_, by rw [hS]; exact mem_ins.2 (.inl rfl)⟩
    show (R.gd.set a x')[a]? = _
    rw [setG_at hx, if_pos rfl]
  · show ((R.ts ++ [t]).map Tk.number).Nodup
    rw [List.map_append, List.nodup_append]
    refine ⟨h.nd, by simp, fun p hp q hq e => ?_⟩
    obtain ⟨u, hu, rfl⟩ := List.mem_map.1 hp
    simp only [List.map_cons, List.map_nil, List.mem_singleton] at hq
    exact hfr u hu (by rw [e, hq, hn])
  · show (((R.gd.set a x')[c]?).map Gd.S).getD [] = _
    rw [gS_set hx, hS, gS_at hx]
end Go.Proofs.YtlgoegjboabgfaaGreatDoor
namespace Go.Proofs.YtlgoegjboabgfaaGreatDoor
open Eng
theorem Sub.perm2 {a b c : Sig} (h : b.Perm c) (h' : Sub a b) : Sub a c := Sub.perm h' h
set_option maxRecDepth 100000 in
theorem fullI {m : Mem} {B n tc : Nat} {ta : Option Addr} {g : Value} {cs : List Value} : CallsS Tryz.prog 77 [.pointer (some ⟨B, 0, none⟩)].toArray [(B, Cells 95 (g :: .slice ta n tc :: cs))] m fun r σ' m' => r = .bool (decide (2048 ≤ n)) ∧ σ' = [(B, Cells 95 (g :: .slice ta n tc :: cs))] ∧ m' = m := by
  refine enter Tryz.func77 Tryz.ntmps77 rfl rfl ?_
  refine SWP_seq (SWP_region (pB rfl rfl (SL_nil (nx (SWP_seq (SWP_region (pP rfl rfl (pu rfl rfl (pu rfl rfl ?_)))))))))
  refine lw (v := .slice _ _ _) B 1 rfl rfl rfl rfl ?_
  refine pu rfl rfl (pu rfl rfl (pB rfl rfl (SL_nil (nx (SWP_ret ?_)))))
  refine fin [_] ⟨rfl, trivial⟩ ?_
  exact ⟨congrArg Value.bool (decide_eq_decide.2 (by omega)), rfl, rfl⟩
set_option maxRecDepth 100000 in
set_option maxHeartbeats 1000000 in
theorem appendB {m : Mem} {B M tc : Nat} {ta : Option Addr} {g : Value} {cs : List Value} {ts : List Tk} {pl : List (ByteArray × Int)} {st : Sig} (hown : OwnS 53 14 (.slice ta ts.length tc) (ts.flatMap Tk.enc) st) (hl : ts.length ≤ 2048) (t : Tk) : CallsS Tryz.prog 81 [.pointer (some ⟨B, 0, none⟩), t.val].toArray ((B, Cells 95 (g :: .slice ta ts.length tc :: .map (some M) :: cs)) :: (M, MapC sK iV pl) :: st) m fun r σ' m' => m' = m ∧ ∃ ta' tc' st', σ' = ((B, Cells 95 (g :: .slice ta' (ts.length + 1) tc' :: .map (some M) :: cs)) :: (M, MapC sK iV (mput t.number (ts.length : Int) pl)) :: st') ∧ OwnS 53 14 (.slice ta' (ts.length + 1) tc') ((ts ++ [t]).flatMap Tk.enc) st' := by
  refine CallsS.subR ?_
  dsimp only [Tk.val]
  refine enter Tryz.func81 Tryz.ntmps81 rfl rfl ?_
  refine SWP_seq (SWP_region ?_)
  refine bx (v := .agg _) rfl rfl (fun B3 => ?_)
  refine SL_nil (nx (SWP_seq ?_))
  refine SWP_tail 11 (by kernel_rfl) (by kernel_rfl) ?_
  refine pP rfl rfl (pu rfl rfl (pu rfl rfl ?_))
  refine lw (v := .map _) B 2 rfl rfl rfl rfl ?_
  refine pu rfl rfl ?_
  refine lw (v := .string _) B3 0 rfl rfl rfl rfl ?_
  refine pP rfl rfl (pu rfl rfl (pu rfl rfl ?_))
  refine lw (v := .slice _ _ _) B 1 rfl rfl rfl rfl ?_
  refine pu rfl rfl (SL_nil ?_)
  refine mu (kc := sK) (vc := iV) (a := t.number) (b := (ts.length : Int)) (l := pl) (σ₁ := [_, _]) rfl rfl keyStr rfl rfl rfl rfl ?_
  refine SL_nil (nx ?_)
  refine SWP_tree [_, _] 8 (.one 0 (.one 1 (.one 2 (.one 3 (.one 4 (.one 5 (.one 6 (.one 7 (.tail [8, 9, 10]))))))))) (by kernel_rfl) (by kernel_rfl) (by repeat (first | exact Sub.refl _ | exact Sub.nil _ | refine Sub.cons2 _ ?_ | refine Sub.cons _ ?_ | refine Sub.left _ ?_)) ?_
  refine T1 rfl ?_
  refine pP rfl rfl (SL_nil ?_)
  refine T1 rfl ?_
  refine pP rfl rfl (SL_nil ?_)
  refine T1 rfl ?_
  refine pu rfl rfl (SL_nil ?_)
  refine T1 rfl ?_
  refine pu rfl rfl (SL_nil ?_)
  refine T1 rfl ?_
  refine lw (v := .slice _ _ _) B 1 rfl rfl rfl rfl ?_
  refine SL_nil ?_
  refine T1 rfl ?_
  refine lw (v := t.val) B3 0 rfl rfl rfl rfl ?_
  refine SL_nil ?_
  refine T1 rfl ?_
  refine bs (cs := t.enc) rfl rfl rfl (by kernel_rfl) rfl (fun B21 => ?_)
  refine SL_nil ?_
  refine T1 rfl ?_
  refine ap (e := 53) (size := 14) (bytes := 152) (k := 1) (news := t.enc) (σe := st) (τ := (B21, Cells 53 t.enc) :: (B3, _) :: (B, _) :: (M, _) :: []) rfl rfl rfl rfl rfl rfl rfl hown (by show ([_, _, _, _] ++ st).Perm (st ++ [_, _, _, _]); exact List.perm_append_comm) rfl (Rd.of_cells (.head _)) rfl rfl (by rw [flatMap_len Tk.enc_len]; omega) rfl rfl (fun v22 σ22 hown22 => ?_)
  have hown1 : OwnS 53 14 v22 ((ts ++ [t]).flatMap Tk.enc) σ22 := by rw [List.flatMap_append, List.flatMap_cons, List.flatMap_nil, List.append_nil]; exact hown22
  obtain ⟨ta2, tc2, rfl⟩ := OwnS.lenL (by decide) Tk.enc_len hown1
  refine SL_nil ?_
  refine TT ?_
  refine pu rfl rfl (pu rfl rfl ?_)
  refine sw (v := .slice ta2 (ts ++ [t]).length tc2) B 1 rfl rfl rfl rfl rfl rfl rfl ?_
  refine SL_nil ?_
  refine on_ ?_
  refine finn [] trivial ?_
  have hlen : (ts ++ [t]).length = ts.length + 1 := by rw [List.length_append]; rfl
  refine ⟨_, ?_, rfl, ta2, tc2, σ22, rfl, hlen ▸ hown1⟩
  rw [← hlen]
  refine Sub.perm2 List.perm_append_comm ?_
  exact Sub.cons _ (Sub.cons _ (.refl _))
end Go.Proofs.YtlgoegjboabgfaaGreatDoor
