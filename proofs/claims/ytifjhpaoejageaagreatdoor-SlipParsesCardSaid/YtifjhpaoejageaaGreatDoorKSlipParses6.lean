/- What the claim rests on, part 6: models of the functions in plain Lean and walks through their code; printed by programs. -/
import Derived.Test.YtifjhpaoejageaaGreatDoorKSlipParses5
set_option linter.unusedVariables false
set_option linter.unusedSimpArgs false
namespace Go.Proofs.YtifjhpaoejageaaGreatDoor
open Eng
theorem takeN_drop {l : List UInt8} : ∀ {R : List Wd} {k : Nat}, (wordsL l).drop k = R → (wordsL l).drop (k + (takeN R).1.length) = (takeN R).2
  | [], k, h => h
  | w :: R, k, h => by
    rw [takeN]
    cases hw : numW w with
    | none => exact h
    | some n =>
      have := takeN_drop (drop_next h).1
      show (wordsL l).drop (k + ((takeN R).1.length + 1)) = (takeN R).2
      rw [← this]; congr 1; omega
theorem takeN_nil {R : List Wd} (h : (takeN R).1 = []) : (takeN R).2 = R := by
  have h1 := takeN_len R
  rw [h, List.length_nil, Nat.zero_add] at h1
  exact (takeN_suf R).eq_of_length h1
theorem tail_drop {l : List UInt8} {R : List Wd} {k : Nat} {w : Wd} (h : (wordsL l).drop k = R) (hw : isW w R = true) : (wordsL l).drop (k + 1) = R.tail := (drop_next (h.trans (isW_cons hw))).1
def LineP (l : List UInt8) (L : List Line) (R : List Wd) (L' : List Line) (k k' : Nat) (wr : Int) : Prop :=
  ((wordsL l).drop k' = (lineM R).2 ∧ k' + (lineM R).2.length = k + R.length) ∧ match (lineM R).1 with
    | none => wr = ((posR l (lineM R).2 : Nat) : Int)
    | some x => wr = -1 ∧ L'.map Line.keyL = L.map Line.keyL ++ [x]
theorem cnd_t {l : List UInt8} {R : List Wd} (h : (if (if (takeN R).1 = [] then ((posR l R : Nat) : Int) else -1) < 0 then isW [43] (takeN R).2 else false) = true) : (takeN R).1 ≠ [] ∧ isW [43] (takeN R).2 = true := by
  by_cases hT : (takeN R).1 = []
  · rw [if_pos hT, if_neg (by omega)] at h; cases h
  · rw [if_neg hT, if_pos (by decide)] at h; exact ⟨hT, h⟩
theorem cnd_f {l : List UInt8} {R : List Wd} (h : (if (if (takeN R).1 = [] then ((posR l R : Nat) : Int) else -1) < 0 then isW [43] (takeN R).2 else false) = false) : (takeN R).1 = [] ∨ ((takeN R).1 ≠ [] ∧ isW [43] (takeN R).2 = false) := by
  by_cases hT : (takeN R).1 = []
  · exact .inl hT
  · rw [if_neg hT, if_pos (by decide)] at h; exact .inr ⟨hT, h⟩
set_option maxRecDepth 100000 in
theorem lineP {m : Mem} {l : List UInt8} {pa : Option Addr} {qc : Nat} (hL : RL m wpE 2 (.slice pa (wordsP l (wordsL l)).length qc) (wordsP l (wordsL l))) {k : Nat} {R : List Wd} (hd : (wordsL l).drop k = R) (hl : l.length ≤ 100000) (B : Nat) {la : Option Addr} {lc : Nat} {L : List Line} {σe : Sig} (hown : OwnS 50 2 (.slice la L.length lc) (L.flatMap Line.enc) σe) (hin : ∀ x ∈ L, x.In m) (hLl : L.length ≤ 1000000) (hk : k ≤ 200000) (sys : Bool) (d a : Int) : CallsS Tryz.prog 49 [.pointer (some ⟨B, 0, none⟩)].toArray ((B, Cells 87 (pcE l pa qc (k) (la) (L.length) (lc) sys d a (-1))) :: σe) m fun r σ' m' => ∃ (la2 : Option Addr) (lc2 : Nat) (L2 : List Line) (k2 : Nat) (wr : Int) (σ2 : Sig), OwnS 50 2 (.slice la2 L2.length lc2) (L2.flatMap Line.enc) σ2 ∧ (∀ x ∈ L2, x.In m') ∧ L2.length = L.length + 1 ∧ LineP l L R L2 k k2 wr ∧ σ' = (B, Cells 87 (pcE l pa qc (k2) (la2) (L2.length) (lc2) sys d a (wr))) :: σ2 := by
  refine CallsS.ghost (R' := fun r σ' m' => ∃ (la2 : Option Addr) (lc2 : Nat) (L2 : List Line) (k2 : Nat) (wr : Int) (σ2 : Sig) (x9 y9 : Nat × Chk), OwnS 50 2 (.slice la2 L2.length lc2) (L2.flatMap Line.enc) σ2 ∧ (∀ x ∈ L2, x.In m') ∧ L2.length = L.length + 1 ∧ LineP l L R L2 k k2 wr ∧ σ' = x9 :: (B, Cells 87 (pcE l pa qc (k2) (la2) (L2.length) (lc2) sys d a (wr))) :: y9 :: σ2) ?_ ?h2
  case h2 =>
    rintro r σ' m' ⟨la2, lc2, L2, k2, wr, σ2, x9, y9, h1, h2, h3, h4, rfl⟩ g0 W hC
    exact ⟨_, m', hC.sublist (((List.Sublist.refl σ2).cons y9).cons_cons _ |>.cons x9), Le.refl _, la2, lc2, L2, k2, wr, σ2, h1, h2, h3, h4, rfl⟩
  have hRl := (drop_len hd).1
  have hRW : R.length ≤ l.length + 1 := by rw [← hd, List.length_drop]; have := (words_len l).1; omega
  have hTl := takeN_len R
  have hk2 : k + (takeN R).1.length ≤ 1000000 := by omega
  refine enter Tryz.func49 Tryz.ntmps49 rfl rfl ?_
  refine SWP_seq (SWP_region ?_)
  first | refine pP rfl rfl ?_ | refine pu rfl rfl ?_
  refine SL_call rfl rfl cb86 (CallsS.subF σe (numsP hL hd hl B la L.length lc sys d a) (.refl _)) rfl (fun v0_1 σ0_1 m0_1 hl0_1 hR0_1 => ?_)
  obtain ⟨σz, rfl, rfl, a4, c4, rfl, hr4⟩ := hR0_1
  rw [List.singleton_append]
  refine pA rfl rfl ?_
  refine al rfl rfl (fun B2 => ?_)
  refine sw (v := .agg _) B2 0 rfl rfl rfl rfl rfl rfl rfl ?_
  refine SL_nil (nx (SWP_seq (SWP_seq (SWP_region ?_))))
  first | refine pP rfl rfl ?_ | refine pu rfl rfl ?_
  refine SL_call rfl rfl cb50 (CallsS.subF ((B2, Cells 50 [.slice a4 (takeN R).1.length c4, .slice none 0 0]) :: σe) (skipP (hL.mono hl0_1) (takeN_drop hd) B la L.length lc sys d a _ hk2 [43]) (.swap _ _ _)) rfl (fun v1_1 σ1_1 m1_1 hl1_1 hR1_1 => ?_)
  obtain ⟨σz, rfl, rfl, rfl, hm1_1⟩ := hR1_1
  have hn1_1 := hm1_1.symm
  subst hn1_1
  rw [List.singleton_append]
  refine bsp 7 rfl (fun b7 => ?_) (fun b7 => ?_)
  · skip
    refine SL_nil (nx (SWP_ct rfl ?_))
    have hcd := cnd_t (R := R) (l := l) (by assumption)
    rw [if_pos (show (if (if (takeN R).1 = [] then ((posR l R : Nat) : Int) else -1) < 0 then isW [43] (takeN R).2 else false) = true by assumption), if_neg hcd.1]
    refine SWP_region ?_
    first | refine pP rfl rfl ?_ | refine pu rfl rfl ?_
    refine SL_call rfl rfl cb86 (CallsS.subF ((B2, Cells 50 [.slice a4 (takeN R).1.length c4, .slice none 0 0]) :: σe) (numsP (hL.mono hl0_1) (tail_drop (takeN_drop hd) hcd.2) hl B la L.length lc sys d a) (.refl _)) rfl (fun v2_1 σ2_1 m2_1 hl2_1 hR2_1 => ?_)
    obtain ⟨σz, rfl, rfl, a9, c9, rfl, hr9⟩ := hR2_1
    rw [List.singleton_append]
    refine pu rfl rfl ?_
    refine sw (v := .slice _ _ _) B2 1 rfl rfl rfl rfl rfl rfl rfl ?_
    refine SL_nil (nx ?_)
    refine SWP_tree [_, _] 9 (.one 0 (.one 1 (.one 2 (.one 3 (.one 4 (.one 5 (.one 6 (.one 7 (.one 8 (.tail [9, 10, 11, 12])))))))))) (by kernel_rfl) (by kernel_rfl) (Sub.cons2 _ (Sub.cons2 _ (Sub.nil _))) ?_
    refine T1 rfl ?_
    first | refine pP rfl rfl ?_ | refine pu rfl rfl ?_
    refine SL_nil ?_
    refine T1 rfl ?_
    first | refine pP rfl rfl ?_ | refine pu rfl rfl ?_
    refine SL_nil ?_
    refine T1 rfl ?_
    refine pu rfl rfl ?_
    refine SL_nil ?_
    refine T1 rfl ?_
    refine pu rfl rfl ?_
    refine SL_nil ?_
    refine T1 rfl ?_
    refine pu (v := _) rfl rfl ?_
    refine SL_nil ?_
    refine T1 rfl ?_
    refine lw (v := .slice _ _ _) B 3 rfl rfl rfl rfl ?_
    refine SL_nil ?_
    refine T1 rfl ?_
    refine lw (v := .agg #[.slice a4 (takeN R).1.length c4, .slice a9 (takeN (takeN R).2.tail).1.length c9]) B2 0 rfl rfl rfl rfl ?_
    refine SL_nil ?_
    refine T1 rfl ?_
    refine bs (cs := [.slice a4 (takeN R).1.length c4, .slice a9 (takeN (takeN R).2.tail).1.length c9]) rfl rfl rfl rfl rfl (fun B18 => ?_)
    refine SL_nil ?_
    refine T1 rfl ?_
    refine ap (e := 50) (size := 2) (bytes := 48) rfl rfl rfl rfl rfl rfl rfl hown (List.perm_append_comm (l₁ := [_, _, _]) (l₂ := σe)) rfl (Rd.of_cells (.head _)) rfl rfl (by rw [flatMap_len Line.enc_len]; omega) rfl rfl (fun v19 σ19 hown19 => ?_)
    refine SL_perm (List.perm_append_comm (l₂ := [_, _, _])) ?_
    obtain ⟨a5, n5, c5, e5, _, _⟩ := hown19.len
    subst e5
    refine SL_nil ?_
    refine TT ?_
    refine pu rfl rfl ?_
    refine pu rfl rfl ?_
    refine pu (v := _) rfl rfl ?_
    refine sw (v := .slice _ _ _) B 3 rfl rfl rfl rfl rfl rfl rfl ?_
    refine SL_nil ?_
    refine on_ ?_
    refine finn [] trivial ?_
    skip
    have hown5 : OwnS 50 2 (.slice a5 n5 c5) ((L ++ [(⟨a4, c4, (takeN R).1, a9, c9, (takeN (takeN R).2.tail).1⟩ : Line)]).flatMap Line.enc) σ19 := by rw [List.flatMap_append]; exact hown19
    obtain ⟨a6, c6, e6⟩ := hown5.lenL (by omega) Line.enc_len
    cases e6
    refine ⟨a5, c5, L ++ [(⟨a4, c4, (takeN R).1, a9, c9, (takeN (takeN R).2.tail).1⟩ : Line)], k + (takeN R).1.length + 1 + (takeN (takeN R).2.tail).1.length, _, _, _, _, hown5, fun x hx => ?_, by simp, ⟨?_, ?_⟩, rfl⟩
    · rcases List.mem_append.1 hx with hx | hx
      · exact (hin x hx).mono (hl0_1.trans hl2_1)
      · rw [List.mem_singleton.1 hx]; exact ⟨hr4.mono hl2_1, hr9⟩
    · have hkl : k + (takeN R).1.length + 1 + (takeN (takeN R).2.tail).1.length + (takeN (takeN R).2.tail).2.length = k + R.length := by
        have h2 := takeN_len (takeN R).2.tail
        have h3 := congrArg List.length (isW_cons hcd.2)
        rw [List.length_cons] at h3
        omega
      by_cases hN : (takeN (takeN R).2.tail).1 = []
      · rw [lineM_2 hcd.1 hcd.2 hN]; exact ⟨takeN_drop (tail_drop (takeN_drop hd) hcd.2), hkl⟩
      · rw [lineM_3 hcd.1 hcd.2 hN]; exact ⟨takeN_drop (tail_drop (takeN_drop hd) hcd.2), hkl⟩
    · by_cases hN : (takeN (takeN R).2.tail).1 = []
      · rw [lineM_2 hcd.1 hcd.2 hN, if_pos hN]
        show _ = ((posR l (takeN (takeN R).2.tail).2 : Nat) : Int)
        rw [takeN_nil hN]
      · rw [lineM_3 hcd.1 hcd.2 hN, if_neg hN]
        exact ⟨rfl, by rw [List.map_append]; rfl⟩
  refine SL_nil (nx (SWP_cf rfl (SWP_skip (nx ?_))))
  refine SWP_tree [_, _] 9 (.one 0 (.one 1 (.one 2 (.one 3 (.one 4 (.one 5 (.one 6 (.one 7 (.one 8 (.tail [9, 10, 11, 12])))))))))) (by kernel_rfl) (by kernel_rfl) (Sub.cons2 _ (Sub.cons2 _ (Sub.nil _))) ?_
  refine T1 rfl ?_
  first | refine pP rfl rfl ?_ | refine pu rfl rfl ?_
  refine SL_nil ?_
  refine T1 rfl ?_
  first | refine pP rfl rfl ?_ | refine pu rfl rfl ?_
  refine SL_nil ?_
  refine T1 rfl ?_
  refine pu rfl rfl ?_
  refine SL_nil ?_
  refine T1 rfl ?_
  refine pu rfl rfl ?_
  refine SL_nil ?_
  refine T1 rfl ?_
  refine pu (v := _) rfl rfl ?_
  refine SL_nil ?_
  refine T1 rfl ?_
  refine lw (v := .slice _ _ _) B 3 rfl rfl rfl rfl ?_
  refine SL_nil ?_
  refine T1 rfl ?_
  refine lw (v := .agg #[.slice a4 (takeN R).1.length c4, .slice none 0 0]) B2 0 rfl rfl rfl rfl ?_
  refine SL_nil ?_
  refine T1 rfl ?_
  refine bs (cs := [.slice a4 (takeN R).1.length c4, .slice none 0 0]) rfl rfl rfl rfl rfl (fun B18 => ?_)
  refine SL_nil ?_
  refine T1 rfl ?_
  refine ap (e := 50) (size := 2) (bytes := 48) rfl rfl rfl rfl rfl rfl rfl hown (List.perm_append_comm (l₁ := [_, _, _]) (l₂ := σe)) rfl (Rd.of_cells (.head _)) rfl rfl (by rw [flatMap_len Line.enc_len]; omega) rfl rfl (fun v19 σ19 hown19 => ?_)
  refine SL_perm (List.perm_append_comm (l₂ := [_, _, _])) ?_
  obtain ⟨a5, n5, c5, e5, _, _⟩ := hown19.len
  subst e5
  refine SL_nil ?_
  refine TT ?_
  refine pu rfl rfl ?_
  refine pu rfl rfl ?_
  refine pu (v := _) rfl rfl ?_
  refine sw (v := .slice _ _ _) B 3 rfl rfl rfl rfl rfl rfl rfl ?_
  refine SL_nil ?_
  refine on_ ?_
  refine finn [] trivial ?_
  skip
  have hown5 : OwnS 50 2 (.slice a5 n5 c5) ((L ++ [(⟨a4, c4, (takeN R).1, none, 0, []⟩ : Line)]).flatMap Line.enc) σ19 := by rw [List.flatMap_append]; exact hown19
  obtain ⟨a6, c6, e6⟩ := hown5.lenL (by omega) Line.enc_len
  cases e6
  have hcf := cnd_f (R := R) (l := l) (by assumption)
  refine ⟨a5, c5, L ++ [(⟨a4, c4, (takeN R).1, none, 0, []⟩ : Line)], k + (takeN R).1.length, _, _, _, _, hown5, fun x hx => ?_, by simp, ⟨?_, ?_⟩, by rw [if_neg (show ¬ ((if (if (takeN R).1 = [] then ((posR l R : Nat) : Int) else -1) < 0 then isW [43] (takeN R).2 else false) = true) by rw [show (if (if (takeN R).1 = [] then ((posR l R : Nat) : Int) else -1) < 0 then isW [43] (takeN R).2 else false) = false by assumption]; exact Bool.noConfusion)]; rfl⟩
  · rcases List.mem_append.1 hx with hx | hx
    · exact (hin x hx).mono hl0_1
    · rw [List.mem_singleton.1 hx]; exact ⟨hr4, RL.nil _ _⟩
  · rcases hcf with hT | ⟨hT, hp⟩
    · rw [lineM_0 hT]; exact ⟨takeN_drop hd, by show k + (takeN R).1.length + (takeN R).2.length = k + R.length; omega⟩
    · rw [lineM_1 hT hp]; exact ⟨takeN_drop hd, by show k + (takeN R).1.length + (takeN R).2.length = k + R.length; omega⟩
  · rcases hcf with hT | ⟨hT, hp⟩
    · rw [lineM_0 hT, if_pos hT]
      show _ = ((posR l (takeN R).2 : Nat) : Int)
      rw [takeN_nil hT]
    · rw [lineM_1 hT hp, if_neg hT]
      exact ⟨rfl, by rw [List.map_append]; rfl⟩
end Go.Proofs.YtifjhpaoejageaaGreatDoor
namespace Go.Proofs.YtifjhpaoejageaaGreatDoor
open Eng
def NamesP (ns : List ByteArray) (l : List UInt8) (R : List Wd) (k' : Nat) (a' wr : Int) : Prop :=
  (wordsL l).drop k' = (addF ns R 0 0).2 ∧ match (addF ns R 0 0).1 with
    | none => wr = ((posR l (addF ns R 0 0).2 : Nat) : Int)
    | some b => a' = (b : Nat) ∧ wr = -1
theorem NamesP.bad {ns : List ByteArray} {l : List UInt8} {R R' : List Wd} {k' : Nat} {a' wr : Int} (h : addF ns R 0 0 = (none, R')) (h1 : (wordsL l).drop k' = R') (h2 : wr = ((posR l R' : Nat) : Int)) : NamesP ns l R k' a' wr := by
  unfold NamesP; rw [h]; exact ⟨h1, h2⟩
theorem NamesP.good {ns : List ByteArray} {l : List UInt8} {R : List Wd} {k' b : Nat} (h : addF ns R 0 0 = (some b, [])) (h1 : (wordsL l).drop k' = []) : NamesP ns l R k' (b : Nat) (-1) := by
  unfold NamesP; rw [h]; exact ⟨h1, rfl, rfl⟩
set_option maxRecDepth 100000 in
theorem namesP {m : Mem} {l : List UInt8} {pa : Option Addr} {qc : Nat} (hL : RL m wpE 2 (.slice pa (wordsP l (wordsL l)).length qc) (wordsP l (wordsL l))) {k : Nat} {R : List Wd} (hd : (wordsL l).drop k = R) (hl : l.length ≤ 100000) (hk : k ≤ 200000) (B : Nat) (la : Option Addr) (ln lc : Nat) (sys : Bool) (d : Int) {g : Game} (hin : g.In m) (h4 : g.addons.length ≤ 4) : CallsS Tryz.prog 53 [.pointer (some ⟨B, 0, none⟩), g.val].toArray [(B, Cells 87 (pcE l pa qc (k) la ln lc sys d (0) (-1)))] m fun r σ' m' => m' = m ∧ ∃ (k' : Nat) (a' wr : Int), σ' = [(B, Cells 87 (pcE l pa qc (k') la ln lc sys d (a') (wr)))] ∧ NamesP (g.addons.map Addon.name) l R k' a' wr := by
  refine CallsS.ghost (R' := fun r σ' m' => ∃ (τ : Sig) (k' : Nat) (a' wr : Int), σ' = (B, Cells 87 (pcE l pa qc (k') la ln lc sys d (a') (wr))) :: τ ∧ m' = m ∧ NamesP (g.addons.map Addon.name) l R k' a' wr) ?_ ?h2
  case h2 =>
    rintro r σ' m' ⟨τ, k', a', wr, rfl, rfl, hr⟩ g0 W hC
    exact ⟨_, m', hC.sublist (List.Sublist.cons_cons _ (List.nil_sublist _)), Le.refl _, rfl, k', a', wr, rfl, hr⟩
  dsimp only [Game.val]
  have hwn := (words_len l).1
  refine enter Tryz.func53 Tryz.ntmps53 rfl rfl ?_
  refine SWP_seq (SWP_region ?_)
  refine bx (v := .agg _) rfl rfl (fun B3 => ?_)
  refine SL_nil (nx (SWP_seq ?_))
  refine SWP_perm (.swap _ _ _) ?_
  refine SWP_region ?_
  refine pI rfl rfl ?_
  refine SL_nil (nx (SWP_seq (SWP_region ?_)))
  refine pI rfl rfl ?_
  refine SL_nil (nx (SWP_seq (SWP_block ?_)))
  refine SWP_loop [4, 5, 6, 7, 8, 9, 10, 11, 12, 13, 14, 15, 16, 17, 18, 19, 20, 21, 22, 23, 24, 25, 26, 27, 28, 29, 30, 31, 32, 33, 34, 35, 36, 37, 38, 39, 40, 41, 42, 43, 44, 45, 46, 47, 48, 49, 50, 51, 52, 53, 54, 55, 56, 57, 58, 59, 60, 61, 62, 63, 64, 65, 66, 67, 68, 69, 70, 71, 72, 73, 74, 75, 76, 77, 78, 79, 80, 81] [4, 5]
      (fun vs σ' m' => ∃ (p c q b : Nat) (R2 : List Wd), vs = [.int .i64 (p : Nat), .int .i64 (c : Nat)] ∧ (wordsL l).drop q = R2 ∧ addF (g.addons.map Addon.name) R 0 0 = addF (g.addons.map Addon.name) R2 p b ∧ b < 2 ^ p ∧ p ≤ g.addons.length ∧ c ≤ p ∧ (c = 0 ↔ b = 0) ∧ q ≤ 200000 + p ∧ σ' = (B, Cells 87 (pcE l pa qc (q) la ln lc sys d ((b : Nat)) (-1))) :: [(B3, Cells 25 g.enc)] ∧ m = m')
      (fun vs => g.addons.length + 1 - nOf (vs.getD 0 undef)) rfl ?_ ?_
  · exact ⟨0, 0, k, 0, R, rfl, hd, rfl, by decide, by omega, by omega, Iff.rfl, by omega, rfl, rfl⟩
  intro u0 vs0 σ0 m0 hJ0 _
  obtain ⟨p, c, q, b, R2, rfl, hd2, hadd, hbp, hpl, hcp, hcb, hq, rfl, rfl⟩ := hJ0
  refine SWP_seq (SWP_seq ?_)
  refine SWP_draws (by kernel_rfl) (by kernel_rfl) ?_
  first | refine pP rfl rfl ?_ | refine pu rfl rfl ?_
  refine pu rfl rfl ?_
  refine pu rfl rfl ?_
  refine lw (v := .int .i64 _) B 7 rfl rfl rfl rfl ?_
  refine pt rfl rfl (by decide) ?_
  refine pB rfl rfl ?_
  refine SL_yes rfl ?_
  first | refine pP rfl rfl ?_ | refine pu rfl rfl ?_
  refine SL_yes rfl ?_
  refine pu rfl rfl ?_
  refine SL_yes rfl ?_
  refine pu rfl rfl ?_
  refine SL_yes rfl ?_
  refine lw (v := .int .i64 _) B 1 rfl rfl rfl rfl ?_
  refine SL_yes rfl ?_
  first | refine pP rfl rfl ?_ | refine pu rfl rfl ?_
  refine SL_yes rfl ?_
  refine pu rfl rfl ?_
  refine SL_yes rfl ?_
  refine pu rfl rfl ?_
  refine SL_yes rfl ?_
  refine lw (v := .slice _ _ _) B 0 rfl rfl rfl rfl ?_
  refine SL_yes rfl ?_
  refine pu rfl rfl ?_
  refine SL_yes rfl ?_
  refine pc rfl rfl (fun c22 => ?_) (fun c22 => ?_)
  · skip
    refine pB rfl rfl ?_
    refine SL_nil (nx (SWP_ct rfl (SWP_skip (nx (SWP_block (SWP_seq ?_))))))
    obtain ⟨w, R3, rfl, hwk⟩ := drop_cons hd2 (by omega)
    obtain ⟨ad, e0, _, hat⟩ := hL.atA wpE_len hwk
    have hwd : True := trivial
    refine SWP_region ?_
    first | refine pI rfl rfl ?_ | refine pu rfl rfl ?_
    first | refine pI rfl rfl ?_ | refine pu rfl rfl ?_
    refine SL_nil (nx (SWP_seq (SWP_block ?_)))
    refine SWP_loop [6, 25, 26, 27, 28, 29, 30, 31, 32, 33, 34, 35, 36, 37, 38, 39, 40, 41, 42, 43, 44, 45, 46, 47, 48, 49, 50, 51] [6]
        (fun vs σ' m' => ∃ (i : Nat), vs = [.int .i64 (i : Nat)] ∧ p ≤ i ∧ i ≤ g.addons.length ∧ (∀ j, p ≤ j → j < i → (g.addons.map Addon.name)[j]? ≠ some (bA w)) ∧ σ' = (B, Cells 87 (pcE l pa qc (q) la ln lc sys d ((b : Nat)) (-1))) :: [(B3, Cells 25 g.enc)] ∧ m = m')
        (fun vs => g.addons.length - nOf (vs.getD 0 undef)) rfl ?_ ?_
    · exact ⟨p, rfl, Nat.le_refl _, hpl, fun j h1 h2 => (by omega), rfl, rfl⟩
    intro u1 vs1 σ1 m1 hJ1 _
    obtain ⟨i, rfl, hpi, hi, hno, rfl, rfl⟩ := hJ1
    refine SWP_seq (SWP_seq ?_)
    refine SWP_draws (by kernel_rfl) (by kernel_rfl) ?_
    first | refine pI rfl rfl ?_ | refine pu rfl rfl ?_
    refine pu rfl rfl ?_
    refine lw (v := .slice _ _ _) B3 20 rfl rfl rfl rfl ?_
    refine pu rfl rfl ?_
    refine pc rfl rfl (fun c29 => ?_) (fun c29 => ?_)
    · skip
      refine pB rfl rfl ?_
      refine SL_yes rfl ?_
      refine pu rfl rfl ?_
      refine SL_yes rfl ?_
      refine lw (v := .slice _ _ _) B3 20 rfl rfl rfl rfl ?_
      refine SL_yes rfl ?_
      first | refine pI rfl rfl ?_ | refine pu rfl rfl ?_
      refine SL_yes rfl ?_
      obtain ⟨a, ha⟩ : ∃ a, g.addons[i]? = some a := ⟨_, List.getElem?_eq_getElem (by omega)⟩
      obtain ⟨ad2, e2, _, hat2⟩ := hin.ads.atA Addon.enc_len ha
      have hnm : (g.addons.map Addon.name)[i]? = some a.name := by rw [List.getElem?_map, ha]; rfl
      rw [e2]
      refine ia (es := 6) rfl rfl rfl rfl rfl rfl (by omega) rfl ?_
      rw [← e2]
      refine SL_yes rfl ?_
      refine pu rfl rfl ?_
      refine SL_yes rfl ?_
      refine ldF (v := .string a.name) rfl rfl hat2 rfl rfl ?_
      refine SL_yes rfl ?_
      first | refine pP rfl rfl ?_ | refine pu rfl rfl ?_
      refine SL_yes rfl ?_
      refine pu rfl rfl ?_
      refine SL_yes rfl ?_
      refine pu rfl rfl ?_
      refine SL_yes rfl ?_
      refine lw (v := .slice _ _ _) B 0 rfl rfl rfl rfl ?_
      refine SL_yes rfl ?_
      first | refine pP rfl rfl ?_ | refine pu rfl rfl ?_
      refine SL_yes rfl ?_
      refine pu rfl rfl ?_
      refine SL_yes rfl ?_
      refine pu rfl rfl ?_
      refine SL_yes rfl ?_
      refine lw (v := .int .i64 _) B 1 rfl rfl rfl rfl ?_
      refine SL_yes rfl ?_
      rw [e0]
      refine ia (es := 2) rfl rfl rfl rfl rfl rfl (by omega) rfl ?_
      rw [← e0]
      refine SL_yes rfl ?_
      refine pu rfl rfl ?_
      refine SL_yes rfl ?_
      refine ldF (v := .string (bA w)) rfl rfl hat rfl rfl ?_
      refine SL_yes rfl ?_
      refine pc rfl rfl (fun c48 => ?_) (fun c48 => ?_)
      · skip
        refine pB rfl rfl ?_
        refine SL_nil (nx (SWP_ct rfl (SWP_skip (nx (SWP_block (SWP_region ?_))))))
        first | refine pI rfl rfl ?_ | refine pu rfl rfl ?_
        first | refine pw rfl rfl (w64 (by omega) (by omega)) ?_ | refine pu rfl rfl ?_
        refine pI rfl rfl ?_
        refine SL_nil (nb (nx ?_))
        refine ⟨by repeat (first | exact Under.upds rfl (Under.hav _ _ _) | exact Under.hav _ _ _ | refine Under.upd rfl ?_ | refine Under.upds rfl ?_ | refine Under.hav2 rfl ?_), ?_, ?_⟩
        · refine ⟨i + 1, rfl, by omega, by omega, fun j h1 h2 => ?_, rfl, rfl⟩
          by_cases e : j = i
          · subst e
            rw [hnm]
            intro e2
            exact absurd (Option.some.inj e2) (by assumption)
          · exact hno j h1 (by omega)
        · simp only [L_vals, List.map, List.getD]; show g.addons.length - (i + 1) < g.addons.length - i; omega
      refine pB rfl rfl ?_
      refine SL_nil (nx (SWP_cf rfl (SWP_exit (ne (ne (be rfl (nx (SWP_seq (SWP_seq (SWP_region ?_))))))))))
      first | refine pI rfl rfl ?_ | refine pu rfl rfl ?_
      refine pu rfl rfl ?_
      refine lw (v := .slice _ _ _) B3 20 rfl rfl rfl rfl ?_
      refine pu rfl rfl ?_
      refine pc rfl rfl (fun c56 => ?_) (fun c56 => ?_)
      · skip
        refine SL_nil (nx (SWP_ct rfl (SWP_seq (SWP_region ?_))))
        first | refine pP rfl rfl ?_ | refine pu rfl rfl ?_
        refine SL_call rfl rfl cb52 (CallsS.subF [_] (failP hL hd2 B la ln lc sys d _ (-1)) (.refl _)) rfl (fun v8_1 σ8_1 m8_1 hl8_1 hR8_1 => ?_)
        obtain ⟨σz, rfl, rfl, hm8_1⟩ := hR8_1
        have hn8_1 := hm8_1.symm
        subst hn8_1
        refine SL_nil (nx (SWP_ret (nr (br (nr (br (nr ?_)))))))
        refine fin [] trivial ?_
        first
          | (have hn : findFrom (g.addons.map Addon.name) p (bA w) = none := findFrom_none fun j h1 h2 => hno j h1 (by rw [List.length_map] at h2; omega)
             exact ⟨_, q, _, _, rfl, rfl, NamesP.bad (hadd.trans (addF_none hn)) hd2 rfl⟩)
          | (have hR2 : R2 = [] := drop_nil hd2 (by omega)
             subst hR2
             have hb0 : b = 0 := hcb.1 (by omega)
             subst hb0
             exact ⟨_, q, _, _, rfl, rfl, NamesP.bad (by rw [hadd]; rfl) hd2 rfl⟩)
          | (have hR2 : R2 = [] := drop_nil hd2 (by omega)
             subst hR2
             have hb0 : ¬ b = 0 := fun e => by have := hcb.2 e; omega
             exact ⟨_, q, _, _, rfl, rfl, NamesP.good (by rw [hadd]; exact congrArg (fun z => (z, [])) (if_neg hb0)) hd2⟩)
      refine SL_nil (nx (SWP_cf rfl (SWP_skip (nx (SWP_seq ?_)))))
      have hilt : i < g.addons.length := by omega
      have hfs : findFrom (g.addons.map Addon.name) p (bA w) = some i := findFrom_some hpi (by first | (rw [hnm]; exact congrArg some (by assumption)) | (rw [hnm]; exact congrArg some (Classical.not_not.1 (by assumption))) | (exfalso; omega)) hno
      have hb2 := Nat.lt_of_lt_of_le hbp (Nat.pow_le_pow_right (by decide : 0 < 2) hpi)
      have hi4 : i < 4 := by omega
      have hp4 : 2 ^ i ≤ 2 ^ 3 := Nat.pow_le_pow_right (by decide) (by omega)
      have hq2 := (drop_len hd2).2 (by simp)
      refine SWP_tail 12 (by kernel_rfl) (by kernel_rfl) ?_
      first | refine pP rfl rfl ?_ | refine pu rfl rfl ?_
      first | refine pP rfl rfl ?_ | refine pu rfl rfl ?_
      refine pu rfl rfl ?_
      refine pu rfl rfl ?_
      refine pu (v := _) rfl rfl ?_
      refine lw (v := .int .i64 _) B 6 rfl rfl rfl rfl ?_
      first | refine pI rfl rfl ?_ | refine pu rfl rfl ?_
      refine pshl rfl rfl (by omega) (shl_bit hi4) rfl ?_
      refine pw rfl rfl (w64 (by omega) (by omega)) ?_
      rw [show ((b : Nat) : Int) + ((2 ^ i : Nat) : Int) = ((b + 2 ^ i : Nat) : Int) by omega]
      refine pu rfl rfl ?_
      refine pu rfl rfl ?_
      refine pu (v := _) rfl rfl ?_
      refine SL_nil ?_
      refine sw (v := .int .i64 _) B 6 rfl rfl rfl rfl rfl rfl rfl ?_
      refine SL_nil (nx (SWP_seq (SWP_region ?_)))
      first | refine pI rfl rfl ?_ | refine pu rfl rfl ?_
      first | refine pw rfl rfl (w64 (by omega) (by omega)) ?_ | refine pu rfl rfl ?_
      refine pI rfl rfl ?_
      refine SL_nil (nx (SWP_seq (SWP_region ?_)))
      first | refine pI rfl rfl ?_ | refine pu rfl rfl ?_
      first | refine pw rfl rfl (w64 (by omega) (by omega)) ?_ | refine pu rfl rfl ?_
      refine pI rfl rfl ?_
      refine SL_nil (nx (SWP_region ?_))
      first | refine pP rfl rfl ?_ | refine pu rfl rfl ?_
      refine pu rfl rfl ?_
      refine pu rfl rfl ?_
      refine lw (v := .int .i64 _) B 1 rfl rfl rfl rfl ?_
      refine pw rfl rfl (w64 (by omega) (by omega)) ?_
      rw [show ((q : Nat) : Int) + 1 = ((q + 1 : Nat) : Int) by omega]
      refine pu rfl rfl ?_
      refine pu rfl rfl ?_
      refine sw (v := .int .i64 _) B 1 rfl rfl rfl rfl rfl rfl rfl ?_
      refine SL_nil (nb (nx ?_))
      refine ⟨by repeat (first | exact Under.upds rfl (Under.hav _ _ _) | exact Under.hav _ _ _ | refine Under.upd rfl ?_ | refine Under.upds rfl ?_ | refine Under.hav2 rfl ?_), ?_, ?_⟩
      · refine ⟨i + 1, c + 1, q + 1, b + 2 ^ i, R3, rfl, (drop_next hd2).1, hadd.trans (addF_some hfs), ?_, by omega, by omega, ⟨fun h => by omega, fun h => ?_⟩, by omega, rfl, rfl⟩
        · rw [Nat.pow_succ]; omega
        · have : 0 < 2 ^ i := Nat.pow_pos (by decide)
          omega
      · simp only [L_vals, List.map, List.getD]; show g.addons.length + 1 - (i + 1) < g.addons.length + 1 - p; omega
    refine pB rfl rfl ?_
    refine SL_no rfl rfl ?_
    refine SL_no rfl rfl ?_
    refine SL_no rfl rfl ?_
    refine SL_no rfl rfl ?_
    refine SL_no rfl rfl ?_
    refine SL_no rfl rfl ?_
    refine SL_no rfl rfl ?_
    refine SL_no rfl rfl ?_
    refine SL_no rfl rfl ?_
    refine SL_no rfl rfl ?_
    refine SL_no rfl rfl ?_
    refine SL_no rfl rfl ?_
    refine SL_no rfl rfl ?_
    refine SL_no rfl rfl ?_
    refine SL_no rfl rfl ?_
    refine SL_no rfl rfl ?_
    refine SL_no rfl rfl ?_
    refine SL_no rfl rfl ?_
    refine pB rfl rfl ?_
    refine SL_nil (nx (SWP_cf rfl (SWP_exit (ne (ne (be rfl (nx (SWP_seq (SWP_seq (SWP_region ?_))))))))))
    first | refine pI rfl rfl ?_ | refine pu rfl rfl ?_
    refine pu rfl rfl ?_
    refine lw (v := .slice _ _ _) B3 20 rfl rfl rfl rfl ?_
    refine pu rfl rfl ?_
    refine pc rfl rfl (fun c56 => ?_) (fun c56 => ?_)
    · skip
      refine SL_nil (nx (SWP_ct rfl (SWP_seq (SWP_region ?_))))
      first | refine pP rfl rfl ?_ | refine pu rfl rfl ?_
      refine SL_call rfl rfl cb52 (CallsS.subF [_] (failP hL hd2 B la ln lc sys d _ (-1)) (.refl _)) rfl (fun v8_1 σ8_1 m8_1 hl8_1 hR8_1 => ?_)
      obtain ⟨σz, rfl, rfl, hm8_1⟩ := hR8_1
      have hn8_1 := hm8_1.symm
      subst hn8_1
      refine SL_nil (nx (SWP_ret (nr (br (nr (br (nr ?_)))))))
      refine fin [] trivial ?_
      first
        | (have hn : findFrom (g.addons.map Addon.name) p (bA w) = none := findFrom_none fun j h1 h2 => hno j h1 (by rw [List.length_map] at h2; omega)
           exact ⟨_, q, _, _, rfl, rfl, NamesP.bad (hadd.trans (addF_none hn)) hd2 rfl⟩)
        | (have hR2 : R2 = [] := drop_nil hd2 (by omega)
           subst hR2
           have hb0 : b = 0 := hcb.1 (by omega)
           subst hb0
           exact ⟨_, q, _, _, rfl, rfl, NamesP.bad (by rw [hadd]; rfl) hd2 rfl⟩)
        | (have hR2 : R2 = [] := drop_nil hd2 (by omega)
           subst hR2
           have hb0 : ¬ b = 0 := fun e => by have := hcb.2 e; omega
           exact ⟨_, q, _, _, rfl, rfl, NamesP.good (by rw [hadd]; exact congrArg (fun z => (z, [])) (if_neg hb0)) hd2⟩)
    refine SL_nil (nx (SWP_cf rfl (SWP_skip (nx (SWP_seq ?_)))))
    have hilt : i < g.addons.length := by omega
    have hfs : findFrom (g.addons.map Addon.name) p (bA w) = some i := findFrom_some hpi (by first | (rw [hnm]; exact congrArg some (by assumption)) | (rw [hnm]; exact congrArg some (Classical.not_not.1 (by assumption))) | (exfalso; omega)) hno
    have hb2 := Nat.lt_of_lt_of_le hbp (Nat.pow_le_pow_right (by decide : 0 < 2) hpi)
    have hi4 : i < 4 := by omega
    have hp4 : 2 ^ i ≤ 2 ^ 3 := Nat.pow_le_pow_right (by decide) (by omega)
    have hq2 := (drop_len hd2).2 (by simp)
    refine SWP_tail 12 (by kernel_rfl) (by kernel_rfl) ?_
    first | refine pP rfl rfl ?_ | refine pu rfl rfl ?_
    first | refine pP rfl rfl ?_ | refine pu rfl rfl ?_
    refine pu rfl rfl ?_
    refine pu rfl rfl ?_
    refine pu (v := _) rfl rfl ?_
    refine lw (v := .int .i64 _) B 6 rfl rfl rfl rfl ?_
    first | refine pI rfl rfl ?_ | refine pu rfl rfl ?_
    refine pshl rfl rfl (by omega) (shl_bit hi4) rfl ?_
    refine pw rfl rfl (w64 (by omega) (by omega)) ?_
    rw [show ((b : Nat) : Int) + ((2 ^ i : Nat) : Int) = ((b + 2 ^ i : Nat) : Int) by omega]
    refine pu rfl rfl ?_
    refine pu rfl rfl ?_
    refine pu (v := _) rfl rfl ?_
    refine SL_nil ?_
    refine sw (v := .int .i64 _) B 6 rfl rfl rfl rfl rfl rfl rfl ?_
    refine SL_nil (nx (SWP_seq (SWP_region ?_)))
    first | refine pI rfl rfl ?_ | refine pu rfl rfl ?_
    first | refine pw rfl rfl (w64 (by omega) (by omega)) ?_ | refine pu rfl rfl ?_
    refine pI rfl rfl ?_
    refine SL_nil (nx (SWP_seq (SWP_region ?_)))
    first | refine pI rfl rfl ?_ | refine pu rfl rfl ?_
    first | refine pw rfl rfl (w64 (by omega) (by omega)) ?_ | refine pu rfl rfl ?_
    refine pI rfl rfl ?_
    refine SL_nil (nx (SWP_region ?_))
    first | refine pP rfl rfl ?_ | refine pu rfl rfl ?_
    refine pu rfl rfl ?_
    refine pu rfl rfl ?_
    refine lw (v := .int .i64 _) B 1 rfl rfl rfl rfl ?_
    refine pw rfl rfl (w64 (by omega) (by omega)) ?_
    rw [show ((q : Nat) : Int) + 1 = ((q + 1 : Nat) : Int) by omega]
    refine pu rfl rfl ?_
    refine pu rfl rfl ?_
    refine sw (v := .int .i64 _) B 1 rfl rfl rfl rfl rfl rfl rfl ?_
    refine SL_nil (nb (nx ?_))
    refine ⟨by repeat (first | exact Under.upds rfl (Under.hav _ _ _) | exact Under.hav _ _ _ | refine Under.upd rfl ?_ | refine Under.upds rfl ?_ | refine Under.hav2 rfl ?_), ?_, ?_⟩
    · refine ⟨i + 1, c + 1, q + 1, b + 2 ^ i, R3, rfl, (drop_next hd2).1, hadd.trans (addF_some hfs), ?_, by omega, by omega, ⟨fun h => by omega, fun h => ?_⟩, by omega, rfl, rfl⟩
      · rw [Nat.pow_succ]; omega
      · have : 0 < 2 ^ i := Nat.pow_pos (by decide)
        omega
    · simp only [L_vals, List.map, List.getD]; show g.addons.length + 1 - (i + 1) < g.addons.length + 1 - p; omega
  refine pB rfl rfl ?_
  refine SL_nil (nx (SWP_cf rfl (SWP_exit (ne (ne (be rfl (nx (SWP_seq (SWP_region ?_)))))))))
  first | refine pI rfl rfl ?_ | refine pu rfl rfl ?_
  refine pc rfl rfl (fun c83 => ?_) (fun c83 => ?_)
  · skip
    refine SL_nil (nx (SWP_ct rfl (SWP_region ?_)))
    first | refine pP rfl rfl ?_ | refine pu rfl rfl ?_
    refine SL_call rfl rfl cb52 (CallsS.subF [_] (failP hL hd2 B la ln lc sys d _ (-1)) (.refl _)) rfl (fun v14_1 σ14_1 m14_1 hl14_1 hR14_1 => ?_)
    obtain ⟨σz, rfl, rfl, hm14_1⟩ := hR14_1
    have hn14_1 := hm14_1.symm
    subst hn14_1
    refine SL_nil ?_
    refine finn [] trivial ?_
    first
      | (have hn : findFrom (g.addons.map Addon.name) p (bA w) = none := findFrom_none fun j h1 h2 => hno j h1 (by rw [List.length_map] at h2; omega)
         exact ⟨_, q, _, _, rfl, rfl, NamesP.bad (hadd.trans (addF_none hn)) hd2 rfl⟩)
      | (have hR2 : R2 = [] := drop_nil hd2 (by omega)
         subst hR2
         have hb0 : b = 0 := hcb.1 (by omega)
         subst hb0
         exact ⟨_, q, _, _, rfl, rfl, NamesP.bad (by rw [hadd]; rfl) hd2 rfl⟩)
      | (have hR2 : R2 = [] := drop_nil hd2 (by omega)
         subst hR2
         have hb0 : ¬ b = 0 := fun e => by have := hcb.2 e; omega
         exact ⟨_, q, _, _, rfl, rfl, NamesP.good (by rw [hadd]; exact congrArg (fun z => (z, [])) (if_neg hb0)) hd2⟩)
  refine SL_nil (nx (SWP_cf rfl (SWP_skip ?_)))
  refine finn [] trivial ?_
  first
    | (have hn : findFrom (g.addons.map Addon.name) p (bA w) = none := findFrom_none fun j h1 h2 => hno j h1 (by rw [List.length_map] at h2; omega)
       exact ⟨_, q, _, _, rfl, rfl, NamesP.bad (hadd.trans (addF_none hn)) hd2 rfl⟩)
    | (have hR2 : R2 = [] := drop_nil hd2 (by omega)
       subst hR2
       have hb0 : b = 0 := hcb.1 (by omega)
       subst hb0
       exact ⟨_, q, _, _, rfl, rfl, NamesP.bad (by rw [hadd]; rfl) hd2 rfl⟩)
    | (have hR2 : R2 = [] := drop_nil hd2 (by omega)
       subst hR2
       have hb0 : ¬ b = 0 := fun e => by have := hcb.2 e; omega
       exact ⟨_, q, _, _, rfl, rfl, NamesP.good (by rw [hadd]; exact congrArg (fun z => (z, [])) (if_neg hb0)) hd2⟩)
end Go.Proofs.YtifjhpaoejageaaGreatDoor
namespace Go.Proofs.YtifjhpaoejageaaGreatDoor
open Eng
def Dead (ns : List ByteArray) (l : List UInt8) (wr : Int) : Prop := ∃ Rf, readM ns (wordsL l) = (none, Rf) ∧ wr = ((posR l Rf : Nat) : Int)
theorem Dead.ge {ns : List ByteArray} {l : List UInt8} {wr : Int} (h : Dead ns l wr) : 0 ≤ wr := by obtain ⟨_, _, rfl⟩ := h; exact Int.natCast_nonneg _
def St1 (ns : List ByteArray) (l : List UInt8) (L : List Line) (k : Nat) (wr : Int) : Prop := Dead ns l wr ∨ (wr = -1 ∧ ∃ R1, linesM (wordsL l) = (some (L.map Line.keyL), R1) ∧ (wordsL l).drop k = R1)
def St2 (ns : List ByteArray) (l : List UInt8) (L : List Line) (d : Int) (k : Nat) (wr : Int) : Prop := Dead ns l wr ∨ (wr = -1 ∧ ∃ R1 R2, linesM (wordsL l) = (some (L.map Line.keyL), R1) ∧ drawsM R1 = (some d, R2) ∧ (wordsL l).drop k = R2)
def St3 (ns : List ByteArray) (l : List UInt8) (L : List Line) (s : Bool) (d : Int) (k : Nat) (wr : Int) : Prop := Dead ns l wr ∨ (wr = -1 ∧ ∃ R1 R2 R3, linesM (wordsL l) = (some (L.map Line.keyL), R1) ∧ drawsM R1 = (some d, R2) ∧ sysM R2 = (s, R3) ∧ (wordsL l).drop k = R3)
def St4 (ns : List ByteArray) (l : List UInt8) (L : List Line) (s : Bool) (d : Int) (a : Int) (k : Nat) (wr : Int) : Prop := Dead ns l wr ∨ (wr = -1 ∧ ∃ R1 R2 R3 R4 an, linesM (wordsL l) = (some (L.map Line.keyL), R1) ∧ drawsM R1 = (some d, R2) ∧ sysM R2 = (s, R3) ∧ addonsM ns R3 = (some an, R4) ∧ a = ((an : Nat) : Int) ∧ (wordsL l).drop k = R4)
def ReadW (ns : List ByteArray) (l : List UInt8) (bt : Bet) (wr : Int) : Prop := Dead ns l wr ∨ (wr = -1 ∧ ∃ bk, readM ns (wordsL l) = (some bk, []) ∧ bt.Is bk)
theorem wlt {wr : Int} {x : Wd} {R : List Wd} (h : (if wr < 0 then isW x R else false) = true) : wr < 0 ∧ isW x R = true := by
  by_cases hw : wr < 0
  · rw [if_pos hw] at h; exact ⟨hw, h⟩
  · rw [if_neg hw] at h; cases h
theorem wlf {wr : Int} {x : Wd} {R : List Wd} (h : (if wr < 0 then isW x R else false) = false) (hw : wr = -1) : isW x R = false := by rw [if_pos (by omega)] at h; exact h
theorem lines_end {ns : List ByteArray} {l : List UInt8} {f k0 k : Nat} {R0 : List Wd} {L0 L : List Line} {wr : Int} (h : linesM (wordsL l) = linesF (f + 1) R0 (L0.map Line.keyL)) (hp : LineP l L0 R0 L k0 k wr) (hc : (if wr < 0 then isW [47] (lineM R0).2 else false) = false) : St1 ns l L k wr := by
  obtain ⟨⟨h1, h2⟩, h3⟩ := hp
  cases hl : (lineM R0).1 with
  | none =>
    rw [hl] at h3
    have e : lineM R0 = (none, (lineM R0).2) := by rw [← hl]
    have e2 := h.trans (linesF_0 e)
    exact .inl ⟨(lineM R0).2, by rw [readM_1 (by rw [e2]), e2], h3⟩
  | some x =>
    rw [hl] at h3
    have e : lineM R0 = (some x, (lineM R0).2) := by rw [← hl]
    have h47 := wlf hc h3.1
    exact .inr ⟨h3.1, _, by rw [h, linesF_1 e h47, h3.2], h1⟩
theorem lines_on {l : List UInt8} {f k0 k : Nat} {R0 : List Wd} {L0 L : List Line} {wr : Int} (h : linesM (wordsL l) = linesF (f + 1) R0 (L0.map Line.keyL)) (hf : R0.length ≤ f) (hp : LineP l L0 R0 L k0 k wr) (hc : (if wr < 0 then isW [47] (lineM R0).2 else false) = true) :
    wr = -1 ∧ ∃ f', f = f' + 1 ∧ linesM (wordsL l) = linesF (f' + 1) (lineM R0).2.tail (L.map Line.keyL) ∧ (lineM R0).2.tail.length ≤ f' ∧ (lineM R0).2.length = (lineM R0).2.tail.length + 1 ∧ (lineM R0).2.length < R0.length := by
  obtain ⟨⟨h1, h2⟩, h3⟩ := hp
  obtain ⟨hw, h47⟩ := wlt hc
  cases hl : (lineM R0).1 with
  | none =>
    rw [hl] at h3
    have : (0 : Int) ≤ ((posR l (lineM R0).2 : Nat) : Int) := Int.natCast_nonneg _
    omega
  | some x =>
    rw [hl] at h3
    have e : lineM R0 = (some x, (lineM R0).2) := by rw [← hl]
    have hpos := lineM_pos hl
    have hlen := congrArg List.length (isW_cons h47)
    rw [List.length_cons] at hlen
    refine ⟨h3.1, f - 1, by omega, ?_, by omega, by omega, hpos⟩
    rw [h, linesF_2 e h47, h3.2, show f - 1 + 1 = f by omega]
theorem St1.on {ns : List ByteArray} {l : List UInt8} {L : List Line} {k : Nat} {wr : Int} (h : St1 ns l L k wr) {x : Wd} (hc : (if wr < 0 then isW x ((wordsL l).drop k) else false) = true) : wr = -1 ∧ linesM (wordsL l) = (some (L.map Line.keyL), (wordsL l).drop k) ∧ isW x ((wordsL l).drop k) = true := by
  obtain ⟨hw, hx⟩ := wlt hc
  rcases h with h | ⟨h1, R1, h2, h3⟩
  · have := h.ge; omega
  · exact ⟨h1, by rw [h3]; exact h2, hx⟩
theorem St2.on {ns : List ByteArray} {l : List UInt8} {L : List Line} {d : Int} {k : Nat} {wr : Int} (h : St2 ns l L d k wr) {x : Wd} (hc : (if wr < 0 then isW x ((wordsL l).drop k) else false) = true) : wr = -1 ∧ (∃ R1, linesM (wordsL l) = (some (L.map Line.keyL), R1) ∧ drawsM R1 = (some d, (wordsL l).drop k)) ∧ isW x ((wordsL l).drop k) = true := by
  obtain ⟨hw, hx⟩ := wlt hc
  rcases h with h | ⟨h1, R1, R2, h2, h3, h4⟩
  · have := h.ge; omega
  · exact ⟨h1, ⟨R1, h2, by rw [h4]; exact h3⟩, hx⟩
theorem St3.on {ns : List ByteArray} {l : List UInt8} {L : List Line} {s : Bool} {d : Int} {k : Nat} {wr : Int} (h : St3 ns l L s d k wr) {x : Wd} (hc : (if wr < 0 then isW x ((wordsL l).drop k) else false) = true) : wr = -1 ∧ (∃ R1 R2, linesM (wordsL l) = (some (L.map Line.keyL), R1) ∧ drawsM R1 = (some d, R2) ∧ sysM R2 = (s, (wordsL l).drop k)) ∧ isW x ((wordsL l).drop k) = true := by
  obtain ⟨hw, hx⟩ := wlt hc
  rcases h with h | ⟨h1, R1, R2, R3, h2, h3, h4, h5⟩
  · have := h.ge; omega
  · exact ⟨h1, ⟨R1, R2, h2, h3, by rw [h5]; exact h4⟩, hx⟩
theorem St1.skip {ns : List ByteArray} {l : List UInt8} {L : List Line} {k : Nat} {wr : Int} (h : St1 ns l L k wr) (hc : (if wr < 0 then isW [120] ((wordsL l).drop k) else false) = false) : St2 ns l L 1 k wr := by
  rcases h with h | ⟨h1, R1, h2, h3⟩
  · exact .inl h
  · have hx := wlf hc h1
    rw [h3] at hx
    exact .inr ⟨h1, R1, R1, h2, drawsM_0 hx, h3⟩
theorem St2.skip {ns : List ByteArray} {l : List UInt8} {L : List Line} {d : Int} {k : Nat} {wr : Int} (h : St2 ns l L d k wr) (hc : (if wr < 0 then isW [115, 121, 115] ((wordsL l).drop k) else false) = false) : St3 ns l L false d k wr := by
  rcases h with h | ⟨h1, R1, R2, h2, h3, h4⟩
  · exact .inl h
  · have hx := wlf hc h1
    rw [h4] at hx
    exact .inr ⟨h1, R1, R2, R2, h2, h3, sysM_0 hx, h4⟩
theorem St2.sys {ns : List ByteArray} {l : List UInt8} {L : List Line} {d : Int} {k : Nat} {wr : Int} (h : St2 ns l L d k wr) (hc : (if wr < 0 then isW [115, 121, 115] ((wordsL l).drop k) else false) = true) : St3 ns l L true d (k + 1) wr := by
  obtain ⟨h1, ⟨R1, h2, h3⟩, hx⟩ := h.on hc
  have e := isW_cons hx
  exact .inr ⟨h1, R1, _, _, h2, h3, sysM_1 e, tail_drop rfl hx⟩
theorem St3.skip {ns : List ByteArray} {l : List UInt8} {L : List Line} {s : Bool} {d : Int} {k : Nat} {wr : Int} (h : St3 ns l L s d k wr) (hc : (if wr < 0 then isW [42] ((wordsL l).drop k) else false) = false) : St4 ns l L s d 0 k wr := by
  rcases h with h | ⟨h1, R1, R2, R3, h2, h3, h4, h5⟩
  · exact .inl h
  · have hx := wlf hc h1
    rw [h5] at hx
    exact .inr ⟨h1, R1, R2, R3, R3, 0, h2, h3, h4, addonsM_0 hx, rfl, h5⟩
theorem St3.names {ns : List ByteArray} {l : List UInt8} {L : List Line} {s : Bool} {d a' wr' : Int} {k k' : Nat} {wr : Int} (h : St3 ns l L s d k wr) (hc : (if wr < 0 then isW [42] ((wordsL l).drop k) else false) = true) (hp : NamesP ns l ((wordsL l).drop (k + 1)) k' a' wr') : St4 ns l L s d a' k' wr' := by
  obtain ⟨h1, ⟨R1, R2, h2, h3, h4⟩, hx⟩ := h.on hc
  have e := isW_cons hx
  have ht : (wordsL l).drop (k + 1) = ((wordsL l).drop k).tail := tail_drop rfl hx
  have eA : addonsM ns ((wordsL l).drop k) = addF ns ((wordsL l).drop (k + 1)) 0 0 := by rw [e, addonsM_1, ht]
  obtain ⟨p1, p2⟩ := hp
  cases ha : (addF ns ((wordsL l).drop (k + 1)) 0 0).1 with
  | none =>
    rw [ha] at p2
    refine .inl ⟨(addF ns ((wordsL l).drop (k + 1)) 0 0).2, ?_, p2⟩
    rw [readM_3 (ns := ns) (R := wordsL l) (R3 := (wordsL l).drop k) (L := L.map Line.keyL) (d := d) (s := s) (by rw [h2]) (by rw [h2]; show (drawsM R1).1 = _; rw [h3]) (by rw [h2]; show sysM (drawsM R1).2 = _; rw [h3]; exact h4) (by rw [eA, ha]), eA]
  | some b =>
    rw [ha] at p2
    refine .inr ⟨p2.2, R1, R2, _, (addF ns ((wordsL l).drop (k + 1)) 0 0).2, b, h2, h3, h4, by rw [eA, ← ha], p2.1, p1⟩
theorem St4.stop {ns : List ByteArray} {l : List UInt8} {L : List Line} {s : Bool} {d a : Int} {k : Nat} {wr : Int} (h : St4 ns l L s d a k wr) (hk : (wordsL l).drop k ≠ []) {bt : Bet} : ReadW ns l bt (if 0 ≤ wr then wr else ((posR l ((wordsL l).drop k) : Nat) : Int)) := by
  rcases h with h | ⟨h1, R1, R2, R3, R4, an, h2, h3, h4, h5, h6, h7⟩
  · rw [if_pos h.ge]; exact .inl h
  · rw [if_neg (by omega)]
    refine .inl ⟨(wordsL l).drop k, ?_, rfl⟩
    rw [readM_4 (ns := ns) (R := wordsL l) (R3 := R3) (L := L.map Line.keyL) (d := d) (s := s) (a := an) (by rw [h2]) (by rw [h2]; show (drawsM R1).1 = _; rw [h3]) (by rw [h2]; show sysM (drawsM R1).2 = _; rw [h3]; exact h4) (by rw [h5]), h5]
    rw [if_neg (by rw [← h7]; exact hk), h7]
theorem St4.done {ns : List ByteArray} {l : List UInt8} {L : List Line} {s : Bool} {d a : Int} {k : Nat} {wr : Int} (h : St4 ns l L s d a k wr) (hk : (wordsL l).drop k = []) {la : Option Addr} {lc : Nat} : ReadW ns l ⟨la, lc, L, s, d, a⟩ wr := by
  rcases h with h | ⟨h1, R1, R2, R3, R4, an, h2, h3, h4, h5, h6, h7⟩
  · exact .inl h
  · refine .inr ⟨h1, (L.map Line.keyL, s, d, an), ?_, rfl, rfl, rfl, h6⟩
    rw [readM_4 (ns := ns) (R := wordsL l) (R3 := R3) (L := L.map Line.keyL) (d := d) (s := s) (a := an) (by rw [h2]) (by rw [h2]; show (drawsM R1).1 = _; rw [h3]) (by rw [h2]; show sysM (drawsM R1).2 = _; rw [h3]; exact h4) (by rw [h5]), h5]
    exact if_pos (h7.symm.trans hk)
theorem St1.noDraw {ns : List ByteArray} {l : List UInt8} {L : List Line} {k : Nat} {wr : Int} {d : Int} {k' : Nat} (h : St1 ns l L k wr) (hc : (if wr < 0 then isW [120] ((wordsL l).drop k) else false) = true) (hn : (numV ((wordsL l).drop (k + 1))).isSome = false ∨ (numV ((wordsL l).drop (k + 1))).getD 0 = 1) : St2 ns l L d k' ((posR l ((wordsL l).drop (k + 1)) : Nat) : Int) := by
  obtain ⟨h1, h2, hx⟩ := h.on hc
  have e := isW_cons hx
  have ht : (wordsL l).drop (k + 1) = ((wordsL l).drop k).tail := tail_drop rfl hx
  rw [ht] at hn ⊢
  have hd : drawsM ((wordsL l).drop k) = (none, ((wordsL l).drop k).tail) := by
    by_cases hs : (numV ((wordsL l).drop k).tail).isSome = false
    · exact drawsM_1 e hs
    · exact drawsM_2 e ((Bool.not_eq_false _).mp hs) (hn.resolve_left hs)
  refine .inl ⟨_, ?_, rfl⟩
  rw [readM_2 (ns := ns) (R := wordsL l) (L := L.map Line.keyL) (by rw [h2]) (by rw [h2]; show (drawsM ((wordsL l).drop k)).1 = _; rw [hd]), h2]
  show (none, (drawsM ((wordsL l).drop k)).2) = _
  rw [hd]
theorem St1.draw {ns : List ByteArray} {l : List UInt8} {L : List Line} {k : Nat} {wr : Int} {w : Wd} {R5 : List Wd} (h : St1 ns l L k wr) (hc : (if wr < 0 then isW [120] ((wordsL l).drop k) else false) = true) (hR : (wordsL l).drop (k + 1) = w :: R5) (hs : (numW w).isSome = true) (h1' : ¬ (numW w).getD 0 = 1) : St2 ns l L ((numW w).getD 0) (k + 1 + 1) wr := by
  obtain ⟨h1, h2, hx⟩ := h.on hc
  have e := isW_cons hx
  have ht : (wordsL l).drop (k + 1) = ((wordsL l).drop k).tail := tail_drop rfl hx
  have hd := drawsM_3 (R := (wordsL l).drop k) (R4 := (wordsL l).drop (k + 1)) (by rw [ht]; exact e) (by rw [hR]; exact hs) (by rw [hR]; exact h1')
  refine .inr ⟨h1, _, _, h2, ?_, (drop_next hR).1⟩
  rw [hd, hR]
  rfl
set_option maxRecDepth 100000 in
theorem readR {m : Mem} {g : Game} (hing : g.In m) (h4 : g.addons.length ≤ 4) (l : List UInt8) (hl : l.length ≤ 100000) : CallsS Tryz.prog 23 [g.val, .string (bA l)].toArray [] m fun r σ' m' => σ' = [] ∧ ∃ (bt : Bet) (wr : Int), r = .tuple #[bt.val, .int .i64 wr] ∧ bt.In m' ∧ ReadW (g.addons.map Addon.name) l bt wr := by
  refine CallsS.ghost (R' := fun r σ' m' => ∃ (bt : Bet) (wr : Int) (σe τ : Sig) (x9 : Nat × Chk), σ' = x9 :: (σe ++ τ) ∧ r = .tuple #[bt.val, .int .i64 wr] ∧ OwnS 50 2 (.slice bt.la bt.lines.length bt.lc) (bt.lines.flatMap Line.enc) σe ∧ (∀ x ∈ bt.lines, x.In m') ∧ ReadW (g.addons.map Addon.name) l bt wr) ?_ ?h2
  case h2 =>
    rintro r σ' m' ⟨bt, wr, σe, τ, x9, rfl, rfl, hown, hin, hr⟩ g0 W hC
    obtain ⟨m2, hl2, hC2, hRL⟩ := OwnS.freezeL (by omega) Line.enc_len hown (hC.sublist (List.sublist_cons_self _ _))
    exact ⟨_, m2, hC2.sublist (List.nil_sublist _), hl2, rfl, bt, wr, rfl, ⟨hRL, fun x hx => (hin x hx).mono hl2⟩, hr⟩
  have hsz := bA_size l
  have hwn := (words_len l).1
  dsimp only [Game.val]
  refine enter Tryz.func23 Tryz.ntmps23 rfl rfl ?_
  refine SWP_seq (SWP_region ?_)
  refine bx (v := .agg _) rfl rfl (fun B2 => ?_)
  refine al rfl rfl (fun B4 => ?_)
  refine pI rfl rfl ?_
  refine SL_nil (nx (SWP_seq (SWP_region ?_)))
  first | refine pS rfl rfl ?_ | refine pu rfl rfl ?_
  refine SL_call rfl rfl cb48 (CallsS.frame0 (wordsR l (by omega))) rfl (fun v1_1 σ1_1 m1_1 hl1_1 hR1_1 => ?_)
  obtain ⟨σz, rfl, rfl, pa, qc, rfl, hL⟩ := hR1_1
  rw [List.nil_append]
  have hing1 := hing.mono hl1_1
  first | refine pS rfl rfl ?_ | refine pu rfl rfl ?_
  refine pu rfl rfl ?_
  refine pA rfl rfl ?_
  refine bx (v := .agg _) rfl rfl (fun B14 => ?_)
  refine pP rfl rfl ?_
  refine SL_nil (nx (SWP_seq (SWP_region ?_)))
  refine pP rfl rfl ?_
  refine pu rfl rfl ?_
  refine pu rfl rfl ?_
  refine pu (v := _) rfl rfl ?_
  refine sw (v := .int .i64 _) B14 5 rfl rfl rfl rfl rfl rfl rfl ?_
  refine SL_nil (nx (SWP_seq (SWP_region ?_)))
  refine pP rfl rfl ?_
  refine SL_call rfl rfl cb49 (CallsS.subF [(B4, Cells 30 [.slice none 0 0, .bool false, .int .i64 0, .int .i64 0]), (B2, Cells 25 g.enc)] (lineP hL (k := 0) rfl hl B14 (la := none) (lc := 0) (L := []) (σe := []) .nil (fun x hx => by cases hx) (by simp) (by omega) false 1 0) (.refl _)) rfl (fun v3_1 σ3_1 m3_1 hl3_1 hR3_1 => ?_)
  obtain ⟨σz, rfl, la1, lc1, L1, k1, wr1, σ1, hown1, hin1, hl1, hp1, rfl⟩ := hR3_1
  rw [List.cons_append]
  refine SL_nil (nx (SWP_seq (SWP_block ?_)))
  refine SWP_loopN [21, 22, 23, 24] []
      (fun n vs σ' m' => ∃ (f k0 k : Nat) (wr : Int) (R0 : List Wd) (L0 L : List Line) (la : Option Addr) (lc : Nat) (σe : Sig), vs = [] ∧ n = R0.length ∧ linesM (wordsL l) = linesF (f + 1) R0 (L0.map Line.keyL) ∧ R0.length ≤ f ∧ LineP l L0 R0 L k0 k wr ∧ k0 + R0.length ≤ l.length + 1 ∧ L0.length + R0.length ≤ l.length + 1 ∧ L.length = L0.length + 1 ∧ OwnS 50 2 (.slice la L.length lc) (L.flatMap Line.enc) σe ∧ (∀ x ∈ L, x.In m') ∧ σ' = (B14, Cells 87 (pcE l pa qc (k) la (L.length) lc false (1) (0) (wr))) :: (σe ++ [(B4, Cells 30 [.slice none 0 0, .bool false, .int .i64 0, .int .i64 0]), (B2, Cells 25 g.enc)]) ∧ Le m1_1 m')
      rfl ((wordsL l).length) ?_ ?_
  · exact ⟨(wordsL l).length, 0, k1, wr1, wordsL l, [], L1, la1, lc1, σ1, rfl, rfl, rfl, Nat.le_refl _, hp1, by omega, by simp only [List.length_nil]; omega, hl1, hown1, hin1, rfl, hl3_1⟩
  intro k0 u0 vs0 σ0 m0 hJ0 _
  obtain ⟨f, k0, k, wr, R0, L0, L, la, lc, σe, rfl, rfl, hlm, hf, hp, hk0, hL0, hLL, hown, hin, rfl, hle⟩ := hJ0
  have hpk := hp.1.2
  refine SWP_seq (SWP_seq ?_)
  skip
  refine SWP_region ?_
  refine pP rfl rfl ?_
  refine SL_call rfl rfl cb50 (CallsS.subF (σe ++ [(B4, Cells 30 [.slice none 0 0, .bool false, .int .i64 0, .int .i64 0]), (B2, Cells 25 g.enc)]) (skipP (hL.mono hle) hp.1.1 B14 la L.length lc _ _ _ wr (by omega) [47]) (.refl _)) rfl (fun v4_1 σ4_1 m4_1 hl4_1 hR4_1 => ?_)
  obtain ⟨σz, rfl, rfl, rfl, hm4_1⟩ := hR4_1
  have hn4_1 := hm4_1.symm
  subst hn4_1
  rw [List.singleton_append]
  refine bsp 22 rfl (fun b22 => ?_) (fun b22 => ?_)
  · skip
    refine SL_nil (nx (SWP_ct rfl (SWP_skip (nx (SWP_block ?_)))))
    have hc := (show (if wr < 0 then isW [47] (lineM R0).2 else false) = true by assumption)
    obtain ⟨hw1, f2, rfl, hlm2, hf2, hl47, hlt47⟩ := lines_on hlm hf hp hc
    subst hw1
    rw [if_pos hc]
    refine SWP_region ?_
    refine pP rfl rfl ?_
    refine SL_call rfl rfl cb49 (CallsS.subF [(B4, Cells 30 [.slice none 0 0, .bool false, .int .i64 0, .int .i64 0]), (B2, Cells 25 g.enc)] (lineP (hL.mono hle) (tail_drop hp.1.1 (wlt hc).2) hl B14 hown hin (by omega) (by omega) false 1 0) (.refl _)) rfl (fun v5_1 σ5_1 m5_1 hl5_1 hR5_1 => ?_)
    obtain ⟨σz, rfl, la1, lc1, L1, k1, wr1, σ1, hown1, hin1, hl1, hp1, rfl⟩ := hR5_1
    rw [List.cons_append]
    refine SL_nil (nb (nx ?_))
    refine ⟨by repeat (first | exact Under.upds rfl (Under.hav _ _ _) | exact Under.hav _ _ _ | refine Under.upd rfl ?_ | refine Under.upds rfl ?_ | refine Under.hav2 rfl ?_), ?_⟩
    · refine ⟨(lineM R0).2.tail.length, by omega, f2, k + 1, k1, wr1, (lineM R0).2.tail, L, L1, la1, lc1, σ1, rfl, rfl, hlm2, hf2, hp1, by omega, by omega, hl1, hown1, hin1, rfl, hle.trans hl5_1⟩
  refine SL_nil (nx (SWP_cf rfl (SWP_exit (ne (ne (be rfl (nx ?_)))))))
  have hc0 := (show (if wr < 0 then isW [47] (lineM R0).2 else false) = false by assumption)
  have hst := lines_end (ns := (g.addons.map Addon.name)) hlm hp hc0
  rw [show (if (if wr < 0 then isW [47] (lineM R0).2 else false) = true then k + 1 else k) = k from if_neg (by rw [hc0]; exact Bool.noConfusion)]
  have hkb : k ≤ 100001 := by omega
  refine SWP_merge1 [7, 8, 25, 26, 27, 28, 29, 30, 31, 32, 33, 34, 35, 36, 37, 38, 39, 40, 41, 42, 43, 44, 45, 46, 47, 48, 49, 50, 51, 52, 53, 54, 55, 56, 57, 58, 59, 60, 61, 62, 63, 64, 65, 66, 67, 68, 69, 70, 71] []
      (fun vs σ' m' => ∃ (d : Int) (k : Nat) (wr : Int) (L : List Line) (la : Option Addr) (lc : Nat) (σe : Sig), vs = [] ∧ OwnS 50 2 (.slice la L.length lc) (L.flatMap Line.enc) σe ∧ (∀ x ∈ L, x.In m') ∧ k ≤ 100003 ∧ St2 (g.addons.map Addon.name) l L d k wr ∧ σ' = (B14, Cells 87 (pcE l pa qc (k) la (L.length) lc false (d) (0) (wr))) :: (σe ++ [(B4, Cells 30 [.slice none 0 0, .bool false, .int .i64 0, .int .i64 0]), (B2, Cells 25 g.enc)]) ∧ Le m1_1 m')
      rfl ?_ ?_
  · skip
    refine SWP_seq (SWP_region ?_)
    refine pP rfl rfl ?_
    refine SL_call rfl rfl cb50 (CallsS.subF (σe ++ [(B4, Cells 30 [.slice none 0 0, .bool false, .int .i64 0, .int .i64 0]), (B2, Cells 25 g.enc)]) (skipP (hL.mono hle) (k := k) rfl B14 la L.length lc _ _ _ wr (by omega) [120]) (.refl _)) rfl (fun v6_1 σ6_1 m6_1 hl6_1 hR6_1 => ?_)
    obtain ⟨σz, rfl, rfl, rfl, hm6_1⟩ := hR6_1
    have hn6_1 := hm6_1.symm
    subst hn6_1
    rw [List.singleton_append]
    refine bsp 26 rfl (fun b26 => ?_) (fun b26 => ?_)
    · skip
      refine SL_nil (nx (SWP_ct rfl (SWP_seq ?_)))
      have hc := (show (if wr < 0 then isW [120] ((wordsL l).drop k) else false) = true by assumption)
      have hw1 := (hst.on hc).1
      rw [if_pos hc]
      refine SWP_region ?_
      refine pI rfl rfl ?_
      refine pB rfl rfl ?_
      refine SL_nil (nx (SWP_seq (SWP_seq ?_)))
      refine SWP_draws (by kernel_rfl) (by kernel_rfl) ?_
      refine pP rfl rfl ?_
      refine pu rfl rfl ?_
      refine pu rfl rfl ?_
      refine lw (v := .int .i64 _) B14 1 rfl rfl rfl rfl ?_
      refine pP rfl rfl ?_
      refine pu rfl rfl ?_
      refine pu rfl rfl ?_
      refine lw (v := .slice _ _ _) B14 0 rfl rfl rfl rfl ?_
      refine pu rfl rfl ?_
      refine pc rfl rfl (fun c36 => ?_) (fun c36 => ?_)
      · skip
        refine SL_nil (nx (SWP_ct rfl ?_))
        obtain ⟨w, R5, hR5, hwk⟩ := drop_cons (l := l) (k := k + 1) rfl (by omega)
        obtain ⟨ad, e0, _, hat⟩ := (hL.mono hle).atA wpE_len hwk
        refine SWP_draws (by kernel_rfl) (by kernel_rfl) ?_
        refine pP rfl rfl ?_
        refine pu rfl rfl ?_
        refine pu rfl rfl ?_
        refine lw (v := .slice _ _ _) B14 0 rfl rfl rfl rfl ?_
        refine pP rfl rfl ?_
        refine pu rfl rfl ?_
        refine pu rfl rfl ?_
        refine lw (v := .int .i64 _) B14 1 rfl rfl rfl rfl ?_
        rw [e0]
        refine ia (es := 2) rfl rfl rfl rfl rfl rfl (by omega) rfl ?_
        rw [← e0]
        refine pu rfl rfl ?_
        refine ldF (v := .string (bA w)) rfl rfl hat rfl rfl ?_
        refine SL_pcall rfl rfl cb51 (numbR w (drop_words (R := w :: R5) hR5 hl w (List.mem_cons_self ..))) rfl ?_
        refine pu rfl rfl ?_
        first | refine pI rfl rfl ?_ | refine pu rfl rfl ?_
        first | refine pB rfl rfl ?_ | refine pu rfl rfl ?_
        refine bsp 51 rfl (fun b51 => ?_) (fun b51 => ?_)
        · skip
          first | refine pI rfl rfl ?_ | refine pu rfl rfl ?_
          first | refine pB rfl rfl ?_ | refine pu rfl rfl ?_
          refine SL_nil (nx (SWP_seq (SWP_seq (SWP_region ?_))))
          first | refine pB rfl rfl ?_ | refine pu rfl rfl ?_
          refine pB rfl rfl ?_
          refine pB rfl rfl ?_
          refine SL_yes rfl ?_
          first | refine pI rfl rfl ?_ | refine pu rfl rfl ?_
          refine SL_yes rfl ?_
          refine pc rfl rfl (fun c56 => ?_) (fun c56 => ?_)
          · skip
            refine pB rfl rfl ?_
            refine SL_nil (nx (SWP_ct rfl (SWP_region ?_)))
            refine pP rfl rfl ?_
            refine SL_call rfl rfl cb52 (CallsS.subF (σe ++ [(B4, Cells 30 [.slice none 0 0, .bool false, .int .i64 0, .int .i64 0]), (B2, Cells 25 g.enc)]) (failP (hL.mono hle) (k := k + 1) rfl B14 la L.length lc _ _ _ wr) (.refl _)) rfl (fun v11_1 σ11_1 m11_1 hl11_1 hR11_1 => ?_)
            obtain ⟨σz, rfl, rfl, hm11_1⟩ := hR11_1
            have hn11_1 := hm11_1.symm
            subst hn11_1
            rw [List.singleton_append]
            rw [if_neg (show ¬ 0 ≤ wr by omega)]
            refine SL_nil (nx (SWP_seq (SWP_region ?_)))
            refine pP rfl rfl ?_
            first | refine pI rfl rfl ?_ | refine pu rfl rfl ?_
            refine pu rfl rfl ?_
            refine pu rfl rfl ?_
            refine pu (v := _) rfl rfl ?_
            refine sw (v := .int .i64 _) B14 5 rfl rfl rfl rfl rfl rfl rfl ?_
            refine SL_nil (nx (SWP_region ?_))
            refine pP rfl rfl ?_
            refine pu rfl rfl ?_
            refine pu rfl rfl ?_
            refine lw (v := .int .i64 _) B14 1 rfl rfl rfl rfl ?_
            refine pw rfl rfl (w64 (by omega) (by omega)) ?_
            rw [show ((k + 1 : Nat) : Int) + 1 = ((k + 1 + 1 : Nat) : Int) by omega]
            refine pu rfl rfl ?_
            refine pu rfl rfl ?_
            refine sw (v := .int .i64 _) B14 1 rfl rfl rfl rfl rfl rfl rfl ?_
            refine SL_nil (nx ?_)
            refine ⟨by repeat (first | with_reducible exact Under.refl _ _ | exact Under.upds rfl (Under.hav _ _ _) | exact Under.hav _ _ _ | refine Under.upd rfl ?_ | refine Under.upds rfl ?_ | refine Under.hav2 rfl ?_), ?_⟩
            first
            | exact ⟨1, k, wr, L, la, lc, σe, rfl, hown, hin, by omega, hst.skip (by assumption), by rw [show (if (if wr < 0 then isW [120] ((wordsL l).drop k) else false) = true then k + 1 else k) = k from if_neg (by rw [show (if wr < 0 then isW [120] ((wordsL l).drop k) else false) = false by assumption]; exact Bool.noConfusion)], hle⟩
            | exact ⟨_, _, _, L, la, lc, σe, rfl, hown, hin, by omega, hst.noDraw hc (by first | exact .inl (by rw [drop_nil (l := l) (k := k + 1) rfl (by omega)]; rfl) | exact .inl (by rw [hR5]; show (numW w).isSome = false; assumption) | exact .inr (by rw [hR5]; show (numW w).getD 0 = 1; assumption)), rfl, hle⟩
            | exact ⟨_, _, _, L, la, lc, σe, rfl, hown, hin, by omega, hst.draw hc hR5 (by assumption) (by assumption), by rw [hw1]; rfl, hle⟩
          refine pB rfl rfl ?_
          refine SL_nil (nx (SWP_cf rfl (SWP_skip (nx (SWP_seq (SWP_region ?_))))))
          refine pP rfl rfl ?_
          first | refine pI rfl rfl ?_ | refine pu rfl rfl ?_
          refine pu rfl rfl ?_
          refine pu rfl rfl ?_
          refine pu (v := _) rfl rfl ?_
          refine sw (v := .int .i64 _) B14 5 rfl rfl rfl rfl rfl rfl rfl ?_
          refine SL_nil (nx (SWP_region ?_))
          refine pP rfl rfl ?_
          refine pu rfl rfl ?_
          refine pu rfl rfl ?_
          refine lw (v := .int .i64 _) B14 1 rfl rfl rfl rfl ?_
          refine pw rfl rfl (w64 (by omega) (by omega)) ?_
          rw [show ((k + 1 : Nat) : Int) + 1 = ((k + 1 + 1 : Nat) : Int) by omega]
          refine pu rfl rfl ?_
          refine pu rfl rfl ?_
          refine sw (v := .int .i64 _) B14 1 rfl rfl rfl rfl rfl rfl rfl ?_
          refine SL_nil (nx ?_)
          refine ⟨by repeat (first | with_reducible exact Under.refl _ _ | exact Under.upds rfl (Under.hav _ _ _) | exact Under.hav _ _ _ | refine Under.upd rfl ?_ | refine Under.upds rfl ?_ | refine Under.hav2 rfl ?_), ?_⟩
          first
          | exact ⟨1, k, wr, L, la, lc, σe, rfl, hown, hin, by omega, hst.skip (by assumption), by rw [show (if (if wr < 0 then isW [120] ((wordsL l).drop k) else false) = true then k + 1 else k) = k from if_neg (by rw [show (if wr < 0 then isW [120] ((wordsL l).drop k) else false) = false by assumption]; exact Bool.noConfusion)], hle⟩
          | exact ⟨_, _, _, L, la, lc, σe, rfl, hown, hin, by omega, hst.noDraw hc (by first | exact .inl (by rw [drop_nil (l := l) (k := k + 1) rfl (by omega)]; rfl) | exact .inl (by rw [hR5]; show (numW w).isSome = false; assumption) | exact .inr (by rw [hR5]; show (numW w).getD 0 = 1; assumption)), rfl, hle⟩
          | exact ⟨_, _, _, L, la, lc, σe, rfl, hown, hin, by omega, hst.draw hc hR5 (by assumption) (by assumption), by rw [hw1]; rfl, hle⟩
        first | refine pI rfl rfl ?_ | refine pu rfl rfl ?_
        first | refine pB rfl rfl ?_ | refine pu rfl rfl ?_
        refine SL_nil (nx (SWP_seq (SWP_seq (SWP_region ?_))))
        first | refine pB rfl rfl ?_ | refine pu rfl rfl ?_
        refine pB rfl rfl ?_
        refine pB rfl rfl ?_
        refine SL_no rfl rfl ?_
        refine SL_no rfl rfl ?_
        refine pB rfl rfl ?_
        refine SL_nil (nx (SWP_ct rfl (SWP_region ?_)))
        refine pP rfl rfl ?_
        refine SL_call rfl rfl cb52 (CallsS.subF (σe ++ [(B4, Cells 30 [.slice none 0 0, .bool false, .int .i64 0, .int .i64 0]), (B2, Cells 25 g.enc)]) (failP (hL.mono hle) (k := k + 1) rfl B14 la L.length lc _ _ _ wr) (.refl _)) rfl (fun v11_1 σ11_1 m11_1 hl11_1 hR11_1 => ?_)
        obtain ⟨σz, rfl, rfl, hm11_1⟩ := hR11_1
        have hn11_1 := hm11_1.symm
        subst hn11_1
        rw [List.singleton_append]
        rw [if_neg (show ¬ 0 ≤ wr by omega)]
        refine SL_nil (nx (SWP_seq (SWP_region ?_)))
        refine pP rfl rfl ?_
        first | refine pI rfl rfl ?_ | refine pu rfl rfl ?_
        refine pu rfl rfl ?_
        refine pu rfl rfl ?_
        refine pu (v := _) rfl rfl ?_
        refine sw (v := .int .i64 _) B14 5 rfl rfl rfl rfl rfl rfl rfl ?_
        refine SL_nil (nx (SWP_region ?_))
        refine pP rfl rfl ?_
        refine pu rfl rfl ?_
        refine pu rfl rfl ?_
        refine lw (v := .int .i64 _) B14 1 rfl rfl rfl rfl ?_
        refine pw rfl rfl (w64 (by omega) (by omega)) ?_
        rw [show ((k + 1 : Nat) : Int) + 1 = ((k + 1 + 1 : Nat) : Int) by omega]
        refine pu rfl rfl ?_
        refine pu rfl rfl ?_
        refine sw (v := .int .i64 _) B14 1 rfl rfl rfl rfl rfl rfl rfl ?_
        refine SL_nil (nx ?_)
        refine ⟨by repeat (first | with_reducible exact Under.refl _ _ | exact Under.upds rfl (Under.hav _ _ _) | exact Under.hav _ _ _ | refine Under.upd rfl ?_ | refine Under.upds rfl ?_ | refine Under.hav2 rfl ?_), ?_⟩
        first
        | exact ⟨1, k, wr, L, la, lc, σe, rfl, hown, hin, by omega, hst.skip (by assumption), by rw [show (if (if wr < 0 then isW [120] ((wordsL l).drop k) else false) = true then k + 1 else k) = k from if_neg (by rw [show (if wr < 0 then isW [120] ((wordsL l).drop k) else false) = false by assumption]; exact Bool.noConfusion)], hle⟩
        | exact ⟨_, _, _, L, la, lc, σe, rfl, hown, hin, by omega, hst.noDraw hc (by first | exact .inl (by rw [drop_nil (l := l) (k := k + 1) rfl (by omega)]; rfl) | exact .inl (by rw [hR5]; show (numW w).isSome = false; assumption) | exact .inr (by rw [hR5]; show (numW w).getD 0 = 1; assumption)), rfl, hle⟩
        | exact ⟨_, _, _, L, la, lc, σe, rfl, hown, hin, by omega, hst.draw hc hR5 (by assumption) (by assumption), by rw [hw1]; rfl, hle⟩
      refine SL_nil (nx (SWP_cf rfl (SWP_skip (nx (SWP_seq (SWP_seq (SWP_region ?_)))))))
      first | refine pB rfl rfl ?_ | refine pu rfl rfl ?_
      refine pB rfl rfl ?_
      refine pB rfl rfl ?_
      refine SL_no rfl rfl ?_
      refine SL_no rfl rfl ?_
      refine pB rfl rfl ?_
      refine SL_nil (nx (SWP_ct rfl (SWP_region ?_)))
      refine pP rfl rfl ?_
      refine SL_call rfl rfl cb52 (CallsS.subF (σe ++ [(B4, Cells 30 [.slice none 0 0, .bool false, .int .i64 0, .int .i64 0]), (B2, Cells 25 g.enc)]) (failP (hL.mono hle) (k := k + 1) rfl B14 la L.length lc _ _ _ wr) (.refl _)) rfl (fun v11_1 σ11_1 m11_1 hl11_1 hR11_1 => ?_)
      obtain ⟨σz, rfl, rfl, hm11_1⟩ := hR11_1
      have hn11_1 := hm11_1.symm
      subst hn11_1
      rw [List.singleton_append]
      rw [if_neg (show ¬ 0 ≤ wr by omega)]
      refine SL_nil (nx (SWP_seq (SWP_region ?_)))
      refine pP rfl rfl ?_
      first | refine pI rfl rfl ?_ | refine pu rfl rfl ?_
      refine pu rfl rfl ?_
      refine pu rfl rfl ?_
      refine pu (v := _) rfl rfl ?_
      refine sw (v := .int .i64 _) B14 5 rfl rfl rfl rfl rfl rfl rfl ?_
      refine SL_nil (nx (SWP_region ?_))
      refine pP rfl rfl ?_
      refine pu rfl rfl ?_
      refine pu rfl rfl ?_
      refine lw (v := .int .i64 _) B14 1 rfl rfl rfl rfl ?_
      refine pw rfl rfl (w64 (by omega) (by omega)) ?_
      rw [show ((k + 1 : Nat) : Int) + 1 = ((k + 1 + 1 : Nat) : Int) by omega]
      refine pu rfl rfl ?_
      refine pu rfl rfl ?_
      refine sw (v := .int .i64 _) B14 1 rfl rfl rfl rfl rfl rfl rfl ?_
      refine SL_nil (nx ?_)
      refine ⟨by repeat (first | with_reducible exact Under.refl _ _ | exact Under.upds rfl (Under.hav _ _ _) | exact Under.hav _ _ _ | refine Under.upd rfl ?_ | refine Under.upds rfl ?_ | refine Under.hav2 rfl ?_), ?_⟩
      first
      | exact ⟨1, k, wr, L, la, lc, σe, rfl, hown, hin, by omega, hst.skip (by assumption), by rw [show (if (if wr < 0 then isW [120] ((wordsL l).drop k) else false) = true then k + 1 else k) = k from if_neg (by rw [show (if wr < 0 then isW [120] ((wordsL l).drop k) else false) = false by assumption]; exact Bool.noConfusion)], hle⟩
      | exact ⟨_, _, _, L, la, lc, σe, rfl, hown, hin, by omega, hst.noDraw hc (by first | exact .inl (by rw [drop_nil (l := l) (k := k + 1) rfl (by omega)]; rfl) | exact .inl (by rw [hR5]; show (numW w).isSome = false; assumption) | exact .inr (by rw [hR5]; show (numW w).getD 0 = 1; assumption)), rfl, hle⟩
      | exact ⟨_, _, _, L, la, lc, σe, rfl, hown, hin, by omega, hst.draw hc hR5 (by assumption) (by assumption), by rw [hw1]; rfl, hle⟩
    refine SL_nil (nx (SWP_cf rfl (SWP_skip (nx ?_))))
    refine ⟨by repeat (first | with_reducible exact Under.refl _ _ | exact Under.upds rfl (Under.hav _ _ _) | exact Under.hav _ _ _ | refine Under.upd rfl ?_ | refine Under.upds rfl ?_ | refine Under.hav2 rfl ?_), ?_⟩
    first
    | exact ⟨1, k, wr, L, la, lc, σe, rfl, hown, hin, by omega, hst.skip (by assumption), by rw [show (if (if wr < 0 then isW [120] ((wordsL l).drop k) else false) = true then k + 1 else k) = k from if_neg (by rw [show (if wr < 0 then isW [120] ((wordsL l).drop k) else false) = false by assumption]; exact Bool.noConfusion)], hle⟩
    | exact ⟨_, _, _, L, la, lc, σe, rfl, hown, hin, by omega, hst.noDraw hc (by first | exact .inl (by rw [drop_nil (l := l) (k := k + 1) rfl (by omega)]; rfl) | exact .inl (by rw [hR5]; show (numW w).isSome = false; assumption) | exact .inr (by rw [hR5]; show (numW w).getD 0 = 1; assumption)), rfl, hle⟩
    | exact ⟨_, _, _, L, la, lc, σe, rfl, hown, hin, by omega, hst.draw hc hR5 (by assumption) (by assumption), by rw [hw1]; rfl, hle⟩
  intro uM0 vM0 σM0 mM0 hM0 _
  obtain ⟨d, k, wr, L, la, lc, σe, rfl, hown, hin, hk, hst, rfl, hle⟩ := hM0
  refine SWP_merge1 [72, 73, 74, 75, 76, 77] []
      (fun vs σ' m' => ∃ (s : Bool) (d : Int) (k : Nat) (wr : Int) (L : List Line) (la : Option Addr) (lc : Nat) (σe : Sig), vs = [] ∧ OwnS 50 2 (.slice la L.length lc) (L.flatMap Line.enc) σe ∧ (∀ x ∈ L, x.In m') ∧ k ≤ 100004 ∧ St3 (g.addons.map Addon.name) l L s d k wr ∧ σ' = (B14, Cells 87 (pcE l pa qc (k) la (L.length) lc s (d) (0) (wr))) :: (σe ++ [(B4, Cells 30 [.slice none 0 0, .bool false, .int .i64 0, .int .i64 0]), (B2, Cells 25 g.enc)]) ∧ Le m1_1 m')
      rfl ?_ ?_
  · skip
    refine SWP_seq (SWP_region ?_)
    refine pP rfl rfl ?_
    refine SL_call rfl rfl cb50 (CallsS.subF (σe ++ [(B4, Cells 30 [.slice none 0 0, .bool false, .int .i64 0, .int .i64 0]), (B2, Cells 25 g.enc)]) (skipP (hL.mono hle) (k := k) rfl B14 la L.length lc _ _ _ wr (by omega) [115, 121, 115]) (.refl _)) rfl (fun v14_1 σ14_1 m14_1 hl14_1 hR14_1 => ?_)
    obtain ⟨σz, rfl, rfl, rfl, hm14_1⟩ := hR14_1
    have hn14_1 := hm14_1.symm
    subst hn14_1
    rw [List.singleton_append]
    refine bsp 73 rfl (fun b73 => ?_) (fun b73 => ?_)
    · skip
      refine SL_nil (nx (SWP_ct rfl ?_))
      have hc := (show (if wr < 0 then isW [115, 121, 115] ((wordsL l).drop k) else false) = true by assumption)
      rw [if_pos hc]
      refine SWP_region ?_
      refine pP rfl rfl ?_
      refine pu rfl rfl ?_
      refine pu rfl rfl ?_
      refine pu (v := _) rfl rfl ?_
      refine sw (v := .bool _) B14 4 rfl rfl rfl rfl rfl rfl rfl ?_
      refine SL_nil (nx ?_)
      refine ⟨by repeat (first | with_reducible exact Under.refl _ _ | exact Under.upds rfl (Under.hav _ _ _) | exact Under.hav _ _ _ | refine Under.upd rfl ?_ | refine Under.upds rfl ?_ | refine Under.hav2 rfl ?_), ?_⟩
      first
        | exact ⟨true, d, k + 1, wr, L, la, lc, σe, rfl, hown, hin, by omega, hst.sys hc, rfl, hle⟩
        | exact ⟨false, d, k, wr, L, la, lc, σe, rfl, hown, hin, by omega, hst.skip (by assumption), by rw [show (if (if wr < 0 then isW [115, 121, 115] ((wordsL l).drop k) else false) = true then k + 1 else k) = k from if_neg (by rw [show (if wr < 0 then isW [115, 121, 115] ((wordsL l).drop k) else false) = false by assumption]; exact Bool.noConfusion)], hle⟩
    refine SL_nil (nx (SWP_cf rfl (SWP_skip (nx ?_))))
    refine ⟨by repeat (first | with_reducible exact Under.refl _ _ | exact Under.upds rfl (Under.hav _ _ _) | exact Under.hav _ _ _ | refine Under.upd rfl ?_ | refine Under.upds rfl ?_ | refine Under.hav2 rfl ?_), ?_⟩
    first
      | exact ⟨true, d, k + 1, wr, L, la, lc, σe, rfl, hown, hin, by omega, hst.sys hc, rfl, hle⟩
      | exact ⟨false, d, k, wr, L, la, lc, σe, rfl, hown, hin, by omega, hst.skip (by assumption), by rw [show (if (if wr < 0 then isW [115, 121, 115] ((wordsL l).drop k) else false) = true then k + 1 else k) = k from if_neg (by rw [show (if wr < 0 then isW [115, 121, 115] ((wordsL l).drop k) else false) = false by assumption]; exact Bool.noConfusion)], hle⟩
  intro uM1 vM1 σM1 mM1 hM1 _
  obtain ⟨s, d, k, wr, L, la, lc, σe, rfl, hown, hin, hk, hst, rfl, hle⟩ := hM1
  refine SWP_merge1 [78, 79, 80, 81, 82] []
      (fun vs σ' m' => ∃ (s : Bool) (d a : Int) (k : Nat) (wr : Int) (L : List Line) (la : Option Addr) (lc : Nat) (σe : Sig), vs = [] ∧ OwnS 50 2 (.slice la L.length lc) (L.flatMap Line.enc) σe ∧ (∀ x ∈ L, x.In m') ∧ k ≤ k ∧ St4 (g.addons.map Addon.name) l L s d a k wr ∧ σ' = (B14, Cells 87 (pcE l pa qc (k) la (L.length) lc s (d) (a) (wr))) :: (σe ++ [(B4, Cells 30 [.slice none 0 0, .bool false, .int .i64 0, .int .i64 0]), (B2, Cells 25 g.enc)]) ∧ Le m1_1 m')
      rfl ?_ ?_
  · skip
    refine SWP_seq (SWP_region ?_)
    refine pP rfl rfl ?_
    refine SL_call rfl rfl cb50 (CallsS.subF (σe ++ [(B4, Cells 30 [.slice none 0 0, .bool false, .int .i64 0, .int .i64 0]), (B2, Cells 25 g.enc)]) (skipP (hL.mono hle) (k := k) rfl B14 la L.length lc _ _ _ wr (by omega) [42]) (.refl _)) rfl (fun v16_1 σ16_1 m16_1 hl16_1 hR16_1 => ?_)
    obtain ⟨σz, rfl, rfl, rfl, hm16_1⟩ := hR16_1
    have hn16_1 := hm16_1.symm
    subst hn16_1
    rw [List.singleton_append]
    refine bsp 79 rfl (fun b79 => ?_) (fun b79 => ?_)
    · skip
      refine SL_nil (nx (SWP_ct rfl ?_))
      have hc := (show (if wr < 0 then isW [42] ((wordsL l).drop k) else false) = true by assumption)
      have hw1 := (hst.on hc).1
      subst hw1
      rw [if_pos hc]
      refine SWP_region ?_
      refine pP rfl rfl ?_
      refine lw (v := .agg _) B2 0 rfl rfl rfl rfl ?_
      refine SL_call rfl rfl cb53 (CallsS.subF (σe ++ [(B4, Cells 30 [.slice none 0 0, .bool false, .int .i64 0, .int .i64 0]), (B2, Cells 25 g.enc)]) (namesP (hL.mono hle) (k := k + 1) rfl hl (by omega) B14 la L.length lc s d (hing1.mono hle) h4) (.refl _)) rfl (fun v17_2 σ17_2 m17_2 hl17_2 hR17_2 => ?_)
      obtain ⟨σz, rfl, hm17_2, k2, a2, wr2, rfl, hnp⟩ := hR17_2
      have hn17_2 := hm17_2.symm
      subst hn17_2
      rw [List.singleton_append]
      refine SL_nil (nx ?_)
      refine ⟨by repeat (first | with_reducible exact Under.refl _ _ | exact Under.upds rfl (Under.hav _ _ _) | exact Under.hav _ _ _ | refine Under.upd rfl ?_ | refine Under.upds rfl ?_ | refine Under.hav2 rfl ?_), ?_⟩
      first
        | exact ⟨s, d, a2, k2, wr2, L, la, lc, σe, rfl, hown, hin, by omega, hst.names hc hnp, rfl, hle⟩
        | exact ⟨s, d, 0, k, wr, L, la, lc, σe, rfl, hown, hin, by omega, hst.skip (by assumption), by rw [show (if (if wr < 0 then isW [42] ((wordsL l).drop k) else false) = true then k + 1 else k) = k from if_neg (by rw [show (if wr < 0 then isW [42] ((wordsL l).drop k) else false) = false by assumption]; exact Bool.noConfusion)], hle⟩
    refine SL_nil (nx (SWP_cf rfl (SWP_skip (nx ?_))))
    refine ⟨by repeat (first | with_reducible exact Under.refl _ _ | exact Under.upds rfl (Under.hav _ _ _) | exact Under.hav _ _ _ | refine Under.upd rfl ?_ | refine Under.upds rfl ?_ | refine Under.hav2 rfl ?_), ?_⟩
    first
      | exact ⟨s, d, a2, k2, wr2, L, la, lc, σe, rfl, hown, hin, by omega, hst.names hc hnp, rfl, hle⟩
      | exact ⟨s, d, 0, k, wr, L, la, lc, σe, rfl, hown, hin, by omega, hst.skip (by assumption), by rw [show (if (if wr < 0 then isW [42] ((wordsL l).drop k) else false) = true then k + 1 else k) = k from if_neg (by rw [show (if wr < 0 then isW [42] ((wordsL l).drop k) else false) = false by assumption]; exact Bool.noConfusion)], hle⟩
  intro uM2 vM2 σM2 mM2 hM2 _
  obtain ⟨s, d, a, k, wr, L, la, lc, σe, rfl, hown, hin, hk, hst, rfl, hle⟩ := hM2
  refine SWP_seq (SWP_seq ?_)
  refine SWP_draws (by kernel_rfl) (by kernel_rfl) ?_
  refine pP rfl rfl ?_
  refine pu rfl rfl ?_
  refine pu rfl rfl ?_
  refine lw (v := .int .i64 _) B14 1 rfl rfl rfl rfl ?_
  refine pP rfl rfl ?_
  refine pu rfl rfl ?_
  refine pu rfl rfl ?_
  refine lw (v := .slice _ _ _) B14 0 rfl rfl rfl rfl ?_
  refine pu rfl rfl ?_
  refine pc rfl rfl (fun c92 => ?_) (fun c92 => ?_)
  · skip
    refine SL_nil (nx (SWP_ct rfl (SWP_region ?_)))
    refine pP rfl rfl ?_
    refine SL_call rfl rfl cb52 (CallsS.subF (σe ++ [(B4, Cells 30 [.slice none 0 0, .bool false, .int .i64 0, .int .i64 0]), (B2, Cells 25 g.enc)]) (failP (hL.mono hle) (k := k) rfl B14 la L.length lc _ _ _ wr) (.refl _)) rfl (fun v19_1 σ19_1 m19_1 hl19_1 hR19_1 => ?_)
    obtain ⟨σz, rfl, rfl, hm19_1⟩ := hR19_1
    have hn19_1 := hm19_1.symm
    subst hn19_1
    rw [List.singleton_append]
    refine SL_nil (nx (SWP_seq ?_))
    refine SWP_drawn [_] [0, 1, 2, 3, 4, 5, 6, 7, 8, 9] (by kernel_rfl) (by kernel_rfl) (Sub.cons2 _ (Sub.nil _)) ?_
    refine pP rfl rfl ?_
    refine pu rfl rfl ?_
    refine pu rfl rfl ?_
    refine lw (v := .agg #[.slice la L.length lc, .bool s, .int .i64 d, .int .i64 a]) B14 3 rfl rfl rfl rfl ?_
    refine pP rfl rfl ?_
    refine pu rfl rfl ?_
    refine pu rfl rfl ?_
    refine lw (v := .int .i64 _) B14 7 rfl rfl rfl rfl ?_
    refine sw (v := .agg _) B4 0 rfl rfl rfl rfl rfl rfl rfl ?_
    refine pI rfl rfl ?_
    refine SL_nil (nx (SWP_ret ?_))
    refine fin [_, _] ⟨⟨_, _, rfl, Rd.of_cells (MemO.mem (B := B4)), rfl⟩, rfl, trivial⟩ ?_
    first
      | exact ⟨⟨la, lc, L, s, d, a⟩, _, σe, _, _, rfl, rfl, hown, hin, hst.stop (fun e => by have := (drop_cons (l := l) (k := k) rfl (by omega)); obtain ⟨_, _, h5, _⟩ := this; rw [e] at h5; cases h5)⟩
      | exact ⟨⟨la, lc, L, s, d, a⟩, wr, σe, _, _, rfl, rfl, hown, hin, hst.done (drop_nil rfl (by omega))⟩
  refine SL_nil (nx (SWP_cf rfl (SWP_skip (nx (SWP_seq ?_)))))
  refine SWP_drawn [_] [0, 1, 2, 3, 4, 5, 6, 7, 8, 9] (by kernel_rfl) (by kernel_rfl) (Sub.cons2 _ (Sub.nil _)) ?_
  refine pP rfl rfl ?_
  refine pu rfl rfl ?_
  refine pu rfl rfl ?_
  refine lw (v := .agg #[.slice la L.length lc, .bool s, .int .i64 d, .int .i64 a]) B14 3 rfl rfl rfl rfl ?_
  refine pP rfl rfl ?_
  refine pu rfl rfl ?_
  refine pu rfl rfl ?_
  refine lw (v := .int .i64 _) B14 7 rfl rfl rfl rfl ?_
  refine sw (v := .agg _) B4 0 rfl rfl rfl rfl rfl rfl rfl ?_
  refine pI rfl rfl ?_
  refine SL_nil (nx (SWP_ret ?_))
  refine fin [_, _] ⟨⟨_, _, rfl, Rd.of_cells (MemO.mem (B := B4)), rfl⟩, rfl, trivial⟩ ?_
  first
    | exact ⟨⟨la, lc, L, s, d, a⟩, _, σe, _, _, rfl, rfl, hown, hin, hst.stop (fun e => by have := (drop_cons (l := l) (k := k) rfl (by omega)); obtain ⟨_, _, h5, _⟩ := this; rw [e] at h5; cases h5)⟩
    | exact ⟨⟨la, lc, L, s, d, a⟩, wr, σe, _, _, rfl, rfl, hown, hin, hst.done (drop_nil rfl (by omega))⟩
end Go.Proofs.YtifjhpaoejageaaGreatDoor
namespace Go.Proofs.YtifjhpaoejageaaGreatDoor
open Eng
theorem parseO_1 {g : Game} {l : List UInt8} (h : gameErr g ≠ 0) : parseO g l = (zK, gameErr g, 0) := if_pos h
theorem parseO_2 {g : Game} {l : List UInt8} (h : gameErr g = 0) (hl : 32768 < l.length) : parseO g l = (zK, 3, 0) := (if_neg (fun hh => hh h)).trans (if_pos hl)
theorem parseO_3 {g : Game} {l : List UInt8} (h : gameErr g = 0) (hl : ¬ 32768 < l.length) {Rf : List Wd} (hr : readM (g.addons.map Addon.name) (wordsL l) = (none, Rf)) : parseO g l = (zK, 1, posR l Rf) := by
  unfold parseO; rw [if_neg (fun hh => hh h), if_neg hl, hr]
theorem parseO_4 {g : Game} {l : List UInt8} (h : gameErr g = 0) (hl : ¬ 32768 < l.length) {k : BetM} {Rf : List Wd} (hr : readM (g.addons.map Addon.name) (wordsL l) = (some k, Rf)) : parseO g l = if betErrK g k ≠ 0 then (zK, betErrK g k, 0) else (k, 0, 0) := by
  unfold parseO; rw [if_neg (fun hh => hh h), if_neg hl, hr]
set_option maxRecDepth 100000 in
theorem parseX {m : Mem} {g : Game} (hin : g.In m) (l : List UInt8) (hl : l.length ≤ 1000000) : CallsS Tryz.prog 12 [g.val, .string (bA l)].toArray [] m fun r σ' m' => σ' = [] ∧ ParseOf r m' (parseO g l) := by
  refine CallsS.ghost (R' := fun r σ' m' => ParseOf r m' (parseO g l)) ?_ ?h2
  case h2 =>
    rintro r σ' m' hr g0 W hC
    exact ⟨_, m', hC.sublist (List.nil_sublist _), Le.refl _, rfl, hr⟩
  have hsz := bA_size l
  dsimp only [Game.val]
  refine enter Tryz.func12 Tryz.ntmps12 rfl rfl ?_
  refine SWP_seq (SWP_region ?_)
  refine bx (v := .agg _) rfl rfl (fun B2 => ?_)
  refine al rfl rfl (fun B4 => ?_)
  refine pI rfl rfl ?_
  refine pI rfl rfl ?_
  refine SL_nil (nx (SWP_seq (SWP_region ?_)))
  refine lw (v := .agg _) B2 0 rfl rfl rfl rfl ?_
  refine SL_call rfl rfl cb17 (CallsS.frame0 (checkR hin)) rfl (fun v1_1 σ1_1 m1_1 hl1_1 hR1_1 => ?_)
  obtain ⟨σc, rfl, rfl, hm1_1, s0, rfl⟩ := hR1_1
  have hn1_1 := hm1_1.symm
  subst hn1_1
  refine pu rfl rfl ?_
  first | refine pI rfl rfl ?_ | refine pu rfl rfl ?_
  first | refine pS rfl rfl ?_ | refine pu rfl rfl ?_
  first | refine pI rfl rfl ?_ | refine pu rfl rfl ?_
  first | refine pS rfl rfl ?_ | refine pu rfl rfl ?_
  refine SL_nil (nx (SWP_seq (SWP_seq (SWP_region ?_))))
  first | refine pI rfl rfl ?_ | refine pu rfl rfl ?_
  refine pc rfl rfl (fun c17 => ?_) (fun c17 => ?_)
  · skip
    refine SL_nil (nx (SWP_ct rfl (SWP_seq (SWP_region ?_))))
    refine pA rfl rfl ?_
    first | refine pI rfl rfl ?_ | refine pu rfl rfl ?_
    refine sw (v := .agg _) B4 0 rfl rfl rfl rfl rfl rfl rfl ?_
    first | refine pI rfl rfl ?_ | refine pu rfl rfl ?_
    refine pI rfl rfl ?_
    refine SL_nil (nx (SWP_ret (nr ?_)))
    refine fin [_, _, _] ⟨⟨_, _, rfl, Rd.of_cells (MemO.mem (B := B4)), rfl⟩, rfl, rfl, trivial⟩ ?_
    first
      | (rw [parseO_1 (by assumption)]
         exact ⟨zeroBet, rfl, zeroBet_in _, zeroBet_is⟩)
      | (rw [parseO_2 hz (by omega)]
         exact ⟨zeroBet, rfl, zeroBet_in _, zeroBet_is⟩)
      | (rcases hrw with ⟨Rf, h1, rfl⟩ | ⟨h1, _⟩
         · rw [parseO_3 hz hl3 h1]
           exact ⟨zeroBet, rfl, zeroBet_in _, zeroBet_is⟩
         · exfalso; omega)
      | (rcases hrw with ⟨Rf, h1, rfl⟩ | ⟨h1, bk, h2, h3⟩
         · exfalso; have := Int.natCast_nonneg (posR l Rf); omega
         · have hk := betErr_key (g := g) h3
           rw [parseO_4 hz hl3 h2]
           first
             | (rw [if_pos (by rw [← hk]; assumption), ← hk]
                exact ⟨zeroBet, rfl, zeroBet_in _, zeroBet_is⟩)
             | (rw [if_neg (by rw [← hk]; assumption)]
                exact ⟨bt, rfl, hbt, h3⟩))
  refine SL_nil (nx (SWP_cf rfl (SWP_skip (nx (SWP_seq (SWP_seq ?_))))))
  have hz : gameErr g = 0 := Classical.not_not.1 (by assumption)
  have hg := gameOk hz
  refine SWP_region ?_
  first | refine pS rfl rfl ?_ | refine pu rfl rfl ?_
  refine pu rfl rfl ?_
  refine pc rfl rfl (fun c22 => ?_) (fun c22 => ?_)
  · skip
    refine SL_nil (nx (SWP_ct rfl (SWP_seq (SWP_region ?_))))
    refine pA rfl rfl ?_
    refine sw (v := .agg _) B4 0 rfl rfl rfl rfl rfl rfl rfl ?_
    refine pI rfl rfl ?_
    refine pI rfl rfl ?_
    refine SL_nil (nx (SWP_ret (nr ?_)))
    refine fin [_, _, _] ⟨⟨_, _, rfl, Rd.of_cells (MemO.mem (B := B4)), rfl⟩, rfl, rfl, trivial⟩ ?_
    first
      | (rw [parseO_1 (by assumption)]
         exact ⟨zeroBet, rfl, zeroBet_in _, zeroBet_is⟩)
      | (rw [parseO_2 hz (by omega)]
         exact ⟨zeroBet, rfl, zeroBet_in _, zeroBet_is⟩)
      | (rcases hrw with ⟨Rf, h1, rfl⟩ | ⟨h1, _⟩
         · rw [parseO_3 hz hl3 h1]
           exact ⟨zeroBet, rfl, zeroBet_in _, zeroBet_is⟩
         · exfalso; omega)
      | (rcases hrw with ⟨Rf, h1, rfl⟩ | ⟨h1, bk, h2, h3⟩
         · exfalso; have := Int.natCast_nonneg (posR l Rf); omega
         · have hk := betErr_key (g := g) h3
           rw [parseO_4 hz hl3 h2]
           first
             | (rw [if_pos (by rw [← hk]; assumption), ← hk]
                exact ⟨zeroBet, rfl, zeroBet_in _, zeroBet_is⟩)
             | (rw [if_neg (by rw [← hk]; assumption)]
                exact ⟨bt, rfl, hbt, h3⟩))
  refine SL_nil (nx (SWP_cf rfl (SWP_skip (nx (SWP_seq ?_)))))
  have hl3 : ¬ 32768 < l.length := by omega
  refine SWP_region ?_
  refine lw (v := .agg _) B2 0 rfl rfl rfl rfl ?_
  first | refine pS rfl rfl ?_ | refine pu rfl rfl ?_
  refine SL_call rfl rfl cb23 (CallsS.frame0 (readR hin (addons_few hg) l (by omega))) rfl (fun v6_2 σ6_2 m6_2 hl6_2 hR6_2 => ?_)
  obtain ⟨σz, rfl, rfl, bt, wr, rfl, hbt, hrw⟩ := hR6_2
  rw [List.nil_append]
  dsimp only [Bet.val]
  refine pu rfl rfl ?_
  first | refine pA rfl rfl ?_ | refine pu rfl rfl ?_
  first | refine pI rfl rfl ?_ | refine pu rfl rfl ?_
  refine al rfl rfl (fun B9 => ?_)
  refine sw (v := .agg _) B9 0 rfl rfl rfl rfl rfl rfl rfl ?_
  first | refine pI rfl rfl ?_ | refine pu rfl rfl ?_
  refine SL_nil (nx (SWP_seq (SWP_seq (SWP_region ?_))))
  first | refine pI rfl rfl ?_ | refine pu rfl rfl ?_
  refine pc rfl rfl (fun c31 => ?_) (fun c31 => ?_)
  · skip
    refine SL_nil (nx (SWP_ct rfl (SWP_seq (SWP_region ?_))))
    refine pA rfl rfl ?_
    first | refine pI rfl rfl ?_ | refine pu rfl rfl ?_
    refine sw (v := .agg _) B4 0 rfl rfl rfl rfl rfl rfl rfl ?_
    refine pI rfl rfl ?_
    first | refine pI rfl rfl ?_ | refine pu rfl rfl ?_
    refine SL_nil (nx (SWP_ret (nr ?_)))
    refine fin [_, _, _] ⟨⟨_, _, rfl, Rd.of_cells (MemO.mem (B := B4)), rfl⟩, rfl, rfl, trivial⟩ ?_
    first
      | (rw [parseO_1 (by assumption)]
         exact ⟨zeroBet, rfl, zeroBet_in _, zeroBet_is⟩)
      | (rw [parseO_2 hz (by omega)]
         exact ⟨zeroBet, rfl, zeroBet_in _, zeroBet_is⟩)
      | (rcases hrw with ⟨Rf, h1, rfl⟩ | ⟨h1, _⟩
         · rw [parseO_3 hz hl3 h1]
           exact ⟨zeroBet, rfl, zeroBet_in _, zeroBet_is⟩
         · exfalso; omega)
      | (rcases hrw with ⟨Rf, h1, rfl⟩ | ⟨h1, bk, h2, h3⟩
         · exfalso; have := Int.natCast_nonneg (posR l Rf); omega
         · have hk := betErr_key (g := g) h3
           rw [parseO_4 hz hl3 h2]
           first
             | (rw [if_pos (by rw [← hk]; assumption), ← hk]
                exact ⟨zeroBet, rfl, zeroBet_in _, zeroBet_is⟩)
             | (rw [if_neg (by rw [← hk]; assumption)]
                exact ⟨bt, rfl, hbt, h3⟩))
  refine SL_nil (nx (SWP_cf rfl (SWP_skip (nx (SWP_seq (SWP_region ?_))))))
  refine lw (v := .agg _) B2 0 rfl rfl rfl rfl ?_
  refine lw (v := .agg _) B9 0 rfl rfl rfl rfl ?_
  refine SL_pcall rfl rfl cb24 (betR (hin.mono hl6_2) hbt) rfl ?_
  first | refine pI rfl rfl ?_ | refine pu rfl rfl ?_
  refine SL_nil (nx (SWP_seq (SWP_seq (SWP_region ?_))))
  first | refine pI rfl rfl ?_ | refine pu rfl rfl ?_
  refine pc rfl rfl (fun c38 => ?_) (fun c38 => ?_)
  · skip
    refine SL_nil (nx (SWP_ct rfl (SWP_seq (SWP_region ?_))))
    refine pA rfl rfl ?_
    first | refine pI rfl rfl ?_ | refine pu rfl rfl ?_
    refine sw (v := .agg _) B4 0 rfl rfl rfl rfl rfl rfl rfl ?_
    first | refine pI rfl rfl ?_ | refine pu rfl rfl ?_
    refine pI rfl rfl ?_
    refine SL_nil (nx (SWP_ret (nr ?_)))
    refine fin [_, _, _] ⟨⟨_, _, rfl, Rd.of_cells (MemO.mem (B := B4)), rfl⟩, rfl, rfl, trivial⟩ ?_
    first
      | (rw [parseO_1 (by assumption)]
         exact ⟨zeroBet, rfl, zeroBet_in _, zeroBet_is⟩)
      | (rw [parseO_2 hz (by omega)]
         exact ⟨zeroBet, rfl, zeroBet_in _, zeroBet_is⟩)
      | (rcases hrw with ⟨Rf, h1, rfl⟩ | ⟨h1, _⟩
         · rw [parseO_3 hz hl3 h1]
           exact ⟨zeroBet, rfl, zeroBet_in _, zeroBet_is⟩
         · exfalso; omega)
      | (rcases hrw with ⟨Rf, h1, rfl⟩ | ⟨h1, bk, h2, h3⟩
         · exfalso; have := Int.natCast_nonneg (posR l Rf); omega
         · have hk := betErr_key (g := g) h3
           rw [parseO_4 hz hl3 h2]
           first
             | (rw [if_pos (by rw [← hk]; assumption), ← hk]
                exact ⟨zeroBet, rfl, zeroBet_in _, zeroBet_is⟩)
             | (rw [if_neg (by rw [← hk]; assumption)]
                exact ⟨bt, rfl, hbt, h3⟩))
  refine SL_nil (nx (SWP_cf rfl (SWP_skip (nx (SWP_seq (SWP_region ?_))))))
  refine lw (v := .agg _) B9 0 rfl rfl rfl rfl ?_
  refine sw (v := .agg _) B4 0 rfl rfl rfl rfl rfl rfl rfl ?_
  refine pI rfl rfl ?_
  refine pI rfl rfl ?_
  refine SL_nil (nx (SWP_ret ?_))
  refine fin [_, _, _] ⟨⟨_, _, rfl, Rd.of_cells (MemO.mem (B := B4)), rfl⟩, rfl, rfl, trivial⟩ ?_
  first
    | (rw [parseO_1 (by assumption)]
       exact ⟨zeroBet, rfl, zeroBet_in _, zeroBet_is⟩)
    | (rw [parseO_2 hz (by omega)]
       exact ⟨zeroBet, rfl, zeroBet_in _, zeroBet_is⟩)
    | (rcases hrw with ⟨Rf, h1, rfl⟩ | ⟨h1, _⟩
       · rw [parseO_3 hz hl3 h1]
         exact ⟨zeroBet, rfl, zeroBet_in _, zeroBet_is⟩
       · exfalso; omega)
    | (rcases hrw with ⟨Rf, h1, rfl⟩ | ⟨h1, bk, h2, h3⟩
       · exfalso; have := Int.natCast_nonneg (posR l Rf); omega
       · have hk := betErr_key (g := g) h3
         rw [parseO_4 hz hl3 h2]
         first
           | (rw [if_pos (by rw [← hk]; assumption), ← hk]
              exact ⟨zeroBet, rfl, zeroBet_in _, zeroBet_is⟩)
           | (rw [if_neg (by rw [← hk]; assumption)]
              exact ⟨bt, rfl, hbt, h3⟩))
end Go.Proofs.YtifjhpaoejageaaGreatDoor
namespace Go.Proofs.YtifjhpaoejageaaGreatDoor
open Eng
structure LineOk (g : Game) (l : Line) : Prop where
  g0 : gameErr g = 0
  ml : (l.main.length : Int) = g.main
  bl : (l.bonus.length : Int) = g.bonus
  mi : allIn (if g.kind = 2 then 0 else 1) (if g.kind = 2 then g.of - 1 else g.of) l.main
  bi : allIn 1 g.bonusOf l.bonus
  mn : g.kind ≠ 2 → l.main.Nodup
  bn : l.bonus.Nodup
theorem lineOk {g : Game} {l : Line} (h : lineErr g l = 0) : LineOk g l := by
  unfold lineErr at h
  by_cases h1 : gameErr g ≠ 0
  · rw [if_pos h1] at h; exact absurd h h1
  rw [if_neg h1] at h
  by_cases h2 : (l.main.length : Int) ≠ g.main ∨ (l.bonus.length : Int) ≠ g.bonus
  · rw [if_pos h2] at h; exact absurd h (by decide)
  rw [if_neg h2] at h
  by_cases h3 : ¬ allIn (if g.kind = 2 then 0 else 1) (if g.kind = 2 then g.of - 1 else g.of) l.main ∨ ¬ allIn 1 g.bonusOf l.bonus
  · rw [if_pos h3] at h; exact absurd h (by decide)
  rw [if_neg h3] at h
  by_cases h4 : (g.kind ≠ 2 ∧ ¬ l.main.Nodup) ∨ ¬ l.bonus.Nodup
  · rw [if_pos h4] at h; exact absurd h (by decide)
  exact ⟨Classical.not_not.1 h1, by omega, by omega, Classical.byContradiction fun hc => h3 (.inl hc), Classical.byContradiction fun hc => h3 (.inr hc), fun hk => Classical.byContradiction fun hc => h4 (.inl ⟨hk, hc⟩), Classical.byContradiction fun hc => h4 (.inr hc)⟩
def wE (w : Wd) : List Value := [.string (bA w)]
theorem wE_len (w : Wd) : (wE w).length = 1 := rfl
def Bet.key (b : Bet) : BetM := (b.lines.map Line.keyL, b.system, b.draws, b.addons.toNat)
def gNs (g : Game) : List ByteArray := g.addons.map Addon.name
open Classical in
noncomputable def printL (g : Game) (b : Bet) : List UInt8 := if betErr g b = 0 then joinW (toks (gNs g) b.key) else []
structure BetOk (g : Game) (b : Bet) : Prop where
  g0 : gameErr g = 0
  ln : 1 ≤ b.lines.length ∧ b.lines.length ≤ 16
  ls : ∀ x ∈ b.lines, LnSm x.keyL ∧ x.main.length ≤ 14 ∧ x.bonus.length ≤ 4
  dr : 1 ≤ b.draws ∧ b.draws ≤ 32
  ad : 0 ≤ b.addons ∧ b.addons < 2 ^ g.addons.length
theorem sm_of {lo hi : Int} {l : List Int} (h : allIn lo hi l) (h0 : 0 ≤ lo) (h1 : hi < 100) : ∀ n ∈ l, Sm n := fun n hn => ⟨Int.le_trans h0 (h n hn).1, Int.lt_of_le_of_lt (h n hn).2 h1⟩
theorem line_sm {g : Game} {sys : Bool} {x : Line} (h : sizeE g sys x = 0) : LnSm x.keyL ∧ x.main.length ≤ 14 ∧ x.bonus.length ≤ 4 := by
  have hs := size_small h
  refine ⟨?_, hs.1, hs.2.1⟩
  cases sys with
  | true =>
    have h' : sysErr g x = 0 := h
    have ho := sysOk h'
    have hk := sysG_ok ho.g0
    have hg := gameOk hk.1
    have q2 := hg.mx.h2
    have q4 := hg.mx.h4 (by omega)
    have hbo : g.bonusOf < 100 := by
      by_cases h0 : g.bonus = 0
      · have := hg.mx.h8 h0; omega
      · have := hg.mx.h9 h0; omega
    refine ⟨fun e => ?_, sm_of ho.mi (by decide) (by omega), sm_of ho.bi (by decide) hbo⟩
    have e' : x.main = [] := e
    have := ho.ml.1
    rw [e', List.length_nil] at this
    omega
  | false =>
    have h' : lineErr g x = 0 := h
    have ho := lineOk h'
    have hg := gameOk ho.g0
    have q2 := hg.mx.h2
    have q3 := hg.mx.h3
    have q4 := hg.mx.h4
    have hbo : g.bonusOf < 100 := by
      by_cases h0 : g.bonus = 0
      · have := hg.mx.h8 h0; omega
      · have := hg.mx.h9 h0; omega
    have hmi := ho.mi
    refine ⟨fun e => ?_, ?_, sm_of ho.bi (by decide) hbo⟩
    · have e' : x.main = [] := e
      have := ho.ml
      rw [e', List.length_nil] at this
      omega
    · by_cases hk : g.kind = 2
      · rw [if_pos hk, if_pos hk] at hmi
        have := q3 hk
        exact sm_of hmi (by decide) (by omega)
      · rw [if_neg hk, if_neg hk] at hmi
        have := q4 hk
        exact sm_of hmi (by decide) (by omega)
theorem betOk {g : Game} {b : Bet} (h : betErr g b = 0) : BetOk g b := by
  unfold betErr at h
  by_cases h1 : gameErr g ≠ 0
  · rw [if_pos h1] at h; exact absurd h h1
  rw [if_neg h1] at h
  by_cases h2 : ¬ (1 ≤ b.lines.length ∧ b.lines.length ≤ 16)
  · rw [if_pos h2] at h; exact absurd h (by decide)
  rw [if_neg h2] at h
  by_cases h3 : lnErr g b.system b.lines ≠ 0
  · rw [if_pos h3] at h; exact absurd h h3
  rw [if_neg h3] at h
  by_cases h4 : 1024 < totN g b.system b.lines
  · rw [if_pos h4] at h; exact absurd h (by decide)
  rw [if_neg h4] at h
  by_cases h5 : ¬ (1 ≤ b.draws ∧ b.draws ≤ g.draws)
  · rw [if_pos h5] at h; exact absurd h (by decide)
  rw [if_neg h5] at h
  by_cases h6 : ¬ (0 ≤ b.addons ∧ b.addons < 2 ^ g.addons.length)
  · rw [if_pos h6] at h; exact absurd h (by decide)
  have g0 := Classical.not_not.1 h1
  have hd := (gameOk g0).mx.h13
  have h5' := Classical.not_not.1 h5
  refine ⟨g0, Classical.not_not.1 h2, fun x hx => ?_, ⟨h5'.1, by omega⟩, Classical.not_not.1 h6⟩
  obtain ⟨i, hi⟩ := List.mem_iff_getElem?.1 hx
  have h0 := lnErr_zero.1 (Classical.not_not.1 h3) i (List.getElem?_eq_some_iff.1 hi).1
  exact line_sm (sizeE_of_lnAt hi h0)
theorem addons_each {pre : List Addon} : ∀ {l : List Addon}, addonsFrom pre l = 0 → ∀ a ∈ l, addonErr a = 0
  | [], _, _, h => by cases h
  | b :: l, h, a, ha => by
    unfold addonsFrom at h
    by_cases h1 : addonErr b ≠ 0
    · rw [if_pos h1] at h; exact absurd h h1
    rw [if_neg h1] at h
    by_cases h2 : ∃ c ∈ pre, c.name = b.name ∨ c.kind = b.kind
    · rw [if_pos h2] at h; exact absurd h (by decide)
    rw [if_neg h2] at h
    rcases List.mem_cons.1 ha with rfl | ha
    · exact Classical.not_not.1 h1
    · exact addons_each h a ha
theorem addons_pre {pre : List Addon} : ∀ {l : List Addon}, addonsFrom pre l = 0 → ∀ a ∈ l, ∀ c ∈ pre, c.name ≠ a.name
  | [], _, _, h, _, _ => by cases h
  | b :: l, h, a, ha, c, hc => by
    unfold addonsFrom at h
    by_cases h1 : addonErr b ≠ 0
    · rw [if_pos h1] at h; exact absurd h h1
    rw [if_neg h1] at h
    by_cases h2 : ∃ c ∈ pre, c.name = b.name ∨ c.kind = b.kind
    · rw [if_pos h2] at h; exact absurd h (by decide)
    rw [if_neg h2] at h
    rcases List.mem_cons.1 ha with rfl | ha
    · exact fun e => h2 ⟨c, hc, .inl e⟩
    · exact addons_pre h a ha c (List.mem_append_left _ hc)
theorem addons_dis {pre : List Addon} : ∀ {l : List Addon}, addonsFrom pre l = 0 → ∀ (i j : Nat) (w : ByteArray), (l.map Addon.name)[i]? = some w → (l.map Addon.name)[j]? = some w → i = j
  | [], _, i, _, _, h, _ => by simp at h
  | b :: l, h, i, j, w, hi, hj => by
    have hh := h
    unfold addonsFrom at h
    by_cases h1 : addonErr b ≠ 0
    · rw [if_pos h1] at h; exact absurd h h1
    rw [if_neg h1] at h
    by_cases h2 : ∃ c ∈ pre, c.name = b.name ∨ c.kind = b.kind
    · rw [if_pos h2] at h; exact absurd h (by decide)
    rw [if_neg h2] at h
    have hno : ∀ k, (l.map Addon.name)[k]? ≠ some b.name := fun k hk => by
      rw [List.getElem?_map] at hk
      cases ha : l[k]? with
      | none => rw [ha] at hk; cases hk
      | some a =>
        rw [ha] at hk
        exact addons_pre h a (List.mem_of_getElem? ha) b (List.mem_append_right _ (List.mem_cons_self ..)) (Option.some.inj hk).symm
    cases i with
    | zero =>
      cases j with
      | zero => rfl
      | succ j =>
        have hi' : some b.name = some w := hi
        have hj' : (l.map Addon.name)[j]? = some w := hj
        rw [← hi'] at hj'
        exact absurd hj' (hno j)
    | succ i =>
      cases j with
      | zero =>
        have hi' : (l.map Addon.name)[i]? = some w := hi
        have hj' : some b.name = some w := hj
        rw [← hj'] at hi'
        exact absurd hi' (hno i)
      | succ j => rw [addons_dis h i j w hi hj]
theorem ad_from {g : Game} (h : GameOk g) : addonsFrom [] g.addons = 0 := by
  have := h.ad
  unfold addonsErr at this
  split at this
  · cases this
  · exact this
theorem gNs_dis {g : Game} (h : GameOk g) : Dis (gNs g) := addons_dis (ad_from h)
theorem gNs_name {g : Game} (h : GameOk g) : ∀ w ∈ gNs g, nameB w = true := fun w hw => by
  obtain ⟨a, ha, rfl⟩ := List.mem_map.1 hw
  have := addons_each (ad_from h) a ha
  unfold addonErr at this
  by_cases h1 : nameB a.name = false
  · rw [if_pos h1] at this; cases this
  · exact (Bool.not_eq_false _).mp h1
theorem name_ns {w : ByteArray} (h : nameB w = true) : (32 : UInt8) ∉ w.data.toList ∧ w ≠ bA [] ∧ w.data.toList.length ≤ 24 := by
  unfold nameB at h
  simp only [Bool.and_eq_true] at h
  obtain ⟨⟨h1, h2⟩, h3⟩ := h
  have h1' := of_decide_eq_true h1
  refine ⟨fun hm => ?_, fun e => ?_, ?_⟩
  · exact absurd (List.all_eq_true.1 h3 32 hm) (by decide)
  · rw [e] at h1'; exact absurd h1'.1 (by decide)
  · rw [size_list]; exact h1'.2
theorem gNs_len (g : Game) : (gNs g).length = g.addons.length := List.length_map ..
theorem bet_sm {g : Game} {b : Bet} (h : BetOk g b) : BetSm (gNs g) b.key := by
  refine ⟨fun e => ?_, fun x hx => ?_, ⟨by have := h.dr; show 0 ≤ b.draws; omega, by have := h.dr; show b.draws < 100; omega⟩, ?_⟩
  · have h1 := congrArg List.length (show b.lines.map Line.keyL = [] from e)
    rw [List.length_map, List.length_nil] at h1
    have := h.ln; omega
  · obtain ⟨y, hy, rfl⟩ := List.mem_map.1 (show x ∈ b.lines.map Line.keyL from hx)
    exact (h.ls y hy).1
  · show b.addons.toNat < 2 ^ (gNs g).length
    rw [gNs_len]
    have h2 := h.ad
    have h3 : ((2 ^ g.addons.length : Nat) : Int) = 2 ^ g.addons.length := by simp
    omega
theorem fmtW {m : Mem} {n : Int} (h : Sm n) : PureCall Tryz.prog 26 [.int .i64 n] m (.string (bA (decW n))) := by
  obtain ⟨k, rfl⟩ : ∃ k : Nat, n = k := ⟨n.toNat, by have := h.1; omega⟩
  exact fmtI k (by have := h.2; omega)
theorem lnsTok_step {K : List LnK} {i : Nat} {x : LnK} (h : K[i]? = some x) : lnsTok (K.take (i + 1)) = (lnsTok (K.take i) ++ (if 0 < i then [[47]] else [])) ++ lnTok x := by
  rw [take_snocA h]
  cases i with
  | zero => rw [List.take_zero]; rfl
  | succ i =>
    rw [lnsTok_snoc _ _ (fun e => by
      have h1 := congrArg List.length e
      have h2 := (List.getElem?_eq_some_iff.1 h).1
      rw [List.length_take, List.length_nil] at h1; omega), if_pos (by omega), List.append_assoc]
    rfl
theorem lnTok_le {x : Line} (h1 : x.main.length ≤ 14) (h2 : x.bonus.length ≤ 4) : (lnTok x.keyL).length ≤ 19 := by
  have e : (lnTok x.keyL).length = x.main.length + (if x.bonus = [] then [] else [43] :: x.bonus.map decW : List Wd).length := by
    show (x.main.map decW ++ _).length = _
    rw [List.length_append, List.length_map]
    rfl
  rw [e]
  split
  · simp; omega
  · simp; omega
theorem addTokF_snoc (ns : List ByteArray) (a k : Nat) : addTokF ns a 0 (k + 1) = addTokF ns a 0 k ++ (if a.testBit k = true then [nmAt ns k] else []) := by
  unfold addTokF
  rw [show List.range' 0 (k + 1) = List.range' 0 k ++ [k] by rw [List.range'_concat]; simp, List.filter_append, List.map_append]
  by_cases h : a.testBit k = true
  · rw [if_pos h, List.filter_cons, if_pos h]; rfl
  · rw [if_neg h, List.filter_cons, if_neg h]; rfl
theorem addTokF_le (ns : List ByteArray) (a : Nat) : ∀ k, (addTokF ns a 0 k).length ≤ k
  | 0 => Nat.le_refl _
  | k + 1 => by
    rw [addTokF_snoc, List.length_append]
    have := addTokF_le ns a k
    split <;> simp <;> omega
theorem bit_gF : ∀ (a : Fin 16) (i : Fin 4), bits .and .i64 (((a.val : Nat) : Int).fdiv (2 ^ (min ((i.val : Nat) : Int).toNat IntKind.i64.bits))) 1 = if a.val.testBit i.val = true then 1 else 0 := by decide +kernel
theorem bit_g {a i : Nat} (ha : a < 16) (hi : i < 4) : bits .and .i64 (((a : Nat) : Int).fdiv (2 ^ (min ((i : Nat) : Int).toNat IntKind.i64.bits))) 1 = if a.testBit i = true then 1 else 0 := bit_gF ⟨a, ha⟩ ⟨i, hi⟩
theorem bit_is {a i : Nat} : ((if a.testBit i = true then 1 else 0 : Int) = 1) ↔ a.testBit i = true := by
  by_cases h : a.testBit i = true
  · rw [if_pos h]; exact ⟨fun _ => h, fun _ => rfl⟩
  · rw [if_neg h]; exact ⟨fun e => absurd e (by decide), fun e => absurd e h⟩
theorem joinW_len : ∀ (T : List Wd) (n : Nat), (∀ w ∈ T, w.length ≤ n) → (joinW T).length ≤ (n + 1) * T.length
  | [], n, _ => by simp [joinW]
  | [w], n, h => by
    have := h w (List.mem_cons_self ..)
    show w.length ≤ (n + 1) * 1
    omega
  | w :: v :: ws, n, h => by
    have ih := joinW_len (v :: ws) n (fun x hx => h x (List.mem_cons_of_mem _ hx))
    have := h w (List.mem_cons_self ..)
    rw [joinW_cons (by simp), List.length_append, List.length_cons, List.length_cons, Nat.mul_succ]
    omega
theorem lib_join : ∀ (T : List Wd), Lib.join T [32] = joinW T
  | [] => rfl
  | [w] => by show [32].intercalate [w] = w; simp [List.intercalate]
  | w :: v :: ws => by
    have ih := lib_join (v :: ws)
    show [32].intercalate (w :: v :: ws) = w ++ 32 :: joinW (v :: ws)
    rw [← ih]
    show [32].intercalate (w :: v :: ws) = w ++ 32 :: [32].intercalate (v :: ws)
    simp [List.intercalate]
theorem joinI {m : Mem} {a : Option Addr} {c : Nat} {T : List Wd} (h : RL m wE 1 (.slice a T.length c) T) (hne : T ≠ []) (hl : T.length ≤ 1000000) (hb : (joinW T).length ≤ 100000000) : PureCall Tryz.prog 27 [.slice a T.length c, .string (bA [32])] m (.string (bA (joinW T))) := fun σ => by
  refine CallsS.below fun g W hC => ?_
  obtain ⟨a', c', e, hc⟩ := h.full
  cases e
  obtain ⟨w0, hw0⟩ : ∃ w, T[0]? = some w := ⟨_, List.getElem?_eq_getElem (List.length_pos_iff.2 hne)⟩
  obtain ⟨ad, rfl, _, hat0⟩ := h.atA wE_len hw0
  have hcell : ∀ (j : Nat) (w : Wd), T[j]? = some w → W.cell? (ad.add j) = some (.string (bA w)) := fun j w hj => by
    obtain ⟨ad2, e2, _, hat⟩ := h.atA wE_len hj
    cases e2
    have := hC.cell? (hat 0 (.string (bA w)) rfl)
    rw [Nat.mul_one] at this
    exact this
  have h0 := hcell 0 w0 hw0
  have hsp : ad.spot = none := by
    have h1 := hat0 0 (.string (bA w0)) rfl
    unfold Mem.cell at h1
    cases hs : ad.spot with
    | none => rfl
    | some z =>
      have e3 : ((ad.add (0 * 1)).add 0).spot = some z := hs
      rw [e3] at h1
      cases hm : m ((ad.add (0 * 1)).add 0).block with
      | none => rw [hm] at h1; cases h1
      | some o => rw [hm] at h1; cases h1
  have hlt : ad.block < W.heap.size := by
    have h1 : W.cell? (ad.add 0) = some (.string (bA w0)) := h0
    unfold World.cell? at h1
    cases hh : W.heap[(ad.add 0).block]? with
    | none => rw [hh] at h1; cases h1
    | some o => exact (Array.getElem?_eq_some_iff.1 hh).1
  have ead : ad = ⟨ad.block, ad.off, none⟩ := by
    cases ad; simp only at hsp; subst hsp; rfl
  have key := Tryz.strings_Join ad.block ad.off c (T.map bA) (bA [32]) W (fun j x hj => by
    rw [List.getElem?_map] at hj
    cases hw : T[j]? with
    | none => rw [hw] at hj; cases hj
    | some w =>
      rw [hw] at hj
      have := hcell j w hw
      rw [show (Option.map bA (some w)) = some (bA w) from rfl] at hj
      rw [← Option.some.inj hj]
      rw [ead, show (Addr.add ⟨ad.block, ad.off, none⟩ j) = ⟨ad.block, ad.off + j, none⟩ by simp [Addr.add]] at this
      exact this) hlt (by rw [List.length_map]; omega) (by rw [List.length_map]; exact hc) (by
    rw [List.map_map, show (fun x : ByteArray => x.data.toList) ∘ bA = id from by funext w; simp [bA], List.map_id]
    show (Lib.join T [32]).length ≤ _
    rw [lib_join]; omega)
  rw [List.length_map, List.map_map, show (fun x : ByteArray => x.data.toList) ∘ bA = id from by funext w; simp [bA], List.map_id] at key
  rw [← ead] at key
  have e9 : (Lib.join T (bA [32]).data.toList) = joinW T := lib_join T
  rw [e9] at key
  exact key
theorem toks_short {g : Game} {b : Bet} (h : BetOk g b) : ∀ w ∈ toks (gNs g) b.key, w.length ≤ 24 := by
  have hs := bet_sm h
  have hg := gameOk h.g0
  have hln : ∀ x, LnSm x → ∀ w ∈ lnTok x, w.length ≤ 24 := fun x hx w hw => by
    simp only [lnTok, List.mem_append] at hw
    rcases hw with hw | hw
    · obtain ⟨n, hn, rfl⟩ := List.mem_map.1 hw; have := decW_len (hx.m n hn); omega
    · by_cases h2 : x.2 = []
      · rw [if_pos h2] at hw; cases hw
      · rw [if_neg h2] at hw
        rcases List.mem_cons.1 hw with rfl | hw
        · decide
        · obtain ⟨n, hn, rfl⟩ := List.mem_map.1 hw; have := decW_len (hx.b n hn); omega
  have hls : ∀ L : List LnK, (∀ x ∈ L, LnSm x) → ∀ w ∈ lnsTok L, w.length ≤ 24 := by
    intro L
    induction L with
    | nil => exact fun _ w hw => absurd hw (by simp [lnsTok])
    | cons x r ih =>
      intro hL w hw
      cases r with
      | nil => exact hln x (hL x (List.mem_cons_self ..)) w hw
      | cons y r =>
        rw [lnsTok_cons x (by simp)] at hw
        rcases List.mem_append.1 hw with hw | hw
        · exact hln x (hL x (List.mem_cons_self ..)) w hw
        · rcases List.mem_cons.1 hw with rfl | hw
          · decide
          · exact ih (fun z hz => hL z (List.mem_cons_of_mem _ hz)) w hw
  intro w hw
  simp only [toks, tailTok, List.mem_append] at hw
  rcases hw with hw | hw | hw | hw | hw
  · exact hls _ hs.ls w hw
  · by_cases h1 : b.key.2.2.1 ≠ 1
    · rw [if_pos h1] at hw
      rcases List.mem_cons.1 hw with rfl | hw
      · decide
      · rw [List.mem_singleton.1 hw]; have := decW_len hs.d; omega
    · rw [if_neg h1] at hw; cases hw
  · by_cases h1 : b.key.2.1 = true
    · rw [if_pos h1, List.mem_singleton] at hw; subst hw; decide
    · rw [if_neg h1] at hw; cases hw
  · by_cases h1 : b.key.2.2.2 ≠ 0
    · rw [if_pos h1, List.mem_singleton] at hw; subst hw; decide
    · rw [if_neg h1] at hw; cases hw
  · unfold addTok addTokF at hw
    obtain ⟨i, hi, rfl⟩ := List.mem_map.1 hw
    have hi2 := List.mem_range'_1.1 (List.mem_filter.1 hi).1
    obtain ⟨v, hv⟩ : ∃ v, (gNs g)[i]? = some v := ⟨_, List.getElem?_eq_getElem (by omega)⟩
    unfold nmAt
    rw [hv]
    exact (name_ns (gNs_name hg v (List.mem_of_getElem? hv))).2.2
end Go.Proofs.YtifjhpaoejageaaGreatDoor
namespace Go.Proofs.YtifjhpaoejageaaGreatDoor
open Eng
theorem ite_len {c : Prop} [Decidable c] {l : List Wd} {n : Nat} (h : l.length ≤ n) : (if c then l else []).length ≤ n := by
  split
  · exact h
  · exact Nat.zero_le _
set_option maxRecDepth 100000 in
theorem printG {m : Mem} {g : Game} {b : Bet} (hin : g.In m) (hb : b.In m) : PureCall Tryz.prog 15 [g.val, b.val] m (.tuple #[.string (bA (printL g b)), .int .i64 (betErr g b)]) := by
  refine CallsS.pure ?_
  dsimp only [Game.val, Bet.val]
  refine enter Tryz.func15 Tryz.ntmps15 rfl rfl ?_
  refine SWP_seq (SWP_region ?_)
  refine bx (v := .agg _) rfl rfl (fun B2 => ?_)
  refine bx (v := .agg _) rfl rfl (fun B3 => ?_)
  refine pS rfl rfl ?_
  refine pI rfl rfl ?_
  refine SL_nil (nx (SWP_seq (SWP_seq (SWP_region ?_))))
  refine lw (v := .agg _) B2 0 rfl rfl rfl rfl ?_
  refine lw (v := .agg _) B3 0 rfl rfl rfl rfl ?_
  refine SL_pcall rfl rfl cb22 (betI hin hb) rfl ?_
  first | refine pI rfl rfl ?_ | refine pu rfl rfl ?_
  refine SL_nil (nx (SWP_seq (SWP_region ?_)))
  first | refine pI rfl rfl ?_ | refine pu rfl rfl ?_
  refine pc rfl rfl (fun c20 => ?_) (fun c20 => ?_)
  · skip
    refine SL_nil (nx (SWP_ct rfl (SWP_seq (SWP_region ?_))))
    first | refine pI rfl rfl ?_ | refine pu rfl rfl ?_
    refine pS rfl rfl ?_
    first | refine pI rfl rfl ?_ | refine pu rfl rfl ?_
    refine SL_nil (nx (SWP_ret (nr ?_)))
    refine fin [_, _] ⟨rfl, rfl, trivial⟩ ?_
    unfold printL
    rw [if_neg (by assumption)]
    rfl
  refine SL_nil (nx (SWP_cf rfl (SWP_skip (nx (SWP_seq ?_)))))
  have hz : betErr g b = 0 := Classical.not_not.1 (by assumption)
  have hok := betOk hz
  have hln := hok.ln
  have hdr : Sm b.draws := (bet_sm hok).d
  have hKl : (b.lines.map Line.keyL).length = b.lines.length := List.length_map ..
  refine SWP_region ?_
  refine pL rfl rfl ?_
  refine SL_nil (nx (SWP_seq (SWP_seq (SWP_region ?_))))
  refine pu rfl rfl ?_
  refine lw (v := .slice _ _ _) B3 0 rfl rfl rfl rfl ?_
  refine pu rfl rfl ?_
  refine pI rfl rfl ?_
  refine SL_nil (nx (SWP_block ?_))
  refine SWP_loop [7, 8, 9, 11, 13, 25, 26, 27, 28, 29, 30, 31, 32, 33, 34, 35, 36, 37, 38, 39, 40, 41, 42, 43, 44, 45, 46, 47, 48, 49, 50, 51, 52, 53, 54, 55, 56, 57, 58, 59, 60, 61, 62, 63, 64, 65, 66, 67, 68] [7, 25]
      (fun vs σ' m' => ∃ (i : Nat) (a : Option Addr) (c : Nat) (σe : Sig), vs = [.slice a ((lnsTok ((b.lines.map Line.keyL).take i))).length c, .int .i64 (i : Nat)] ∧ i ≤ b.lines.length ∧ OwnS 9 1 (.slice a ((lnsTok ((b.lines.map Line.keyL).take i))).length c) (((lnsTok ((b.lines.map Line.keyL).take i))).flatMap wE) σe ∧ ((lnsTok ((b.lines.map Line.keyL).take i))).length ≤ 20 * i ∧ σ' = (B3, Cells 30 b.enc) :: (B2, Cells 25 g.enc) :: σe ∧ m = m')
      (fun vs => b.lines.length - nOf (vs.getD 1 undef)) rfl ?_ ?_
  · exact ⟨0, none, 0, [], rfl, by omega, .nil, Nat.le_refl _, rfl, rfl⟩
  intro u0 vs0 σ0 m0 hJ0 _
  obtain ⟨i, a, c, σe, rfl, hi, hown, hBl, rfl, rfl⟩ := hJ0
  refine SWP_seq (SWP_region ?_)
  refine pc rfl rfl (fun c26 => ?_) (fun c26 => ?_)
  · skip
    refine SL_nil (nx (SWP_seq (SWP_ct rfl (SWP_skip (nx (SWP_seq (SWP_block (SWP_seq ?_))))))))
    obtain ⟨x, hxi⟩ : ∃ x, b.lines[i]? = some x := ⟨_, List.getElem?_eq_getElem (by omega)⟩
    have hx := hok.ls x (List.mem_of_getElem? hxi)
    have hxin := hb.each x (List.mem_of_getElem? hxi)
    obtain ⟨ad, e0, _, hat⟩ := hb.ls.atA Line.enc_len hxi
    have hKi : (b.lines.map Line.keyL)[i]? = some x.keyL := by rw [List.getElem?_map, hxi]; rfl
    have hp3 : (if 0 < i then [[47]] else [] : List Wd).length ≤ 1 := by split <;> simp
    have hTBl : (lnsTok ((b.lines.map Line.keyL).take i) ++ (if 0 < i then [[47]] else [])).length ≤ 20 * i + 1 := by rw [List.length_append]; omega
    refine SWP_region ?_
    first | refine pI rfl rfl ?_ | refine pu rfl rfl ?_
    refine ia (es := 2) (ad := ad) rfl rfl rfl rfl (by show Value.slice b.la _ _ = _; rw [e0]) rfl (by omega) rfl ?_
    refine ldA (v := x.val) rfl hat rfl rfl ?_
    refine al rfl rfl (fun B9 => ?_)
    first | refine pI rfl rfl ?_ | refine pu rfl rfl ?_
    refine swE B9 0 x.enc rfl rfl rfl rfl rfl rfl rfl rfl ?_
    refine SL_nil (nx ?_)
    refine SWP_merge1 [7, 30, 31, 32, 33, 34] [7]
        (fun vs σ' m' => ∃ (a : Option Addr) (c : Nat) (σe : Sig), vs = [.slice a ((lnsTok ((b.lines.map Line.keyL).take i) ++ (if 0 < i then [[47]] else []))).length c] ∧ OwnS 9 1 (.slice a ((lnsTok ((b.lines.map Line.keyL).take i) ++ (if 0 < i then [[47]] else []))).length c) (((lnsTok ((b.lines.map Line.keyL).take i) ++ (if 0 < i then [[47]] else []))).flatMap wE) σe ∧ σ' = (B9, Cells 50 x.enc) :: (B3, Cells 30 b.enc) :: (B2, Cells 25 g.enc) :: σe ∧ m = m')
        rfl ?_ ?_
    · skip
      refine SWP_seq (SWP_region ?_)
      first | refine pI rfl rfl ?_ | refine pu rfl rfl ?_
      refine pc rfl rfl (fun c31 => ?_) (fun c31 => ?_)
      · skip
        refine SL_nil (nx (SWP_ct rfl (SWP_region ?_)))
        first | refine pL rfl rfl ?_ | refine pu rfl rfl ?_
        refine bs (cs := [.string (bA [47])]) rfl rfl rfl rfl rfl (fun B99 => ?_)
        refine ap (e := 9) (size := 1) (bytes := 16) rfl rfl rfl rfl rfl rfl rfl hown (List.perm_append_comm (l₁ := [_, _, _, _]) (l₂ := σe)) rfl (Rd.of_cells (.head _)) rfl rfl (by rw [flatMap_len wE_len]; omega) rfl rfl (fun v99 σ9 hown9 => ?_)
        refine SL_weak (List.Sublist.append_left (List.sublist_cons_self _ _) _) ?_
        refine SL_perm (σ' := _ :: _ :: _ :: σ9) (List.perm_append_comm (l₂ := [_, _, _])) ?_
        have hown8 : OwnS 9 1 v99 (((lnsTok ((b.lines.map Line.keyL).take i)) ++ [[47]]).flatMap wE) σ9 := by rw [List.flatMap_append]; exact hown9
        obtain ⟨a5, c5, e5⟩ := hown8.lenL (by omega) wE_len
        subst e5
        first | refine pL rfl rfl ?_ | refine pu rfl rfl ?_
        refine SL_nil (nx ?_)
        refine ⟨by repeat (first | with_reducible exact Under.refl _ _ | exact Under.upds rfl (Under.hav _ _ _) | exact Under.hav _ _ _ | refine Under.upd rfl ?_ | refine Under.upds rfl ?_ | refine Under.hav2 rfl ?_), ?_⟩
        first
        | (refine ⟨a5, c5, σ9, ?_⟩
           rw [if_pos (show 0 < i by omega)]
           exact ⟨rfl, hown8, rfl, rfl⟩)
        | (refine ⟨a, c, σe, ?_⟩
           rw [if_neg (show ¬ 0 < i by omega), List.append_nil]
           exact ⟨rfl, hown, rfl, rfl⟩)
      refine SL_nil (nx (SWP_cf rfl (SWP_skip (nx ?_))))
      refine ⟨by repeat (first | with_reducible exact Under.refl _ _ | exact Under.upds rfl (Under.hav _ _ _) | exact Under.hav _ _ _ | refine Under.upd rfl ?_ | refine Under.upds rfl ?_ | refine Under.hav2 rfl ?_), ?_⟩
      first
      | (refine ⟨a5, c5, σ9, ?_⟩
         rw [if_pos (show 0 < i by omega)]
         exact ⟨rfl, hown8, rfl, rfl⟩)
      | (refine ⟨a, c, σe, ?_⟩
         rw [if_neg (show ¬ 0 < i by omega), List.append_nil]
         exact ⟨rfl, hown, rfl, rfl⟩)
    intro uM0 vM0 σM0 mM0 hM0 _
    obtain ⟨a, c, σe, rfl, hown, rfl, rfl⟩ := hM0
    refine SWP_seq (SWP_seq (SWP_region ?_))
    refine pu rfl rfl ?_
    refine lw (v := .slice x.ma x.main.length x.mc) B9 0 rfl rfl rfl rfl ?_
    refine pu rfl rfl ?_
    first | refine pI rfl rfl ?_ | refine pu rfl rfl ?_
    refine SL_nil (nx (SWP_block ?_))
    refine SWP_loop [7, 11, 38, 39, 40, 41, 42, 43, 44, 45, 46, 47] [7, 38]
        (fun vs σ' m' => ∃ (j : Nat) (a : Option Addr) (c : Nat) (σe : Sig), vs = [.slice a ((lnsTok ((b.lines.map Line.keyL).take i) ++ (if 0 < i then [[47]] else [])) ++ (x.main.take j).map decW).length c, .int .i64 (j : Nat)] ∧ j ≤ x.main.length ∧ OwnS 9 1 (.slice a ((lnsTok ((b.lines.map Line.keyL).take i) ++ (if 0 < i then [[47]] else [])) ++ (x.main.take j).map decW).length c) (((lnsTok ((b.lines.map Line.keyL).take i) ++ (if 0 < i then [[47]] else [])) ++ (x.main.take j).map decW).flatMap wE) σe ∧ σ' = (B9, Cells 50 x.enc) :: (B3, Cells 30 b.enc) :: (B2, Cells 25 g.enc) :: σe ∧ m = m')
        (fun vs => x.main.length - nOf (vs.getD 1 undef)) rfl ?_ ?_
    · exact ⟨0, a, c, σe, by rw [List.take_zero, List.map_nil, List.append_nil]; rfl, by omega, by rw [List.take_zero, List.map_nil, List.append_nil]; exact hown, rfl, rfl⟩
    intro u1 vs1 σ1 m1 hJ1 _
    obtain ⟨j, a, c, σe, rfl, hj, hown, rfl, rfl⟩ := hJ1
    have hTl : ((lnsTok ((b.lines.map Line.keyL).take i) ++ (if 0 < i then [[47]] else [])) ++ (x.main.take j).map decW).length ≤ 20 * i + 20 := by simp only [List.length_append, List.length_map, List.length_take]; omega
    refine SWP_seq (SWP_region ?_)
    refine pc rfl rfl (fun c39 => ?_) (fun c39 => ?_)
    · skip
      refine SL_nil (nx (SWP_seq (SWP_ct rfl (SWP_skip (nx (SWP_seq (SWP_block (SWP_seq (SWP_region ?_)))))))))
      obtain ⟨n, hn⟩ : ∃ n, x.main[j]? = some n := ⟨_, List.getElem?_eq_getElem (by omega)⟩
      obtain ⟨ad9, e9, _, hat9⟩ := hxin.mn.atI hn
      refine ia (es := 1) (ad := ad9) rfl rfl rfl (Nat.mul_one _) (by show Value.slice x.ma _ _ = _; rw [e9]) rfl (by omega) rfl ?_
      refine ldA (v := .int .i64 n) rfl hat9 rfl rfl ?_
      first | refine pI rfl rfl ?_ | refine pu rfl rfl ?_
      refine SL_nil (nx (SWP_region ?_))
      first | refine pL rfl rfl ?_ | refine pu rfl rfl ?_
      first | refine pI rfl rfl ?_ | refine pu rfl rfl ?_
      refine SL_pcall rfl rfl cb26 (fmtW (hx.1.m n (List.mem_of_getElem? hn))) rfl ?_
      refine bs (cs := [.string (bA (decW n))]) rfl rfl rfl rfl rfl (fun B99 => ?_)
      refine ap (e := 9) (size := 1) (bytes := 16) rfl rfl rfl rfl rfl rfl rfl hown (List.perm_append_comm (l₁ := [_, _, _, _]) (l₂ := σe)) rfl (Rd.of_cells (.head _)) rfl rfl (by rw [flatMap_len wE_len]; omega) rfl rfl (fun v99 σ9 hown9 => ?_)
      refine SL_weak (List.Sublist.append_left (List.sublist_cons_self _ _) _) ?_
      refine SL_perm (σ' := _ :: _ :: _ :: σ9) (List.perm_append_comm (l₂ := [_, _, _])) ?_
      have hown8 : OwnS 9 1 v99 (((lnsTok ((b.lines.map Line.keyL).take i) ++ (if 0 < i then [[47]] else [])) ++ (x.main.take j).map decW ++ [decW n]).flatMap wE) σ9 := by rw [List.flatMap_append]; exact hown9
      obtain ⟨a5, c5, e5⟩ := hown8.lenL (by omega) wE_len
      subst e5
      first | refine pL rfl rfl ?_ | refine pu rfl rfl ?_
      refine SL_nil (nb (nx (SWP_region ?_)))
      first | refine pw rfl rfl (w64 (by omega) (by omega)) ?_ | refine pu rfl rfl ?_
      refine pI rfl rfl ?_
      refine SL_nil (nx ?_)
      refine ⟨by repeat (first | exact Under.upds rfl (Under.hav _ _ _) | exact Under.hav _ _ _ | refine Under.upd rfl ?_ | refine Under.upds rfl ?_ | refine Under.hav2 rfl ?_), ?_, ?_⟩
      · have e1 : ((lnsTok ((b.lines.map Line.keyL).take i) ++ (if 0 < i then [[47]] else [])) ++ (x.main.take j).map decW) ++ [decW n] = (lnsTok ((b.lines.map Line.keyL).take i) ++ (if 0 < i then [[47]] else [])) ++ (x.main.take (j + 1)).map decW := by rw [take_snocA hn, List.map_append]; simp only [List.append_assoc, List.map_cons, List.map_nil]
        rw [e1] at hown8
        rw [e1]
        exact ⟨j + 1, a5, c5, σ9, rfl, by omega, hown8, rfl, rfl⟩
      · simp only [L_vals, List.map, List.getD]; show x.main.length - (j + 1) < x.main.length - j; omega
    refine SL_nil (nx (SWP_seq (SWP_cf rfl (SWP_exit (ne (ne (be rfl (nx ?_))))))))
    have hj1 : j = x.main.length := by omega
    subst hj1
    rw [List.take_length] at hown hTl
    rw [List.take_length]
    refine SWP_merge1 [7, 48, 49, 50, 51, 52, 53, 54] [7]
        (fun vs σ' m' => ∃ (a : Option Addr) (c : Nat) (σe : Sig), vs = [.slice a ((lnsTok ((b.lines.map Line.keyL).take i) ++ (if 0 < i then [[47]] else [])) ++ x.main.map decW ++ (if x.bonus = [] then [] else [[43]])).length c] ∧ OwnS 9 1 (.slice a ((lnsTok ((b.lines.map Line.keyL).take i) ++ (if 0 < i then [[47]] else [])) ++ x.main.map decW ++ (if x.bonus = [] then [] else [[43]])).length c) (((lnsTok ((b.lines.map Line.keyL).take i) ++ (if 0 < i then [[47]] else [])) ++ x.main.map decW ++ (if x.bonus = [] then [] else [[43]])).flatMap wE) σe ∧ σ' = (B9, Cells 50 x.enc) :: (B3, Cells 30 b.enc) :: (B2, Cells 25 g.enc) :: σe ∧ m = m')
        rfl ?_ ?_
    · skip
      refine SWP_seq (SWP_region ?_)
      refine pu rfl rfl ?_
      refine lw (v := .slice x.ba x.bonus.length x.bc) B9 1 rfl rfl rfl rfl ?_
      refine pu rfl rfl ?_
      refine pc rfl rfl (fun c51 => ?_) (fun c51 => ?_)
      · skip
        refine SL_nil (nx (SWP_ct rfl (SWP_region ?_)))
        first | refine pL rfl rfl ?_ | refine pu rfl rfl ?_
        refine bs (cs := [.string (bA [43])]) rfl rfl rfl rfl rfl (fun B99 => ?_)
        refine ap (e := 9) (size := 1) (bytes := 16) rfl rfl rfl rfl rfl rfl rfl hown (List.perm_append_comm (l₁ := [_, _, _, _]) (l₂ := σe)) rfl (Rd.of_cells (.head _)) rfl rfl (by rw [flatMap_len wE_len]; omega) rfl rfl (fun v99 σ9 hown9 => ?_)
        refine SL_weak (List.Sublist.append_left (List.sublist_cons_self _ _) _) ?_
        refine SL_perm (σ' := _ :: _ :: _ :: σ9) (List.perm_append_comm (l₂ := [_, _, _])) ?_
        have hown8 : OwnS 9 1 v99 (((lnsTok ((b.lines.map Line.keyL).take i) ++ (if 0 < i then [[47]] else [])) ++ x.main.map decW ++ [[43]]).flatMap wE) σ9 := by rw [List.flatMap_append]; exact hown9
        obtain ⟨a5, c5, e5⟩ := hown8.lenL (by omega) wE_len
        subst e5
        first | refine pL rfl rfl ?_ | refine pu rfl rfl ?_
        refine SL_nil (nx ?_)
        refine ⟨by repeat (first | with_reducible exact Under.refl _ _ | exact Under.upds rfl (Under.hav _ _ _) | exact Under.hav _ _ _ | refine Under.upd rfl ?_ | refine Under.upds rfl ?_ | refine Under.hav2 rfl ?_), ?_⟩
        first
        | (refine ⟨a5, c5, σ9, ?_⟩
           rw [if_neg (show ¬ x.bonus = [] from fun e => by have h0 := congrArg List.length e; rw [List.length_nil] at h0; omega)]
           exact ⟨rfl, hown8, rfl, rfl⟩)
        | (refine ⟨a, c, σe, ?_⟩
           rw [if_pos (show x.bonus = [] from List.eq_nil_of_length_eq_zero (by omega)), List.append_nil]
           exact ⟨rfl, hown, rfl, rfl⟩)
      refine SL_nil (nx (SWP_cf rfl (SWP_skip (nx ?_))))
      refine ⟨by repeat (first | with_reducible exact Under.refl _ _ | exact Under.upds rfl (Under.hav _ _ _) | exact Under.hav _ _ _ | refine Under.upd rfl ?_ | refine Under.upds rfl ?_ | refine Under.hav2 rfl ?_), ?_⟩
      first
      | (refine ⟨a5, c5, σ9, ?_⟩
         rw [if_neg (show ¬ x.bonus = [] from fun e => by have h0 := congrArg List.length e; rw [List.length_nil] at h0; omega)]
         exact ⟨rfl, hown8, rfl, rfl⟩)
      | (refine ⟨a, c, σe, ?_⟩
         rw [if_pos (show x.bonus = [] from List.eq_nil_of_length_eq_zero (by omega)), List.append_nil]
         exact ⟨rfl, hown, rfl, rfl⟩)
    intro uM1 vM1 σM1 mM1 hM1 _
    obtain ⟨a, c, σe, rfl, hown, rfl, rfl⟩ := hM1
    refine SWP_seq (SWP_region ?_)
    refine pu rfl rfl ?_
    refine lw (v := .slice x.ba x.bonus.length x.bc) B9 1 rfl rfl rfl rfl ?_
    refine pu rfl rfl ?_
    first | refine pI rfl rfl ?_ | refine pu rfl rfl ?_
    refine SL_nil (nx (SWP_block ?_))
    refine SWP_loop [7, 13, 58, 59, 60, 61, 62, 63, 64, 65, 66, 67] [7, 58]
        (fun vs σ' m' => ∃ (j : Nat) (a : Option Addr) (c : Nat) (σe : Sig), vs = [.slice a (((lnsTok ((b.lines.map Line.keyL).take i) ++ (if 0 < i then [[47]] else [])) ++ x.main.map decW ++ (if x.bonus = [] then [] else [[43]])) ++ (x.bonus.take j).map decW).length c, .int .i64 (j : Nat)] ∧ j ≤ x.bonus.length ∧ OwnS 9 1 (.slice a (((lnsTok ((b.lines.map Line.keyL).take i) ++ (if 0 < i then [[47]] else [])) ++ x.main.map decW ++ (if x.bonus = [] then [] else [[43]])) ++ (x.bonus.take j).map decW).length c) ((((lnsTok ((b.lines.map Line.keyL).take i) ++ (if 0 < i then [[47]] else [])) ++ x.main.map decW ++ (if x.bonus = [] then [] else [[43]])) ++ (x.bonus.take j).map decW).flatMap wE) σe ∧ σ' = (B9, Cells 50 x.enc) :: (B3, Cells 30 b.enc) :: (B2, Cells 25 g.enc) :: σe ∧ m = m')
        (fun vs => x.bonus.length - nOf (vs.getD 1 undef)) rfl ?_ ?_
    · exact ⟨0, a, c, σe, by rw [List.take_zero, List.map_nil, List.append_nil]; rfl, by omega, by rw [List.take_zero, List.map_nil, List.append_nil]; exact hown, rfl, rfl⟩
    intro u2 vs2 σ2 m2 hJ2 _
    obtain ⟨j, a, c, σe, rfl, hj, hown, rfl, rfl⟩ := hJ2
    have hp4 : (if x.bonus = [] then [] else [[43]] : List Wd).length ≤ 1 := by split <;> simp
    have hTl : (((lnsTok ((b.lines.map Line.keyL).take i) ++ (if 0 < i then [[47]] else [])) ++ x.main.map decW ++ (if x.bonus = [] then [] else [[43]])) ++ (x.bonus.take j).map decW).length ≤ 20 * i + 40 := by simp only [List.length_append, List.length_map, List.length_take]; omega
    refine SWP_seq (SWP_region ?_)
    refine pc rfl rfl (fun c59 => ?_) (fun c59 => ?_)
    · skip
      refine SL_nil (nx (SWP_seq (SWP_ct rfl (SWP_skip (nx (SWP_seq (SWP_block (SWP_seq (SWP_region ?_)))))))))
      obtain ⟨n, hn⟩ : ∃ n, x.bonus[j]? = some n := ⟨_, List.getElem?_eq_getElem (by omega)⟩
      obtain ⟨ad9, e9, _, hat9⟩ := hxin.bn.atI hn
      refine ia (es := 1) (ad := ad9) rfl rfl rfl (Nat.mul_one _) (by show Value.slice x.ba _ _ = _; rw [e9]) rfl (by omega) rfl ?_
      refine ldA (v := .int .i64 n) rfl hat9 rfl rfl ?_
      first | refine pI rfl rfl ?_ | refine pu rfl rfl ?_
      refine SL_nil (nx (SWP_region ?_))
      first | refine pL rfl rfl ?_ | refine pu rfl rfl ?_
      first | refine pI rfl rfl ?_ | refine pu rfl rfl ?_
      refine SL_pcall rfl rfl cb26 (fmtW (hx.1.b n (List.mem_of_getElem? hn))) rfl ?_
      refine bs (cs := [.string (bA (decW n))]) rfl rfl rfl rfl rfl (fun B99 => ?_)
      refine ap (e := 9) (size := 1) (bytes := 16) rfl rfl rfl rfl rfl rfl rfl hown (List.perm_append_comm (l₁ := [_, _, _, _]) (l₂ := σe)) rfl (Rd.of_cells (.head _)) rfl rfl (by rw [flatMap_len wE_len]; omega) rfl rfl (fun v99 σ9 hown9 => ?_)
      refine SL_weak (List.Sublist.append_left (List.sublist_cons_self _ _) _) ?_
      refine SL_perm (σ' := _ :: _ :: _ :: σ9) (List.perm_append_comm (l₂ := [_, _, _])) ?_
      have hown8 : OwnS 9 1 v99 ((((lnsTok ((b.lines.map Line.keyL).take i) ++ (if 0 < i then [[47]] else [])) ++ x.main.map decW ++ (if x.bonus = [] then [] else [[43]])) ++ (x.bonus.take j).map decW ++ [decW n]).flatMap wE) σ9 := by rw [List.flatMap_append]; exact hown9
      obtain ⟨a5, c5, e5⟩ := hown8.lenL (by omega) wE_len
      subst e5
      first | refine pL rfl rfl ?_ | refine pu rfl rfl ?_
      refine SL_nil (nb (nx (SWP_region ?_)))
      first | refine pw rfl rfl (w64 (by omega) (by omega)) ?_ | refine pu rfl rfl ?_
      refine pI rfl rfl ?_
      refine SL_nil (nx ?_)
      refine ⟨by repeat (first | exact Under.upds rfl (Under.hav _ _ _) | exact Under.hav _ _ _ | refine Under.upd rfl ?_ | refine Under.upds rfl ?_ | refine Under.hav2 rfl ?_), ?_, ?_⟩
      · have e1 : (((lnsTok ((b.lines.map Line.keyL).take i) ++ (if 0 < i then [[47]] else [])) ++ x.main.map decW ++ (if x.bonus = [] then [] else [[43]])) ++ (x.bonus.take j).map decW) ++ [decW n] = ((lnsTok ((b.lines.map Line.keyL).take i) ++ (if 0 < i then [[47]] else [])) ++ x.main.map decW ++ (if x.bonus = [] then [] else [[43]])) ++ (x.bonus.take (j + 1)).map decW := by rw [take_snocA hn, List.map_append]; simp only [List.append_assoc, List.map_cons, List.map_nil]
        rw [e1] at hown8
        rw [e1]
        exact ⟨j + 1, a5, c5, σ9, rfl, by omega, hown8, rfl, rfl⟩
      · simp only [L_vals, List.map, List.getD]; show x.bonus.length - (j + 1) < x.bonus.length - j; omega
    refine SL_nil (nx (SWP_seq (SWP_cf rfl (SWP_exit (ne (ne (be rfl (nb (nx ?_)))))))))
    refine SWP_weak (List.sublist_cons_self _ _) ?_
    refine SWP_region ?_
    first | refine pw rfl rfl (w64 (by omega) (by omega)) ?_ | refine pu rfl rfl ?_
    refine pI rfl rfl ?_
    refine SL_nil (nx ?_)
    refine ⟨by repeat (first | exact Under.upds rfl (Under.hav _ _ _) | exact Under.hav _ _ _ | refine Under.upd rfl ?_ | refine Under.upds rfl ?_ | refine Under.hav2 rfl ?_), ?_, ?_⟩
    · have hj2 : j = x.bonus.length := by omega
      subst hj2
      rw [List.take_length] at hown
      rw [List.take_length]
      have e1 : ((lnsTok ((b.lines.map Line.keyL).take i) ++ (if 0 < i then [[47]] else [])) ++ x.main.map decW ++ (if x.bonus = [] then [] else [[43]])) ++ x.bonus.map decW = (lnsTok ((b.lines.map Line.keyL).take (i + 1))) := by
        rw [lnsTok_step hKi]
        show _ = (lnsTok ((b.lines.map Line.keyL).take i) ++ (if 0 < i then [[47]] else [])) ++ (x.main.map decW ++ (if x.bonus = [] then [] else [43] :: x.bonus.map decW))
        by_cases hb0 : x.bonus = []
        · rw [if_pos hb0, if_pos hb0, hb0]; simp only [List.append_assoc, List.append_nil, List.map_nil]
        · rw [if_neg hb0, if_neg hb0]; simp only [List.append_assoc, List.singleton_append]
      rw [e1] at hown
      rw [e1]
      refine ⟨i + 1, a, c, σe, rfl, by omega, hown, ?_, rfl, rfl⟩
      rw [lnsTok_step hKi, List.length_append]
      have := lnTok_le hx.2.1 hx.2.2
      have := hTBl
      omega
    · simp only [L_vals, List.map, List.getD]; show b.lines.length - (i + 1) < b.lines.length - i; omega
  refine SL_nil (nx (SWP_seq (SWP_cf rfl (SWP_exit (ne (ne (be rfl (nx ?_))))))))
  have hi1 : i = (b.lines.map Line.keyL).length := by omega
  subst hi1
  rw [List.take_length] at hown hBl
  rw [List.take_length]
  have hU0 : (lnsTok (b.lines.map Line.keyL)).length ≤ 320 := by omega
  have hU1 : (lnsTok (b.lines.map Line.keyL) ++ (if b.draws ≠ 1 then [[120], decW b.draws] else [])).length ≤ 322 := by rw [List.length_append]; have := ite_len (c := b.draws ≠ 1) (l := [[120], decW b.draws]) (n := 2) (Nat.le_refl _); omega
  have hU2 : ((lnsTok (b.lines.map Line.keyL) ++ (if b.draws ≠ 1 then [[120], decW b.draws] else [])) ++ (if b.system = true then [[115, 121, 115]] else [])).length ≤ 323 := by rw [List.length_append]; have := ite_len (c := b.system = true) (l := [[115, 121, 115]]) (n := 1) (Nat.le_refl _); omega
  have hU3 : (((lnsTok (b.lines.map Line.keyL) ++ (if b.draws ≠ 1 then [[120], decW b.draws] else [])) ++ (if b.system = true then [[115, 121, 115]] else [])) ++ (if b.addons.toNat ≠ 0 then [[42]] else [])).length ≤ 324 := by rw [List.length_append]; have := ite_len (c := b.addons.toNat ≠ 0) (l := [[42]]) (n := 1) (Nat.le_refl _); omega
  have hgl := addons_few (gameOk hok.g0)
  refine SWP_merge1 [7, 69, 70, 71, 72, 73, 74, 75, 76, 77] [7]
      (fun vs σ' m' => ∃ (a : Option Addr) (c : Nat) (σe : Sig), vs = [.slice a (lnsTok (b.lines.map Line.keyL) ++ (if b.draws ≠ 1 then [[120], decW b.draws] else [])).length c] ∧ OwnS 9 1 (.slice a (lnsTok (b.lines.map Line.keyL) ++ (if b.draws ≠ 1 then [[120], decW b.draws] else [])).length c) ((lnsTok (b.lines.map Line.keyL) ++ (if b.draws ≠ 1 then [[120], decW b.draws] else [])).flatMap wE) σe ∧ σ' = (B3, Cells 30 b.enc) :: (B2, Cells 25 g.enc) :: σe ∧ m = m')
      rfl ?_ ?_
  · skip
    refine SWP_seq (SWP_region ?_)
    refine pu rfl rfl ?_
    refine lw (v := .int .i64 _) B3 2 rfl rfl rfl rfl ?_
    refine pc rfl rfl (fun c71 => ?_) (fun c71 => ?_)
    · skip
      refine SL_nil (nx (SWP_ct rfl (SWP_region ?_)))
      first | refine pL rfl rfl ?_ | refine pu rfl rfl ?_
      refine pu rfl rfl ?_
      refine lw (v := .int .i64 _) B3 2 rfl rfl rfl rfl ?_
      refine SL_pcall rfl rfl cb26 (fmtW hdr) rfl ?_
      refine bs (cs := [.string (bA [120]), .string (bA (decW b.draws))]) rfl rfl rfl rfl rfl (fun B99 => ?_)
      refine ap (e := 9) (size := 1) (bytes := 16) rfl rfl rfl rfl rfl rfl rfl hown (List.perm_append_comm (l₁ := [_, _, _]) (l₂ := σe)) rfl (Rd.of_cells (.head _)) rfl rfl (by rw [flatMap_len wE_len]; omega) rfl rfl (fun v99 σ9 hown9 => ?_)
      refine SL_weak (List.Sublist.append_left (List.sublist_cons_self _ _) _) ?_
      refine SL_perm (σ' := _ :: _ :: σ9) (List.perm_append_comm (l₂ := [_, _])) ?_
      have hown8 : OwnS 9 1 v99 ((lnsTok (b.lines.map Line.keyL) ++ [[120], decW b.draws]).flatMap wE) σ9 := by rw [List.flatMap_append]; exact hown9
      obtain ⟨a5, c5, e5⟩ := hown8.lenL (by omega) wE_len
      subst e5
      first | refine pL rfl rfl ?_ | refine pu rfl rfl ?_
      refine SL_nil (nx ?_)
      refine ⟨by repeat (first | with_reducible exact Under.refl _ _ | exact Under.upds rfl (Under.hav _ _ _) | exact Under.hav _ _ _ | refine Under.upd rfl ?_ | refine Under.upds rfl ?_ | refine Under.hav2 rfl ?_), ?_⟩
      first
      | (refine ⟨a5, c5, σ9, ?_⟩
         rw [if_pos (show b.draws ≠ 1 by assumption)]
         exact ⟨rfl, hown8, rfl, rfl⟩)
      | (refine ⟨a, c, σe, ?_⟩
         rw [if_neg (show ¬ b.draws ≠ 1 by assumption), List.append_nil]
         exact ⟨rfl, hown, rfl, rfl⟩)
    refine SL_nil (nx (SWP_cf rfl (SWP_skip (nx ?_))))
    refine ⟨by repeat (first | with_reducible exact Under.refl _ _ | exact Under.upds rfl (Under.hav _ _ _) | exact Under.hav _ _ _ | refine Under.upd rfl ?_ | refine Under.upds rfl ?_ | refine Under.hav2 rfl ?_), ?_⟩
    first
    | (refine ⟨a5, c5, σ9, ?_⟩
       rw [if_pos (show b.draws ≠ 1 by assumption)]
       exact ⟨rfl, hown8, rfl, rfl⟩)
    | (refine ⟨a, c, σe, ?_⟩
       rw [if_neg (show ¬ b.draws ≠ 1 by assumption), List.append_nil]
       exact ⟨rfl, hown, rfl, rfl⟩)
  intro uM2 vM2 σM2 mM2 hM2 _
  obtain ⟨a, c, σe, rfl, hown, rfl, rfl⟩ := hM2
  refine SWP_merge1 [7, 78, 79, 80, 81, 82] [7]
      (fun vs σ' m' => ∃ (a : Option Addr) (c : Nat) (σe : Sig), vs = [.slice a ((lnsTok (b.lines.map Line.keyL) ++ (if b.draws ≠ 1 then [[120], decW b.draws] else [])) ++ (if b.system = true then [[115, 121, 115]] else [])).length c] ∧ OwnS 9 1 (.slice a ((lnsTok (b.lines.map Line.keyL) ++ (if b.draws ≠ 1 then [[120], decW b.draws] else [])) ++ (if b.system = true then [[115, 121, 115]] else [])).length c) (((lnsTok (b.lines.map Line.keyL) ++ (if b.draws ≠ 1 then [[120], decW b.draws] else [])) ++ (if b.system = true then [[115, 121, 115]] else [])).flatMap wE) σe ∧ σ' = (B3, Cells 30 b.enc) :: (B2, Cells 25 g.enc) :: σe ∧ m = m')
      rfl ?_ ?_
  · skip
    refine SWP_seq (SWP_region ?_)
    refine pu rfl rfl ?_
    refine lw (v := .bool _) B3 1 rfl rfl rfl rfl ?_
    refine bsp 79 rfl (fun b79 => ?_) (fun b79 => ?_)
    · skip
      refine SL_nil (nx (SWP_ct rfl (SWP_region ?_)))
      first | refine pL rfl rfl ?_ | refine pu rfl rfl ?_
      refine bs (cs := [.string (bA [115, 121, 115])]) rfl rfl rfl rfl rfl (fun B99 => ?_)
      refine ap (e := 9) (size := 1) (bytes := 16) rfl rfl rfl rfl rfl rfl rfl hown (List.perm_append_comm (l₁ := [_, _, _]) (l₂ := σe)) rfl (Rd.of_cells (.head _)) rfl rfl (by rw [flatMap_len wE_len]; omega) rfl rfl (fun v99 σ9 hown9 => ?_)
      refine SL_weak (List.Sublist.append_left (List.sublist_cons_self _ _) _) ?_
      refine SL_perm (σ' := _ :: _ :: σ9) (List.perm_append_comm (l₂ := [_, _])) ?_
      have hown8 : OwnS 9 1 v99 ((lnsTok (b.lines.map Line.keyL) ++ (if b.draws ≠ 1 then [[120], decW b.draws] else []) ++ [[115, 121, 115]]).flatMap wE) σ9 := by rw [List.flatMap_append]; exact hown9
      obtain ⟨a5, c5, e5⟩ := hown8.lenL (by omega) wE_len
      subst e5
      first | refine pL rfl rfl ?_ | refine pu rfl rfl ?_
      refine SL_nil (nx ?_)
      refine ⟨by repeat (first | with_reducible exact Under.refl _ _ | exact Under.upds rfl (Under.hav _ _ _) | exact Under.hav _ _ _ | refine Under.upd rfl ?_ | refine Under.upds rfl ?_ | refine Under.hav2 rfl ?_), ?_⟩
      first
      | (refine ⟨a5, c5, σ9, ?_⟩
         rw [if_pos (show b.system = true by assumption)]
         exact ⟨rfl, hown8, rfl, rfl⟩)
      | (refine ⟨a, c, σe, ?_⟩
         rw [if_neg (show ¬ b.system = true by rw [show b.system = false by assumption]; exact Bool.noConfusion), List.append_nil]
         exact ⟨rfl, hown, rfl, rfl⟩)
    refine SL_nil (nx (SWP_cf rfl (SWP_skip (nx ?_))))
    refine ⟨by repeat (first | with_reducible exact Under.refl _ _ | exact Under.upds rfl (Under.hav _ _ _) | exact Under.hav _ _ _ | refine Under.upd rfl ?_ | refine Under.upds rfl ?_ | refine Under.hav2 rfl ?_), ?_⟩
    first
    | (refine ⟨a5, c5, σ9, ?_⟩
       rw [if_pos (show b.system = true by assumption)]
       exact ⟨rfl, hown8, rfl, rfl⟩)
    | (refine ⟨a, c, σe, ?_⟩
       rw [if_neg (show ¬ b.system = true by rw [show b.system = false by assumption]; exact Bool.noConfusion), List.append_nil]
       exact ⟨rfl, hown, rfl, rfl⟩)
  intro uM3 vM3 σM3 mM3 hM3 _
  obtain ⟨a, c, σe, rfl, hown, rfl, rfl⟩ := hM3
  refine SWP_merge1 [7, 83, 84, 85, 86, 87, 88] [7]
      (fun vs σ' m' => ∃ (a : Option Addr) (c : Nat) (σe : Sig), vs = [.slice a (((lnsTok (b.lines.map Line.keyL) ++ (if b.draws ≠ 1 then [[120], decW b.draws] else [])) ++ (if b.system = true then [[115, 121, 115]] else [])) ++ (if b.addons.toNat ≠ 0 then [[42]] else [])).length c] ∧ OwnS 9 1 (.slice a (((lnsTok (b.lines.map Line.keyL) ++ (if b.draws ≠ 1 then [[120], decW b.draws] else [])) ++ (if b.system = true then [[115, 121, 115]] else [])) ++ (if b.addons.toNat ≠ 0 then [[42]] else [])).length c) ((((lnsTok (b.lines.map Line.keyL) ++ (if b.draws ≠ 1 then [[120], decW b.draws] else [])) ++ (if b.system = true then [[115, 121, 115]] else [])) ++ (if b.addons.toNat ≠ 0 then [[42]] else [])).flatMap wE) σe ∧ σ' = (B3, Cells 30 b.enc) :: (B2, Cells 25 g.enc) :: σe ∧ m = m')
      rfl ?_ ?_
  · skip
    refine SWP_seq (SWP_region ?_)
    refine pu rfl rfl ?_
    refine lw (v := .int .i64 _) B3 3 rfl rfl rfl rfl ?_
    refine pc rfl rfl (fun c85 => ?_) (fun c85 => ?_)
    · skip
      refine SL_nil (nx (SWP_ct rfl (SWP_region ?_)))
      first | refine pL rfl rfl ?_ | refine pu rfl rfl ?_
      refine bs (cs := [.string (bA [42])]) rfl rfl rfl rfl rfl (fun B99 => ?_)
      refine ap (e := 9) (size := 1) (bytes := 16) rfl rfl rfl rfl rfl rfl rfl hown (List.perm_append_comm (l₁ := [_, _, _]) (l₂ := σe)) rfl (Rd.of_cells (.head _)) rfl rfl (by rw [flatMap_len wE_len]; omega) rfl rfl (fun v99 σ9 hown9 => ?_)
      refine SL_weak (List.Sublist.append_left (List.sublist_cons_self _ _) _) ?_
      refine SL_perm (σ' := _ :: _ :: σ9) (List.perm_append_comm (l₂ := [_, _])) ?_
      have hown8 : OwnS 9 1 v99 (((lnsTok (b.lines.map Line.keyL) ++ (if b.draws ≠ 1 then [[120], decW b.draws] else [])) ++ (if b.system = true then [[115, 121, 115]] else []) ++ [[42]]).flatMap wE) σ9 := by rw [List.flatMap_append]; exact hown9
      obtain ⟨a5, c5, e5⟩ := hown8.lenL (by omega) wE_len
      subst e5
      first | refine pL rfl rfl ?_ | refine pu rfl rfl ?_
      refine SL_nil (nx ?_)
      refine ⟨by repeat (first | with_reducible exact Under.refl _ _ | exact Under.upds rfl (Under.hav _ _ _) | exact Under.hav _ _ _ | refine Under.upd rfl ?_ | refine Under.upds rfl ?_ | refine Under.hav2 rfl ?_), ?_⟩
      first
      | (refine ⟨a5, c5, σ9, ?_⟩
         rw [if_pos (show b.addons.toNat ≠ 0 by have := hok.ad; omega)]
         exact ⟨rfl, hown8, rfl, rfl⟩)
      | (refine ⟨a, c, σe, ?_⟩
         rw [if_neg (show ¬ b.addons.toNat ≠ 0 by omega), List.append_nil]
         exact ⟨rfl, hown, rfl, rfl⟩)
    refine SL_nil (nx (SWP_cf rfl (SWP_skip (nx ?_))))
    refine ⟨by repeat (first | with_reducible exact Under.refl _ _ | exact Under.upds rfl (Under.hav _ _ _) | exact Under.hav _ _ _ | refine Under.upd rfl ?_ | refine Under.upds rfl ?_ | refine Under.hav2 rfl ?_), ?_⟩
    first
    | (refine ⟨a5, c5, σ9, ?_⟩
       rw [if_pos (show b.addons.toNat ≠ 0 by have := hok.ad; omega)]
       exact ⟨rfl, hown8, rfl, rfl⟩)
    | (refine ⟨a, c, σe, ?_⟩
       rw [if_neg (show ¬ b.addons.toNat ≠ 0 by omega), List.append_nil]
       exact ⟨rfl, hown, rfl, rfl⟩)
  intro uM4 vM4 σM4 mM4 hM4 _
  obtain ⟨a, c, σe, rfl, hown, rfl, rfl⟩ := hM4
  refine SWP_seq (SWP_seq (SWP_region ?_))
  refine pu rfl rfl ?_
  refine lw (v := .slice _ _ _) B2 20 rfl rfl rfl rfl ?_
  refine pu rfl rfl ?_
  first | refine pI rfl rfl ?_ | refine pu rfl rfl ?_
  refine SL_nil (nx (SWP_block ?_))
  refine SWP_loop [7, 14, 15, 92, 93, 94, 95, 96, 97, 98, 99, 100, 101, 102, 103, 104, 105, 106, 107, 108] [7, 92]
      (fun vs σ' m' => ∃ (i : Nat) (a : Option Addr) (c : Nat) (σe : Sig), vs = [.slice a ((((lnsTok (b.lines.map Line.keyL) ++ (if b.draws ≠ 1 then [[120], decW b.draws] else [])) ++ (if b.system = true then [[115, 121, 115]] else [])) ++ (if b.addons.toNat ≠ 0 then [[42]] else [])) ++ addTokF (gNs g) b.addons.toNat 0 (i)).length c, .int .i64 (i : Nat)] ∧ i ≤ g.addons.length ∧ OwnS 9 1 (.slice a ((((lnsTok (b.lines.map Line.keyL) ++ (if b.draws ≠ 1 then [[120], decW b.draws] else [])) ++ (if b.system = true then [[115, 121, 115]] else [])) ++ (if b.addons.toNat ≠ 0 then [[42]] else [])) ++ addTokF (gNs g) b.addons.toNat 0 (i)).length c) (((((lnsTok (b.lines.map Line.keyL) ++ (if b.draws ≠ 1 then [[120], decW b.draws] else [])) ++ (if b.system = true then [[115, 121, 115]] else [])) ++ (if b.addons.toNat ≠ 0 then [[42]] else [])) ++ addTokF (gNs g) b.addons.toNat 0 (i)).flatMap wE) σe ∧ σ' = (B3, Cells 30 b.enc) :: (B2, Cells 25 g.enc) :: σe ∧ m = m')
      (fun vs => g.addons.length - nOf (vs.getD 1 undef)) rfl ?_ ?_
  · exact ⟨0, a, c, σe, by rw [show addTokF (gNs g) b.addons.toNat 0 0 = [] from rfl, List.append_nil]; rfl, by omega, by rw [show addTokF (gNs g) b.addons.toNat 0 0 = [] from rfl, List.append_nil]; exact hown, rfl, rfl⟩
  intro u3 vs3 σ3 m3 hJ3 _
  obtain ⟨i, a, c, σe, rfl, hi, hown, rfl, rfl⟩ := hJ3
  have hTl : ((((lnsTok (b.lines.map Line.keyL) ++ (if b.draws ≠ 1 then [[120], decW b.draws] else [])) ++ (if b.system = true then [[115, 121, 115]] else [])) ++ (if b.addons.toNat ≠ 0 then [[42]] else [])) ++ addTokF (gNs g) b.addons.toNat 0 (i)).length ≤ 400 := by have := addTokF_le (gNs g) b.addons.toNat i; rw [List.length_append]; omega
  have hadn : b.addons = ((b.addons.toNat : Nat) : Int) := by have := hok.ad; omega
  have ha16 : b.addons.toNat < 16 := by
    have h1 := (bet_sm hok).a
    have h2 : 2 ^ (gNs g).length ≤ 2 ^ 4 := Nat.pow_le_pow_right (by decide) (by rw [gNs_len]; exact hgl)
    exact Nat.lt_of_lt_of_le h1 h2
  refine SWP_seq (SWP_region ?_)
  refine pc rfl rfl (fun c93 => ?_) (fun c93 => ?_)
  · skip
    refine SL_nil (nx (SWP_seq (SWP_ct rfl (SWP_skip (nx (SWP_seq (SWP_block (SWP_seq ?_))))))))
    obtain ⟨a1, hai⟩ : ∃ a, g.addons[i]? = some a := ⟨_, List.getElem?_eq_getElem (by omega)⟩
    obtain ⟨ad, e0, _, hat⟩ := hin.ads.atA Addon.enc_len hai
    have hnm : (gNs g)[i]? = some a1.name := by show (g.addons.map Addon.name)[i]? = _; rw [List.getElem?_map, hai]; rfl
    refine SWP_region ?_
    first | refine pI rfl rfl ?_ | refine pu rfl rfl ?_
    refine ia (es := 6) (ad := ad) rfl rfl rfl rfl (by show Value.slice g.aa _ _ = _; rw [e0]) rfl (by omega) rfl ?_
    refine ldA (v := a1.val) rfl hat rfl rfl ?_
    refine al rfl rfl (fun B15 => ?_)
    first | refine pI rfl rfl ?_ | refine pu rfl rfl ?_
    refine swE B15 0 a1.enc rfl rfl rfl rfl rfl rfl rfl rfl ?_
    refine SL_nil (nx (SWP_seq (SWP_region ?_)))
    refine pu rfl rfl ?_
    refine lw (v := .int .i64 _) B3 3 rfl rfl rfl rfl ?_
    first | refine pI rfl rfl ?_ | refine pu rfl rfl ?_
    refine pshr (k := .i64) rfl rfl (by omega) rfl rfl ?_
    refine pu (v := .int .i64 (bits .and .i64 (((b.addons.toNat : Nat) : Int).fdiv (2 ^ (min ((i : Nat) : Int).toNat IntKind.i64.bits))) 1)) (by rw [← hadn]; rfl) rfl ?_
    rw [bit_g ha16 (by omega)]
    refine pc rfl rfl (fun c102 => ?_) (fun c102 => ?_)
    · skip
      refine SL_nil (nx (SWP_ct rfl (SWP_region ?_)))
      first | refine pL rfl rfl ?_ | refine pu rfl rfl ?_
      refine pu rfl rfl ?_
      refine lw (v := .string a1.name) B15 0 rfl rfl rfl rfl ?_
      refine bs (cs := [.string (bA (nmAt (gNs g) i))]) rfl rfl rfl (by rw [nmAt_some hnm]; rfl) rfl (fun B99 => ?_)
      refine ap (e := 9) (size := 1) (bytes := 16) rfl rfl rfl rfl rfl rfl rfl hown (List.perm_append_comm (l₁ := [_, _, _, _]) (l₂ := σe)) rfl (Rd.of_cells (.head _)) rfl rfl (by rw [flatMap_len wE_len]; omega) rfl rfl (fun v99 σ9 hown9 => ?_)
      refine SL_weak (List.Sublist.append_left (List.sublist_cons_self _ _) _) ?_
      refine SL_perm (σ' := _ :: _ :: _ :: σ9) (List.perm_append_comm (l₂ := [_, _, _])) ?_
      have hown8 : OwnS 9 1 v99 (((((lnsTok (b.lines.map Line.keyL) ++ (if b.draws ≠ 1 then [[120], decW b.draws] else [])) ++ (if b.system = true then [[115, 121, 115]] else [])) ++ (if b.addons.toNat ≠ 0 then [[42]] else [])) ++ addTokF (gNs g) b.addons.toNat 0 (i) ++ [nmAt (gNs g) i]).flatMap wE) σ9 := by rw [List.flatMap_append]; exact hown9
      obtain ⟨a5, c5, e5⟩ := hown8.lenL (by omega) wE_len
      subst e5
      first | refine pL rfl rfl ?_ | refine pu rfl rfl ?_
      refine SL_nil (nb (nx ?_))
      refine SWP_weak (List.sublist_cons_self _ _) ?_
      refine SWP_region ?_
      first | refine pw rfl rfl (w64 (by omega) (by omega)) ?_ | refine pu rfl rfl ?_
      refine pI rfl rfl ?_
      refine SL_nil (nx ?_)
      refine ⟨by repeat (first | exact Under.upds rfl (Under.hav _ _ _) | exact Under.hav _ _ _ | refine Under.upd rfl ?_ | refine Under.upds rfl ?_ | refine Under.hav2 rfl ?_), ?_, ?_⟩
      · first
          | (have e1 : ((((lnsTok (b.lines.map Line.keyL) ++ (if b.draws ≠ 1 then [[120], decW b.draws] else [])) ++ (if b.system = true then [[115, 121, 115]] else [])) ++ (if b.addons.toNat ≠ 0 then [[42]] else [])) ++ addTokF (gNs g) b.addons.toNat 0 (i)) ++ [nmAt (gNs g) i] = (((lnsTok (b.lines.map Line.keyL) ++ (if b.draws ≠ 1 then [[120], decW b.draws] else [])) ++ (if b.system = true then [[115, 121, 115]] else [])) ++ (if b.addons.toNat ≠ 0 then [[42]] else [])) ++ addTokF (gNs g) b.addons.toNat 0 (i + 1) := by rw [addTokF_snoc, if_pos (bit_is.1 (by assumption)), List.append_assoc]
             rw [e1] at hown8
             rw [e1]
             exact ⟨i + 1, a5, c5, σ9, rfl, by omega, hown8, rfl, rfl⟩)
          | (have e1 : (((lnsTok (b.lines.map Line.keyL) ++ (if b.draws ≠ 1 then [[120], decW b.draws] else [])) ++ (if b.system = true then [[115, 121, 115]] else [])) ++ (if b.addons.toNat ≠ 0 then [[42]] else [])) ++ addTokF (gNs g) b.addons.toNat 0 (i) = (((lnsTok (b.lines.map Line.keyL) ++ (if b.draws ≠ 1 then [[120], decW b.draws] else [])) ++ (if b.system = true then [[115, 121, 115]] else [])) ++ (if b.addons.toNat ≠ 0 then [[42]] else [])) ++ addTokF (gNs g) b.addons.toNat 0 (i + 1) := by rw [addTokF_snoc, if_neg (fun h => absurd (bit_is.2 h) (by assumption)), List.append_nil]
             rw [e1] at hown
             rw [e1]
             exact ⟨i + 1, a, c, σe, rfl, by omega, hown, rfl, rfl⟩)
      · simp only [L_vals, List.map, List.getD]; show g.addons.length - (i + 1) < g.addons.length - i; omega
    refine SL_nil (nx (SWP_cf rfl (SWP_skip (nb (nx ?_)))))
    refine SWP_weak (List.sublist_cons_self _ _) ?_
    refine SWP_region ?_
    first | refine pw rfl rfl (w64 (by omega) (by omega)) ?_ | refine pu rfl rfl ?_
    refine pI rfl rfl ?_
    refine SL_nil (nx ?_)
    refine ⟨by repeat (first | exact Under.upds rfl (Under.hav _ _ _) | exact Under.hav _ _ _ | refine Under.upd rfl ?_ | refine Under.upds rfl ?_ | refine Under.hav2 rfl ?_), ?_, ?_⟩
    · first
        | (have e1 : ((((lnsTok (b.lines.map Line.keyL) ++ (if b.draws ≠ 1 then [[120], decW b.draws] else [])) ++ (if b.system = true then [[115, 121, 115]] else [])) ++ (if b.addons.toNat ≠ 0 then [[42]] else [])) ++ addTokF (gNs g) b.addons.toNat 0 (i)) ++ [nmAt (gNs g) i] = (((lnsTok (b.lines.map Line.keyL) ++ (if b.draws ≠ 1 then [[120], decW b.draws] else [])) ++ (if b.system = true then [[115, 121, 115]] else [])) ++ (if b.addons.toNat ≠ 0 then [[42]] else [])) ++ addTokF (gNs g) b.addons.toNat 0 (i + 1) := by rw [addTokF_snoc, if_pos (bit_is.1 (by assumption)), List.append_assoc]
           rw [e1] at hown8
           rw [e1]
           exact ⟨i + 1, a5, c5, σ9, rfl, by omega, hown8, rfl, rfl⟩)
        | (have e1 : (((lnsTok (b.lines.map Line.keyL) ++ (if b.draws ≠ 1 then [[120], decW b.draws] else [])) ++ (if b.system = true then [[115, 121, 115]] else [])) ++ (if b.addons.toNat ≠ 0 then [[42]] else [])) ++ addTokF (gNs g) b.addons.toNat 0 (i) = (((lnsTok (b.lines.map Line.keyL) ++ (if b.draws ≠ 1 then [[120], decW b.draws] else [])) ++ (if b.system = true then [[115, 121, 115]] else [])) ++ (if b.addons.toNat ≠ 0 then [[42]] else [])) ++ addTokF (gNs g) b.addons.toNat 0 (i + 1) := by rw [addTokF_snoc, if_neg (fun h => absurd (bit_is.2 h) (by assumption)), List.append_nil]
           rw [e1] at hown
           rw [e1]
           exact ⟨i + 1, a, c, σe, rfl, by omega, hown, rfl, rfl⟩)
    · simp only [L_vals, List.map, List.getD]; show g.addons.length - (i + 1) < g.addons.length - i; omega
  refine SL_nil (nx (SWP_seq (SWP_cf rfl (SWP_exit (ne (ne (be rfl (nx (SWP_seq ?_)))))))))
  obtain rfl : i = g.addons.length := by omega
  have eT : (((lnsTok (b.lines.map Line.keyL) ++ (if b.draws ≠ 1 then [[120], decW b.draws] else [])) ++ (if b.system = true then [[115, 121, 115]] else [])) ++ (if b.addons.toNat ≠ 0 then [[42]] else [])) ++ addTokF (gNs g) b.addons.toNat 0 (g.addons.length) = toks (gNs g) b.key := by
    rw [← gNs_len g]
    show _ = lnsTok (b.lines.map Line.keyL) ++ ((if b.draws ≠ 1 then [[120], decW b.draws] else []) ++ ((if b.system = true then [[115, 121, 115]] else []) ++ ((if b.addons.toNat ≠ 0 then [[42]] else []) ++ addTokF (gNs g) b.addons.toNat 0 (gNs g).length)))
    simp only [List.append_assoc]
  rw [eT] at hown hTl
  rw [eT]
  refine SWP_region ?_
  refine SL_perm (List.perm_append_comm (l₁ := [_, _])) ?_
  refine SL_freezeL (by omega) wE_len hown (fun m9 hl9 hb9 => ?_)
  refine pu rfl rfl ?_
  refine SL_pcall rfl rfl cb27 (joinI hb9 (toks_ne (bet_sm hok)) (by omega) (by have := joinW_len (toks (gNs g) b.key) 24 (toks_short hok); omega)) rfl ?_
  first | refine pS rfl rfl ?_ | refine pu rfl rfl ?_
  first | refine pI rfl rfl ?_ | refine pu rfl rfl ?_
  refine SL_nil (nx (SWP_ret ?_))
  refine fin [_, _] ⟨rfl, rfl, trivial⟩ ?_
  unfold printL
  rw [if_pos hz, hz]
  rfl
end Go.Proofs.YtifjhpaoejageaaGreatDoor
namespace Go.Proofs.YtifjhpaoejageaaGreatDoor
open Eng
def g14T : List Tier := [⟨3, 0, 0, 0, 1, 1⟩]
def g14 (B : Nat) : Game := ⟨⟨#[97]⟩, 1, 1, 3, 3, 0, 0, 0, 1, 3, 1, 0, 0, 0, 1, 0, 0, 1, 0, 0, none, 0, [], some ⟨B, 0, none⟩, 1, g14T⟩
def T17 : List UInt8 := [49, 32, 50, 32, 51, 32, 52, 32, 47, 32, 53, 32, 54, 32, 55, 32, 56, 32, 120, 32, 50, 32, 115, 121, 115, 32, 42, 32, 112, 108, 117, 115, 32, 106, 111, 107, 101, 114]
def V17 : List UInt8 := [49, 32, 50, 32, 51, 32, 42, 32, 106, 111, 107, 101, 114, 32, 112, 108, 117, 115]
def K17 : BetM := ([([1, 2, 3, 4], []), ([5, 6, 7, 8], [])], true, 2, 3)
def ads17 (F P : Nat) : List Addon := [⟨⟨#[112, 108, 117, 115]⟩, 1, 0, some ⟨F, 0, none⟩, 1, [2], 0, none, 0, []⟩, ⟨⟨#[106, 111, 107, 101, 114]⟩, 2, 0, none, 0, [], 1, some ⟨P, 0, none⟩, 1, [5]⟩]
def g17a (B : Nat) : Game := { g14 B with of := 20 }
def g17b (B : Nat) : Game := { g17a B with system := 6 }
def g17c (B : Nat) : Game := { g17b B with draws := 3 }
def g17 (B A F P : Nat) : Game := { g17c B with aa := some ⟨A, 0, none⟩, ac := 2, addons := ads17 F P }
theorem g17_ok (B A F P : Nat) : GameOk (g17 B A F P) := by
  refine ⟨by kernel_rfl, .inl rfl, ⟨?_, ?_, ?_, ?_, ?_, ?_, ?_, ?_, ?_, ?_, ?_, ?_, ?_, ?_, ?_, ?_⟩, ⟨?_, ?_, ?_, ?_, ?_, ?_, ?_, ?_, ?_, ?_⟩, by kernel_rfl, by kernel_rfl⟩ <;> exact of_decide_eq_true (by kernel_rfl)
theorem g17_zero (B A F P : Nat) : gameErr (g17 B A F P) = 0 := by
  have h := g17_ok B A F P
  unfold gameErr
  rw [if_neg (by rw [h.name]; exact Bool.noConfusion), if_neg (by have := h.kind; omega), okE_t ⟨h.mx, h.tm⟩, if_neg (by rw [h.ad]; decide)]
  exact h.tr
theorem g17_sys (B A F P : Nat) (M : List Int) (h1 : M.length = 4) (h2 : allIn 1 20 M) (h3 : M.Nodup) : sysErr (g17 B A F P) (zLine (M, [])) = 0 := by
  have e0 : sysG (g17 B A F P) = 0 := by
    unfold sysG
    rw [if_neg (fun hh => hh (g17_zero B A F P))]
    exact if_neg (fun hh => hh rfl)
  unfold sysErr
  rw [if_neg (fun hh => hh e0)]
  rw [if_neg (fun hh => hh ⟨⟨by show (3 : Int) < (M.length : Nat); omega, by show ((M.length : Nat) : Int) ≤ 6; omega⟩, rfl⟩)]
  rw [if_neg (fun hh => hh ⟨h2, fun x hx => absurd hx (by show ¬ x ∈ ([] : List Int); simp)⟩)]
  exact if_neg (fun hh => hh ⟨h3, List.nodup_nil⟩)
theorem g17_bet (B A F P : Nat) : betErrK (g17 B A F P) K17 = 0 := by
  have s1 := g17_sys B A F P [1, 2, 3, 4] rfl (by decide) (by decide)
  have s2 := g17_sys B A F P [5, 6, 7, 8] rfl (by decide) (by decide)
  have hL : (zBet K17).lines = [zLine ([1, 2, 3, 4], []), zLine ([5, 6, 7, 8], [])] := rfl
  have c1 : canonL (g17 B A F P) (zLine ([1, 2, 3, 4], [])) = ([1, 2, 3, 4], []) := by
    show (([1, 2, 3, 4] : List Int).mergeSort leI, ([] : List Int).mergeSort leI) = _
    rw [← pw_eq (X := [1, 2, 3, 4]) (by decide) (List.Perm.refl _), List.mergeSort_nil]
  have c2 : canonL (g17 B A F P) (zLine ([5, 6, 7, 8], [])) = ([5, 6, 7, 8], []) := by
    show (([5, 6, 7, 8] : List Int).mergeSort leI, ([] : List Int).mergeSort leI) = _
    rw [← pw_eq (X := [5, 6, 7, 8]) (by decide) (List.Perm.refl _), List.mergeSort_nil]
  have e2 : lnErr (g17 B A F P) true (zBet K17).lines = 0 := by
    rw [hL]
    refine lnErr_zero.2 fun j hj => ?_
    rcases j with _ | _ | j
    · rw [lnAt_some rfl]
      refine (if_neg (fun hh => hh s1)).trans (if_neg ?_)
      simp
    · rw [lnAt_some rfl]
      refine (if_neg (fun hh => hh s2)).trans (if_neg ?_)
      show canonL _ _ ∉ [canonL _ _]
      rw [c1, c2]; decide
    · simp only [List.length_cons, List.length_nil] at hj; omega
  have e3 : totN (g17 B A F P) true (zBet K17).lines = 8 := by
    rw [hL]
    show [sizeN _ _ _, sizeN _ _ _].sum = 8
    have z1 : sizeN (g17 B A F P) true (zLine ([1, 2, 3, 4], [])) = 4 := (if_pos rfl).trans ((if_neg (fun hh => hh s1)).trans rfl)
    have z2 : sizeN (g17 B A F P) true (zLine ([5, 6, 7, 8], [])) = 4 := (if_pos rfl).trans ((if_neg (fun hh => hh s2)).trans rfl)
    rw [z1, z2]; rfl
  unfold betErrK betErr
  rw [if_neg (fun hh => hh (g17_zero B A F P)), if_neg (fun hh => hh (by rw [hL]; decide))]
  rw [if_neg (fun hh => hh e2), if_neg (by rw [show (zBet K17).system = true from rfl, e3]; decide)]
  rw [if_neg (fun hh => hh (by show (1 : Int) ≤ 2 ∧ (2 : Int) ≤ 3; decide))]
  exact if_neg (fun hh => hh (by show (0 : Int) ≤ 3 ∧ (3 : Int) < 2 ^ 2; decide))
def ns17 : List ByteArray := [⟨#[112, 108, 117, 115]⟩, ⟨#[106, 111, 107, 101, 114]⟩]
theorem ns17_of (B A F P : Nat) : (g17 B A F P).addons.map Addon.name = ns17 := rfl
theorem read17 : readM ns17 (wordsL T17) = (some K17, []) := by kernel_rfl
theorem read17b : readM ns17 (wordsL V17) = (none, [[112, 108, 117, 115]]) := by kernel_rfl
theorem parse17 (B A F P : Nat) : parseO (g17 B A F P) T17 = (K17, 0, 0) := by
  rw [parseO_4 (g17_zero B A F P) (by decide) (by rw [ns17_of]; exact read17)]
  exact if_neg (fun hh => hh (g17_bet B A F P))
theorem parse17b (B A F P : Nat) : parseO (g17 B A F P) V17 = (zK, 1, 14) := by
  rw [parseO_3 (g17_zero B A F P) (by decide) (by rw [ns17_of]; exact read17b)]
  have : posR V17 [[112, 108, 117, 115]] = 14 := by decide +kernel
  rw [this]
theorem print17 (B A F P : Nat) {b : Bet} (h : b.Is K17) : betErr (g17 B A F P) b = 0 ∧ printL (g17 B A F P) b = T17 := by
  have h1 : betErr (g17 B A F P) b = 0 := (betErr_key h).trans (g17_bet B A F P)
  refine ⟨h1, ?_⟩
  unfold printL
  rw [if_pos h1]
  have e : b.key = K17 := by
    obtain ⟨q1, q2, q3, q4⟩ := h
    unfold Bet.key
    rw [q1, q2, q3, q4]; rfl
  rw [e]
  show joinW (toks ns17 K17) = T17
  decide +kernel
theorem g17_in {m : Mem} {B A F P : Nat} (h1 : (g14 B).In m) (h2 : At m ⟨A, 0, none⟩ ((ads17 F P).flatMap Addon.enc)) (h3 : At m ⟨F, 0, none⟩ (([2] : List Int).flatMap intE)) (h4 : At m ⟨P, 0, none⟩ (([5] : List Int).flatMap intE)) : (g17 B A F P).In m :=
by
  refine ⟨RL.of_at Addon.enc_len (ads17 F P) rfl rfl h2, fun a ha => ?_, h1.trs⟩
  rcases List.mem_cons.1 ha with rfl | ha
  · exact ⟨RL.of_at intE_len [2] rfl rfl h3, RL.nil _ _⟩
  · rcases List.mem_cons.1 ha with rfl | ha
    · exact ⟨RL.nil _ _, RL.of_at intE_len [5] rfl rfl h4⟩
    · cases ha
def Bet.ki (b : Bet) : List LnK × Bool × Int × Int := (b.lines.map Line.keyL, b.system, b.draws, b.addons)
theorem ki_is {a b : Bet} {k : BetM} (ha : a.Is k) (hb : b.Is k) : a.ki = b.ki := by
  obtain ⟨a1, a2, a3, a4⟩ := ha
  obtain ⟨b1, b2, b3, b4⟩ := hb
  unfold Bet.ki
  rw [a1, a2, a3, a4, b1, b2, b3, b4]
theorem ki_ne {a b : Bet} (h : ¬ (a.lines.length = b.lines.length ∧ a.system = b.system ∧ a.draws = b.draws ∧ a.addons = b.addons)) : ¬ a.ki = b.ki := fun e => by
  unfold Bet.ki at e
  simp only [Prod.mk.injEq] at e
  refine h ⟨?_, e.2.1, e.2.2.1, e.2.2.2⟩
  have := congrArg List.length e.1
  rwa [List.length_map, List.length_map] at this
theorem ki_at {a b : Bet} {i : Nat} {x y : Line} (hx : a.lines[i]? = some x) (hy : b.lines[i]? = some y) (h : ¬ (x.main = y.main ∧ x.bonus = y.bonus)) : ¬ a.ki = b.ki := fun e => by
  unfold Bet.ki at e
  simp only [Prod.mk.injEq] at e
  have h1 := congrArg (fun z : List LnK => z[i]?) e.1
  simp only [List.getElem?_map, hx, hy, Option.map_some, Option.some.injEq] at h1
  exact h ⟨congrArg Prod.fst h1, congrArg Prod.snd h1⟩
theorem ki_eq {a b : Bet} (h0 : a.lines.length = b.lines.length) (h1 : a.system = b.system) (h2 : a.draws = b.draws) (h3 : a.addons = b.addons) (h : ∀ (i : Nat) (x y : Line), a.lines[i]? = some x → b.lines[i]? = some y → x.main = y.main ∧ x.bonus = y.bonus) : a.ki = b.ki := by
  unfold Bet.ki
  rw [h1, h2, h3]
  congr 1
  apply List.ext_getElem?
  intro i
  rw [List.getElem?_map, List.getElem?_map]
  by_cases hi : i < a.lines.length
  · obtain ⟨x, hx⟩ : ∃ x, a.lines[i]? = some x := ⟨_, List.getElem?_eq_getElem hi⟩
    obtain ⟨y, hy⟩ : ∃ y, b.lines[i]? = some y := ⟨_, List.getElem?_eq_getElem (by omega)⟩
    rw [hx, hy]
    have := h i x y hx hy
    show some (x.main, x.bonus) = some (y.main, y.bonus)
    rw [this.1, this.2]
  · rw [List.getElem?_eq_none (by omega), List.getElem?_eq_none (by omega)]
set_option maxRecDepth 100000 in
theorem game14 {m : Mem} : CallsS Tryz.prog 18 ([] : List Value).toArray [] m fun r σ' m' => σ' = [] ∧ ∃ B, r = (g14 B).val ∧ (g14 B).In m' := by
  refine CallsS.ghost (R' := fun r σ' m' => ∃ B, r = (g14 B).val ∧ (g14 B).In m') ?_ ?h2
  case h2 =>
    rintro r σ' m' hr g0 W hC
    exact ⟨_, m', hC.sublist (List.nil_sublist _), Le.refl _, rfl, hr⟩
  refine enter Tryz.func18 Tryz.ntmps18 rfl rfl ?_
  refine SWP_seq (SWP_region ?_)
  refine al rfl rfl (fun B0 => ?_)
  refine SL_nil (nx (SWP_seq (SWP_region ?_)))
  refine pu (v := .agg (Tier.enc ⟨3, 0, 0, 0, 1, 1⟩).toArray) (by kernel_rfl) rfl ?_
  refine bs (cs := (g14T).flatMap Tier.enc) rfl rfl rfl (by kernel_rfl) rfl (fun B2 => ?_)
  refine SL_freeze (fun m2 hl2 hat2 => ?_)
  refine pu (v := (g14 B2).val) (by kernel_rfl) rfl ?_
  refine swE B0 0 (g14 B2).enc (v := (g14 B2).val) rfl rfl rfl rfl (by kernel_rfl) (by kernel_rfl) (by kernel_rfl) (by kernel_rfl) ?_
  refine SL_nil (nx (SWP_ret ?_))
  refine fin [_] ⟨⟨_, _, rfl, Rd.of_cells (MemO.mem (B := B0)), rfl⟩, trivial⟩ ?_
  exact ⟨B2, by kernel_rfl, ⟨RL.nil _ _, fun a h => (by cases h), RL.of_at Tier.enc_len g14T rfl rfl hat2⟩⟩
set_option maxRecDepth 100000 in
theorem same17 {m : Mem} {a b : Bet} (ha : a.In m) (hb : b.In m) : PureCall Tryz.prog 13 [a.val, b.val] m (.bool (decide (a.ki = b.ki))) := by
  refine CallsS.pure ?_
  dsimp only [Bet.val]
  have hsm := ha.ls.small
  have hsm2 := hb.ls.small
  refine enter Tryz.func13 Tryz.ntmps13 rfl rfl ?_
  refine SWP_seq (SWP_region ?_)
  refine bx (v := .agg _) rfl rfl (fun B2 => ?_)
  refine bx (v := .agg _) rfl rfl (fun B3 => ?_)
  refine pB rfl rfl ?_
  refine SL_nil (nx (SWP_seq (SWP_seq (SWP_region ?_))))
  refine pu rfl rfl ?_
  refine lw (v := .slice _ _ _) B2 0 rfl rfl rfl rfl ?_
  refine pu rfl rfl ?_
  refine pu rfl rfl ?_
  refine lw (v := .slice _ _ _) B3 0 rfl rfl rfl rfl ?_
  refine pu rfl rfl ?_
  refine pc rfl rfl (fun c12 => ?_) (fun c12 => ?_)
  · skip
    refine pB rfl rfl ?_
    refine SL_no rfl rfl ?_
    refine SL_no rfl rfl ?_
    refine SL_no rfl rfl ?_
    refine SL_no rfl rfl ?_
    refine SL_no rfl rfl ?_
    refine pB rfl rfl ?_
    refine pB rfl rfl ?_
    refine SL_no rfl rfl ?_
    refine SL_no rfl rfl ?_
    refine SL_no rfl rfl ?_
    refine SL_no rfl rfl ?_
    refine SL_no rfl rfl ?_
    refine pB rfl rfl ?_
    refine pB rfl rfl ?_
    refine SL_no rfl rfl ?_
    refine SL_no rfl rfl ?_
    refine SL_no rfl rfl ?_
    refine SL_no rfl rfl ?_
    refine SL_no rfl rfl ?_
    refine pB rfl rfl ?_
    refine SL_nil (nx (SWP_ct rfl (SWP_seq (SWP_region ?_))))
    refine pB rfl rfl ?_
    refine SL_nil (nx (SWP_ret (nr ?_)))
    refine fin [_] ⟨rfl, trivial⟩ ?_
    refine congrArg Value.bool ?_
    first
      | exact (decide_eq_false (ki_ne (fun hh => by first | exact absurd hh.1 (by omega) | exact absurd hh.2.1 (by assumption) | exact absurd hh.2.2.1 (by assumption) | exact absurd hh.2.2.2 (by assumption)))).symm
      | exact (decide_eq_false (ki_at hx hy (of_decide_eq_false (by rw [← Bool.not_eq_true']; assumption)))).symm
      | exact (decide_eq_true (ki_eq hq.1 hq.2.1 hq.2.2.1 hq.2.2.2 (fun j x y h1 h2 => hall j x y (by have := (List.getElem?_eq_some_iff.1 h1).1; omega) h1 h2))).symm
  refine pB rfl rfl ?_
  refine SL_yes rfl ?_
  refine pu rfl rfl ?_
  refine SL_yes rfl ?_
  refine lw (v := .bool _) B2 1 rfl rfl rfl rfl ?_
  refine SL_yes rfl ?_
  refine pu rfl rfl ?_
  refine SL_yes rfl ?_
  refine lw (v := .bool _) B3 1 rfl rfl rfl rfl ?_
  refine SL_yes rfl ?_
  refine pc rfl rfl (fun c18 => ?_) (fun c18 => ?_)
  · skip
    refine pB rfl rfl ?_
    refine pB rfl rfl ?_
    refine SL_no rfl rfl ?_
    refine SL_no rfl rfl ?_
    refine SL_no rfl rfl ?_
    refine SL_no rfl rfl ?_
    refine SL_no rfl rfl ?_
    refine pB rfl rfl ?_
    refine pB rfl rfl ?_
    refine SL_no rfl rfl ?_
    refine SL_no rfl rfl ?_
    refine SL_no rfl rfl ?_
    refine SL_no rfl rfl ?_
    refine SL_no rfl rfl ?_
    refine pB rfl rfl ?_
    refine SL_nil (nx (SWP_ct rfl (SWP_seq (SWP_region ?_))))
    refine pB rfl rfl ?_
    refine SL_nil (nx (SWP_ret (nr ?_)))
    refine fin [_] ⟨rfl, trivial⟩ ?_
    refine congrArg Value.bool ?_
    first
      | exact (decide_eq_false (ki_ne (fun hh => by first | exact absurd hh.1 (by omega) | exact absurd hh.2.1 (by assumption) | exact absurd hh.2.2.1 (by assumption) | exact absurd hh.2.2.2 (by assumption)))).symm
      | exact (decide_eq_false (ki_at hx hy (of_decide_eq_false (by rw [← Bool.not_eq_true']; assumption)))).symm
      | exact (decide_eq_true (ki_eq hq.1 hq.2.1 hq.2.2.1 hq.2.2.2 (fun j x y h1 h2 => hall j x y (by have := (List.getElem?_eq_some_iff.1 h1).1; omega) h1 h2))).symm
  refine pB rfl rfl ?_
  refine pB rfl rfl ?_
  refine SL_yes rfl ?_
  refine pu rfl rfl ?_
  refine SL_yes rfl ?_
  refine lw (v := .int .i64 _) B2 2 rfl rfl rfl rfl ?_
  refine SL_yes rfl ?_
  refine pu rfl rfl ?_
  refine SL_yes rfl ?_
  refine lw (v := .int .i64 _) B3 2 rfl rfl rfl rfl ?_
  refine SL_yes rfl ?_
  refine pc rfl rfl (fun c25 => ?_) (fun c25 => ?_)
  · skip
    refine pB rfl rfl ?_
    refine pB rfl rfl ?_
    refine SL_no rfl rfl ?_
    refine SL_no rfl rfl ?_
    refine SL_no rfl rfl ?_
    refine SL_no rfl rfl ?_
    refine SL_no rfl rfl ?_
    refine pB rfl rfl ?_
    refine SL_nil (nx (SWP_ct rfl (SWP_seq (SWP_region ?_))))
    refine pB rfl rfl ?_
    refine SL_nil (nx (SWP_ret (nr ?_)))
    refine fin [_] ⟨rfl, trivial⟩ ?_
    refine congrArg Value.bool ?_
    first
      | exact (decide_eq_false (ki_ne (fun hh => by first | exact absurd hh.1 (by omega) | exact absurd hh.2.1 (by assumption) | exact absurd hh.2.2.1 (by assumption) | exact absurd hh.2.2.2 (by assumption)))).symm
      | exact (decide_eq_false (ki_at hx hy (of_decide_eq_false (by rw [← Bool.not_eq_true']; assumption)))).symm
      | exact (decide_eq_true (ki_eq hq.1 hq.2.1 hq.2.2.1 hq.2.2.2 (fun j x y h1 h2 => hall j x y (by have := (List.getElem?_eq_some_iff.1 h1).1; omega) h1 h2))).symm
  refine pB rfl rfl ?_
  refine pB rfl rfl ?_
  refine SL_yes rfl ?_
  refine pu rfl rfl ?_
  refine SL_yes rfl ?_
  refine lw (v := .int .i64 _) B2 3 rfl rfl rfl rfl ?_
  refine SL_yes rfl ?_
  refine pu rfl rfl ?_
  refine SL_yes rfl ?_
  refine lw (v := .int .i64 _) B3 3 rfl rfl rfl rfl ?_
  refine SL_yes rfl ?_
  refine pc rfl rfl (fun c32 => ?_) (fun c32 => ?_)
  · skip
    refine pB rfl rfl ?_
    refine SL_nil (nx (SWP_ct rfl (SWP_seq (SWP_region ?_))))
    refine pB rfl rfl ?_
    refine SL_nil (nx (SWP_ret (nr ?_)))
    refine fin [_] ⟨rfl, trivial⟩ ?_
    refine congrArg Value.bool ?_
    first
      | exact (decide_eq_false (ki_ne (fun hh => by first | exact absurd hh.1 (by omega) | exact absurd hh.2.1 (by assumption) | exact absurd hh.2.2.1 (by assumption) | exact absurd hh.2.2.2 (by assumption)))).symm
      | exact (decide_eq_false (ki_at hx hy (of_decide_eq_false (by rw [← Bool.not_eq_true']; assumption)))).symm
      | exact (decide_eq_true (ki_eq hq.1 hq.2.1 hq.2.2.1 hq.2.2.2 (fun j x y h1 h2 => hall j x y (by have := (List.getElem?_eq_some_iff.1 h1).1; omega) h1 h2))).symm
  refine pB rfl rfl ?_
  refine SL_nil (nx (SWP_cf rfl (SWP_skip (nx (SWP_seq (SWP_seq ?_))))))
  have hq : a.lines.length = b.lines.length ∧ a.system = b.system ∧ a.draws = b.draws ∧ a.addons = b.addons := ⟨by omega, Classical.not_not.1 (by assumption), Classical.not_not.1 (by assumption), Classical.not_not.1 (by assumption)⟩
  refine SWP_region ?_
  refine pu rfl rfl ?_
  refine lw (v := .slice _ _ _) B2 0 rfl rfl rfl rfl ?_
  refine pu rfl rfl ?_
  refine pI rfl rfl ?_
  refine SL_nil (nx (SWP_block ?_))
  refine SWP_loop [4, 5, 37, 38, 39, 40, 41, 42, 43, 44, 45, 46, 47, 48, 49, 50, 51, 52] [37]
      (fun vs σ' m' => ∃ (i : Nat), vs = [.int .i64 (i : Nat)] ∧ i ≤ a.lines.length ∧ (∀ j x y, j < i → a.lines[j]? = some x → b.lines[j]? = some y → x.main = y.main ∧ x.bonus = y.bonus) ∧ σ' = [(B3, Cells 30 b.enc), (B2, Cells 30 a.enc)] ∧ m = m')
      (fun vs => a.lines.length - nOf (vs.getD 0 undef)) rfl ?_ ?_
  · exact ⟨0, rfl, by omega, fun j x y hj => (by omega), rfl, rfl⟩
  intro u0 vs0 σ0 m0 hJ0 _
  obtain ⟨i, rfl, hi, hall, rfl, rfl⟩ := hJ0
  refine SWP_seq (SWP_region ?_)
  refine pc rfl rfl (fun c38 => ?_) (fun c38 => ?_)
  · skip
    refine SL_nil (nx (SWP_seq (SWP_ct rfl (SWP_skip (nx (SWP_seq (SWP_block (SWP_seq (SWP_region ?_)))))))))
    first | refine pI rfl rfl ?_ | refine pu rfl rfl ?_
    first | refine pI rfl rfl ?_ | refine pu rfl rfl ?_
    refine SL_nil (nx (SWP_seq ?_))
    obtain ⟨x, hx⟩ : ∃ x, a.lines[i]? = some x := ⟨_, List.getElem?_eq_getElem (by omega)⟩
    obtain ⟨y, hy⟩ : ∃ y, b.lines[i]? = some y := ⟨_, List.getElem?_eq_getElem (by omega)⟩
    obtain ⟨ad, e0, _, hat⟩ := ha.ls.atA Line.enc_len hx
    obtain ⟨ad2, e2, _, hat2⟩ := hb.ls.atA Line.enc_len hy
    refine SWP_draws (by kernel_rfl) (by kernel_rfl) ?_
    refine pu rfl rfl ?_
    refine lw (v := .slice _ _ _) B2 0 rfl rfl rfl rfl ?_
    first | refine pI rfl rfl ?_ | refine pu rfl rfl ?_
    refine ia (es := 2) (ad := ad) rfl rfl rfl rfl (by show Value.slice a.la _ _ = _; rw [e0]) rfl (by omega) rfl ?_
    refine ldA (v := x.val) rfl hat rfl rfl ?_
    refine pu rfl rfl ?_
    refine lw (v := .slice _ _ _) B3 0 rfl rfl rfl rfl ?_
    first | refine pI rfl rfl ?_ | refine pu rfl rfl ?_
    refine ia (es := 2) (ad := ad2) rfl rfl rfl rfl (by show Value.slice b.la _ _ = _; rw [e2]) rfl (by omega) rfl ?_
    refine ldA (v := y.val) rfl hat2 rfl rfl ?_
    refine SL_pcall rfl rfl cb25 (sameLR (ha.each x (List.mem_of_getElem? hx)) (hb.each y (List.mem_of_getElem? hy))) rfl ?_
    refine pu (v := .bool (!decide (x.main = y.main ∧ x.bonus = y.bonus))) rfl rfl ?_
    refine bsp 51 rfl (fun b51 => ?_) (fun b51 => ?_)
    · skip
      refine SL_nil (nx (SWP_ct rfl (SWP_seq (SWP_region ?_))))
      refine pB rfl rfl ?_
      refine SL_nil (nx (SWP_ret (br (nr (nr (br (nr ?_)))))))
      refine fin [_] ⟨rfl, trivial⟩ ?_
      refine congrArg Value.bool ?_
      first
        | exact (decide_eq_false (ki_ne (fun hh => by first | exact absurd hh.1 (by omega) | exact absurd hh.2.1 (by assumption) | exact absurd hh.2.2.1 (by assumption) | exact absurd hh.2.2.2 (by assumption)))).symm
        | exact (decide_eq_false (ki_at hx hy (of_decide_eq_false (by rw [← Bool.not_eq_true']; assumption)))).symm
        | exact (decide_eq_true (ki_eq hq.1 hq.2.1 hq.2.2.1 hq.2.2.2 (fun j x y h1 h2 => hall j x y (by have := (List.getElem?_eq_some_iff.1 h1).1; omega) h1 h2))).symm
    refine SL_nil (nx (SWP_cf rfl (SWP_skip (nb (nx (SWP_region ?_))))))
    first | refine pw rfl rfl (w64 (by omega) (by omega)) ?_ | refine pu rfl rfl ?_
    refine pI rfl rfl ?_
    refine SL_nil (nx ?_)
    refine ⟨by repeat (first | exact Under.upds rfl (Under.hav _ _ _) | exact Under.hav _ _ _ | refine Under.upd rfl ?_), ?_, ?_⟩
    · refine ⟨i + 1, rfl, by omega, fun j x' y' hj h1 h2 => ?_, rfl, rfl⟩
      by_cases e : j = i
      · subst e
        rw [hx] at h1; rw [hy] at h2
        cases h1; cases h2
        exact of_decide_eq_true (by rw [← Bool.not_eq_false']; assumption)
      · exact hall j x' y' (by omega) h1 h2
    · simp only [L_vals, List.map, List.getD]; show a.lines.length - (i + 1) < a.lines.length - i; omega
  refine SL_nil (nx (SWP_seq (SWP_cf rfl (SWP_exit (ne (ne (be rfl (nx (SWP_seq (SWP_region ?_))))))))))
  refine pB rfl rfl ?_
  refine SL_nil (nx (SWP_ret ?_))
  refine fin [_] ⟨rfl, trivial⟩ ?_
  refine congrArg Value.bool ?_
  first
    | exact (decide_eq_false (ki_ne (fun hh => by first | exact absurd hh.1 (by omega) | exact absurd hh.2.1 (by assumption) | exact absurd hh.2.2.1 (by assumption) | exact absurd hh.2.2.2 (by assumption)))).symm
    | exact (decide_eq_false (ki_at hx hy (of_decide_eq_false (by rw [← Bool.not_eq_true']; assumption)))).symm
    | exact (decide_eq_true (ki_eq hq.1 hq.2.1 hq.2.2.1 hq.2.2.2 (fun j x y h1 h2 => hall j x y (by have := (List.getElem?_eq_some_iff.1 h1).1; omega) h1 h2))).symm
set_option maxRecDepth 100000 in
theorem few17 {m : Mem} {g : Game} (hin : g.In m) : CallsS Tryz.prog 9 [g.val].toArray [] m fun r _ _ => ∃ b, r = .bool b := by
  dsimp only [Game.val]
  have hsm := hin.ads.small
  refine enter Tryz.func9 Tryz.ntmps9 rfl rfl ?_
  refine SWP_seq (SWP_region ?_)
  refine bx (v := .agg _) rfl rfl (fun B1 => ?_)
  refine pB rfl rfl ?_
  refine SL_nil (nx (SWP_seq (SWP_seq (SWP_region ?_))))
  refine pu rfl rfl ?_
  refine lw (v := .slice _ _ _) B1 20 rfl rfl rfl rfl ?_
  refine pu rfl rfl ?_
  refine pc rfl rfl (fun c7 => ?_) (fun c7 => ?_)
  · skip
    refine pB rfl rfl ?_
    refine SL_no rfl rfl ?_
    refine SL_no rfl rfl ?_
    refine SL_no rfl rfl ?_
    refine SL_no rfl rfl ?_
    refine pB rfl rfl ?_
    refine SL_nil (nx (SWP_ct rfl (SWP_seq (SWP_region ?_))))
    refine pB rfl rfl ?_
    refine SL_nil (nx (SWP_ret (nr ?_)))
    refine fin [_] ⟨rfl, trivial⟩ ?_
    exact ⟨_, rfl⟩
  refine pB rfl rfl ?_
  refine SL_yes rfl ?_
  refine pu rfl rfl ?_
  refine SL_yes rfl ?_
  refine lw (v := .slice _ _ _) B1 21 rfl rfl rfl rfl ?_
  refine SL_yes rfl ?_
  refine pu rfl rfl ?_
  refine SL_yes rfl ?_
  refine pc rfl rfl (fun c12 => ?_) (fun c12 => ?_)
  · skip
    refine pB rfl rfl ?_
    refine SL_nil (nx (SWP_ct rfl (SWP_seq (SWP_region ?_))))
    refine pB rfl rfl ?_
    refine SL_nil (nx (SWP_ret (nr ?_)))
    refine fin [_] ⟨rfl, trivial⟩ ?_
    exact ⟨_, rfl⟩
  refine pB rfl rfl ?_
  refine SL_nil (nx (SWP_cf rfl (SWP_skip (nx (SWP_seq (SWP_seq (SWP_region ?_)))))))
  refine pu rfl rfl ?_
  refine lw (v := .slice _ _ _) B1 20 rfl rfl rfl rfl ?_
  refine pu rfl rfl ?_
  refine pI rfl rfl ?_
  refine SL_nil (nx (SWP_block ?_))
  refine SWP_loop [2, 3, 17, 18, 19, 20, 21, 22, 23, 24, 25, 26, 27, 28, 29, 30, 31, 32, 33, 34, 35, 36, 37, 38] [17]
      (fun vs σ' m' => ∃ (i : Nat), vs = [.int .i64 (i : Nat)] ∧ i ≤ g.addons.length ∧ σ' = [(B1, Cells 25 g.enc)] ∧ m = m')
      (fun vs => g.addons.length - nOf (vs.getD 0 undef)) rfl ?_ ?_
  · exact ⟨0, rfl, by omega, rfl, rfl⟩
  intro u0 vs0 σ0 m0 hJ0 _
  obtain ⟨i, rfl, hi, rfl, rfl⟩ := hJ0
  refine SWP_seq (SWP_region ?_)
  refine pc rfl rfl (fun c18 => ?_) (fun c18 => ?_)
  · skip
    refine SL_nil (nx (SWP_seq (SWP_ct rfl (SWP_skip (nx (SWP_seq (SWP_block (SWP_seq (SWP_region ?_)))))))))
    first | refine pI rfl rfl ?_ | refine pu rfl rfl ?_
    first | refine pI rfl rfl ?_ | refine pu rfl rfl ?_
    refine SL_nil (nx (SWP_seq ?_))
    obtain ⟨a, ha⟩ : ∃ a, g.addons[i]? = some a := ⟨_, List.getElem?_eq_getElem (by omega)⟩
    obtain ⟨ad, e0, _, hat⟩ := hin.ads.atA Addon.enc_len ha
    refine SWP_region ?_
    refine pu rfl rfl ?_
    refine lw (v := .slice _ _ _) B1 20 rfl rfl rfl rfl ?_
    first | refine pI rfl rfl ?_ | refine pu rfl rfl ?_
    refine ia (es := 6) (ad := ad) rfl rfl rfl rfl (by show Value.slice g.aa _ _ = _; rw [e0]) rfl (by omega) rfl ?_
    refine pu rfl rfl ?_
    refine ldF (v := .slice _ _ _) rfl rfl (by assumption) rfl rfl ?_
    refine pu rfl rfl ?_
    refine pc rfl rfl (fun c27 => ?_) (fun c27 => ?_)
    · skip
      refine pB rfl rfl ?_
      refine SL_no rfl rfl ?_
      refine SL_no rfl rfl ?_
      refine SL_no rfl rfl ?_
      refine SL_no rfl rfl ?_
      refine SL_no rfl rfl ?_
      refine SL_no rfl rfl ?_
      refine SL_no rfl rfl ?_
      refine SL_no rfl rfl ?_
      refine pB rfl rfl ?_
      refine SL_nil (nx (SWP_ct rfl (SWP_seq (SWP_region ?_))))
      refine pB rfl rfl ?_
      refine SL_nil (nx (SWP_ret (br (nr (nr (br (nr ?_)))))))
      refine fin [_] ⟨rfl, trivial⟩ ?_
      exact ⟨_, rfl⟩
    refine pB rfl rfl ?_
    refine SL_yes rfl ?_
    refine pu rfl rfl ?_
    refine SL_yes rfl ?_
    refine lw (v := .slice _ _ _) B1 20 rfl rfl rfl rfl ?_
    refine SL_yes rfl ?_
    first | refine pI rfl rfl ?_ | refine pu rfl rfl ?_
    refine SL_yes rfl ?_
    refine ia (es := 6) (ad := ad) rfl rfl rfl rfl (by show Value.slice g.aa _ _ = _; rw [e0]) rfl (by omega) rfl ?_
    refine SL_yes rfl ?_
    refine pu rfl rfl ?_
    refine SL_yes rfl ?_
    refine ldF (v := .slice _ _ _) rfl rfl (by assumption) rfl rfl ?_
    refine SL_yes rfl ?_
    refine pu rfl rfl ?_
    refine SL_yes rfl ?_
    refine pc rfl rfl (fun c36 => ?_) (fun c36 => ?_)
    · skip
      refine pB rfl rfl ?_
      refine SL_nil (nx (SWP_ct rfl (SWP_seq (SWP_region ?_))))
      refine pB rfl rfl ?_
      refine SL_nil (nx (SWP_ret (br (nr (nr (br (nr ?_)))))))
      refine fin [_] ⟨rfl, trivial⟩ ?_
      exact ⟨_, rfl⟩
    refine pB rfl rfl ?_
    refine SL_nil (nx (SWP_cf rfl (SWP_skip (nb (nx (SWP_region ?_))))))
    first | refine pw rfl rfl (w64 (by omega) (by omega)) ?_ | refine pu rfl rfl ?_
    refine pI rfl rfl ?_
    refine SL_nil (nx ?_)
    refine ⟨by repeat (first | exact Under.upds rfl (Under.hav _ _ _) | exact Under.hav _ _ _ | refine Under.upd rfl ?_), ?_, ?_⟩
    · exact ⟨i + 1, rfl, by omega, rfl, rfl⟩
    · simp only [L_vals, List.map, List.getD]; show g.addons.length - (i + 1) < g.addons.length - i; omega
  refine SL_nil (nx (SWP_seq (SWP_cf rfl (SWP_exit (ne (ne (be rfl (nx (SWP_seq (SWP_region ?_))))))))))
  refine pB rfl rfl ?_
  refine SL_nil (nx (SWP_ret ?_))
  refine fin [_] ⟨rfl, trivial⟩ ?_
  exact ⟨_, rfl⟩
set_option maxRecDepth 100000 in
set_option maxHeartbeats 800000 in
theorem lives17 {m : Mem} : PureCall Tryz.prog 10 [] m (.bool true) := by
  refine CallsS.pure ?_
  refine enter Tryz.func10 Tryz.ntmps10 rfl rfl ?_
  refine SWP_seq (SWP_region ?_)
  refine pB rfl rfl ?_
  refine SL_nil (nx (SWP_seq (SWP_region ?_)))
  refine SL_call rfl rfl cb18 (game14) rfl (fun v1_0 σ1_0 m1_0 hl1_0 hR1_0 => ?_)
  obtain ⟨rfl, BG, rfl, hinG⟩ := hR1_0
  refine al rfl rfl (fun B1 => ?_)
  refine swE B1 0 (g14 BG).enc (v := (g14 BG).val) rfl rfl rfl rfl (by kernel_rfl) (by kernel_rfl) (by kernel_rfl) (by kernel_rfl) ?_
  refine SL_nil (nx (SWP_seq (SWP_region ?_)))
  refine pu rfl rfl ?_
  refine swE B1 4 (g17a BG).enc (v := .int .i64 20) rfl rfl rfl rfl rfl rfl rfl rfl ?_
  refine pu rfl rfl ?_
  refine swE B1 9 (g17b BG).enc (v := .int .i64 6) rfl rfl rfl rfl rfl rfl rfl rfl ?_
  refine pu rfl rfl ?_
  refine swE B1 8 (g17c BG).enc (v := .int .i64 3) rfl rfl rfl rfl rfl rfl rfl rfl ?_
  refine SL_nil (nx (SWP_seq (SWP_region ?_)))
  refine bs (cs := (([2] : List Int)).flatMap intE) rfl rfl rfl (by kernel_rfl) rfl (fun B14 => ?_)
  refine SL_freeze (fun m14 hl14 hat14 => ?_)
  refine pu (v := .agg #[.string ⟨#[112, 108, 117, 115]⟩, .int .i64 1, .int .i64 0, .slice (some ⟨B14, 0, none⟩) 1 1, .int .i64 0, .slice none 0 0]) (by kernel_rfl) rfl ?_
  refine bs (cs := (([5] : List Int)).flatMap intE) rfl rfl rfl (by kernel_rfl) rfl (fun B16 => ?_)
  refine SL_freeze (fun m16 hl16 hat16 => ?_)
  refine pu (v := .agg #[.string ⟨#[106, 111, 107, 101, 114]⟩, .int .i64 2, .int .i64 0, .slice none 0 0, .int .i64 1, .slice (some ⟨B16, 0, none⟩) 1 1]) (by kernel_rfl) rfl ?_
  refine bs (cs := ((ads17 B14 B16)).flatMap Addon.enc) rfl rfl rfl (by kernel_rfl) rfl (fun B18 => ?_)
  refine SL_freeze (fun m18 hl18 hat18 => ?_)
  refine pu rfl rfl ?_
  refine swE B1 20 (g17 BG B18 B14 B16).enc (v := .slice (some ⟨B18, 0, none⟩) 2 2) rfl rfl rfl rfl rfl rfl rfl rfl ?_
  have hin17 : (g17 BG B18 B14 B16).In m18 := g17_in ((((hinG.mono hl14).mono hl16)).mono hl18) hat18 ((hat14.mono hl16).mono hl18) (hat16.mono hl18)
  refine SL_nil (nx (SWP_seq (SWP_region ?_)))
  refine lw (v := (g17 BG B18 B14 B16).val) B1 0 rfl rfl rfl rfl ?_
  refine SL_call rfl rfl cb11 (CallsS.frame0 (parseS hin17 T17 (by decide))) rfl (fun v4_1 σ4_1 m4_1 hl4_1 hR4_1 => ?_)
  obtain ⟨σa, rfl, rfl, bt, rfl, hbt, his⟩ := hR4_1
  rw [parse17] at his
  rw [parse17]
  rw [List.nil_append]
  have hpr := print17 BG B18 B14 B16 his
  obtain ⟨la, lc, L, s, d, ad0⟩ := bt
  obtain ⟨hk1, hk2, hk3, hk4⟩ := his
  obtain rfl : s = true := hk2
  obtain rfl : d = 2 := hk3
  obtain rfl : ad0 = 3 := hk4
  have hk1 : L.map Line.keyL = [([1, 2, 3, 4], []), ([5, 6, 7, 8], [])] := hk1
  dsimp only [Bet.val]
  have hL2 : L.length = 2 := by have h9 := congrArg List.length hk1; rw [List.length_map] at h9; exact h9
  obtain ⟨x, hx⟩ : ∃ x, L[1]? = some x := ⟨_, List.getElem?_eq_getElem (by omega)⟩
  have hx4 : x.main.length = 4 := by
    have h9 := congrArg (fun z : List LnK => z[1]?) hk1
    simp only [List.getElem?_map, hx, Option.map_some] at h9
    have h8 := congrArg Prod.fst (Option.some.inj h9)
    exact congrArg List.length h8
  obtain ⟨ad, e0, _, hat⟩ := hbt.ls.atA Line.enc_len hx
  refine pu rfl rfl ?_
  first | refine pA rfl rfl ?_ | refine pu rfl rfl ?_
  first | refine pI rfl rfl ?_ | refine pu rfl rfl ?_
  first | refine pI rfl rfl ?_ | refine pu rfl rfl ?_
  refine al rfl rfl (fun B2 => ?_)
  refine swE B2 0 [.slice la L.length lc, .bool true, .int .i64 2, .int .i64 3] (v := .agg #[.slice la L.length lc, .bool true, .int .i64 2, .int .i64 3]) rfl rfl rfl rfl rfl rfl rfl rfl ?_
  first | refine pI rfl rfl ?_ | refine pu rfl rfl ?_
  first | refine pI rfl rfl ?_ | refine pu rfl rfl ?_
  refine SL_nil (nx (SWP_seq (SWP_seq (SWP_region ?_))))
  first | refine pI rfl rfl ?_ | refine pu rfl rfl ?_
  refine pn rfl rfl (fun hh => hh rfl) ?_
  refine pB rfl rfl ?_
  refine SL_yes rfl ?_
  first | refine pI rfl rfl ?_ | refine pu rfl rfl ?_
  refine SL_yes rfl ?_
  refine pn rfl rfl (fun hh => hh rfl) ?_
  refine pB rfl rfl ?_
  refine pB rfl rfl ?_
  refine SL_yes rfl ?_
  refine pu rfl rfl ?_
  refine SL_yes rfl ?_
  refine lw (v := .bool true) B2 1 rfl rfl rfl rfl ?_
  refine SL_yes rfl ?_
  refine pB rfl rfl ?_
  refine pB rfl rfl ?_
  refine pB rfl rfl ?_
  refine SL_yes rfl ?_
  refine pu rfl rfl ?_
  refine SL_yes rfl ?_
  refine lw (v := .int .i64 _) B2 2 rfl rfl rfl rfl ?_
  refine SL_yes rfl ?_
  refine pn rfl rfl (fun hh => hh rfl) ?_
  refine pB rfl rfl ?_
  refine pB rfl rfl ?_
  refine SL_yes rfl ?_
  refine pu rfl rfl ?_
  refine SL_yes rfl ?_
  refine lw (v := .int .i64 _) B2 3 rfl rfl rfl rfl ?_
  refine SL_yes rfl ?_
  refine pn rfl rfl (fun hh => hh rfl) ?_
  refine pB rfl rfl ?_
  refine pB rfl rfl ?_
  refine SL_yes rfl ?_
  refine pu rfl rfl ?_
  refine SL_yes rfl ?_
  refine lw (v := .slice _ _ _) B2 0 rfl rfl rfl rfl ?_
  refine SL_yes rfl ?_
  refine pu rfl rfl ?_
  refine SL_yes rfl ?_
  refine pn rfl rfl (by omega) ?_
  refine pB rfl rfl ?_
  refine pB rfl rfl ?_
  refine SL_yes rfl ?_
  refine pu rfl rfl ?_
  refine SL_yes rfl ?_
  refine lw (v := .slice _ _ _) B2 0 rfl rfl rfl rfl ?_
  refine SL_yes rfl ?_
  refine ia (es := 2) (k := 1) (ad := ad) rfl rfl rfl rfl (by show Value.slice la _ _ = _; rw [show la = some ad from e0]) rfl (by omega) rfl ?_
  refine SL_yes rfl ?_
  refine pu rfl rfl ?_
  refine SL_yes rfl ?_
  refine ldF (v := .slice x.ma x.main.length x.mc) rfl rfl hat rfl rfl ?_
  refine SL_yes rfl ?_
  refine pu rfl rfl ?_
  refine SL_yes rfl ?_
  refine pn rfl rfl (by omega) ?_
  refine pB rfl rfl ?_
  refine SL_nil (nx (SWP_cf rfl (SWP_skip (nx (SWP_seq (SWP_region ?_))))))
  refine lw (v := (g17 BG B18 B14 B16).val) B1 0 rfl rfl rfl rfl ?_
  refine lw (v := (Bet.mk la lc L true 2 3).val) B2 0 rfl rfl rfl rfl ?_
  refine SL_pcall rfl rfl cb15 (printG (hin17.mono hl4_1) hbt) rfl ?_
  rw [hpr.1, hpr.2]
  refine pu rfl rfl ?_
  first | refine pS rfl rfl ?_ | refine pu rfl rfl ?_
  first | refine pI rfl rfl ?_ | refine pu rfl rfl ?_
  first | refine pS rfl rfl ?_ | refine pu rfl rfl ?_
  first | refine pI rfl rfl ?_ | refine pu rfl rfl ?_
  refine SL_nil (nx (SWP_seq (SWP_region ?_)))
  refine lw (v := (g17 BG B18 B14 B16).val) B1 0 rfl rfl rfl rfl ?_
  refine SL_call rfl rfl cb11 (CallsS.frame0 (parseS (hin17.mono hl4_1) V17 (by decide))) rfl (fun v8_1 σ8_1 m8_1 hl8_1 hR8_1 => ?_)
  obtain ⟨σa, rfl, rfl, bt2, rfl, hbt2, his2⟩ := hR8_1
  rw [parse17b]
  rw [List.nil_append]
  refine pu rfl rfl ?_
  first | refine pA rfl rfl ?_ | refine pu rfl rfl ?_
  first | refine pI rfl rfl ?_ | refine pu rfl rfl ?_
  first | refine pI rfl rfl ?_ | refine pu rfl rfl ?_
  refine al rfl rfl (fun B7 => ?_)
  refine swE B7 0 bt2.enc (v := bt2.val) rfl rfl rfl rfl rfl rfl rfl rfl ?_
  first | refine pI rfl rfl ?_ | refine pu rfl rfl ?_
  first | refine pI rfl rfl ?_ | refine pu rfl rfl ?_
  refine SL_nil (nx (SWP_seq (SWP_region ?_)))
  first | refine pI rfl rfl ?_ | refine pu rfl rfl ?_
  refine pt rfl rfl (rfl) ?_
  refine pB rfl rfl ?_
  refine SL_yes rfl ?_
  first | refine pS rfl rfl ?_ | refine pu rfl rfl ?_
  refine SL_yes rfl ?_
  refine pt rfl rfl (rfl) ?_
  refine pB rfl rfl ?_
  refine pB rfl rfl ?_
  refine SL_yes rfl ?_
  first | refine pI rfl rfl ?_ | refine pu rfl rfl ?_
  refine SL_yes rfl ?_
  refine pt rfl rfl (rfl) ?_
  refine pB rfl rfl ?_
  refine pB rfl rfl ?_
  refine SL_yes rfl ?_
  first | refine pI rfl rfl ?_ | refine pu rfl rfl ?_
  refine SL_yes rfl ?_
  refine pt rfl rfl (rfl) ?_
  refine pB rfl rfl ?_
  refine pB rfl rfl ?_
  refine SL_nil (nx (SWP_ret ?_))
  refine fin [_] ⟨rfl, trivial⟩ ?_
  rfl
end Go.Proofs.YtifjhpaoejageaaGreatDoor
namespace Go.Proofs.YtifjhpaoejageaaGreatDoor
open Eng
theorem lnsTok_le : ∀ (L : List LnK), (∀ x ∈ L, (lnTok x).length ≤ 19) → (lnsTok L).length ≤ 20 * L.length
  | [], _ => Nat.le_refl _
  | [x], h => by have := h x (List.mem_cons_self ..); show (lnTok x).length ≤ 20 * 1; omega
  | x :: y :: r, h => by
    have ih := lnsTok_le (y :: r) (fun z hz => h z (List.mem_cons_of_mem _ hz))
    have := h x (List.mem_cons_self ..)
    rw [lnsTok_cons x (by simp), List.length_append, List.length_cons]
    simp only [List.length_cons] at *
    omega
theorem toks_few {g : Game} {b : Bet} (h : BetOk g b) : (toks (gNs g) b.key).length ≤ 328 := by
  have h1 : (lnsTok b.key.1).length ≤ 20 * b.key.1.length := lnsTok_le _ (fun x hx => by
    obtain ⟨y, hy, rfl⟩ := List.mem_map.1 (show x ∈ b.lines.map Line.keyL from hx)
    exact lnTok_le (h.ls y hy).2.1 (h.ls y hy).2.2)
  have h2 : b.key.1.length = b.lines.length := List.length_map ..
  have h3 := h.ln
  have h4 : (addTok (gNs g) b.key.2.2.2).length ≤ (gNs g).length := addTokF_le _ _ _
  have h5 := addons_few (gameOk h.g0)
  have h6 := gNs_len g
  unfold toks tailTok
  simp only [List.length_append]
  have e1 := ite_len (c := b.key.2.2.1 ≠ 1) (l := [[120], decW b.key.2.2.1]) (n := 2) (Nat.le_refl _)
  have e2 := ite_len (c := b.key.2.1 = true) (l := [[115, 121, 115]]) (n := 1) (Nat.le_refl _)
  have e3 := ite_len (c := b.key.2.2.2 ≠ 0) (l := [[42]]) (n := 1) (Nat.le_refl _)
  omega
theorem toks_size {g : Game} {b : Bet} (h : BetOk g b) : (joinW (toks (gNs g) b.key)).length ≤ 8200 := by
  have h1 := joinW_len _ 24 (toks_short h)
  have h2 := toks_few h
  omega
theorem key_is {g : Game} {b : Bet} (h : BetOk g b) : b.Is b.key := ⟨rfl, rfl, rfl, by have := h.ad; show b.addons = ((b.addons.toNat : Nat) : Int); omega⟩
theorem names_ns {g : Game} (h : GameOk g) : ∀ w ∈ gNs g, (32 : UInt8) ∉ w.data.toList := fun w hw => (name_ns (gNs_name h w hw)).1
theorem printL_ok {g : Game} {b : Bet} (h : betErr g b = 0) : printL g b = joinW (toks (gNs g) b.key) := by unfold printL; exact if_pos h
theorem round_trip {g : Game} {b : Bet} (h : betErr g b = 0) : parseO g (printL g b) = (b.key, 0, 0) := by
  have ho := betOk h
  have hg := gameOk ho.g0
  have hs := bet_sm ho
  have hsz := toks_size ho
  rw [printL_ok h]
  have hr : readM (g.addons.map Addon.name) (wordsL (joinW (toks (gNs g) b.key))) = (some b.key, []) := by
    rw [words_toks (names_ns hg) hs]
    exact readM_tok (gNs_dis hg) hs
  rw [parseO_4 ho.g0 (by omega) hr]
  exact if_neg (fun hh => hh ((betErr_key (key_is ho)).symm.trans h))
theorem apart {g : Game} {a b : Bet} (ha : betErr g a = 0) (hb : betErr g b = 0) : bA (printL g a) = bA (printL g b) ↔ a.ki = b.ki := by
  rw [bA_inj]
  constructor
  · intro h
    have h1 := round_trip ha
    have h2 := round_trip hb
    rw [h, h2] at h1
    have hk : b.key = a.key := congrArg Prod.fst h1
    exact ki_is (key_is (betOk ha)) (by rw [← hk]; exact key_is (betOk hb))
  · intro h
    unfold Bet.ki at h
    simp only [Prod.mk.injEq] at h
    have e : a.key = b.key := by unfold Bet.key; rw [h.1, h.2.1, h.2.2.1, h.2.2.2]
    rw [printL_ok ha, printL_ok hb, e]
set_option maxRecDepth 100000 in
theorem lawSlipParses {m : Mem} {g : Game} (hin : g.In m) (l : List UInt8) : CallsS Tryz.prog 3 [g.val, .string (bA l)].toArray [] m fun r _ _ => r = .bool true := by
  dsimp only [Game.val]
  have hsz := bA_size l
  refine enter Tryz.func3 Tryz.ntmps3 rfl rfl ?_
  refine SWP_seq (SWP_region ?_)
  refine bx (v := .agg _) rfl rfl (fun B2 => ?_)
  refine pB rfl rfl ?_
  refine SL_nil (nx (SWP_seq (SWP_seq (SWP_region ?_))))
  refine lw (v := .agg _) B2 0 rfl rfl rfl rfl ?_
  refine SL_call rfl rfl cb9 (CallsS.forget (few17 hin)) rfl (fun v1_1 σ1_1 m1_1 hl1_1 hR1_1 => ?_)
  obtain ⟨rfl, hm1_1, bf, rfl⟩ := hR1_1
  have hn1_1 := hm1_1.symm
  subst hn1_1
  refine bsp 12 rfl (fun b12 => ?_) (fun b12 => ?_)
  · skip
    refine pB rfl rfl ?_
    refine pB rfl rfl ?_
    refine SL_yes rfl ?_
    first | refine pS rfl rfl ?_ | refine pu rfl rfl ?_
    refine SL_yes rfl ?_
    refine pu rfl rfl ?_
    refine SL_yes rfl ?_
    refine pc rfl rfl (fun c17 => ?_) (fun c17 => ?_)
    · skip
      refine pB rfl rfl ?_
      refine SL_nil (nx (SWP_ct rfl (SWP_seq (SWP_region ?_))))
      refine SL_pcall rfl rfl cb10 (lives17) rfl ?_
      first | refine pB rfl rfl ?_ | refine pu rfl rfl ?_
      refine SL_nil (nx (SWP_ret (nr ?_)))
      refine fin [_] ⟨rfl, trivial⟩ ?_
      rfl
    refine pB rfl rfl ?_
    refine SL_nil (nx (SWP_cf rfl (SWP_skip (nx (SWP_seq (SWP_region ?_))))))
    refine lw (v := .agg _) B2 0 rfl rfl rfl rfl ?_
    first | refine pS rfl rfl ?_ | refine pu rfl rfl ?_
    refine SL_call rfl rfl cb11 (CallsS.frame0 (parseS hin l (by omega))) rfl (fun v3_2 σ3_2 m3_2 hl3_2 hR3_2 => ?_)
    obtain ⟨σx, rfl, rfl, x, rfl, hx, ix⟩ := hR3_2
    refine pu rfl rfl ?_
    first | refine pA rfl rfl ?_ | refine pu rfl rfl ?_
    first | refine pI rfl rfl ?_ | refine pu rfl rfl ?_
    first | refine pI rfl rfl ?_ | refine pu rfl rfl ?_
    refine al rfl rfl (fun B5 => ?_)
    refine swE B5 0 x.enc (v := x.val) rfl rfl rfl rfl rfl rfl rfl rfl ?_
    first | refine pI rfl rfl ?_ | refine pu rfl rfl ?_
    first | refine pI rfl rfl ?_ | refine pu rfl rfl ?_
    refine SL_nil (nx (SWP_seq (SWP_region ?_)))
    refine lw (v := .agg _) B2 0 rfl rfl rfl rfl ?_
    first | refine pS rfl rfl ?_ | refine pu rfl rfl ?_
    refine SL_call rfl rfl cb12 (CallsS.frame0 (parseX (hin.mono hl3_2) l (by omega))) rfl (fun v4_2 σ4_2 m4_2 hl4_2 hR4_2 => ?_)
    obtain ⟨σy, rfl, rfl, y, rfl, hy, iy⟩ := hR4_2
    refine pu rfl rfl ?_
    first | refine pA rfl rfl ?_ | refine pu rfl rfl ?_
    first | refine pI rfl rfl ?_ | refine pu rfl rfl ?_
    first | refine pI rfl rfl ?_ | refine pu rfl rfl ?_
    refine al rfl rfl (fun B8 => ?_)
    refine swE B8 0 y.enc (v := y.val) rfl rfl rfl rfl rfl rfl rfl rfl ?_
    first | refine pI rfl rfl ?_ | refine pu rfl rfl ?_
    first | refine pI rfl rfl ?_ | refine pu rfl rfl ?_
    refine SL_nil (nx (SWP_seq (SWP_region ?_)))
    first | refine pI rfl rfl ?_ | refine pu rfl rfl ?_
    first | refine pI rfl rfl ?_ | refine pu rfl rfl ?_
    refine pt rfl rfl (rfl) ?_
    refine pB rfl rfl ?_
    refine SL_yes rfl ?_
    first | refine pI rfl rfl ?_ | refine pu rfl rfl ?_
    refine SL_yes rfl ?_
    first | refine pI rfl rfl ?_ | refine pu rfl rfl ?_
    refine SL_yes rfl ?_
    refine pt rfl rfl (rfl) ?_
    refine pB rfl rfl ?_
    refine pB rfl rfl ?_
    refine SL_yes rfl ?_
    refine lw (v := x.val) B5 0 rfl rfl rfl rfl ?_
    refine SL_yes rfl ?_
    refine lw (v := y.val) B8 0 rfl rfl rfl rfl ?_
    refine SL_yes rfl ?_
    refine SL_pcall rfl rfl cb13 (same17 (a := x) (b := y) (hx.mono hl4_2) hy) rfl ?_
    rw [decide_eq_true (ki_is ix iy)]
    refine pB rfl rfl ?_
    refine pB rfl rfl ?_
    refine SL_yes rfl ?_
    refine SL_pcall rfl rfl cb10 (lives17) rfl ?_
    refine pB rfl rfl ?_
    refine pB rfl rfl ?_
    refine SL_nil (nx (SWP_ret ?_))
    refine fin [_] ⟨rfl, trivial⟩ ?_
    rfl
  refine pB rfl rfl ?_
  refine pB rfl rfl ?_
  refine SL_no rfl rfl ?_
  refine SL_no rfl rfl ?_
  refine SL_no rfl rfl ?_
  refine pB rfl rfl ?_
  refine SL_nil (nx (SWP_ct rfl (SWP_seq (SWP_region ?_))))
  refine SL_pcall rfl rfl cb10 (lives17) rfl ?_
  first | refine pB rfl rfl ?_ | refine pu rfl rfl ?_
  refine SL_nil (nx (SWP_ret (nr ?_)))
  refine fin [_] ⟨rfl, trivial⟩ ?_
  rfl
end Go.Proofs.YtifjhpaoejageaaGreatDoor
namespace Go.Proofs.YtifjhpaoejageaaGreatDoor
open Eng
theorem lawSlipParses2 {m : Mem} {g : Game} (hin : g.In m) (s : ByteArray) : CallsS Tryz.prog 3 [g.val, .string s].toArray [] m fun r _ _ => r = .bool true := by
  have h := lawSlipParses hin s.data.toList
  rwa [bA_of] at h
end Go.Proofs.YtifjhpaoejageaaGreatDoor
