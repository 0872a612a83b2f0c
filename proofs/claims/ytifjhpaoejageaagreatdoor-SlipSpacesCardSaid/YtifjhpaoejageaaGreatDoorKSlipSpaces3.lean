/- What the claim rests on, part 3: models of the functions in plain Lean and walks through their code; printed by programs. -/
import Derived.Lib.EndianBits
import Derived.Test.YtifjhpaoejageaaGreatDoorKSlipSpaces2
set_option linter.unusedVariables false
set_option linter.unusedSimpArgs false
namespace Go.Proofs.YtifjhpaoejageaaGreatDoor
open Eng
theorem inR {m : Mem} (n lo hi : Int) : PureCall Tryz.prog 31 [.int .i64 n, .int .i64 lo, .int .i64 hi] m (.bool (decide (lo ≤ n ∧ n ≤ hi))) := by
  refine CallsS.pure ?_
  refine enter Tryz.func31 Tryz.ntmps31 rfl rfl ?_
  refine SWP_seq (SWP_region ?_)
  refine pB rfl rfl ?_
  refine SL_nil (nx (SWP_seq (SWP_region ?_)))
  first | refine pI rfl rfl ?_ | refine pu rfl rfl ?_
  first | refine pI rfl rfl ?_ | refine pu rfl rfl ?_
  refine pc rfl rfl (fun c9 => ?_) (fun c9 => ?_)
  · skip
    refine pB rfl rfl ?_
    refine SL_yes rfl ?_
    first | refine pI rfl rfl ?_ | refine pu rfl rfl ?_
    refine SL_yes rfl ?_
    first | refine pI rfl rfl ?_ | refine pu rfl rfl ?_
    refine SL_yes rfl ?_
    refine pu rfl rfl ?_
    refine pB rfl rfl ?_
    refine pB rfl rfl ?_
    refine SL_nil (nx (SWP_ret ?_))
    refine fin [_] ⟨rfl, trivial⟩ ?_
    first | exact congrArg Value.bool (decide_eq_decide.2 ⟨fun h => ⟨by omega, h⟩, fun h => h.2⟩) | exact (congrArg Value.bool (decide_eq_false (by omega))).symm | exact (congrArg Value.bool (decide_eq_true (by omega))).symm
  refine pB rfl rfl ?_
  refine SL_no rfl rfl ?_
  refine SL_no rfl rfl ?_
  refine SL_no rfl rfl ?_
  refine pB rfl rfl ?_
  refine pB rfl rfl ?_
  refine SL_nil (nx (SWP_ret ?_))
  refine fin [_] ⟨rfl, trivial⟩ ?_
  first | exact congrArg Value.bool (decide_eq_decide.2 ⟨fun h => ⟨by omega, h⟩, fun h => h.2⟩) | exact (congrArg Value.bool (decide_eq_false (by omega))).symm | exact (congrArg Value.bool (decide_eq_true (by omega))).symm
theorem leastR {m : Mem} (a b : Int) : PureCall Tryz.prog 63 [.int .i64 a, .int .i64 b] m (.int .i64 (min a b)) := by
  refine CallsS.pure ?_
  refine enter Tryz.func63 Tryz.ntmps63 rfl rfl ?_
  refine SWP_seq (SWP_region ?_)
  refine pI rfl rfl ?_
  refine SL_nil (nx (SWP_seq (SWP_seq (SWP_region ?_))))
  first | refine pI rfl rfl ?_ | refine pu rfl rfl ?_
  first | refine pI rfl rfl ?_ | refine pu rfl rfl ?_
  refine pc rfl rfl (fun c7 => ?_) (fun c7 => ?_)
  · skip
    refine SL_nil (nx (SWP_ct rfl (SWP_seq (SWP_region ?_))))
    first | refine pI rfl rfl ?_ | refine pu rfl rfl ?_
    first | refine pI rfl rfl ?_ | refine pu rfl rfl ?_
    refine SL_nil (nx (SWP_ret (nr ?_)))
    refine fin [_] ⟨rfl, trivial⟩ ?_
    exact congrArg (Value.int .i64) (by omega)
  refine SL_nil (nx (SWP_cf rfl (SWP_skip (nx (SWP_seq (SWP_region ?_))))))
  first | refine pI rfl rfl ?_ | refine pu rfl rfl ?_
  first | refine pI rfl rfl ?_ | refine pu rfl rfl ?_
  refine SL_nil (nx (SWP_ret ?_))
  refine fin [_] ⟨rfl, trivial⟩ ?_
  exact congrArg (Value.int .i64) (by omega)
theorem allE0 {lo hi : Int} {l : List Int} {i : Nat} (h : ∀ x ∈ l.take i, lo ≤ x ∧ x ≤ hi) (hi' : l.length ≤ i) : allErr lo hi l = 0 := by
  rw [List.take_of_length_le hi'] at h
  unfold allErr
  rw [if_pos h]
theorem allE2 {lo hi : Int} {l : List Int} {i : Nat} {x : Int} (hx : l[i]? = some x) (h : ¬ (lo ≤ x ∧ x ≤ hi)) : allErr lo hi l = 2 := by
  unfold allErr
  rw [if_neg fun h' => h (h' x (List.mem_of_getElem? hx))]
set_option maxRecDepth 100000 in
theorem addonR {m : Mem} {a : Addon} (h : a.In m) : PureCall Tryz.prog 64 [a.val] m (.int .i64 (addonErr a)) := by
  refine CallsS.pure ?_
  obtain ⟨hf, hp⟩ := h
  dsimp only [Addon.val]
  refine enter Tryz.func64 Tryz.ntmps64 rfl rfl ?_
  refine SWP_seq (SWP_region ?_)
  refine bx (v := .agg _) rfl rfl (fun B1 => ?_)
  refine pI rfl rfl ?_
  refine SL_nil (nx (SWP_seq (SWP_seq (SWP_region ?_))))
  refine pu rfl rfl ?_
  refine lw (v := .string _) B1 0 rfl rfl rfl rfl ?_
  refine SL_pcall rfl rfl cb29 (nameRef _) rfl ?_
  refine bsp 7 rfl (fun b7 => ?_) (fun b7 => ?_)
  · skip
    refine pB rfl rfl ?_
    refine SL_nil (nx (SWP_cf rfl (SWP_skip (nx (SWP_seq (SWP_seq (SWP_region ?_)))))))
    refine pu rfl rfl ?_
    refine lw (v := .int .i64 _) B1 1 rfl rfl rfl rfl ?_
    refine pc rfl rfl (fun c11 => ?_) (fun c11 => ?_)
    · skip
      refine pB rfl rfl ?_
      refine SL_yes rfl ?_
      refine pu rfl rfl ?_
      refine SL_yes rfl ?_
      refine lw (v := .int .i64 _) B1 1 rfl rfl rfl rfl ?_
      refine SL_yes rfl ?_
      refine pc rfl rfl (fun c15 => ?_) (fun c15 => ?_)
      · skip
        refine pB rfl rfl ?_
        refine SL_nil (nx (SWP_ct rfl (SWP_seq (SWP_region ?_))))
        refine pI rfl rfl ?_
        refine SL_nil (nx (SWP_ret (nr ?_)))
        refine fin [_] ⟨rfl, trivial⟩ ?_
        refine congrArg (Value.int .i64) ?_
        first | (exfalso; omega) | exact aE4 b7 | exact aE7 b7 (by omega) | exact aE2 b7 (by omega) (by omega) | (rw [aEf b7 (by omega) (by omega)]; first | rw [if_pos (by omega)] | rw [if_neg (by omega), if_pos (by omega)] | (rw [if_neg (by omega), if_neg (by omega)]; first | exact (allE2 hx (by omega)).symm | exact (allE0 hall (by omega)).symm)) | (rw [aEs b7 (by omega) (by omega)]; first | rw [if_pos (by omega)] | rw [if_neg (by omega), if_pos (by omega)] | rw [if_neg (by omega), if_neg (by omega), if_pos (by omega)] | (rw [if_neg (by omega), if_neg (by omega), if_neg (by omega)]; first | exact (allE2 hx (by omega)).symm | exact (allE0 hall (by omega)).symm))
      refine pB rfl rfl ?_
      refine SL_nil (nx (SWP_cf rfl (SWP_skip (nx (SWP_seq (SWP_seq (SWP_region ?_)))))))
      refine pu rfl rfl ?_
      refine lw (v := .int .i64 _) B1 2 rfl rfl rfl rfl ?_
      refine SL_pcall rfl rfl cb31 (inR _ _ _) rfl ?_
      refine psp 19 rfl (fun c19 => ?_) (fun c19 => ?_)
      · skip
        refine pB rfl rfl ?_
        refine SL_nil (nx (SWP_cf rfl (SWP_skip (nx (SWP_seq (SWP_seq (SWP_region ?_)))))))
        refine pu rfl rfl ?_
        refine lw (v := .int .i64 _) B1 1 rfl rfl rfl rfl ?_
        refine pc rfl rfl (fun c23 => ?_) (fun c23 => ?_)
        · skip
          refine SL_nil (nx (SWP_ct rfl (SWP_seq (SWP_seq (SWP_region ?_)))))
          refine pu rfl rfl ?_
          refine lw (v := .int .i64 _) B1 4 rfl rfl rfl rfl ?_
          refine pc rfl rfl (fun c26 => ?_) (fun c26 => ?_)
          · skip
            refine pB rfl rfl ?_
            refine SL_no rfl rfl ?_
            refine SL_no rfl rfl ?_
            refine SL_no rfl rfl ?_
            refine SL_no rfl rfl ?_
            refine pB rfl rfl ?_
            refine SL_nil (nx (SWP_ct rfl (SWP_seq (SWP_region ?_))))
            refine pI rfl rfl ?_
            refine SL_nil (nx (SWP_ret (nr (nr ?_))))
            refine fin [_] ⟨rfl, trivial⟩ ?_
            refine congrArg (Value.int .i64) ?_
            first | (exfalso; omega) | exact aE4 b7 | exact aE7 b7 (by omega) | exact aE2 b7 (by omega) (by omega) | (rw [aEf b7 (by omega) (by omega)]; first | rw [if_pos (by omega)] | rw [if_neg (by omega), if_pos (by omega)] | (rw [if_neg (by omega), if_neg (by omega)]; first | exact (allE2 hx (by omega)).symm | exact (allE0 hall (by omega)).symm)) | (rw [aEs b7 (by omega) (by omega)]; first | rw [if_pos (by omega)] | rw [if_neg (by omega), if_pos (by omega)] | rw [if_neg (by omega), if_neg (by omega), if_pos (by omega)] | (rw [if_neg (by omega), if_neg (by omega), if_neg (by omega)]; first | exact (allE2 hx (by omega)).symm | exact (allE0 hall (by omega)).symm))
          refine pB rfl rfl ?_
          refine SL_yes rfl ?_
          refine pu rfl rfl ?_
          refine SL_yes rfl ?_
          refine lw (v := .slice _ _ _) B1 5 rfl rfl rfl rfl ?_
          refine SL_yes rfl ?_
          refine pu rfl rfl ?_
          refine SL_yes rfl ?_
          refine pc rfl rfl (fun c31 => ?_) (fun c31 => ?_)
          · skip
            refine pB rfl rfl ?_
            refine SL_nil (nx (SWP_ct rfl (SWP_seq (SWP_region ?_))))
            refine pI rfl rfl ?_
            refine SL_nil (nx (SWP_ret (nr (nr ?_))))
            refine fin [_] ⟨rfl, trivial⟩ ?_
            refine congrArg (Value.int .i64) ?_
            first | (exfalso; omega) | exact aE4 b7 | exact aE7 b7 (by omega) | exact aE2 b7 (by omega) (by omega) | (rw [aEf b7 (by omega) (by omega)]; first | rw [if_pos (by omega)] | rw [if_neg (by omega), if_pos (by omega)] | (rw [if_neg (by omega), if_neg (by omega)]; first | exact (allE2 hx (by omega)).symm | exact (allE0 hall (by omega)).symm)) | (rw [aEs b7 (by omega) (by omega)]; first | rw [if_pos (by omega)] | rw [if_neg (by omega), if_pos (by omega)] | rw [if_neg (by omega), if_neg (by omega), if_pos (by omega)] | (rw [if_neg (by omega), if_neg (by omega), if_neg (by omega)]; first | exact (allE2 hx (by omega)).symm | exact (allE0 hall (by omega)).symm))
          refine pB rfl rfl ?_
          refine SL_nil (nx (SWP_cf rfl (SWP_skip (nx (SWP_seq (SWP_seq (SWP_region ?_)))))))
          refine pu rfl rfl ?_
          refine lw (v := .slice _ _ _) B1 3 rfl rfl rfl rfl ?_
          refine pu rfl rfl ?_
          refine SL_pcall rfl rfl cb31 (inR _ _ _) rfl ?_
          refine psp 36 rfl (fun c36 => ?_) (fun c36 => ?_)
          · skip
            refine pB rfl rfl ?_
            refine SL_nil (nx (SWP_cf rfl (SWP_skip (nx (SWP_seq (SWP_seq (SWP_region ?_)))))))
            refine pI rfl rfl ?_
            refine SL_nil (nx (SWP_block ?_))
            refine SWP_loop [2, 3, 38, 39, 40, 41, 42, 43, 44, 45, 46, 47, 48, 49, 50, 51] [3]
                (fun vs σ' m' => ∃ (i : Nat), vs = [.int .i64 (i : Nat)] ∧ i ≤ a.factors.length ∧ (∀ x ∈ a.factors.take i, (1 : Int) ≤ x ∧ x ≤ 100) ∧ σ' = [(B1, Cells 47 a.enc)] ∧ m = m')
                (fun vs => a.factors.length - nOf (vs.getD 0 undef)) rfl ?_ ?_
            · exact ⟨0, rfl, by omega, by simp, rfl, rfl⟩
            intro u0 vs0 σ0 m0 hJ0 _
            obtain ⟨i, rfl, hi, hall, rfl, rfl⟩ := hJ0
            dsimp only [Addon.enc]
            refine SWP_seq (SWP_seq (SWP_region ?_))
            first | refine pI rfl rfl ?_ | refine pu rfl rfl ?_
            refine pu rfl rfl ?_
            refine lw (v := .slice _ _ _) B1 3 rfl rfl rfl rfl ?_
            refine pu rfl rfl ?_
            refine pc rfl rfl (fun c42 => ?_) (fun c42 => ?_)
            · skip
              refine SL_nil (nx (SWP_ct rfl (SWP_skip (nx (SWP_seq (SWP_block (SWP_seq ?_)))))))
              obtain ⟨x, hx⟩ : ∃ x, a.factors[i]? = some x := ⟨_, List.getElem?_eq_getElem (by omega)⟩
              obtain ⟨ad, had, _, hat⟩ := hf.atI hx
              refine SWP_region ?_
              refine pu rfl rfl ?_
              refine lw (v := .slice _ _ _) B1 3 rfl rfl rfl rfl ?_
              first | refine pI rfl rfl ?_ | refine pu rfl rfl ?_
              rw [had]
              first | refine ia (es := 1) rfl rfl rfl (Nat.mul_one _) rfl rfl (by omega) rfl ?_ | refine iai (es := 1) rfl rfl rfl (Nat.mul_one _) rfl rfl (by omega) (by omega) rfl ?_
              rw [← had]
              refine ldA (v := .int .i64 _) rfl (by assumption) rfl rfl ?_
              refine SL_pcall rfl rfl cb31 (inR _ _ _) rfl ?_
              refine psp 50 rfl (fun c50 => ?_) (fun c50 => ?_)
              · skip
                refine pB rfl rfl ?_
                refine SL_nil (nx (SWP_cf rfl (SWP_skip (nb (nx (SWP_region ?_))))))
                first | refine pI rfl rfl ?_ | refine pu rfl rfl ?_
                first | refine pw rfl rfl (w64 (by omega) (by omega)) ?_ | refine pu rfl rfl ?_
                refine pI rfl rfl ?_
                refine SL_nil (nx ?_)
                refine ⟨by repeat (first | exact Under.upds rfl (Under.hav _ _ _) | exact Under.hav _ _ _ | refine Under.upd rfl ?_ | refine Under.upds rfl ?_ | refine Under.hav2 rfl ?_), ?_, ?_⟩
                · refine ⟨i + 1, rfl, by omega, fun y hy => ?_, rfl, rfl⟩
                  rw [take_snocA hx] at hy
                  rcases List.mem_append.1 hy with hy | hy
                  · exact hall y hy
                  · rw [List.mem_singleton.1 hy]; omega
                · simp only [L_vals, List.map, List.getD]; show a.factors.length - (i + 1) < a.factors.length - i; omega
              refine pB rfl rfl ?_
              refine SL_nil (nx (SWP_ct rfl (SWP_seq (SWP_region ?_))))
              refine pI rfl rfl ?_
              refine SL_nil (nx (SWP_ret (br (nr (nr (br (nr (nr ?_))))))))
              refine fin [_] ⟨rfl, trivial⟩ ?_
              refine congrArg (Value.int .i64) ?_
              first | (exfalso; omega) | exact aE4 b7 | exact aE7 b7 (by omega) | exact aE2 b7 (by omega) (by omega) | (rw [aEf b7 (by omega) (by omega)]; first | rw [if_pos (by omega)] | rw [if_neg (by omega), if_pos (by omega)] | (rw [if_neg (by omega), if_neg (by omega)]; first | exact (allE2 hx (by omega)).symm | exact (allE0 hall (by omega)).symm)) | (rw [aEs b7 (by omega) (by omega)]; first | rw [if_pos (by omega)] | rw [if_neg (by omega), if_pos (by omega)] | rw [if_neg (by omega), if_neg (by omega), if_pos (by omega)] | (rw [if_neg (by omega), if_neg (by omega), if_neg (by omega)]; first | exact (allE2 hx (by omega)).symm | exact (allE0 hall (by omega)).symm))
            refine SL_nil (nx (SWP_cf rfl (SWP_exit (ne (ne (be rfl (nx (SWP_seq (SWP_region ?_)))))))))
            refine pI rfl rfl ?_
            refine SL_nil (nx (SWP_ret (nr ?_)))
            refine fin [_] ⟨rfl, trivial⟩ ?_
            refine congrArg (Value.int .i64) ?_
            first | (exfalso; omega) | exact aE4 b7 | exact aE7 b7 (by omega) | exact aE2 b7 (by omega) (by omega) | (rw [aEf b7 (by omega) (by omega)]; first | rw [if_pos (by omega)] | rw [if_neg (by omega), if_pos (by omega)] | (rw [if_neg (by omega), if_neg (by omega)]; first | exact (allE2 hx (by omega)).symm | exact (allE0 hall (by omega)).symm)) | (rw [aEs b7 (by omega) (by omega)]; first | rw [if_pos (by omega)] | rw [if_neg (by omega), if_pos (by omega)] | rw [if_neg (by omega), if_neg (by omega), if_pos (by omega)] | (rw [if_neg (by omega), if_neg (by omega), if_neg (by omega)]; first | exact (allE2 hx (by omega)).symm | exact (allE0 hall (by omega)).symm))
          refine pB rfl rfl ?_
          refine SL_nil (nx (SWP_ct rfl (SWP_seq (SWP_region ?_))))
          refine pI rfl rfl ?_
          refine SL_nil (nx (SWP_ret (nr (nr ?_))))
          refine fin [_] ⟨rfl, trivial⟩ ?_
          refine congrArg (Value.int .i64) ?_
          first | (exfalso; omega) | exact aE4 b7 | exact aE7 b7 (by omega) | exact aE2 b7 (by omega) (by omega) | (rw [aEf b7 (by omega) (by omega)]; first | rw [if_pos (by omega)] | rw [if_neg (by omega), if_pos (by omega)] | (rw [if_neg (by omega), if_neg (by omega)]; first | exact (allE2 hx (by omega)).symm | exact (allE0 hall (by omega)).symm)) | (rw [aEs b7 (by omega) (by omega)]; first | rw [if_pos (by omega)] | rw [if_neg (by omega), if_pos (by omega)] | rw [if_neg (by omega), if_neg (by omega), if_pos (by omega)] | (rw [if_neg (by omega), if_neg (by omega), if_neg (by omega)]; first | exact (allE2 hx (by omega)).symm | exact (allE0 hall (by omega)).symm))
        refine SL_nil (nx (SWP_cf rfl (SWP_skip (nx (SWP_seq (SWP_seq (SWP_region ?_)))))))
        refine pu rfl rfl ?_
        refine lw (v := .slice _ _ _) B1 3 rfl rfl rfl rfl ?_
        refine pu rfl rfl ?_
        refine pc rfl rfl (fun c55 => ?_) (fun c55 => ?_)
        · skip
          refine SL_nil (nx (SWP_ct rfl (SWP_seq (SWP_region ?_))))
          refine pI rfl rfl ?_
          refine SL_nil (nx (SWP_ret (nr ?_)))
          refine fin [_] ⟨rfl, trivial⟩ ?_
          refine congrArg (Value.int .i64) ?_
          first | (exfalso; omega) | exact aE4 b7 | exact aE7 b7 (by omega) | exact aE2 b7 (by omega) (by omega) | (rw [aEf b7 (by omega) (by omega)]; first | rw [if_pos (by omega)] | rw [if_neg (by omega), if_pos (by omega)] | (rw [if_neg (by omega), if_neg (by omega)]; first | exact (allE2 hx (by omega)).symm | exact (allE0 hall (by omega)).symm)) | (rw [aEs b7 (by omega) (by omega)]; first | rw [if_pos (by omega)] | rw [if_neg (by omega), if_pos (by omega)] | rw [if_neg (by omega), if_neg (by omega), if_pos (by omega)] | (rw [if_neg (by omega), if_neg (by omega), if_neg (by omega)]; first | exact (allE2 hx (by omega)).symm | exact (allE0 hall (by omega)).symm))
        refine SL_nil (nx (SWP_cf rfl (SWP_skip (nx (SWP_seq (SWP_seq (SWP_region ?_)))))))
        refine pu rfl rfl ?_
        refine lw (v := .int .i64 _) B1 4 rfl rfl rfl rfl ?_
        refine SL_pcall rfl rfl cb31 (inR _ _ _) rfl ?_
        refine psp 58 rfl (fun c58 => ?_) (fun c58 => ?_)
        · skip
          refine pB rfl rfl ?_
          refine SL_nil (nx (SWP_cf rfl (SWP_skip (nx (SWP_seq (SWP_seq (SWP_region ?_)))))))
          refine pu rfl rfl ?_
          refine lw (v := .slice _ _ _) B1 5 rfl rfl rfl rfl ?_
          refine pu rfl rfl ?_
          refine pu rfl rfl ?_
          refine lw (v := .int .i64 _) B1 4 rfl rfl rfl rfl ?_
          refine pc rfl rfl (fun c65 => ?_) (fun c65 => ?_)
          · skip
            refine SL_nil (nx (SWP_ct rfl (SWP_seq (SWP_region ?_))))
            refine pI rfl rfl ?_
            refine SL_nil (nx (SWP_ret (nr ?_)))
            refine fin [_] ⟨rfl, trivial⟩ ?_
            refine congrArg (Value.int .i64) ?_
            first | (exfalso; omega) | exact aE4 b7 | exact aE7 b7 (by omega) | exact aE2 b7 (by omega) (by omega) | (rw [aEf b7 (by omega) (by omega)]; first | rw [if_pos (by omega)] | rw [if_neg (by omega), if_pos (by omega)] | (rw [if_neg (by omega), if_neg (by omega)]; first | exact (allE2 hx (by omega)).symm | exact (allE0 hall (by omega)).symm)) | (rw [aEs b7 (by omega) (by omega)]; first | rw [if_pos (by omega)] | rw [if_neg (by omega), if_pos (by omega)] | rw [if_neg (by omega), if_neg (by omega), if_pos (by omega)] | (rw [if_neg (by omega), if_neg (by omega), if_neg (by omega)]; first | exact (allE2 hx (by omega)).symm | exact (allE0 hall (by omega)).symm))
          refine SL_nil (nx (SWP_cf rfl (SWP_skip (nx (SWP_seq (SWP_seq (SWP_region ?_)))))))
          refine pI rfl rfl ?_
          refine SL_nil (nx (SWP_block ?_))
          refine SWP_loop [2, 4, 66, 67, 68, 69, 70, 71, 72, 73, 74, 75, 76, 77, 78, 79] [4]
              (fun vs σ' m' => ∃ (i : Nat), vs = [.int .i64 (i : Nat)] ∧ i ≤ a.prizes.length ∧ (∀ x ∈ a.prizes.take i, (0 : Int) ≤ x ∧ x ≤ 1000000000) ∧ σ' = [(B1, Cells 47 a.enc)] ∧ m = m')
              (fun vs => a.prizes.length - nOf (vs.getD 0 undef)) rfl ?_ ?_
          · exact ⟨0, rfl, by omega, by simp, rfl, rfl⟩
          intro u1 vs1 σ1 m1 hJ1 _
          obtain ⟨i, rfl, hi, hall, rfl, rfl⟩ := hJ1
          dsimp only [Addon.enc]
          refine SWP_seq (SWP_seq (SWP_region ?_))
          first | refine pI rfl rfl ?_ | refine pu rfl rfl ?_
          refine pu rfl rfl ?_
          refine lw (v := .slice _ _ _) B1 5 rfl rfl rfl rfl ?_
          refine pu rfl rfl ?_
          refine pc rfl rfl (fun c70 => ?_) (fun c70 => ?_)
          · skip
            refine SL_nil (nx (SWP_ct rfl (SWP_skip (nx (SWP_seq (SWP_block (SWP_seq ?_)))))))
            obtain ⟨x, hx⟩ : ∃ x, a.prizes[i]? = some x := ⟨_, List.getElem?_eq_getElem (by omega)⟩
            obtain ⟨ad, had, _, hat⟩ := hp.atI hx
            refine SWP_region ?_
            refine pu rfl rfl ?_
            refine lw (v := .slice _ _ _) B1 5 rfl rfl rfl rfl ?_
            first | refine pI rfl rfl ?_ | refine pu rfl rfl ?_
            rw [had]
            first | refine ia (es := 1) rfl rfl rfl (Nat.mul_one _) rfl rfl (by omega) rfl ?_ | refine iai (es := 1) rfl rfl rfl (Nat.mul_one _) rfl rfl (by omega) (by omega) rfl ?_
            rw [← had]
            refine ldA (v := .int .i64 _) rfl (by assumption) rfl rfl ?_
            refine SL_pcall rfl rfl cb31 (inR _ _ _) rfl ?_
            refine psp 78 rfl (fun c78 => ?_) (fun c78 => ?_)
            · skip
              refine pB rfl rfl ?_
              refine SL_nil (nx (SWP_cf rfl (SWP_skip (nb (nx (SWP_region ?_))))))
              first | refine pI rfl rfl ?_ | refine pu rfl rfl ?_
              first | refine pw rfl rfl (w64 (by omega) (by omega)) ?_ | refine pu rfl rfl ?_
              refine pI rfl rfl ?_
              refine SL_nil (nx ?_)
              refine ⟨by repeat (first | exact Under.upds rfl (Under.hav _ _ _) | exact Under.hav _ _ _ | refine Under.upd rfl ?_ | refine Under.upds rfl ?_ | refine Under.hav2 rfl ?_), ?_, ?_⟩
              · refine ⟨i + 1, rfl, by omega, fun y hy => ?_, rfl, rfl⟩
                rw [take_snocA hx] at hy
                rcases List.mem_append.1 hy with hy | hy
                · exact hall y hy
                · rw [List.mem_singleton.1 hy]; omega
              · simp only [L_vals, List.map, List.getD]; show a.prizes.length - (i + 1) < a.prizes.length - i; omega
            refine pB rfl rfl ?_
            refine SL_nil (nx (SWP_ct rfl (SWP_seq (SWP_region ?_))))
            refine pI rfl rfl ?_
            refine SL_nil (nx (SWP_ret (br (nr (nr (br (nr ?_)))))))
            refine fin [_] ⟨rfl, trivial⟩ ?_
            refine congrArg (Value.int .i64) ?_
            first | (exfalso; omega) | exact aE4 b7 | exact aE7 b7 (by omega) | exact aE2 b7 (by omega) (by omega) | (rw [aEf b7 (by omega) (by omega)]; first | rw [if_pos (by omega)] | rw [if_neg (by omega), if_pos (by omega)] | (rw [if_neg (by omega), if_neg (by omega)]; first | exact (allE2 hx (by omega)).symm | exact (allE0 hall (by omega)).symm)) | (rw [aEs b7 (by omega) (by omega)]; first | rw [if_pos (by omega)] | rw [if_neg (by omega), if_pos (by omega)] | rw [if_neg (by omega), if_neg (by omega), if_pos (by omega)] | (rw [if_neg (by omega), if_neg (by omega), if_neg (by omega)]; first | exact (allE2 hx (by omega)).symm | exact (allE0 hall (by omega)).symm))
          refine SL_nil (nx (SWP_cf rfl (SWP_exit (ne (ne (be rfl (nx (SWP_seq (SWP_region ?_)))))))))
          refine pI rfl rfl ?_
          refine SL_nil (nx (SWP_ret ?_))
          refine fin [_] ⟨rfl, trivial⟩ ?_
          refine congrArg (Value.int .i64) ?_
          first | (exfalso; omega) | exact aE4 b7 | exact aE7 b7 (by omega) | exact aE2 b7 (by omega) (by omega) | (rw [aEf b7 (by omega) (by omega)]; first | rw [if_pos (by omega)] | rw [if_neg (by omega), if_pos (by omega)] | (rw [if_neg (by omega), if_neg (by omega)]; first | exact (allE2 hx (by omega)).symm | exact (allE0 hall (by omega)).symm)) | (rw [aEs b7 (by omega) (by omega)]; first | rw [if_pos (by omega)] | rw [if_neg (by omega), if_pos (by omega)] | rw [if_neg (by omega), if_neg (by omega), if_pos (by omega)] | (rw [if_neg (by omega), if_neg (by omega), if_neg (by omega)]; first | exact (allE2 hx (by omega)).symm | exact (allE0 hall (by omega)).symm))
        refine pB rfl rfl ?_
        refine SL_nil (nx (SWP_ct rfl (SWP_seq (SWP_region ?_))))
        refine pI rfl rfl ?_
        refine SL_nil (nx (SWP_ret (nr ?_)))
        refine fin [_] ⟨rfl, trivial⟩ ?_
        refine congrArg (Value.int .i64) ?_
        first | (exfalso; omega) | exact aE4 b7 | exact aE7 b7 (by omega) | exact aE2 b7 (by omega) (by omega) | (rw [aEf b7 (by omega) (by omega)]; first | rw [if_pos (by omega)] | rw [if_neg (by omega), if_pos (by omega)] | (rw [if_neg (by omega), if_neg (by omega)]; first | exact (allE2 hx (by omega)).symm | exact (allE0 hall (by omega)).symm)) | (rw [aEs b7 (by omega) (by omega)]; first | rw [if_pos (by omega)] | rw [if_neg (by omega), if_pos (by omega)] | rw [if_neg (by omega), if_neg (by omega), if_pos (by omega)] | (rw [if_neg (by omega), if_neg (by omega), if_neg (by omega)]; first | exact (allE2 hx (by omega)).symm | exact (allE0 hall (by omega)).symm))
      refine pB rfl rfl ?_
      refine SL_nil (nx (SWP_ct rfl (SWP_seq (SWP_region ?_))))
      refine pI rfl rfl ?_
      refine SL_nil (nx (SWP_ret (nr ?_)))
      refine fin [_] ⟨rfl, trivial⟩ ?_
      refine congrArg (Value.int .i64) ?_
      first | (exfalso; omega) | exact aE4 b7 | exact aE7 b7 (by omega) | exact aE2 b7 (by omega) (by omega) | (rw [aEf b7 (by omega) (by omega)]; first | rw [if_pos (by omega)] | rw [if_neg (by omega), if_pos (by omega)] | (rw [if_neg (by omega), if_neg (by omega)]; first | exact (allE2 hx (by omega)).symm | exact (allE0 hall (by omega)).symm)) | (rw [aEs b7 (by omega) (by omega)]; first | rw [if_pos (by omega)] | rw [if_neg (by omega), if_pos (by omega)] | rw [if_neg (by omega), if_neg (by omega), if_pos (by omega)] | (rw [if_neg (by omega), if_neg (by omega), if_neg (by omega)]; first | exact (allE2 hx (by omega)).symm | exact (allE0 hall (by omega)).symm))
    refine pB rfl rfl ?_
    refine SL_no rfl rfl ?_
    refine SL_no rfl rfl ?_
    refine SL_no rfl rfl ?_
    refine pB rfl rfl ?_
    refine SL_nil (nx (SWP_cf rfl (SWP_skip (nx (SWP_seq (SWP_seq (SWP_region ?_)))))))
    refine pu rfl rfl ?_
    refine lw (v := .int .i64 _) B1 2 rfl rfl rfl rfl ?_
    refine SL_pcall rfl rfl cb31 (inR _ _ _) rfl ?_
    refine psp 19 rfl (fun c19 => ?_) (fun c19 => ?_)
    · skip
      refine pB rfl rfl ?_
      refine SL_nil (nx (SWP_cf rfl (SWP_skip (nx (SWP_seq (SWP_seq (SWP_region ?_)))))))
      refine pu rfl rfl ?_
      refine lw (v := .int .i64 _) B1 1 rfl rfl rfl rfl ?_
      refine pc rfl rfl (fun c23 => ?_) (fun c23 => ?_)
      · skip
        refine SL_nil (nx (SWP_ct rfl (SWP_seq (SWP_seq (SWP_region ?_)))))
        refine pu rfl rfl ?_
        refine lw (v := .int .i64 _) B1 4 rfl rfl rfl rfl ?_
        refine pc rfl rfl (fun c26 => ?_) (fun c26 => ?_)
        · skip
          refine pB rfl rfl ?_
          refine SL_no rfl rfl ?_
          refine SL_no rfl rfl ?_
          refine SL_no rfl rfl ?_
          refine SL_no rfl rfl ?_
          refine pB rfl rfl ?_
          refine SL_nil (nx (SWP_ct rfl (SWP_seq (SWP_region ?_))))
          refine pI rfl rfl ?_
          refine SL_nil (nx (SWP_ret (nr (nr ?_))))
          refine fin [_] ⟨rfl, trivial⟩ ?_
          refine congrArg (Value.int .i64) ?_
          first | (exfalso; omega) | exact aE4 b7 | exact aE7 b7 (by omega) | exact aE2 b7 (by omega) (by omega) | (rw [aEf b7 (by omega) (by omega)]; first | rw [if_pos (by omega)] | rw [if_neg (by omega), if_pos (by omega)] | (rw [if_neg (by omega), if_neg (by omega)]; first | exact (allE2 hx (by omega)).symm | exact (allE0 hall (by omega)).symm)) | (rw [aEs b7 (by omega) (by omega)]; first | rw [if_pos (by omega)] | rw [if_neg (by omega), if_pos (by omega)] | rw [if_neg (by omega), if_neg (by omega), if_pos (by omega)] | (rw [if_neg (by omega), if_neg (by omega), if_neg (by omega)]; first | exact (allE2 hx (by omega)).symm | exact (allE0 hall (by omega)).symm))
        refine pB rfl rfl ?_
        refine SL_yes rfl ?_
        refine pu rfl rfl ?_
        refine SL_yes rfl ?_
        refine lw (v := .slice _ _ _) B1 5 rfl rfl rfl rfl ?_
        refine SL_yes rfl ?_
        refine pu rfl rfl ?_
        refine SL_yes rfl ?_
        refine pc rfl rfl (fun c31 => ?_) (fun c31 => ?_)
        · skip
          refine pB rfl rfl ?_
          refine SL_nil (nx (SWP_ct rfl (SWP_seq (SWP_region ?_))))
          refine pI rfl rfl ?_
          refine SL_nil (nx (SWP_ret (nr (nr ?_))))
          refine fin [_] ⟨rfl, trivial⟩ ?_
          refine congrArg (Value.int .i64) ?_
          first | (exfalso; omega) | exact aE4 b7 | exact aE7 b7 (by omega) | exact aE2 b7 (by omega) (by omega) | (rw [aEf b7 (by omega) (by omega)]; first | rw [if_pos (by omega)] | rw [if_neg (by omega), if_pos (by omega)] | (rw [if_neg (by omega), if_neg (by omega)]; first | exact (allE2 hx (by omega)).symm | exact (allE0 hall (by omega)).symm)) | (rw [aEs b7 (by omega) (by omega)]; first | rw [if_pos (by omega)] | rw [if_neg (by omega), if_pos (by omega)] | rw [if_neg (by omega), if_neg (by omega), if_pos (by omega)] | (rw [if_neg (by omega), if_neg (by omega), if_neg (by omega)]; first | exact (allE2 hx (by omega)).symm | exact (allE0 hall (by omega)).symm))
        refine pB rfl rfl ?_
        refine SL_nil (nx (SWP_cf rfl (SWP_skip (nx (SWP_seq (SWP_seq (SWP_region ?_)))))))
        refine pu rfl rfl ?_
        refine lw (v := .slice _ _ _) B1 3 rfl rfl rfl rfl ?_
        refine pu rfl rfl ?_
        refine SL_pcall rfl rfl cb31 (inR _ _ _) rfl ?_
        refine psp 36 rfl (fun c36 => ?_) (fun c36 => ?_)
        · skip
          refine pB rfl rfl ?_
          refine SL_nil (nx (SWP_cf rfl (SWP_skip (nx (SWP_seq (SWP_seq (SWP_region ?_)))))))
          refine pI rfl rfl ?_
          refine SL_nil (nx (SWP_block ?_))
          refine SWP_loop [2, 3, 38, 39, 40, 41, 42, 43, 44, 45, 46, 47, 48, 49, 50, 51] [3]
              (fun vs σ' m' => ∃ (i : Nat), vs = [.int .i64 (i : Nat)] ∧ i ≤ a.factors.length ∧ (∀ x ∈ a.factors.take i, (1 : Int) ≤ x ∧ x ≤ 100) ∧ σ' = [(B1, Cells 47 a.enc)] ∧ m = m')
              (fun vs => a.factors.length - nOf (vs.getD 0 undef)) rfl ?_ ?_
          · exact ⟨0, rfl, by omega, by simp, rfl, rfl⟩
          intro u0 vs0 σ0 m0 hJ0 _
          obtain ⟨i, rfl, hi, hall, rfl, rfl⟩ := hJ0
          dsimp only [Addon.enc]
          refine SWP_seq (SWP_seq (SWP_region ?_))
          first | refine pI rfl rfl ?_ | refine pu rfl rfl ?_
          refine pu rfl rfl ?_
          refine lw (v := .slice _ _ _) B1 3 rfl rfl rfl rfl ?_
          refine pu rfl rfl ?_
          refine pc rfl rfl (fun c42 => ?_) (fun c42 => ?_)
          · skip
            refine SL_nil (nx (SWP_ct rfl (SWP_skip (nx (SWP_seq (SWP_block (SWP_seq ?_)))))))
            obtain ⟨x, hx⟩ : ∃ x, a.factors[i]? = some x := ⟨_, List.getElem?_eq_getElem (by omega)⟩
            obtain ⟨ad, had, _, hat⟩ := hf.atI hx
            refine SWP_region ?_
            refine pu rfl rfl ?_
            refine lw (v := .slice _ _ _) B1 3 rfl rfl rfl rfl ?_
            first | refine pI rfl rfl ?_ | refine pu rfl rfl ?_
            rw [had]
            first | refine ia (es := 1) rfl rfl rfl (Nat.mul_one _) rfl rfl (by omega) rfl ?_ | refine iai (es := 1) rfl rfl rfl (Nat.mul_one _) rfl rfl (by omega) (by omega) rfl ?_
            rw [← had]
            refine ldA (v := .int .i64 _) rfl (by assumption) rfl rfl ?_
            refine SL_pcall rfl rfl cb31 (inR _ _ _) rfl ?_
            refine psp 50 rfl (fun c50 => ?_) (fun c50 => ?_)
            · skip
              refine pB rfl rfl ?_
              refine SL_nil (nx (SWP_cf rfl (SWP_skip (nb (nx (SWP_region ?_))))))
              first | refine pI rfl rfl ?_ | refine pu rfl rfl ?_
              first | refine pw rfl rfl (w64 (by omega) (by omega)) ?_ | refine pu rfl rfl ?_
              refine pI rfl rfl ?_
              refine SL_nil (nx ?_)
              refine ⟨by repeat (first | exact Under.upds rfl (Under.hav _ _ _) | exact Under.hav _ _ _ | refine Under.upd rfl ?_ | refine Under.upds rfl ?_ | refine Under.hav2 rfl ?_), ?_, ?_⟩
              · refine ⟨i + 1, rfl, by omega, fun y hy => ?_, rfl, rfl⟩
                rw [take_snocA hx] at hy
                rcases List.mem_append.1 hy with hy | hy
                · exact hall y hy
                · rw [List.mem_singleton.1 hy]; omega
              · simp only [L_vals, List.map, List.getD]; show a.factors.length - (i + 1) < a.factors.length - i; omega
            refine pB rfl rfl ?_
            refine SL_nil (nx (SWP_ct rfl (SWP_seq (SWP_region ?_))))
            refine pI rfl rfl ?_
            refine SL_nil (nx (SWP_ret (br (nr (nr (br (nr (nr ?_))))))))
            refine fin [_] ⟨rfl, trivial⟩ ?_
            refine congrArg (Value.int .i64) ?_
            first | (exfalso; omega) | exact aE4 b7 | exact aE7 b7 (by omega) | exact aE2 b7 (by omega) (by omega) | (rw [aEf b7 (by omega) (by omega)]; first | rw [if_pos (by omega)] | rw [if_neg (by omega), if_pos (by omega)] | (rw [if_neg (by omega), if_neg (by omega)]; first | exact (allE2 hx (by omega)).symm | exact (allE0 hall (by omega)).symm)) | (rw [aEs b7 (by omega) (by omega)]; first | rw [if_pos (by omega)] | rw [if_neg (by omega), if_pos (by omega)] | rw [if_neg (by omega), if_neg (by omega), if_pos (by omega)] | (rw [if_neg (by omega), if_neg (by omega), if_neg (by omega)]; first | exact (allE2 hx (by omega)).symm | exact (allE0 hall (by omega)).symm))
          refine SL_nil (nx (SWP_cf rfl (SWP_exit (ne (ne (be rfl (nx (SWP_seq (SWP_region ?_)))))))))
          refine pI rfl rfl ?_
          refine SL_nil (nx (SWP_ret (nr ?_)))
          refine fin [_] ⟨rfl, trivial⟩ ?_
          refine congrArg (Value.int .i64) ?_
          first | (exfalso; omega) | exact aE4 b7 | exact aE7 b7 (by omega) | exact aE2 b7 (by omega) (by omega) | (rw [aEf b7 (by omega) (by omega)]; first | rw [if_pos (by omega)] | rw [if_neg (by omega), if_pos (by omega)] | (rw [if_neg (by omega), if_neg (by omega)]; first | exact (allE2 hx (by omega)).symm | exact (allE0 hall (by omega)).symm)) | (rw [aEs b7 (by omega) (by omega)]; first | rw [if_pos (by omega)] | rw [if_neg (by omega), if_pos (by omega)] | rw [if_neg (by omega), if_neg (by omega), if_pos (by omega)] | (rw [if_neg (by omega), if_neg (by omega), if_neg (by omega)]; first | exact (allE2 hx (by omega)).symm | exact (allE0 hall (by omega)).symm))
        refine pB rfl rfl ?_
        refine SL_nil (nx (SWP_ct rfl (SWP_seq (SWP_region ?_))))
        refine pI rfl rfl ?_
        refine SL_nil (nx (SWP_ret (nr (nr ?_))))
        refine fin [_] ⟨rfl, trivial⟩ ?_
        refine congrArg (Value.int .i64) ?_
        first | (exfalso; omega) | exact aE4 b7 | exact aE7 b7 (by omega) | exact aE2 b7 (by omega) (by omega) | (rw [aEf b7 (by omega) (by omega)]; first | rw [if_pos (by omega)] | rw [if_neg (by omega), if_pos (by omega)] | (rw [if_neg (by omega), if_neg (by omega)]; first | exact (allE2 hx (by omega)).symm | exact (allE0 hall (by omega)).symm)) | (rw [aEs b7 (by omega) (by omega)]; first | rw [if_pos (by omega)] | rw [if_neg (by omega), if_pos (by omega)] | rw [if_neg (by omega), if_neg (by omega), if_pos (by omega)] | (rw [if_neg (by omega), if_neg (by omega), if_neg (by omega)]; first | exact (allE2 hx (by omega)).symm | exact (allE0 hall (by omega)).symm))
      refine SL_nil (nx (SWP_cf rfl (SWP_skip (nx (SWP_seq (SWP_seq (SWP_region ?_)))))))
      refine pu rfl rfl ?_
      refine lw (v := .slice _ _ _) B1 3 rfl rfl rfl rfl ?_
      refine pu rfl rfl ?_
      refine pc rfl rfl (fun c55 => ?_) (fun c55 => ?_)
      · skip
        refine SL_nil (nx (SWP_ct rfl (SWP_seq (SWP_region ?_))))
        refine pI rfl rfl ?_
        refine SL_nil (nx (SWP_ret (nr ?_)))
        refine fin [_] ⟨rfl, trivial⟩ ?_
        refine congrArg (Value.int .i64) ?_
        first | (exfalso; omega) | exact aE4 b7 | exact aE7 b7 (by omega) | exact aE2 b7 (by omega) (by omega) | (rw [aEf b7 (by omega) (by omega)]; first | rw [if_pos (by omega)] | rw [if_neg (by omega), if_pos (by omega)] | (rw [if_neg (by omega), if_neg (by omega)]; first | exact (allE2 hx (by omega)).symm | exact (allE0 hall (by omega)).symm)) | (rw [aEs b7 (by omega) (by omega)]; first | rw [if_pos (by omega)] | rw [if_neg (by omega), if_pos (by omega)] | rw [if_neg (by omega), if_neg (by omega), if_pos (by omega)] | (rw [if_neg (by omega), if_neg (by omega), if_neg (by omega)]; first | exact (allE2 hx (by omega)).symm | exact (allE0 hall (by omega)).symm))
      refine SL_nil (nx (SWP_cf rfl (SWP_skip (nx (SWP_seq (SWP_seq (SWP_region ?_)))))))
      refine pu rfl rfl ?_
      refine lw (v := .int .i64 _) B1 4 rfl rfl rfl rfl ?_
      refine SL_pcall rfl rfl cb31 (inR _ _ _) rfl ?_
      refine psp 58 rfl (fun c58 => ?_) (fun c58 => ?_)
      · skip
        refine pB rfl rfl ?_
        refine SL_nil (nx (SWP_cf rfl (SWP_skip (nx (SWP_seq (SWP_seq (SWP_region ?_)))))))
        refine pu rfl rfl ?_
        refine lw (v := .slice _ _ _) B1 5 rfl rfl rfl rfl ?_
        refine pu rfl rfl ?_
        refine pu rfl rfl ?_
        refine lw (v := .int .i64 _) B1 4 rfl rfl rfl rfl ?_
        refine pc rfl rfl (fun c65 => ?_) (fun c65 => ?_)
        · skip
          refine SL_nil (nx (SWP_ct rfl (SWP_seq (SWP_region ?_))))
          refine pI rfl rfl ?_
          refine SL_nil (nx (SWP_ret (nr ?_)))
          refine fin [_] ⟨rfl, trivial⟩ ?_
          refine congrArg (Value.int .i64) ?_
          first | (exfalso; omega) | exact aE4 b7 | exact aE7 b7 (by omega) | exact aE2 b7 (by omega) (by omega) | (rw [aEf b7 (by omega) (by omega)]; first | rw [if_pos (by omega)] | rw [if_neg (by omega), if_pos (by omega)] | (rw [if_neg (by omega), if_neg (by omega)]; first | exact (allE2 hx (by omega)).symm | exact (allE0 hall (by omega)).symm)) | (rw [aEs b7 (by omega) (by omega)]; first | rw [if_pos (by omega)] | rw [if_neg (by omega), if_pos (by omega)] | rw [if_neg (by omega), if_neg (by omega), if_pos (by omega)] | (rw [if_neg (by omega), if_neg (by omega), if_neg (by omega)]; first | exact (allE2 hx (by omega)).symm | exact (allE0 hall (by omega)).symm))
        refine SL_nil (nx (SWP_cf rfl (SWP_skip (nx (SWP_seq (SWP_seq (SWP_region ?_)))))))
        refine pI rfl rfl ?_
        refine SL_nil (nx (SWP_block ?_))
        refine SWP_loop [2, 4, 66, 67, 68, 69, 70, 71, 72, 73, 74, 75, 76, 77, 78, 79] [4]
            (fun vs σ' m' => ∃ (i : Nat), vs = [.int .i64 (i : Nat)] ∧ i ≤ a.prizes.length ∧ (∀ x ∈ a.prizes.take i, (0 : Int) ≤ x ∧ x ≤ 1000000000) ∧ σ' = [(B1, Cells 47 a.enc)] ∧ m = m')
            (fun vs => a.prizes.length - nOf (vs.getD 0 undef)) rfl ?_ ?_
        · exact ⟨0, rfl, by omega, by simp, rfl, rfl⟩
        intro u1 vs1 σ1 m1 hJ1 _
        obtain ⟨i, rfl, hi, hall, rfl, rfl⟩ := hJ1
        dsimp only [Addon.enc]
        refine SWP_seq (SWP_seq (SWP_region ?_))
        first | refine pI rfl rfl ?_ | refine pu rfl rfl ?_
        refine pu rfl rfl ?_
        refine lw (v := .slice _ _ _) B1 5 rfl rfl rfl rfl ?_
        refine pu rfl rfl ?_
        refine pc rfl rfl (fun c70 => ?_) (fun c70 => ?_)
        · skip
          refine SL_nil (nx (SWP_ct rfl (SWP_skip (nx (SWP_seq (SWP_block (SWP_seq ?_)))))))
          obtain ⟨x, hx⟩ : ∃ x, a.prizes[i]? = some x := ⟨_, List.getElem?_eq_getElem (by omega)⟩
          obtain ⟨ad, had, _, hat⟩ := hp.atI hx
          refine SWP_region ?_
          refine pu rfl rfl ?_
          refine lw (v := .slice _ _ _) B1 5 rfl rfl rfl rfl ?_
          first | refine pI rfl rfl ?_ | refine pu rfl rfl ?_
          rw [had]
          first | refine ia (es := 1) rfl rfl rfl (Nat.mul_one _) rfl rfl (by omega) rfl ?_ | refine iai (es := 1) rfl rfl rfl (Nat.mul_one _) rfl rfl (by omega) (by omega) rfl ?_
          rw [← had]
          refine ldA (v := .int .i64 _) rfl (by assumption) rfl rfl ?_
          refine SL_pcall rfl rfl cb31 (inR _ _ _) rfl ?_
          refine psp 78 rfl (fun c78 => ?_) (fun c78 => ?_)
          · skip
            refine pB rfl rfl ?_
            refine SL_nil (nx (SWP_cf rfl (SWP_skip (nb (nx (SWP_region ?_))))))
            first | refine pI rfl rfl ?_ | refine pu rfl rfl ?_
            first | refine pw rfl rfl (w64 (by omega) (by omega)) ?_ | refine pu rfl rfl ?_
            refine pI rfl rfl ?_
            refine SL_nil (nx ?_)
            refine ⟨by repeat (first | exact Under.upds rfl (Under.hav _ _ _) | exact Under.hav _ _ _ | refine Under.upd rfl ?_ | refine Under.upds rfl ?_ | refine Under.hav2 rfl ?_), ?_, ?_⟩
            · refine ⟨i + 1, rfl, by omega, fun y hy => ?_, rfl, rfl⟩
              rw [take_snocA hx] at hy
              rcases List.mem_append.1 hy with hy | hy
              · exact hall y hy
              · rw [List.mem_singleton.1 hy]; omega
            · simp only [L_vals, List.map, List.getD]; show a.prizes.length - (i + 1) < a.prizes.length - i; omega
          refine pB rfl rfl ?_
          refine SL_nil (nx (SWP_ct rfl (SWP_seq (SWP_region ?_))))
          refine pI rfl rfl ?_
          refine SL_nil (nx (SWP_ret (br (nr (nr (br (nr ?_)))))))
          refine fin [_] ⟨rfl, trivial⟩ ?_
          refine congrArg (Value.int .i64) ?_
          first | (exfalso; omega) | exact aE4 b7 | exact aE7 b7 (by omega) | exact aE2 b7 (by omega) (by omega) | (rw [aEf b7 (by omega) (by omega)]; first | rw [if_pos (by omega)] | rw [if_neg (by omega), if_pos (by omega)] | (rw [if_neg (by omega), if_neg (by omega)]; first | exact (allE2 hx (by omega)).symm | exact (allE0 hall (by omega)).symm)) | (rw [aEs b7 (by omega) (by omega)]; first | rw [if_pos (by omega)] | rw [if_neg (by omega), if_pos (by omega)] | rw [if_neg (by omega), if_neg (by omega), if_pos (by omega)] | (rw [if_neg (by omega), if_neg (by omega), if_neg (by omega)]; first | exact (allE2 hx (by omega)).symm | exact (allE0 hall (by omega)).symm))
        refine SL_nil (nx (SWP_cf rfl (SWP_exit (ne (ne (be rfl (nx (SWP_seq (SWP_region ?_)))))))))
        refine pI rfl rfl ?_
        refine SL_nil (nx (SWP_ret ?_))
        refine fin [_] ⟨rfl, trivial⟩ ?_
        refine congrArg (Value.int .i64) ?_
        first | (exfalso; omega) | exact aE4 b7 | exact aE7 b7 (by omega) | exact aE2 b7 (by omega) (by omega) | (rw [aEf b7 (by omega) (by omega)]; first | rw [if_pos (by omega)] | rw [if_neg (by omega), if_pos (by omega)] | (rw [if_neg (by omega), if_neg (by omega)]; first | exact (allE2 hx (by omega)).symm | exact (allE0 hall (by omega)).symm)) | (rw [aEs b7 (by omega) (by omega)]; first | rw [if_pos (by omega)] | rw [if_neg (by omega), if_pos (by omega)] | rw [if_neg (by omega), if_neg (by omega), if_pos (by omega)] | (rw [if_neg (by omega), if_neg (by omega), if_neg (by omega)]; first | exact (allE2 hx (by omega)).symm | exact (allE0 hall (by omega)).symm))
      refine pB rfl rfl ?_
      refine SL_nil (nx (SWP_ct rfl (SWP_seq (SWP_region ?_))))
      refine pI rfl rfl ?_
      refine SL_nil (nx (SWP_ret (nr ?_)))
      refine fin [_] ⟨rfl, trivial⟩ ?_
      refine congrArg (Value.int .i64) ?_
      first | (exfalso; omega) | exact aE4 b7 | exact aE7 b7 (by omega) | exact aE2 b7 (by omega) (by omega) | (rw [aEf b7 (by omega) (by omega)]; first | rw [if_pos (by omega)] | rw [if_neg (by omega), if_pos (by omega)] | (rw [if_neg (by omega), if_neg (by omega)]; first | exact (allE2 hx (by omega)).symm | exact (allE0 hall (by omega)).symm)) | (rw [aEs b7 (by omega) (by omega)]; first | rw [if_pos (by omega)] | rw [if_neg (by omega), if_pos (by omega)] | rw [if_neg (by omega), if_neg (by omega), if_pos (by omega)] | (rw [if_neg (by omega), if_neg (by omega), if_neg (by omega)]; first | exact (allE2 hx (by omega)).symm | exact (allE0 hall (by omega)).symm))
    refine pB rfl rfl ?_
    refine SL_nil (nx (SWP_ct rfl (SWP_seq (SWP_region ?_))))
    refine pI rfl rfl ?_
    refine SL_nil (nx (SWP_ret (nr ?_)))
    refine fin [_] ⟨rfl, trivial⟩ ?_
    refine congrArg (Value.int .i64) ?_
    first | (exfalso; omega) | exact aE4 b7 | exact aE7 b7 (by omega) | exact aE2 b7 (by omega) (by omega) | (rw [aEf b7 (by omega) (by omega)]; first | rw [if_pos (by omega)] | rw [if_neg (by omega), if_pos (by omega)] | (rw [if_neg (by omega), if_neg (by omega)]; first | exact (allE2 hx (by omega)).symm | exact (allE0 hall (by omega)).symm)) | (rw [aEs b7 (by omega) (by omega)]; first | rw [if_pos (by omega)] | rw [if_neg (by omega), if_pos (by omega)] | rw [if_neg (by omega), if_neg (by omega), if_pos (by omega)] | (rw [if_neg (by omega), if_neg (by omega), if_neg (by omega)]; first | exact (allE2 hx (by omega)).symm | exact (allE0 hall (by omega)).symm))
  refine pB rfl rfl ?_
  refine SL_nil (nx (SWP_ct rfl (SWP_seq (SWP_region ?_))))
  refine pI rfl rfl ?_
  refine SL_nil (nx (SWP_ret (nr ?_)))
  refine fin [_] ⟨rfl, trivial⟩ ?_
  refine congrArg (Value.int .i64) ?_
  first | (exfalso; omega) | exact aE4 b7 | exact aE7 b7 (by omega) | exact aE2 b7 (by omega) (by omega) | (rw [aEf b7 (by omega) (by omega)]; first | rw [if_pos (by omega)] | rw [if_neg (by omega), if_pos (by omega)] | (rw [if_neg (by omega), if_neg (by omega)]; first | exact (allE2 hx (by omega)).symm | exact (allE0 hall (by omega)).symm)) | (rw [aEs b7 (by omega) (by omega)]; first | rw [if_pos (by omega)] | rw [if_neg (by omega), if_pos (by omega)] | rw [if_neg (by omega), if_neg (by omega), if_pos (by omega)] | (rw [if_neg (by omega), if_neg (by omega), if_neg (by omega)]; first | exact (allE2 hx (by omega)).symm | exact (allE0 hall (by omega)).symm))
set_option maxRecDepth 100000 in
theorem tierR {m : Mem} (g : Game) (t : Tier) (hk : g.kind = 1 ∨ g.kind = 2) (hm : g.main ≤ 10) (hb : g.bonus ≤ 10) (he : g.extra ≤ 10) : PureCall Tryz.prog 65 [g.val, t.val] m (.int .i64 (tierErr g t)) := by
  refine CallsS.pure ?_
  dsimp only [Game.val, Tier.val]
  refine enter Tryz.func65 Tryz.ntmps65 rfl rfl ?_
  refine SWP_seq (SWP_region ?_)
  refine bx (v := .agg _) rfl rfl (fun B2 => ?_)
  refine bx (v := .agg _) rfl rfl (fun B3 => ?_)
  refine pI rfl rfl ?_
  refine SL_nil (nx (SWP_seq (SWP_seq (SWP_region ?_))))
  refine pu rfl rfl ?_
  refine lw (v := .int .i64 _) B2 1 rfl rfl rfl rfl ?_
  refine pc rfl rfl (fun c8 => ?_) (fun c8 => ?_)
  · skip
    refine SL_nil (nx (SWP_ct rfl (SWP_seq (SWP_seq (SWP_region ?_)))))
    refine pu rfl rfl ?_
    refine lw (v := .int .i64 _) B3 3 rfl rfl rfl rfl ?_
    refine pc rfl rfl (fun c11 => ?_) (fun c11 => ?_)
    · skip
      refine SL_nil (nx (SWP_ct rfl (SWP_seq (SWP_region ?_))))
      refine pI rfl rfl ?_
      refine SL_nil (nx (SWP_ret (nr (nr ?_))))
      refine fin [_] ⟨rfl, trivial⟩ ?_
      refine congrArg (Value.int .i64) ?_
      have hh : hitsErr g.kind g.main g.bonus g.extra t = 7 ∨ hitsErr g.kind g.main g.bonus g.extra t = 2 ∨ hitsErr g.kind g.main g.bonus g.extra t = 0 := by
        unfold hitsErr
        (repeat' split) <;> simp
      unfold tierErr
      first
        | (have e7 : hitsErr g.kind g.main g.bonus g.extra t = 7 := by
             unfold hitsErr
             first
               | rw [if_pos (by omega), if_pos (by omega)]
               | rw [if_neg (by omega), if_pos (by omega)]
           rw [e7, if_pos (by omega)]; done)
        | (have e2 : hitsErr g.kind g.main g.bonus g.extra t = 2 := by
             unfold hitsErr
             first
               | rw [if_pos (by omega), if_neg (by omega), if_pos (by omega)]
               | rw [if_neg (by omega), if_neg (by omega), if_pos (by omega)]
           rw [e2, if_pos (by omega)]; done)
        | (have e0 : hitsErr g.kind g.main g.bonus g.extra t = 0 := by
             unfold hitsErr
             first
               | rw [if_pos (by omega), if_neg (by omega), if_neg (by omega)]
               | rw [if_neg (by omega), if_neg (by omega), if_neg (by omega)]
           rw [e0, if_neg (by omega)]
           first | rw [if_pos (by omega)] | rw [if_neg (by omega), if_pos (by omega)] | rw [if_neg (by omega), if_neg (by omega)])
    refine SL_nil (nx (SWP_cf rfl (SWP_skip (nx (SWP_seq (SWP_region ?_))))))
    refine pu rfl rfl ?_
    refine lw (v := .int .i64 _) B3 0 rfl rfl rfl rfl ?_
    refine pu rfl rfl ?_
    refine lw (v := .int .i64 _) B2 3 rfl rfl rfl rfl ?_
    refine SL_pcall rfl rfl cb31 (inR _ _ _) rfl ?_
    refine psp 16 rfl (fun c16 => ?_) (fun c16 => ?_)
    · skip
      refine pB rfl rfl ?_
      refine pB rfl rfl ?_
      refine SL_yes rfl ?_
      refine pu rfl rfl ?_
      refine SL_yes rfl ?_
      refine lw (v := .int .i64 _) B3 1 rfl rfl rfl rfl ?_
      refine SL_yes rfl ?_
      refine pu rfl rfl ?_
      refine SL_yes rfl ?_
      refine lw (v := .int .i64 _) B2 5 rfl rfl rfl rfl ?_
      refine SL_yes rfl ?_
      refine SL_pcall rfl rfl cb31 (inR _ _ _) rfl ?_
      refine psp 23 rfl (fun c23 => ?_) (fun c23 => ?_)
      · skip
        refine SL_yes rfl ?_
        refine pB rfl rfl ?_
        refine pB rfl rfl ?_
        refine pB rfl rfl ?_
        refine SL_yes rfl ?_
        refine pu rfl rfl ?_
        refine SL_yes rfl ?_
        refine lw (v := .int .i64 _) B3 2 rfl rfl rfl rfl ?_
        refine SL_yes rfl ?_
        refine pu rfl rfl ?_
        refine SL_yes rfl ?_
        refine lw (v := .int .i64 _) B2 7 rfl rfl rfl rfl ?_
        refine SL_yes rfl ?_
        refine SL_pcall rfl rfl cb31 (inR _ _ _) rfl ?_
        refine psp 31 rfl (fun c31 => ?_) (fun c31 => ?_)
        · skip
          refine SL_yes rfl ?_
          refine pB rfl rfl ?_
          refine pB rfl rfl ?_
          refine pB rfl rfl ?_
          refine SL_yes rfl ?_
          refine pu rfl rfl ?_
          refine SL_yes rfl ?_
          refine lw (v := .int .i64 _) B3 0 rfl rfl rfl rfl ?_
          refine SL_yes rfl ?_
          refine pu rfl rfl ?_
          refine SL_yes rfl ?_
          refine lw (v := .int .i64 _) B3 1 rfl rfl rfl rfl ?_
          refine SL_yes rfl ?_
          first | refine pw rfl rfl (w64 (by omega) (by omega)) ?_ | refine pu rfl rfl ?_
          refine SL_yes rfl ?_
          refine pu rfl rfl ?_
          refine SL_yes rfl ?_
          refine lw (v := .int .i64 _) B3 2 rfl rfl rfl rfl ?_
          refine SL_yes rfl ?_
          first | refine pw rfl rfl (w64 (by omega) (by omega)) ?_ | refine pu rfl rfl ?_
          refine SL_yes rfl ?_
          refine pc rfl rfl (fun c43 => ?_) (fun c43 => ?_)
          · skip
            refine pB rfl rfl ?_
            refine SL_nil (nx (SWP_ct rfl (SWP_seq (SWP_region ?_))))
            refine pI rfl rfl ?_
            refine SL_nil (nx (SWP_ret (nr ?_)))
            refine fin [_] ⟨rfl, trivial⟩ ?_
            refine congrArg (Value.int .i64) ?_
            have hh : hitsErr g.kind g.main g.bonus g.extra t = 7 ∨ hitsErr g.kind g.main g.bonus g.extra t = 2 ∨ hitsErr g.kind g.main g.bonus g.extra t = 0 := by
              unfold hitsErr
              (repeat' split) <;> simp
            unfold tierErr
            first
              | (have e7 : hitsErr g.kind g.main g.bonus g.extra t = 7 := by
                   unfold hitsErr
                   first
                     | rw [if_pos (by omega), if_pos (by omega)]
                     | rw [if_neg (by omega), if_pos (by omega)]
                 rw [e7, if_pos (by omega)]; done)
              | (have e2 : hitsErr g.kind g.main g.bonus g.extra t = 2 := by
                   unfold hitsErr
                   first
                     | rw [if_pos (by omega), if_neg (by omega), if_pos (by omega)]
                     | rw [if_neg (by omega), if_neg (by omega), if_pos (by omega)]
                 rw [e2, if_pos (by omega)]; done)
              | (have e0 : hitsErr g.kind g.main g.bonus g.extra t = 0 := by
                   unfold hitsErr
                   first
                     | rw [if_pos (by omega), if_neg (by omega), if_neg (by omega)]
                     | rw [if_neg (by omega), if_neg (by omega), if_neg (by omega)]
                 rw [e0, if_neg (by omega)]
                 first | rw [if_pos (by omega)] | rw [if_neg (by omega), if_pos (by omega)] | rw [if_neg (by omega), if_neg (by omega)])
          refine pB rfl rfl ?_
          refine SL_nil (nx (SWP_cf rfl (SWP_skip (nx (SWP_seq (SWP_seq (SWP_region ?_)))))))
          refine pu rfl rfl ?_
          refine lw (v := .int .i64 _) B3 4 rfl rfl rfl rfl ?_
          refine SL_pcall rfl rfl cb31 (inR _ _ _) rfl ?_
          refine psp 87 rfl (fun c87 => ?_) (fun c87 => ?_)
          · skip
            refine pB rfl rfl ?_
            refine SL_nil (nx (SWP_cf rfl (SWP_skip (nx (SWP_seq (SWP_seq (SWP_region ?_)))))))
            refine pu rfl rfl ?_
            refine lw (v := .int .i64 _) B3 5 rfl rfl rfl rfl ?_
            refine SL_pcall rfl rfl cb31 (inR _ _ _) rfl ?_
            refine psp 91 rfl (fun c91 => ?_) (fun c91 => ?_)
            · skip
              refine pB rfl rfl ?_
              refine SL_nil (nx (SWP_cf rfl (SWP_skip (nx (SWP_seq (SWP_region ?_))))))
              refine pI rfl rfl ?_
              refine SL_nil (nx (SWP_ret ?_))
              refine fin [_] ⟨rfl, trivial⟩ ?_
              refine congrArg (Value.int .i64) ?_
              have hh : hitsErr g.kind g.main g.bonus g.extra t = 7 ∨ hitsErr g.kind g.main g.bonus g.extra t = 2 ∨ hitsErr g.kind g.main g.bonus g.extra t = 0 := by
                unfold hitsErr
                (repeat' split) <;> simp
              unfold tierErr
              first
                | (have e7 : hitsErr g.kind g.main g.bonus g.extra t = 7 := by
                     unfold hitsErr
                     first
                       | rw [if_pos (by omega), if_pos (by omega)]
                       | rw [if_neg (by omega), if_pos (by omega)]
                   rw [e7, if_pos (by omega)]; done)
                | (have e2 : hitsErr g.kind g.main g.bonus g.extra t = 2 := by
                     unfold hitsErr
                     first
                       | rw [if_pos (by omega), if_neg (by omega), if_pos (by omega)]
                       | rw [if_neg (by omega), if_neg (by omega), if_pos (by omega)]
                   rw [e2, if_pos (by omega)]; done)
                | (have e0 : hitsErr g.kind g.main g.bonus g.extra t = 0 := by
                     unfold hitsErr
                     first
                       | rw [if_pos (by omega), if_neg (by omega), if_neg (by omega)]
                       | rw [if_neg (by omega), if_neg (by omega), if_neg (by omega)]
                   rw [e0, if_neg (by omega)]
                   first | rw [if_pos (by omega)] | rw [if_neg (by omega), if_pos (by omega)] | rw [if_neg (by omega), if_neg (by omega)])
            refine pB rfl rfl ?_
            refine SL_nil (nx (SWP_ct rfl (SWP_seq (SWP_region ?_))))
            refine pI rfl rfl ?_
            refine SL_nil (nx (SWP_ret (nr ?_)))
            refine fin [_] ⟨rfl, trivial⟩ ?_
            refine congrArg (Value.int .i64) ?_
            have hh : hitsErr g.kind g.main g.bonus g.extra t = 7 ∨ hitsErr g.kind g.main g.bonus g.extra t = 2 ∨ hitsErr g.kind g.main g.bonus g.extra t = 0 := by
              unfold hitsErr
              (repeat' split) <;> simp
            unfold tierErr
            first
              | (have e7 : hitsErr g.kind g.main g.bonus g.extra t = 7 := by
                   unfold hitsErr
                   first
                     | rw [if_pos (by omega), if_pos (by omega)]
                     | rw [if_neg (by omega), if_pos (by omega)]
                 rw [e7, if_pos (by omega)]; done)
              | (have e2 : hitsErr g.kind g.main g.bonus g.extra t = 2 := by
                   unfold hitsErr
                   first
                     | rw [if_pos (by omega), if_neg (by omega), if_pos (by omega)]
                     | rw [if_neg (by omega), if_neg (by omega), if_pos (by omega)]
                 rw [e2, if_pos (by omega)]; done)
              | (have e0 : hitsErr g.kind g.main g.bonus g.extra t = 0 := by
                   unfold hitsErr
                   first
                     | rw [if_pos (by omega), if_neg (by omega), if_neg (by omega)]
                     | rw [if_neg (by omega), if_neg (by omega), if_neg (by omega)]
                 rw [e0, if_neg (by omega)]
                 first | rw [if_pos (by omega)] | rw [if_neg (by omega), if_pos (by omega)] | rw [if_neg (by omega), if_neg (by omega)])
          refine pB rfl rfl ?_
          refine SL_nil (nx (SWP_ct rfl (SWP_seq (SWP_region ?_))))
          refine pI rfl rfl ?_
          refine SL_nil (nx (SWP_ret (nr ?_)))
          refine fin [_] ⟨rfl, trivial⟩ ?_
          refine congrArg (Value.int .i64) ?_
          have hh : hitsErr g.kind g.main g.bonus g.extra t = 7 ∨ hitsErr g.kind g.main g.bonus g.extra t = 2 ∨ hitsErr g.kind g.main g.bonus g.extra t = 0 := by
            unfold hitsErr
            (repeat' split) <;> simp
          unfold tierErr
          first
            | (have e7 : hitsErr g.kind g.main g.bonus g.extra t = 7 := by
                 unfold hitsErr
                 first
                   | rw [if_pos (by omega), if_pos (by omega)]
                   | rw [if_neg (by omega), if_pos (by omega)]
               rw [e7, if_pos (by omega)]; done)
            | (have e2 : hitsErr g.kind g.main g.bonus g.extra t = 2 := by
                 unfold hitsErr
                 first
                   | rw [if_pos (by omega), if_neg (by omega), if_pos (by omega)]
                   | rw [if_neg (by omega), if_neg (by omega), if_pos (by omega)]
               rw [e2, if_pos (by omega)]; done)
            | (have e0 : hitsErr g.kind g.main g.bonus g.extra t = 0 := by
                 unfold hitsErr
                 first
                   | rw [if_pos (by omega), if_neg (by omega), if_neg (by omega)]
                   | rw [if_neg (by omega), if_neg (by omega), if_neg (by omega)]
               rw [e0, if_neg (by omega)]
               first | rw [if_pos (by omega)] | rw [if_neg (by omega), if_pos (by omega)] | rw [if_neg (by omega), if_neg (by omega)])
        refine SL_yes rfl ?_
        refine pB rfl rfl ?_
        refine pB rfl rfl ?_
        refine pB rfl rfl ?_
        refine SL_no rfl rfl ?_
        refine SL_no rfl rfl ?_
        refine SL_no rfl rfl ?_
        refine SL_no rfl rfl ?_
        refine SL_no rfl rfl ?_
        refine SL_no rfl rfl ?_
        refine SL_no rfl rfl ?_
        refine SL_no rfl rfl ?_
        refine SL_no rfl rfl ?_
        refine pB rfl rfl ?_
        refine SL_nil (nx (SWP_ct rfl (SWP_seq (SWP_region ?_))))
        refine pI rfl rfl ?_
        refine SL_nil (nx (SWP_ret (nr ?_)))
        refine fin [_] ⟨rfl, trivial⟩ ?_
        refine congrArg (Value.int .i64) ?_
        have hh : hitsErr g.kind g.main g.bonus g.extra t = 7 ∨ hitsErr g.kind g.main g.bonus g.extra t = 2 ∨ hitsErr g.kind g.main g.bonus g.extra t = 0 := by
          unfold hitsErr
          (repeat' split) <;> simp
        unfold tierErr
        first
          | (have e7 : hitsErr g.kind g.main g.bonus g.extra t = 7 := by
               unfold hitsErr
               first
                 | rw [if_pos (by omega), if_pos (by omega)]
                 | rw [if_neg (by omega), if_pos (by omega)]
             rw [e7, if_pos (by omega)]; done)
          | (have e2 : hitsErr g.kind g.main g.bonus g.extra t = 2 := by
               unfold hitsErr
               first
                 | rw [if_pos (by omega), if_neg (by omega), if_pos (by omega)]
                 | rw [if_neg (by omega), if_neg (by omega), if_pos (by omega)]
             rw [e2, if_pos (by omega)]; done)
          | (have e0 : hitsErr g.kind g.main g.bonus g.extra t = 0 := by
               unfold hitsErr
               first
                 | rw [if_pos (by omega), if_neg (by omega), if_neg (by omega)]
                 | rw [if_neg (by omega), if_neg (by omega), if_neg (by omega)]
             rw [e0, if_neg (by omega)]
             first | rw [if_pos (by omega)] | rw [if_neg (by omega), if_pos (by omega)] | rw [if_neg (by omega), if_neg (by omega)])
      refine SL_yes rfl ?_
      refine pB rfl rfl ?_
      refine pB rfl rfl ?_
      refine pB rfl rfl ?_
      refine SL_no rfl rfl ?_
      refine SL_no rfl rfl ?_
      refine SL_no rfl rfl ?_
      refine SL_no rfl rfl ?_
      refine SL_no rfl rfl ?_
      refine SL_no rfl rfl ?_
      refine pB rfl rfl ?_
      refine pB rfl rfl ?_
      refine SL_no rfl rfl ?_
      refine SL_no rfl rfl ?_
      refine SL_no rfl rfl ?_
      refine SL_no rfl rfl ?_
      refine SL_no rfl rfl ?_
      refine SL_no rfl rfl ?_
      refine SL_no rfl rfl ?_
      refine SL_no rfl rfl ?_
      refine SL_no rfl rfl ?_
      refine pB rfl rfl ?_
      refine SL_nil (nx (SWP_ct rfl (SWP_seq (SWP_region ?_))))
      refine pI rfl rfl ?_
      refine SL_nil (nx (SWP_ret (nr ?_)))
      refine fin [_] ⟨rfl, trivial⟩ ?_
      refine congrArg (Value.int .i64) ?_
      have hh : hitsErr g.kind g.main g.bonus g.extra t = 7 ∨ hitsErr g.kind g.main g.bonus g.extra t = 2 ∨ hitsErr g.kind g.main g.bonus g.extra t = 0 := by
        unfold hitsErr
        (repeat' split) <;> simp
      unfold tierErr
      first
        | (have e7 : hitsErr g.kind g.main g.bonus g.extra t = 7 := by
             unfold hitsErr
             first
               | rw [if_pos (by omega), if_pos (by omega)]
               | rw [if_neg (by omega), if_pos (by omega)]
           rw [e7, if_pos (by omega)]; done)
        | (have e2 : hitsErr g.kind g.main g.bonus g.extra t = 2 := by
             unfold hitsErr
             first
               | rw [if_pos (by omega), if_neg (by omega), if_pos (by omega)]
               | rw [if_neg (by omega), if_neg (by omega), if_pos (by omega)]
           rw [e2, if_pos (by omega)]; done)
        | (have e0 : hitsErr g.kind g.main g.bonus g.extra t = 0 := by
             unfold hitsErr
             first
               | rw [if_pos (by omega), if_neg (by omega), if_neg (by omega)]
               | rw [if_neg (by omega), if_neg (by omega), if_neg (by omega)]
           rw [e0, if_neg (by omega)]
           first | rw [if_pos (by omega)] | rw [if_neg (by omega), if_pos (by omega)] | rw [if_neg (by omega), if_neg (by omega)])
    refine pB rfl rfl ?_
    refine pB rfl rfl ?_
    refine SL_no rfl rfl ?_
    refine SL_no rfl rfl ?_
    refine SL_no rfl rfl ?_
    refine SL_no rfl rfl ?_
    refine SL_no rfl rfl ?_
    refine SL_no rfl rfl ?_
    refine pB rfl rfl ?_
    refine pB rfl rfl ?_
    refine SL_no rfl rfl ?_
    refine SL_no rfl rfl ?_
    refine SL_no rfl rfl ?_
    refine SL_no rfl rfl ?_
    refine SL_no rfl rfl ?_
    refine SL_no rfl rfl ?_
    refine pB rfl rfl ?_
    refine pB rfl rfl ?_
    refine SL_no rfl rfl ?_
    refine SL_no rfl rfl ?_
    refine SL_no rfl rfl ?_
    refine SL_no rfl rfl ?_
    refine SL_no rfl rfl ?_
    refine SL_no rfl rfl ?_
    refine SL_no rfl rfl ?_
    refine SL_no rfl rfl ?_
    refine SL_no rfl rfl ?_
    refine pB rfl rfl ?_
    refine SL_nil (nx (SWP_ct rfl (SWP_seq (SWP_region ?_))))
    refine pI rfl rfl ?_
    refine SL_nil (nx (SWP_ret (nr ?_)))
    refine fin [_] ⟨rfl, trivial⟩ ?_
    refine congrArg (Value.int .i64) ?_
    have hh : hitsErr g.kind g.main g.bonus g.extra t = 7 ∨ hitsErr g.kind g.main g.bonus g.extra t = 2 ∨ hitsErr g.kind g.main g.bonus g.extra t = 0 := by
      unfold hitsErr
      (repeat' split) <;> simp
    unfold tierErr
    first
      | (have e7 : hitsErr g.kind g.main g.bonus g.extra t = 7 := by
           unfold hitsErr
           first
             | rw [if_pos (by omega), if_pos (by omega)]
             | rw [if_neg (by omega), if_pos (by omega)]
         rw [e7, if_pos (by omega)]; done)
      | (have e2 : hitsErr g.kind g.main g.bonus g.extra t = 2 := by
           unfold hitsErr
           first
             | rw [if_pos (by omega), if_neg (by omega), if_pos (by omega)]
             | rw [if_neg (by omega), if_neg (by omega), if_pos (by omega)]
         rw [e2, if_pos (by omega)]; done)
      | (have e0 : hitsErr g.kind g.main g.bonus g.extra t = 0 := by
           unfold hitsErr
           first
             | rw [if_pos (by omega), if_neg (by omega), if_neg (by omega)]
             | rw [if_neg (by omega), if_neg (by omega), if_neg (by omega)]
         rw [e0, if_neg (by omega)]
         first | rw [if_pos (by omega)] | rw [if_neg (by omega), if_pos (by omega)] | rw [if_neg (by omega), if_neg (by omega)])
  refine SL_nil (nx (SWP_cf rfl (SWP_seq (SWP_seq (SWP_region ?_)))))
  refine pu rfl rfl ?_
  refine lw (v := .int .i64 _) B3 3 rfl rfl rfl rfl ?_
  refine SL_pcall rfl rfl cb31 (inR _ _ _) rfl ?_
  refine psp 47 rfl (fun c47 => ?_) (fun c47 => ?_)
  · skip
    refine pB rfl rfl ?_
    refine SL_nil (nx (SWP_cf rfl (SWP_skip (nx (SWP_seq (SWP_region ?_))))))
    refine pu rfl rfl ?_
    refine lw (v := .int .i64 _) B3 3 rfl rfl rfl rfl ?_
    refine pc rfl rfl (fun c51 => ?_) (fun c51 => ?_)
    · skip
      refine pB rfl rfl ?_
      refine SL_no rfl rfl ?_
      refine SL_no rfl rfl ?_
      refine SL_no rfl rfl ?_
      refine pB rfl rfl ?_
      refine pB rfl rfl ?_
      refine SL_nil (nx (SWP_seq (SWP_region ?_)))
      refine pu rfl rfl ?_
      refine lw (v := .int .i64 _) B3 1 rfl rfl rfl rfl ?_
      refine pc rfl rfl (fun c59 => ?_) (fun c59 => ?_)
      · skip
        refine pB rfl rfl ?_
        refine SL_no rfl rfl ?_
        refine SL_no rfl rfl ?_
        refine SL_no rfl rfl ?_
        refine pB rfl rfl ?_
        refine pB rfl rfl ?_
        refine SL_no rfl rfl ?_
        refine SL_no rfl rfl ?_
        refine SL_no rfl rfl ?_
        refine SL_no rfl rfl ?_
        refine SL_no rfl rfl ?_
        refine SL_no rfl rfl ?_
        refine SL_no rfl rfl ?_
        refine SL_no rfl rfl ?_
        refine SL_no rfl rfl ?_
        refine pB rfl rfl ?_
        refine pB rfl rfl ?_
        refine SL_no rfl rfl ?_
        refine SL_no rfl rfl ?_
        refine SL_no rfl rfl ?_
        refine SL_no rfl rfl ?_
        refine SL_no rfl rfl ?_
        refine SL_no rfl rfl ?_
        refine SL_no rfl rfl ?_
        refine pB rfl rfl ?_
        refine SL_nil (nx (SWP_ct rfl (SWP_seq (SWP_region ?_))))
        refine pI rfl rfl ?_
        refine SL_nil (nx (SWP_ret (nr ?_)))
        refine fin [_] ⟨rfl, trivial⟩ ?_
        refine congrArg (Value.int .i64) ?_
        have hh : hitsErr g.kind g.main g.bonus g.extra t = 7 ∨ hitsErr g.kind g.main g.bonus g.extra t = 2 ∨ hitsErr g.kind g.main g.bonus g.extra t = 0 := by
          unfold hitsErr
          (repeat' split) <;> simp
        unfold tierErr
        first
          | (have e7 : hitsErr g.kind g.main g.bonus g.extra t = 7 := by
               unfold hitsErr
               first
                 | rw [if_pos (by omega), if_pos (by omega)]
                 | rw [if_neg (by omega), if_pos (by omega)]
             rw [e7, if_pos (by omega)]; done)
          | (have e2 : hitsErr g.kind g.main g.bonus g.extra t = 2 := by
               unfold hitsErr
               first
                 | rw [if_pos (by omega), if_neg (by omega), if_pos (by omega)]
                 | rw [if_neg (by omega), if_neg (by omega), if_pos (by omega)]
             rw [e2, if_pos (by omega)]; done)
          | (have e0 : hitsErr g.kind g.main g.bonus g.extra t = 0 := by
               unfold hitsErr
               first
                 | rw [if_pos (by omega), if_neg (by omega), if_neg (by omega)]
                 | rw [if_neg (by omega), if_neg (by omega), if_neg (by omega)]
             rw [e0, if_neg (by omega)]
             first | rw [if_pos (by omega)] | rw [if_neg (by omega), if_pos (by omega)] | rw [if_neg (by omega), if_neg (by omega)])
      refine pB rfl rfl ?_
      refine SL_yes rfl ?_
      refine pu rfl rfl ?_
      refine SL_yes rfl ?_
      refine lw (v := .int .i64 _) B3 2 rfl rfl rfl rfl ?_
      refine SL_yes rfl ?_
      refine pc rfl rfl (fun c63 => ?_) (fun c63 => ?_)
      · skip
        refine pB rfl rfl ?_
        refine pB rfl rfl ?_
        refine SL_no rfl rfl ?_
        refine SL_no rfl rfl ?_
        refine SL_no rfl rfl ?_
        refine SL_no rfl rfl ?_
        refine SL_no rfl rfl ?_
        refine SL_no rfl rfl ?_
        refine SL_no rfl rfl ?_
        refine SL_no rfl rfl ?_
        refine SL_no rfl rfl ?_
        refine pB rfl rfl ?_
        refine pB rfl rfl ?_
        refine SL_no rfl rfl ?_
        refine SL_no rfl rfl ?_
        refine SL_no rfl rfl ?_
        refine SL_no rfl rfl ?_
        refine SL_no rfl rfl ?_
        refine SL_no rfl rfl ?_
        refine SL_no rfl rfl ?_
        refine pB rfl rfl ?_
        refine SL_nil (nx (SWP_ct rfl (SWP_seq (SWP_region ?_))))
        refine pI rfl rfl ?_
        refine SL_nil (nx (SWP_ret (nr ?_)))
        refine fin [_] ⟨rfl, trivial⟩ ?_
        refine congrArg (Value.int .i64) ?_
        have hh : hitsErr g.kind g.main g.bonus g.extra t = 7 ∨ hitsErr g.kind g.main g.bonus g.extra t = 2 ∨ hitsErr g.kind g.main g.bonus g.extra t = 0 := by
          unfold hitsErr
          (repeat' split) <;> simp
        unfold tierErr
        first
          | (have e7 : hitsErr g.kind g.main g.bonus g.extra t = 7 := by
               unfold hitsErr
               first
                 | rw [if_pos (by omega), if_pos (by omega)]
                 | rw [if_neg (by omega), if_pos (by omega)]
             rw [e7, if_pos (by omega)]; done)
          | (have e2 : hitsErr g.kind g.main g.bonus g.extra t = 2 := by
               unfold hitsErr
               first
                 | rw [if_pos (by omega), if_neg (by omega), if_pos (by omega)]
                 | rw [if_neg (by omega), if_neg (by omega), if_pos (by omega)]
             rw [e2, if_pos (by omega)]; done)
          | (have e0 : hitsErr g.kind g.main g.bonus g.extra t = 0 := by
               unfold hitsErr
               first
                 | rw [if_pos (by omega), if_neg (by omega), if_neg (by omega)]
                 | rw [if_neg (by omega), if_neg (by omega), if_neg (by omega)]
             rw [e0, if_neg (by omega)]
             first | rw [if_pos (by omega)] | rw [if_neg (by omega), if_pos (by omega)] | rw [if_neg (by omega), if_neg (by omega)])
      refine pB rfl rfl ?_
      refine pB rfl rfl ?_
      refine SL_yes rfl ?_
      refine pB rfl rfl ?_
      refine SL_yes rfl ?_
      refine pB rfl rfl ?_
      refine SL_yes rfl ?_
      refine pu rfl rfl ?_
      refine SL_yes rfl ?_
      refine lw (v := .int .i64 _) B3 0 rfl rfl rfl rfl ?_
      refine SL_yes rfl ?_
      refine pu rfl rfl ?_
      refine SL_yes rfl ?_
      refine lw (v := .int .i64 _) B2 3 rfl rfl rfl rfl ?_
      refine SL_yes rfl ?_
      refine SL_pcall rfl rfl cb31 (inR _ _ _) rfl ?_
      refine psp 72 rfl (fun c72 => ?_) (fun c72 => ?_)
      · skip
        refine SL_yes rfl ?_
        refine pB rfl rfl ?_
        refine SL_yes rfl ?_
        refine pB rfl rfl ?_
        refine pB rfl rfl ?_
        refine pB rfl rfl ?_
        refine SL_yes rfl ?_
        refine pB rfl rfl ?_
        refine SL_yes rfl ?_
        refine pB rfl rfl ?_
        refine SL_yes rfl ?_
        refine pB rfl rfl ?_
        refine SL_no rfl rfl ?_
        refine SL_no rfl rfl ?_
        refine SL_no rfl rfl ?_
        refine SL_yes rfl ?_
        refine pB rfl rfl ?_
        refine pB rfl rfl ?_
        refine SL_nil (nx (SWP_cf rfl (SWP_skip (nx (SWP_seq (SWP_seq (SWP_region ?_)))))))
        refine pu rfl rfl ?_
        refine lw (v := .int .i64 _) B3 4 rfl rfl rfl rfl ?_
        refine SL_pcall rfl rfl cb31 (inR _ _ _) rfl ?_
        refine psp 87 rfl (fun c87 => ?_) (fun c87 => ?_)
        · skip
          refine pB rfl rfl ?_
          refine SL_nil (nx (SWP_cf rfl (SWP_skip (nx (SWP_seq (SWP_seq (SWP_region ?_)))))))
          refine pu rfl rfl ?_
          refine lw (v := .int .i64 _) B3 5 rfl rfl rfl rfl ?_
          refine SL_pcall rfl rfl cb31 (inR _ _ _) rfl ?_
          refine psp 91 rfl (fun c91 => ?_) (fun c91 => ?_)
          · skip
            refine pB rfl rfl ?_
            refine SL_nil (nx (SWP_cf rfl (SWP_skip (nx (SWP_seq (SWP_region ?_))))))
            refine pI rfl rfl ?_
            refine SL_nil (nx (SWP_ret ?_))
            refine fin [_] ⟨rfl, trivial⟩ ?_
            refine congrArg (Value.int .i64) ?_
            have hh : hitsErr g.kind g.main g.bonus g.extra t = 7 ∨ hitsErr g.kind g.main g.bonus g.extra t = 2 ∨ hitsErr g.kind g.main g.bonus g.extra t = 0 := by
              unfold hitsErr
              (repeat' split) <;> simp
            unfold tierErr
            first
              | (have e7 : hitsErr g.kind g.main g.bonus g.extra t = 7 := by
                   unfold hitsErr
                   first
                     | rw [if_pos (by omega), if_pos (by omega)]
                     | rw [if_neg (by omega), if_pos (by omega)]
                 rw [e7, if_pos (by omega)]; done)
              | (have e2 : hitsErr g.kind g.main g.bonus g.extra t = 2 := by
                   unfold hitsErr
                   first
                     | rw [if_pos (by omega), if_neg (by omega), if_pos (by omega)]
                     | rw [if_neg (by omega), if_neg (by omega), if_pos (by omega)]
                 rw [e2, if_pos (by omega)]; done)
              | (have e0 : hitsErr g.kind g.main g.bonus g.extra t = 0 := by
                   unfold hitsErr
                   first
                     | rw [if_pos (by omega), if_neg (by omega), if_neg (by omega)]
                     | rw [if_neg (by omega), if_neg (by omega), if_neg (by omega)]
                 rw [e0, if_neg (by omega)]
                 first | rw [if_pos (by omega)] | rw [if_neg (by omega), if_pos (by omega)] | rw [if_neg (by omega), if_neg (by omega)])
          refine pB rfl rfl ?_
          refine SL_nil (nx (SWP_ct rfl (SWP_seq (SWP_region ?_))))
          refine pI rfl rfl ?_
          refine SL_nil (nx (SWP_ret (nr ?_)))
          refine fin [_] ⟨rfl, trivial⟩ ?_
          refine congrArg (Value.int .i64) ?_
          have hh : hitsErr g.kind g.main g.bonus g.extra t = 7 ∨ hitsErr g.kind g.main g.bonus g.extra t = 2 ∨ hitsErr g.kind g.main g.bonus g.extra t = 0 := by
            unfold hitsErr
            (repeat' split) <;> simp
          unfold tierErr
          first
            | (have e7 : hitsErr g.kind g.main g.bonus g.extra t = 7 := by
                 unfold hitsErr
                 first
                   | rw [if_pos (by omega), if_pos (by omega)]
                   | rw [if_neg (by omega), if_pos (by omega)]
               rw [e7, if_pos (by omega)]; done)
            | (have e2 : hitsErr g.kind g.main g.bonus g.extra t = 2 := by
                 unfold hitsErr
                 first
                   | rw [if_pos (by omega), if_neg (by omega), if_pos (by omega)]
                   | rw [if_neg (by omega), if_neg (by omega), if_pos (by omega)]
               rw [e2, if_pos (by omega)]; done)
            | (have e0 : hitsErr g.kind g.main g.bonus g.extra t = 0 := by
                 unfold hitsErr
                 first
                   | rw [if_pos (by omega), if_neg (by omega), if_neg (by omega)]
                   | rw [if_neg (by omega), if_neg (by omega), if_neg (by omega)]
               rw [e0, if_neg (by omega)]
               first | rw [if_pos (by omega)] | rw [if_neg (by omega), if_pos (by omega)] | rw [if_neg (by omega), if_neg (by omega)])
        refine pB rfl rfl ?_
        refine SL_nil (nx (SWP_ct rfl (SWP_seq (SWP_region ?_))))
        refine pI rfl rfl ?_
        refine SL_nil (nx (SWP_ret (nr ?_)))
        refine fin [_] ⟨rfl, trivial⟩ ?_
        refine congrArg (Value.int .i64) ?_
        have hh : hitsErr g.kind g.main g.bonus g.extra t = 7 ∨ hitsErr g.kind g.main g.bonus g.extra t = 2 ∨ hitsErr g.kind g.main g.bonus g.extra t = 0 := by
          unfold hitsErr
          (repeat' split) <;> simp
        unfold tierErr
        first
          | (have e7 : hitsErr g.kind g.main g.bonus g.extra t = 7 := by
               unfold hitsErr
               first
                 | rw [if_pos (by omega), if_pos (by omega)]
                 | rw [if_neg (by omega), if_pos (by omega)]
             rw [e7, if_pos (by omega)]; done)
          | (have e2 : hitsErr g.kind g.main g.bonus g.extra t = 2 := by
               unfold hitsErr
               first
                 | rw [if_pos (by omega), if_neg (by omega), if_pos (by omega)]
                 | rw [if_neg (by omega), if_neg (by omega), if_pos (by omega)]
             rw [e2, if_pos (by omega)]; done)
          | (have e0 : hitsErr g.kind g.main g.bonus g.extra t = 0 := by
               unfold hitsErr
               first
                 | rw [if_pos (by omega), if_neg (by omega), if_neg (by omega)]
                 | rw [if_neg (by omega), if_neg (by omega), if_neg (by omega)]
             rw [e0, if_neg (by omega)]
             first | rw [if_pos (by omega)] | rw [if_neg (by omega), if_pos (by omega)] | rw [if_neg (by omega), if_neg (by omega)])
      refine SL_yes rfl ?_
      refine pB rfl rfl ?_
      refine SL_yes rfl ?_
      refine pB rfl rfl ?_
      refine pB rfl rfl ?_
      refine pB rfl rfl ?_
      refine SL_no rfl rfl ?_
      refine SL_no rfl rfl ?_
      refine SL_no rfl rfl ?_
      refine SL_no rfl rfl ?_
      refine SL_no rfl rfl ?_
      refine SL_no rfl rfl ?_
      refine SL_no rfl rfl ?_
      refine pB rfl rfl ?_
      refine SL_nil (nx (SWP_ct rfl (SWP_seq (SWP_region ?_))))
      refine pI rfl rfl ?_
      refine SL_nil (nx (SWP_ret (nr ?_)))
      refine fin [_] ⟨rfl, trivial⟩ ?_
      refine congrArg (Value.int .i64) ?_
      have hh : hitsErr g.kind g.main g.bonus g.extra t = 7 ∨ hitsErr g.kind g.main g.bonus g.extra t = 2 ∨ hitsErr g.kind g.main g.bonus g.extra t = 0 := by
        unfold hitsErr
        (repeat' split) <;> simp
      unfold tierErr
      first
        | (have e7 : hitsErr g.kind g.main g.bonus g.extra t = 7 := by
             unfold hitsErr
             first
               | rw [if_pos (by omega), if_pos (by omega)]
               | rw [if_neg (by omega), if_pos (by omega)]
           rw [e7, if_pos (by omega)]; done)
        | (have e2 : hitsErr g.kind g.main g.bonus g.extra t = 2 := by
             unfold hitsErr
             first
               | rw [if_pos (by omega), if_neg (by omega), if_pos (by omega)]
               | rw [if_neg (by omega), if_neg (by omega), if_pos (by omega)]
           rw [e2, if_pos (by omega)]; done)
        | (have e0 : hitsErr g.kind g.main g.bonus g.extra t = 0 := by
             unfold hitsErr
             first
               | rw [if_pos (by omega), if_neg (by omega), if_neg (by omega)]
               | rw [if_neg (by omega), if_neg (by omega), if_neg (by omega)]
           rw [e0, if_neg (by omega)]
           first | rw [if_pos (by omega)] | rw [if_neg (by omega), if_pos (by omega)] | rw [if_neg (by omega), if_neg (by omega)])
    refine pB rfl rfl ?_
    refine SL_yes rfl ?_
    refine pu rfl rfl ?_
    refine SL_yes rfl ?_
    refine lw (v := .int .i64 _) B3 3 rfl rfl rfl rfl ?_
    refine SL_yes rfl ?_
    refine pc rfl rfl (fun c55 => ?_) (fun c55 => ?_)
    · skip
      refine pB rfl rfl ?_
      refine pB rfl rfl ?_
      refine SL_nil (nx (SWP_seq (SWP_region ?_)))
      refine pu rfl rfl ?_
      refine lw (v := .int .i64 _) B3 1 rfl rfl rfl rfl ?_
      refine pc rfl rfl (fun c59 => ?_) (fun c59 => ?_)
      · skip
        refine pB rfl rfl ?_
        refine SL_no rfl rfl ?_
        refine SL_no rfl rfl ?_
        refine SL_no rfl rfl ?_
        refine pB rfl rfl ?_
        refine pB rfl rfl ?_
        refine SL_no rfl rfl ?_
        refine SL_no rfl rfl ?_
        refine SL_no rfl rfl ?_
        refine SL_no rfl rfl ?_
        refine SL_no rfl rfl ?_
        refine SL_no rfl rfl ?_
        refine SL_no rfl rfl ?_
        refine SL_no rfl rfl ?_
        refine SL_no rfl rfl ?_
        refine pB rfl rfl ?_
        refine pB rfl rfl ?_
        refine SL_no rfl rfl ?_
        refine SL_no rfl rfl ?_
        refine SL_no rfl rfl ?_
        refine SL_no rfl rfl ?_
        refine SL_no rfl rfl ?_
        refine SL_no rfl rfl ?_
        refine SL_no rfl rfl ?_
        refine pB rfl rfl ?_
        refine SL_nil (nx (SWP_ct rfl (SWP_seq (SWP_region ?_))))
        refine pI rfl rfl ?_
        refine SL_nil (nx (SWP_ret (nr ?_)))
        refine fin [_] ⟨rfl, trivial⟩ ?_
        refine congrArg (Value.int .i64) ?_
        have hh : hitsErr g.kind g.main g.bonus g.extra t = 7 ∨ hitsErr g.kind g.main g.bonus g.extra t = 2 ∨ hitsErr g.kind g.main g.bonus g.extra t = 0 := by
          unfold hitsErr
          (repeat' split) <;> simp
        unfold tierErr
        first
          | (have e7 : hitsErr g.kind g.main g.bonus g.extra t = 7 := by
               unfold hitsErr
               first
                 | rw [if_pos (by omega), if_pos (by omega)]
                 | rw [if_neg (by omega), if_pos (by omega)]
             rw [e7, if_pos (by omega)]; done)
          | (have e2 : hitsErr g.kind g.main g.bonus g.extra t = 2 := by
               unfold hitsErr
               first
                 | rw [if_pos (by omega), if_neg (by omega), if_pos (by omega)]
                 | rw [if_neg (by omega), if_neg (by omega), if_pos (by omega)]
             rw [e2, if_pos (by omega)]; done)
          | (have e0 : hitsErr g.kind g.main g.bonus g.extra t = 0 := by
               unfold hitsErr
               first
                 | rw [if_pos (by omega), if_neg (by omega), if_neg (by omega)]
                 | rw [if_neg (by omega), if_neg (by omega), if_neg (by omega)]
             rw [e0, if_neg (by omega)]
             first | rw [if_pos (by omega)] | rw [if_neg (by omega), if_pos (by omega)] | rw [if_neg (by omega), if_neg (by omega)])
      refine pB rfl rfl ?_
      refine SL_yes rfl ?_
      refine pu rfl rfl ?_
      refine SL_yes rfl ?_
      refine lw (v := .int .i64 _) B3 2 rfl rfl rfl rfl ?_
      refine SL_yes rfl ?_
      refine pc rfl rfl (fun c63 => ?_) (fun c63 => ?_)
      · skip
        refine pB rfl rfl ?_
        refine pB rfl rfl ?_
        refine SL_no rfl rfl ?_
        refine SL_no rfl rfl ?_
        refine SL_no rfl rfl ?_
        refine SL_no rfl rfl ?_
        refine SL_no rfl rfl ?_
        refine SL_no rfl rfl ?_
        refine SL_no rfl rfl ?_
        refine SL_no rfl rfl ?_
        refine SL_no rfl rfl ?_
        refine pB rfl rfl ?_
        refine pB rfl rfl ?_
        refine SL_no rfl rfl ?_
        refine SL_no rfl rfl ?_
        refine SL_no rfl rfl ?_
        refine SL_no rfl rfl ?_
        refine SL_no rfl rfl ?_
        refine SL_no rfl rfl ?_
        refine SL_no rfl rfl ?_
        refine pB rfl rfl ?_
        refine SL_nil (nx (SWP_ct rfl (SWP_seq (SWP_region ?_))))
        refine pI rfl rfl ?_
        refine SL_nil (nx (SWP_ret (nr ?_)))
        refine fin [_] ⟨rfl, trivial⟩ ?_
        refine congrArg (Value.int .i64) ?_
        have hh : hitsErr g.kind g.main g.bonus g.extra t = 7 ∨ hitsErr g.kind g.main g.bonus g.extra t = 2 ∨ hitsErr g.kind g.main g.bonus g.extra t = 0 := by
          unfold hitsErr
          (repeat' split) <;> simp
        unfold tierErr
        first
          | (have e7 : hitsErr g.kind g.main g.bonus g.extra t = 7 := by
               unfold hitsErr
               first
                 | rw [if_pos (by omega), if_pos (by omega)]
                 | rw [if_neg (by omega), if_pos (by omega)]
             rw [e7, if_pos (by omega)]; done)
          | (have e2 : hitsErr g.kind g.main g.bonus g.extra t = 2 := by
               unfold hitsErr
               first
                 | rw [if_pos (by omega), if_neg (by omega), if_pos (by omega)]
                 | rw [if_neg (by omega), if_neg (by omega), if_pos (by omega)]
             rw [e2, if_pos (by omega)]; done)
          | (have e0 : hitsErr g.kind g.main g.bonus g.extra t = 0 := by
               unfold hitsErr
               first
                 | rw [if_pos (by omega), if_neg (by omega), if_neg (by omega)]
                 | rw [if_neg (by omega), if_neg (by omega), if_neg (by omega)]
             rw [e0, if_neg (by omega)]
             first | rw [if_pos (by omega)] | rw [if_neg (by omega), if_pos (by omega)] | rw [if_neg (by omega), if_neg (by omega)])
      refine pB rfl rfl ?_
      refine pB rfl rfl ?_
      refine SL_yes rfl ?_
      refine pB rfl rfl ?_
      refine SL_yes rfl ?_
      refine pB rfl rfl ?_
      refine SL_yes rfl ?_
      refine pu rfl rfl ?_
      refine SL_yes rfl ?_
      refine lw (v := .int .i64 _) B3 0 rfl rfl rfl rfl ?_
      refine SL_yes rfl ?_
      refine pu rfl rfl ?_
      refine SL_yes rfl ?_
      refine lw (v := .int .i64 _) B2 3 rfl rfl rfl rfl ?_
      refine SL_yes rfl ?_
      refine SL_pcall rfl rfl cb31 (inR _ _ _) rfl ?_
      refine psp 72 rfl (fun c72 => ?_) (fun c72 => ?_)
      · skip
        refine SL_yes rfl ?_
        refine pB rfl rfl ?_
        refine SL_yes rfl ?_
        refine pB rfl rfl ?_
        refine pB rfl rfl ?_
        refine pB rfl rfl ?_
        refine SL_yes rfl ?_
        refine pB rfl rfl ?_
        refine SL_yes rfl ?_
        refine pB rfl rfl ?_
        refine SL_yes rfl ?_
        refine pB rfl rfl ?_
        refine SL_no rfl rfl ?_
        refine SL_no rfl rfl ?_
        refine SL_no rfl rfl ?_
        refine SL_yes rfl ?_
        refine pB rfl rfl ?_
        refine pB rfl rfl ?_
        refine SL_nil (nx (SWP_cf rfl (SWP_skip (nx (SWP_seq (SWP_seq (SWP_region ?_)))))))
        refine pu rfl rfl ?_
        refine lw (v := .int .i64 _) B3 4 rfl rfl rfl rfl ?_
        refine SL_pcall rfl rfl cb31 (inR _ _ _) rfl ?_
        refine psp 87 rfl (fun c87 => ?_) (fun c87 => ?_)
        · skip
          refine pB rfl rfl ?_
          refine SL_nil (nx (SWP_cf rfl (SWP_skip (nx (SWP_seq (SWP_seq (SWP_region ?_)))))))
          refine pu rfl rfl ?_
          refine lw (v := .int .i64 _) B3 5 rfl rfl rfl rfl ?_
          refine SL_pcall rfl rfl cb31 (inR _ _ _) rfl ?_
          refine psp 91 rfl (fun c91 => ?_) (fun c91 => ?_)
          · skip
            refine pB rfl rfl ?_
            refine SL_nil (nx (SWP_cf rfl (SWP_skip (nx (SWP_seq (SWP_region ?_))))))
            refine pI rfl rfl ?_
            refine SL_nil (nx (SWP_ret ?_))
            refine fin [_] ⟨rfl, trivial⟩ ?_
            refine congrArg (Value.int .i64) ?_
            have hh : hitsErr g.kind g.main g.bonus g.extra t = 7 ∨ hitsErr g.kind g.main g.bonus g.extra t = 2 ∨ hitsErr g.kind g.main g.bonus g.extra t = 0 := by
              unfold hitsErr
              (repeat' split) <;> simp
            unfold tierErr
            first
              | (have e7 : hitsErr g.kind g.main g.bonus g.extra t = 7 := by
                   unfold hitsErr
                   first
                     | rw [if_pos (by omega), if_pos (by omega)]
                     | rw [if_neg (by omega), if_pos (by omega)]
                 rw [e7, if_pos (by omega)]; done)
              | (have e2 : hitsErr g.kind g.main g.bonus g.extra t = 2 := by
                   unfold hitsErr
                   first
                     | rw [if_pos (by omega), if_neg (by omega), if_pos (by omega)]
                     | rw [if_neg (by omega), if_neg (by omega), if_pos (by omega)]
                 rw [e2, if_pos (by omega)]; done)
              | (have e0 : hitsErr g.kind g.main g.bonus g.extra t = 0 := by
                   unfold hitsErr
                   first
                     | rw [if_pos (by omega), if_neg (by omega), if_neg (by omega)]
                     | rw [if_neg (by omega), if_neg (by omega), if_neg (by omega)]
                 rw [e0, if_neg (by omega)]
                 first | rw [if_pos (by omega)] | rw [if_neg (by omega), if_pos (by omega)] | rw [if_neg (by omega), if_neg (by omega)])
          refine pB rfl rfl ?_
          refine SL_nil (nx (SWP_ct rfl (SWP_seq (SWP_region ?_))))
          refine pI rfl rfl ?_
          refine SL_nil (nx (SWP_ret (nr ?_)))
          refine fin [_] ⟨rfl, trivial⟩ ?_
          refine congrArg (Value.int .i64) ?_
          have hh : hitsErr g.kind g.main g.bonus g.extra t = 7 ∨ hitsErr g.kind g.main g.bonus g.extra t = 2 ∨ hitsErr g.kind g.main g.bonus g.extra t = 0 := by
            unfold hitsErr
            (repeat' split) <;> simp
          unfold tierErr
          first
            | (have e7 : hitsErr g.kind g.main g.bonus g.extra t = 7 := by
                 unfold hitsErr
                 first
                   | rw [if_pos (by omega), if_pos (by omega)]
                   | rw [if_neg (by omega), if_pos (by omega)]
               rw [e7, if_pos (by omega)]; done)
            | (have e2 : hitsErr g.kind g.main g.bonus g.extra t = 2 := by
                 unfold hitsErr
                 first
                   | rw [if_pos (by omega), if_neg (by omega), if_pos (by omega)]
                   | rw [if_neg (by omega), if_neg (by omega), if_pos (by omega)]
               rw [e2, if_pos (by omega)]; done)
            | (have e0 : hitsErr g.kind g.main g.bonus g.extra t = 0 := by
                 unfold hitsErr
                 first
                   | rw [if_pos (by omega), if_neg (by omega), if_neg (by omega)]
                   | rw [if_neg (by omega), if_neg (by omega), if_neg (by omega)]
               rw [e0, if_neg (by omega)]
               first | rw [if_pos (by omega)] | rw [if_neg (by omega), if_pos (by omega)] | rw [if_neg (by omega), if_neg (by omega)])
        refine pB rfl rfl ?_
        refine SL_nil (nx (SWP_ct rfl (SWP_seq (SWP_region ?_))))
        refine pI rfl rfl ?_
        refine SL_nil (nx (SWP_ret (nr ?_)))
        refine fin [_] ⟨rfl, trivial⟩ ?_
        refine congrArg (Value.int .i64) ?_
        have hh : hitsErr g.kind g.main g.bonus g.extra t = 7 ∨ hitsErr g.kind g.main g.bonus g.extra t = 2 ∨ hitsErr g.kind g.main g.bonus g.extra t = 0 := by
          unfold hitsErr
          (repeat' split) <;> simp
        unfold tierErr
        first
          | (have e7 : hitsErr g.kind g.main g.bonus g.extra t = 7 := by
               unfold hitsErr
               first
                 | rw [if_pos (by omega), if_pos (by omega)]
                 | rw [if_neg (by omega), if_pos (by omega)]
             rw [e7, if_pos (by omega)]; done)
          | (have e2 : hitsErr g.kind g.main g.bonus g.extra t = 2 := by
               unfold hitsErr
               first
                 | rw [if_pos (by omega), if_neg (by omega), if_pos (by omega)]
                 | rw [if_neg (by omega), if_neg (by omega), if_pos (by omega)]
             rw [e2, if_pos (by omega)]; done)
          | (have e0 : hitsErr g.kind g.main g.bonus g.extra t = 0 := by
               unfold hitsErr
               first
                 | rw [if_pos (by omega), if_neg (by omega), if_neg (by omega)]
                 | rw [if_neg (by omega), if_neg (by omega), if_neg (by omega)]
             rw [e0, if_neg (by omega)]
             first | rw [if_pos (by omega)] | rw [if_neg (by omega), if_pos (by omega)] | rw [if_neg (by omega), if_neg (by omega)])
      refine SL_yes rfl ?_
      refine pB rfl rfl ?_
      refine SL_yes rfl ?_
      refine pB rfl rfl ?_
      refine pB rfl rfl ?_
      refine pB rfl rfl ?_
      refine SL_no rfl rfl ?_
      refine SL_no rfl rfl ?_
      refine SL_no rfl rfl ?_
      refine SL_no rfl rfl ?_
      refine SL_no rfl rfl ?_
      refine SL_no rfl rfl ?_
      refine SL_no rfl rfl ?_
      refine pB rfl rfl ?_
      refine SL_nil (nx (SWP_ct rfl (SWP_seq (SWP_region ?_))))
      refine pI rfl rfl ?_
      refine SL_nil (nx (SWP_ret (nr ?_)))
      refine fin [_] ⟨rfl, trivial⟩ ?_
      refine congrArg (Value.int .i64) ?_
      have hh : hitsErr g.kind g.main g.bonus g.extra t = 7 ∨ hitsErr g.kind g.main g.bonus g.extra t = 2 ∨ hitsErr g.kind g.main g.bonus g.extra t = 0 := by
        unfold hitsErr
        (repeat' split) <;> simp
      unfold tierErr
      first
        | (have e7 : hitsErr g.kind g.main g.bonus g.extra t = 7 := by
             unfold hitsErr
             first
               | rw [if_pos (by omega), if_pos (by omega)]
               | rw [if_neg (by omega), if_pos (by omega)]
           rw [e7, if_pos (by omega)]; done)
        | (have e2 : hitsErr g.kind g.main g.bonus g.extra t = 2 := by
             unfold hitsErr
             first
               | rw [if_pos (by omega), if_neg (by omega), if_pos (by omega)]
               | rw [if_neg (by omega), if_neg (by omega), if_pos (by omega)]
           rw [e2, if_pos (by omega)]; done)
        | (have e0 : hitsErr g.kind g.main g.bonus g.extra t = 0 := by
             unfold hitsErr
             first
               | rw [if_pos (by omega), if_neg (by omega), if_neg (by omega)]
               | rw [if_neg (by omega), if_neg (by omega), if_neg (by omega)]
           rw [e0, if_neg (by omega)]
           first | rw [if_pos (by omega)] | rw [if_neg (by omega), if_pos (by omega)] | rw [if_neg (by omega), if_neg (by omega)])
    refine pB rfl rfl ?_
    refine pB rfl rfl ?_
    refine SL_nil (nx (SWP_seq (SWP_region ?_)))
    refine pu rfl rfl ?_
    refine lw (v := .int .i64 _) B3 1 rfl rfl rfl rfl ?_
    refine pc rfl rfl (fun c59 => ?_) (fun c59 => ?_)
    · skip
      refine pB rfl rfl ?_
      refine SL_no rfl rfl ?_
      refine SL_no rfl rfl ?_
      refine SL_no rfl rfl ?_
      refine pB rfl rfl ?_
      refine pB rfl rfl ?_
      refine SL_no rfl rfl ?_
      refine SL_no rfl rfl ?_
      refine SL_no rfl rfl ?_
      refine SL_no rfl rfl ?_
      refine SL_no rfl rfl ?_
      refine SL_no rfl rfl ?_
      refine SL_no rfl rfl ?_
      refine SL_no rfl rfl ?_
      refine SL_no rfl rfl ?_
      refine pB rfl rfl ?_
      refine pB rfl rfl ?_
      refine SL_no rfl rfl ?_
      refine SL_no rfl rfl ?_
      refine SL_no rfl rfl ?_
      refine SL_no rfl rfl ?_
      refine SL_no rfl rfl ?_
      refine SL_no rfl rfl ?_
      refine SL_no rfl rfl ?_
      refine pB rfl rfl ?_
      refine SL_nil (nx (SWP_ct rfl (SWP_seq (SWP_region ?_))))
      refine pI rfl rfl ?_
      refine SL_nil (nx (SWP_ret (nr ?_)))
      refine fin [_] ⟨rfl, trivial⟩ ?_
      refine congrArg (Value.int .i64) ?_
      have hh : hitsErr g.kind g.main g.bonus g.extra t = 7 ∨ hitsErr g.kind g.main g.bonus g.extra t = 2 ∨ hitsErr g.kind g.main g.bonus g.extra t = 0 := by
        unfold hitsErr
        (repeat' split) <;> simp
      unfold tierErr
      first
        | (have e7 : hitsErr g.kind g.main g.bonus g.extra t = 7 := by
             unfold hitsErr
             first
               | rw [if_pos (by omega), if_pos (by omega)]
               | rw [if_neg (by omega), if_pos (by omega)]
           rw [e7, if_pos (by omega)]; done)
        | (have e2 : hitsErr g.kind g.main g.bonus g.extra t = 2 := by
             unfold hitsErr
             first
               | rw [if_pos (by omega), if_neg (by omega), if_pos (by omega)]
               | rw [if_neg (by omega), if_neg (by omega), if_pos (by omega)]
           rw [e2, if_pos (by omega)]; done)
        | (have e0 : hitsErr g.kind g.main g.bonus g.extra t = 0 := by
             unfold hitsErr
             first
               | rw [if_pos (by omega), if_neg (by omega), if_neg (by omega)]
               | rw [if_neg (by omega), if_neg (by omega), if_neg (by omega)]
           rw [e0, if_neg (by omega)]
           first | rw [if_pos (by omega)] | rw [if_neg (by omega), if_pos (by omega)] | rw [if_neg (by omega), if_neg (by omega)])
    refine pB rfl rfl ?_
    refine SL_yes rfl ?_
    refine pu rfl rfl ?_
    refine SL_yes rfl ?_
    refine lw (v := .int .i64 _) B3 2 rfl rfl rfl rfl ?_
    refine SL_yes rfl ?_
    refine pc rfl rfl (fun c63 => ?_) (fun c63 => ?_)
    · skip
      refine pB rfl rfl ?_
      refine pB rfl rfl ?_
      refine SL_no rfl rfl ?_
      refine SL_no rfl rfl ?_
      refine SL_no rfl rfl ?_
      refine SL_no rfl rfl ?_
      refine SL_no rfl rfl ?_
      refine SL_no rfl rfl ?_
      refine SL_no rfl rfl ?_
      refine SL_no rfl rfl ?_
      refine SL_no rfl rfl ?_
      refine pB rfl rfl ?_
      refine pB rfl rfl ?_
      refine SL_no rfl rfl ?_
      refine SL_no rfl rfl ?_
      refine SL_no rfl rfl ?_
      refine SL_no rfl rfl ?_
      refine SL_no rfl rfl ?_
      refine SL_no rfl rfl ?_
      refine SL_no rfl rfl ?_
      refine pB rfl rfl ?_
      refine SL_nil (nx (SWP_ct rfl (SWP_seq (SWP_region ?_))))
      refine pI rfl rfl ?_
      refine SL_nil (nx (SWP_ret (nr ?_)))
      refine fin [_] ⟨rfl, trivial⟩ ?_
      refine congrArg (Value.int .i64) ?_
      have hh : hitsErr g.kind g.main g.bonus g.extra t = 7 ∨ hitsErr g.kind g.main g.bonus g.extra t = 2 ∨ hitsErr g.kind g.main g.bonus g.extra t = 0 := by
        unfold hitsErr
        (repeat' split) <;> simp
      unfold tierErr
      first
        | (have e7 : hitsErr g.kind g.main g.bonus g.extra t = 7 := by
             unfold hitsErr
             first
               | rw [if_pos (by omega), if_pos (by omega)]
               | rw [if_neg (by omega), if_pos (by omega)]
           rw [e7, if_pos (by omega)]; done)
        | (have e2 : hitsErr g.kind g.main g.bonus g.extra t = 2 := by
             unfold hitsErr
             first
               | rw [if_pos (by omega), if_neg (by omega), if_pos (by omega)]
               | rw [if_neg (by omega), if_neg (by omega), if_pos (by omega)]
           rw [e2, if_pos (by omega)]; done)
        | (have e0 : hitsErr g.kind g.main g.bonus g.extra t = 0 := by
             unfold hitsErr
             first
               | rw [if_pos (by omega), if_neg (by omega), if_neg (by omega)]
               | rw [if_neg (by omega), if_neg (by omega), if_neg (by omega)]
           rw [e0, if_neg (by omega)]
           first | rw [if_pos (by omega)] | rw [if_neg (by omega), if_pos (by omega)] | rw [if_neg (by omega), if_neg (by omega)])
    refine pB rfl rfl ?_
    refine pB rfl rfl ?_
    refine SL_yes rfl ?_
    refine pB rfl rfl ?_
    refine SL_yes rfl ?_
    refine pB rfl rfl ?_
    refine SL_no rfl rfl ?_
    refine SL_no rfl rfl ?_
    refine SL_no rfl rfl ?_
    refine SL_no rfl rfl ?_
    refine SL_no rfl rfl ?_
    refine SL_no rfl rfl ?_
    refine SL_yes rfl ?_
    refine pB rfl rfl ?_
    refine pB rfl rfl ?_
    refine pB rfl rfl ?_
    refine SL_yes rfl ?_
    refine pB rfl rfl ?_
    refine SL_yes rfl ?_
    refine pB rfl rfl ?_
    refine SL_yes rfl ?_
    refine pB rfl rfl ?_
    refine SL_yes rfl ?_
    refine pu rfl rfl ?_
    refine SL_yes rfl ?_
    refine lw (v := .int .i64 _) B3 0 rfl rfl rfl rfl ?_
    refine SL_yes rfl ?_
    refine pc rfl rfl (fun c82 => ?_) (fun c82 => ?_)
    · skip
      refine SL_yes rfl ?_
      refine pB rfl rfl ?_
      refine pB rfl rfl ?_
      refine SL_nil (nx (SWP_ct rfl (SWP_seq (SWP_region ?_))))
      refine pI rfl rfl ?_
      refine SL_nil (nx (SWP_ret (nr ?_)))
      refine fin [_] ⟨rfl, trivial⟩ ?_
      refine congrArg (Value.int .i64) ?_
      have hh : hitsErr g.kind g.main g.bonus g.extra t = 7 ∨ hitsErr g.kind g.main g.bonus g.extra t = 2 ∨ hitsErr g.kind g.main g.bonus g.extra t = 0 := by
        unfold hitsErr
        (repeat' split) <;> simp
      unfold tierErr
      first
        | (have e7 : hitsErr g.kind g.main g.bonus g.extra t = 7 := by
             unfold hitsErr
             first
               | rw [if_pos (by omega), if_pos (by omega)]
               | rw [if_neg (by omega), if_pos (by omega)]
           rw [e7, if_pos (by omega)]; done)
        | (have e2 : hitsErr g.kind g.main g.bonus g.extra t = 2 := by
             unfold hitsErr
             first
               | rw [if_pos (by omega), if_neg (by omega), if_pos (by omega)]
               | rw [if_neg (by omega), if_neg (by omega), if_pos (by omega)]
           rw [e2, if_pos (by omega)]; done)
        | (have e0 : hitsErr g.kind g.main g.bonus g.extra t = 0 := by
             unfold hitsErr
             first
               | rw [if_pos (by omega), if_neg (by omega), if_neg (by omega)]
               | rw [if_neg (by omega), if_neg (by omega), if_neg (by omega)]
           rw [e0, if_neg (by omega)]
           first | rw [if_pos (by omega)] | rw [if_neg (by omega), if_pos (by omega)] | rw [if_neg (by omega), if_neg (by omega)])
    refine SL_yes rfl ?_
    refine pB rfl rfl ?_
    refine pB rfl rfl ?_
    refine SL_nil (nx (SWP_cf rfl (SWP_skip (nx (SWP_seq (SWP_seq (SWP_region ?_)))))))
    refine pu rfl rfl ?_
    refine lw (v := .int .i64 _) B3 4 rfl rfl rfl rfl ?_
    refine SL_pcall rfl rfl cb31 (inR _ _ _) rfl ?_
    refine psp 87 rfl (fun c87 => ?_) (fun c87 => ?_)
    · skip
      refine pB rfl rfl ?_
      refine SL_nil (nx (SWP_cf rfl (SWP_skip (nx (SWP_seq (SWP_seq (SWP_region ?_)))))))
      refine pu rfl rfl ?_
      refine lw (v := .int .i64 _) B3 5 rfl rfl rfl rfl ?_
      refine SL_pcall rfl rfl cb31 (inR _ _ _) rfl ?_
      refine psp 91 rfl (fun c91 => ?_) (fun c91 => ?_)
      · skip
        refine pB rfl rfl ?_
        refine SL_nil (nx (SWP_cf rfl (SWP_skip (nx (SWP_seq (SWP_region ?_))))))
        refine pI rfl rfl ?_
        refine SL_nil (nx (SWP_ret ?_))
        refine fin [_] ⟨rfl, trivial⟩ ?_
        refine congrArg (Value.int .i64) ?_
        have hh : hitsErr g.kind g.main g.bonus g.extra t = 7 ∨ hitsErr g.kind g.main g.bonus g.extra t = 2 ∨ hitsErr g.kind g.main g.bonus g.extra t = 0 := by
          unfold hitsErr
          (repeat' split) <;> simp
        unfold tierErr
        first
          | (have e7 : hitsErr g.kind g.main g.bonus g.extra t = 7 := by
               unfold hitsErr
               first
                 | rw [if_pos (by omega), if_pos (by omega)]
                 | rw [if_neg (by omega), if_pos (by omega)]
             rw [e7, if_pos (by omega)]; done)
          | (have e2 : hitsErr g.kind g.main g.bonus g.extra t = 2 := by
               unfold hitsErr
               first
                 | rw [if_pos (by omega), if_neg (by omega), if_pos (by omega)]
                 | rw [if_neg (by omega), if_neg (by omega), if_pos (by omega)]
             rw [e2, if_pos (by omega)]; done)
          | (have e0 : hitsErr g.kind g.main g.bonus g.extra t = 0 := by
               unfold hitsErr
               first
                 | rw [if_pos (by omega), if_neg (by omega), if_neg (by omega)]
                 | rw [if_neg (by omega), if_neg (by omega), if_neg (by omega)]
             rw [e0, if_neg (by omega)]
             first | rw [if_pos (by omega)] | rw [if_neg (by omega), if_pos (by omega)] | rw [if_neg (by omega), if_neg (by omega)])
      refine pB rfl rfl ?_
      refine SL_nil (nx (SWP_ct rfl (SWP_seq (SWP_region ?_))))
      refine pI rfl rfl ?_
      refine SL_nil (nx (SWP_ret (nr ?_)))
      refine fin [_] ⟨rfl, trivial⟩ ?_
      refine congrArg (Value.int .i64) ?_
      have hh : hitsErr g.kind g.main g.bonus g.extra t = 7 ∨ hitsErr g.kind g.main g.bonus g.extra t = 2 ∨ hitsErr g.kind g.main g.bonus g.extra t = 0 := by
        unfold hitsErr
        (repeat' split) <;> simp
      unfold tierErr
      first
        | (have e7 : hitsErr g.kind g.main g.bonus g.extra t = 7 := by
             unfold hitsErr
             first
               | rw [if_pos (by omega), if_pos (by omega)]
               | rw [if_neg (by omega), if_pos (by omega)]
           rw [e7, if_pos (by omega)]; done)
        | (have e2 : hitsErr g.kind g.main g.bonus g.extra t = 2 := by
             unfold hitsErr
             first
               | rw [if_pos (by omega), if_neg (by omega), if_pos (by omega)]
               | rw [if_neg (by omega), if_neg (by omega), if_pos (by omega)]
           rw [e2, if_pos (by omega)]; done)
        | (have e0 : hitsErr g.kind g.main g.bonus g.extra t = 0 := by
             unfold hitsErr
             first
               | rw [if_pos (by omega), if_neg (by omega), if_neg (by omega)]
               | rw [if_neg (by omega), if_neg (by omega), if_neg (by omega)]
           rw [e0, if_neg (by omega)]
           first | rw [if_pos (by omega)] | rw [if_neg (by omega), if_pos (by omega)] | rw [if_neg (by omega), if_neg (by omega)])
    refine pB rfl rfl ?_
    refine SL_nil (nx (SWP_ct rfl (SWP_seq (SWP_region ?_))))
    refine pI rfl rfl ?_
    refine SL_nil (nx (SWP_ret (nr ?_)))
    refine fin [_] ⟨rfl, trivial⟩ ?_
    refine congrArg (Value.int .i64) ?_
    have hh : hitsErr g.kind g.main g.bonus g.extra t = 7 ∨ hitsErr g.kind g.main g.bonus g.extra t = 2 ∨ hitsErr g.kind g.main g.bonus g.extra t = 0 := by
      unfold hitsErr
      (repeat' split) <;> simp
    unfold tierErr
    first
      | (have e7 : hitsErr g.kind g.main g.bonus g.extra t = 7 := by
           unfold hitsErr
           first
             | rw [if_pos (by omega), if_pos (by omega)]
             | rw [if_neg (by omega), if_pos (by omega)]
         rw [e7, if_pos (by omega)]; done)
      | (have e2 : hitsErr g.kind g.main g.bonus g.extra t = 2 := by
           unfold hitsErr
           first
             | rw [if_pos (by omega), if_neg (by omega), if_pos (by omega)]
             | rw [if_neg (by omega), if_neg (by omega), if_pos (by omega)]
         rw [e2, if_pos (by omega)]; done)
      | (have e0 : hitsErr g.kind g.main g.bonus g.extra t = 0 := by
           unfold hitsErr
           first
             | rw [if_pos (by omega), if_neg (by omega), if_neg (by omega)]
             | rw [if_neg (by omega), if_neg (by omega), if_neg (by omega)]
         rw [e0, if_neg (by omega)]
         first | rw [if_pos (by omega)] | rw [if_neg (by omega), if_pos (by omega)] | rw [if_neg (by omega), if_neg (by omega)])
  refine pB rfl rfl ?_
  refine SL_nil (nx (SWP_ct rfl (SWP_seq (SWP_region ?_))))
  refine pI rfl rfl ?_
  refine SL_nil (nx (SWP_ret (nr (nr ?_))))
  refine fin [_] ⟨rfl, trivial⟩ ?_
  refine congrArg (Value.int .i64) ?_
  have hh : hitsErr g.kind g.main g.bonus g.extra t = 7 ∨ hitsErr g.kind g.main g.bonus g.extra t = 2 ∨ hitsErr g.kind g.main g.bonus g.extra t = 0 := by
    unfold hitsErr
    (repeat' split) <;> simp
  unfold tierErr
  first
    | (have e7 : hitsErr g.kind g.main g.bonus g.extra t = 7 := by
         unfold hitsErr
         first
           | rw [if_pos (by omega), if_pos (by omega)]
           | rw [if_neg (by omega), if_pos (by omega)]
       rw [e7, if_pos (by omega)]; done)
    | (have e2 : hitsErr g.kind g.main g.bonus g.extra t = 2 := by
         unfold hitsErr
         first
           | rw [if_pos (by omega), if_neg (by omega), if_pos (by omega)]
           | rw [if_neg (by omega), if_neg (by omega), if_pos (by omega)]
       rw [e2, if_pos (by omega)]; done)
    | (have e0 : hitsErr g.kind g.main g.bonus g.extra t = 0 := by
         unfold hitsErr
         first
           | rw [if_pos (by omega), if_neg (by omega), if_neg (by omega)]
           | rw [if_neg (by omega), if_neg (by omega), if_neg (by omega)]
       rw [e0, if_neg (by omega)]
       first | rw [if_pos (by omega)] | rw [if_neg (by omega), if_pos (by omega)] | rw [if_neg (by omega), if_neg (by omega)])
theorem modeR {m : Mem} (g : Game) (t : Tier) (h : 1 ≤ t.mode ∧ t.mode ≤ 4) : PureCall Tryz.prog 97 [g.val, t.val] m (.int .i64 (effM g t)) := by
  refine CallsS.pure ?_
  dsimp only [Game.val, Tier.val]
  refine enter Tryz.func97 Tryz.ntmps97 rfl rfl ?_
  refine SWP_seq (SWP_region ?_)
  refine bx (v := .agg _) rfl rfl (fun B2 => ?_)
  refine bx (v := .agg _) rfl rfl (fun B3 => ?_)
  refine pI rfl rfl ?_
  refine SL_nil (nx (SWP_seq (SWP_seq (SWP_region ?_))))
  refine pu rfl rfl ?_
  refine lw (v := .int .i64 _) B3 3 rfl rfl rfl rfl ?_
  refine pc rfl rfl (fun c7 => ?_) (fun c7 => ?_)
  · skip
    refine pB rfl rfl ?_
    refine SL_yes rfl ?_
    refine pu rfl rfl ?_
    refine SL_yes rfl ?_
    refine lw (v := .int .i64 _) B3 0 rfl rfl rfl rfl ?_
    refine SL_yes rfl ?_
    refine pu rfl rfl ?_
    refine SL_yes rfl ?_
    refine lw (v := .int .i64 _) B2 3 rfl rfl rfl rfl ?_
    refine SL_yes rfl ?_
    refine pc rfl rfl (fun c13 => ?_) (fun c13 => ?_)
    · skip
      refine pB rfl rfl ?_
      refine SL_nil (nx (SWP_ct rfl (SWP_seq (SWP_region ?_))))
      refine pI rfl rfl ?_
      refine SL_nil (nx (SWP_ret (nr ?_)))
      refine fin [_] ⟨rfl, trivial⟩ ?_
      refine congrArg (Value.int .i64) ?_
      unfold effM
      first | rw [if_pos (by omega)] | rw [if_neg (by omega)]
    refine pB rfl rfl ?_
    refine SL_nil (nx (SWP_cf rfl (SWP_skip (nx (SWP_seq (SWP_region ?_))))))
    refine pu rfl rfl ?_
    refine lw (v := .int .i64 _) B3 3 rfl rfl rfl rfl ?_
    refine pI rfl rfl ?_
    refine SL_nil (nx (SWP_ret ?_))
    refine fin [_] ⟨rfl, trivial⟩ ?_
    refine congrArg (Value.int .i64) ?_
    unfold effM
    first | rw [if_pos (by omega)] | rw [if_neg (by omega)]
  refine pB rfl rfl ?_
  refine SL_no rfl rfl ?_
  refine SL_no rfl rfl ?_
  refine SL_no rfl rfl ?_
  refine SL_no rfl rfl ?_
  refine SL_no rfl rfl ?_
  refine pB rfl rfl ?_
  refine SL_nil (nx (SWP_cf rfl (SWP_skip (nx (SWP_seq (SWP_region ?_))))))
  refine pu rfl rfl ?_
  refine lw (v := .int .i64 _) B3 3 rfl rfl rfl rfl ?_
  refine pI rfl rfl ?_
  refine SL_nil (nx (SWP_ret ?_))
  refine fin [_] ⟨rfl, trivial⟩ ?_
  refine congrArg (Value.int .i64) ?_
  unfold effM
  first | rw [if_pos (by omega)] | rw [if_neg (by omega)]
theorem tier_digits {g : Game} {t : Tier} (h : tierErr g t = 0) (hk : g.kind = 2) : 1 ≤ t.mode ∧ t.mode ≤ 4 ∧ (t.mode ≤ 2 → t.main = 0) := by
  unfold tierErr at h
  have h0 : hitsErr g.kind g.main g.bonus g.extra t = 0 := by
    by_cases e : hitsErr g.kind g.main g.bonus g.extra t = 0
    · exact e
    · rw [if_pos e] at h; exact h
  unfold hitsErr at h0
  rw [if_pos hk] at h0
  split at h0
  · cases h0
  · split at h0
    · cases h0
    · omega
theorem effM_cases (g : Game) (t : Tier) : (effM g t = 1 ∧ (t.mode = 3 ∨ t.mode = 4) ∧ t.main = g.main) ∨ (effM g t = t.mode ∧ ¬ ((t.mode = 3 ∨ t.mode = 4) ∧ t.main = g.main)) := by
  unfold effM
  split
  · rename_i h; exact .inl ⟨rfl, h⟩
  · rename_i h; exact .inr ⟨rfl, h⟩
theorem coversR {m : Mem} (g : Game) (a b : Tier) (hk : g.kind = 1 ∨ g.kind = 2) (ha : tierErr g a = 0) (hb : tierErr g b = 0) : PureCall Tryz.prog 66 [g.val, a.val, b.val] m (.bool (decide (covP g a b))) := by
  refine CallsS.pure ?_
  dsimp only [Game.val, Tier.val]
  refine enter Tryz.func66 Tryz.ntmps66 rfl rfl ?_
  refine SWP_seq (SWP_region ?_)
  refine bx (v := .agg _) rfl rfl (fun B3 => ?_)
  refine bx (v := .agg _) rfl rfl (fun B4 => ?_)
  refine bx (v := .agg _) rfl rfl (fun B5 => ?_)
  refine pB rfl rfl ?_
  refine SL_nil (nx (SWP_seq (SWP_seq (SWP_region ?_))))
  refine pu rfl rfl ?_
  refine lw (v := .int .i64 _) B3 1 rfl rfl rfl rfl ?_
  refine pc rfl rfl (fun c11 => ?_) (fun c11 => ?_)
  · skip
    refine SL_nil (nx (SWP_ct rfl (SWP_seq (SWP_region ?_))))
    refine pu rfl rfl ?_
    refine lw (v := .int .i64 _) B4 0 rfl rfl rfl rfl ?_
    refine pu rfl rfl ?_
    refine lw (v := .int .i64 _) B5 0 rfl rfl rfl rfl ?_
    refine pc rfl rfl (fun c16 => ?_) (fun c16 => ?_)
    · skip
      refine pB rfl rfl ?_
      refine SL_yes rfl ?_
      refine pu rfl rfl ?_
      refine SL_yes rfl ?_
      refine lw (v := .int .i64 _) B4 1 rfl rfl rfl rfl ?_
      refine SL_yes rfl ?_
      refine pu rfl rfl ?_
      refine SL_yes rfl ?_
      refine lw (v := .int .i64 _) B5 1 rfl rfl rfl rfl ?_
      refine SL_yes rfl ?_
      refine pc rfl rfl (fun c22 => ?_) (fun c22 => ?_)
      · skip
        refine pB rfl rfl ?_
        refine pB rfl rfl ?_
        refine SL_yes rfl ?_
        refine pu rfl rfl ?_
        refine SL_yes rfl ?_
        refine lw (v := .int .i64 _) B4 2 rfl rfl rfl rfl ?_
        refine SL_yes rfl ?_
        refine pu rfl rfl ?_
        refine SL_yes rfl ?_
        refine lw (v := .int .i64 _) B5 2 rfl rfl rfl rfl ?_
        refine SL_yes rfl ?_
        refine pu rfl rfl ?_
        refine pB rfl rfl ?_
        refine pB rfl rfl ?_
        refine SL_nil (nx (SWP_ret (nr ?_)))
        refine fin [_] ⟨rfl, trivial⟩ ?_
        refine congrArg Value.bool ?_
        first | exact (decide_eq_true (by unfold covP; omega)).symm | exact (decide_eq_false (by unfold covP; omega)).symm | exact decide_eq_decide.2 (by unfold covP; omega)
      refine pB rfl rfl ?_
      refine pB rfl rfl ?_
      refine SL_no rfl rfl ?_
      refine SL_no rfl rfl ?_
      refine SL_no rfl rfl ?_
      refine SL_no rfl rfl ?_
      refine SL_no rfl rfl ?_
      refine pB rfl rfl ?_
      refine pB rfl rfl ?_
      refine SL_nil (nx (SWP_ret (nr ?_)))
      refine fin [_] ⟨rfl, trivial⟩ ?_
      refine congrArg Value.bool ?_
      first | exact (decide_eq_true (by unfold covP; omega)).symm | exact (decide_eq_false (by unfold covP; omega)).symm | exact decide_eq_decide.2 (by unfold covP; omega)
    refine pB rfl rfl ?_
    refine SL_no rfl rfl ?_
    refine SL_no rfl rfl ?_
    refine SL_no rfl rfl ?_
    refine SL_no rfl rfl ?_
    refine SL_no rfl rfl ?_
    refine pB rfl rfl ?_
    refine pB rfl rfl ?_
    refine SL_no rfl rfl ?_
    refine SL_no rfl rfl ?_
    refine SL_no rfl rfl ?_
    refine SL_no rfl rfl ?_
    refine SL_no rfl rfl ?_
    refine pB rfl rfl ?_
    refine pB rfl rfl ?_
    refine SL_nil (nx (SWP_ret (nr ?_)))
    refine fin [_] ⟨rfl, trivial⟩ ?_
    refine congrArg Value.bool ?_
    first | exact (decide_eq_true (by unfold covP; omega)).symm | exact (decide_eq_false (by unfold covP; omega)).symm | exact decide_eq_decide.2 (by unfold covP; omega)
  refine SL_nil (nx (SWP_cf rfl (SWP_skip (nx (SWP_seq ?_)))))
  have hda := tier_digits ha (by omega)
  have hdb := tier_digits hb (by omega)
  have hea := effM_cases g a
  have heb := effM_cases g b
  refine SWP_region ?_
  refine lw (v := .agg _) B3 0 rfl rfl rfl rfl ?_
  refine lw (v := .agg _) B4 0 rfl rfl rfl rfl ?_
  refine SL_pcall rfl rfl cb97 (modeR g a (by omega)) rfl ?_
  first | refine pI rfl rfl ?_ | refine pu rfl rfl ?_
  refine SL_nil (nx (SWP_seq (SWP_region ?_)))
  refine lw (v := .agg _) B3 0 rfl rfl rfl rfl ?_
  refine lw (v := .agg _) B5 0 rfl rfl rfl rfl ?_
  refine SL_pcall rfl rfl cb97 (modeR g b (by omega)) rfl ?_
  first | refine pI rfl rfl ?_ | refine pu rfl rfl ?_
  refine SL_nil (nx (SWP_seq (SWP_seq (SWP_region ?_))))
  first | refine pI rfl rfl ?_ | refine pu rfl rfl ?_
  refine pc rfl rfl (fun c38 => ?_) (fun c38 => ?_)
  · skip
    refine SL_nil (nx (SWP_ct rfl (SWP_seq (SWP_region ?_))))
    refine pB rfl rfl ?_
    refine SL_nil (nx (SWP_ret (nr ?_)))
    refine fin [_] ⟨rfl, trivial⟩ ?_
    refine congrArg Value.bool ?_
    first | exact (decide_eq_true (by unfold covP; omega)).symm | exact (decide_eq_false (by unfold covP; omega)).symm | exact decide_eq_decide.2 (by unfold covP; omega)
  refine SL_nil (nx (SWP_cf rfl (SWP_skip (nx (SWP_seq (SWP_region ?_))))))
  first | refine pI rfl rfl ?_ | refine pu rfl rfl ?_
  first | refine pI rfl rfl ?_ | refine pu rfl rfl ?_
  refine pc rfl rfl (fun c41 => ?_) (fun c41 => ?_)
  · skip
    refine pB rfl rfl ?_
    refine SL_yes rfl ?_
    first | refine pI rfl rfl ?_ | refine pu rfl rfl ?_
    refine SL_yes rfl ?_
    refine pc rfl rfl (fun c44 => ?_) (fun c44 => ?_)
    · skip
      refine SL_yes rfl ?_
      refine pB rfl rfl ?_
      refine SL_no rfl rfl ?_
      refine SL_no rfl rfl ?_
      refine SL_no rfl rfl ?_
      refine SL_no rfl rfl ?_
      refine SL_no rfl rfl ?_
      refine SL_yes rfl ?_
      refine pB rfl rfl ?_
      refine pB rfl rfl ?_
      refine pB rfl rfl ?_
      refine SL_nil (nx (SWP_ret ?_))
      refine fin [_] ⟨rfl, trivial⟩ ?_
      refine congrArg Value.bool ?_
      first | exact (decide_eq_true (by unfold covP; omega)).symm | exact (decide_eq_false (by unfold covP; omega)).symm | exact decide_eq_decide.2 (by unfold covP; omega)
    refine SL_yes rfl ?_
    refine pB rfl rfl ?_
    refine SL_yes rfl ?_
    refine pu rfl rfl ?_
    refine SL_yes rfl ?_
    refine lw (v := .int .i64 _) B4 0 rfl rfl rfl rfl ?_
    refine SL_yes rfl ?_
    refine pu rfl rfl ?_
    refine SL_yes rfl ?_
    refine lw (v := .int .i64 _) B5 0 rfl rfl rfl rfl ?_
    refine SL_yes rfl ?_
    refine pu rfl rfl ?_
    refine SL_yes rfl ?_
    refine pB rfl rfl ?_
    refine pB rfl rfl ?_
    refine pB rfl rfl ?_
    refine SL_nil (nx (SWP_ret ?_))
    refine fin [_] ⟨rfl, trivial⟩ ?_
    refine congrArg Value.bool ?_
    first | exact (decide_eq_true (by unfold covP; omega)).symm | exact (decide_eq_false (by unfold covP; omega)).symm | exact decide_eq_decide.2 (by unfold covP; omega)
  refine pB rfl rfl ?_
  refine SL_no rfl rfl ?_
  refine SL_no rfl rfl ?_
  refine SL_no rfl rfl ?_
  refine SL_no rfl rfl ?_
  refine SL_no rfl rfl ?_
  refine SL_no rfl rfl ?_
  refine SL_no rfl rfl ?_
  refine SL_no rfl rfl ?_
  refine SL_no rfl rfl ?_
  refine pB rfl rfl ?_
  refine pB rfl rfl ?_
  refine SL_nil (nx (SWP_ret ?_))
  refine fin [_] ⟨rfl, trivial⟩ ?_
  refine congrArg Value.bool ?_
  first | exact (decide_eq_true (by unfold covP; omega)).symm | exact (decide_eq_false (by unfold covP; omega)).symm | exact decide_eq_decide.2 (by unfold covP; omega)
end Go.Proofs.YtifjhpaoejageaaGreatDoor
namespace Go.Proofs.YtifjhpaoejageaaGreatDoor
open Eng
set_option maxRecDepth 100000 in
theorem addonsR {m : Mem} {va : Option Addr} {vc : Nat} {l : List Addon} (h : RL m Addon.enc 6 (.slice va l.length vc) l) (hin : ∀ a ∈ l, a.In m) : PureCall Tryz.prog 35 [.slice va l.length vc] m (.int .i64 (addonsErr l)) := by
  refine CallsS.pure ?_
  refine enter Tryz.func35 Tryz.ntmps35 rfl rfl ?_
  refine SWP_seq (SWP_region ?_)
  refine pI rfl rfl ?_
  refine SL_nil (nx (SWP_seq (SWP_seq (SWP_region ?_))))
  first | refine pL rfl rfl ?_ | refine pu rfl rfl ?_
  refine pu rfl rfl ?_
  refine pc rfl rfl (fun c8 => ?_) (fun c8 => ?_)
  · skip
    refine SL_nil (nx (SWP_ct rfl (SWP_seq (SWP_region ?_))))
    refine pI rfl rfl ?_
    refine SL_nil (nx (SWP_ret (nr ?_)))
    refine fin [_] ⟨rfl, trivial⟩ ?_
    refine congrArg (Value.int .i64) ?_
    unfold addonsErr
    rw [if_pos (by omega)]
  refine SL_nil (nx (SWP_cf rfl (SWP_skip (nx (SWP_seq (SWP_seq (SWP_region ?_)))))))
  refine pI rfl rfl ?_
  refine SL_nil (nx (SWP_block ?_))
  refine SWP_loop [2, 3, 4, 5, 9, 10, 11, 12, 13, 14, 15, 16, 17, 18, 19, 20, 21, 22, 23, 24, 25, 26, 27, 28, 29, 30, 31, 32, 33, 34, 35, 36, 37, 38, 39, 40, 41, 42, 43, 44, 45, 46, 47, 48, 49, 50, 51] [3]
      (fun vs σ' m' => ∃ (i : Nat), vs = [.int .i64 (i : Nat)] ∧ i ≤ l.length ∧ addonsErr l = addonsFrom (l.take i) (l.drop i) ∧ σ' = [] ∧ m = m')
      (fun vs => l.length - nOf (vs.getD 0 undef)) rfl ?_ ?_
  · refine ⟨0, rfl, by omega, ?_, rfl, rfl⟩
    unfold addonsErr
    rw [if_neg (by omega)]; rfl
  intro u0 vs0 σ0 m0 hJ0 _
  obtain ⟨i, rfl, hi, hres, rfl, rfl⟩ := hJ0
  refine SWP_seq (SWP_seq (SWP_region ?_))
  first | refine pI rfl rfl ?_ | refine pu rfl rfl ?_
  first | refine pL rfl rfl ?_ | refine pu rfl rfl ?_
  refine pu rfl rfl ?_
  refine pc rfl rfl (fun c12 => ?_) (fun c12 => ?_)
  · skip
    refine SL_nil (nx (SWP_ct rfl (SWP_skip (nx (SWP_seq (SWP_block (SWP_seq ?_)))))))
    obtain ⟨a, ha⟩ : ∃ a, l[i]? = some a := ⟨_, List.getElem?_eq_getElem (by omega)⟩
    obtain ⟨ad, rfl, _, hat⟩ := h.atA Addon.enc_len ha
    rw [addonsFrom_at ha] at hres
    refine SWP_region ?_
    first | refine pL rfl rfl ?_ | refine pu rfl rfl ?_
    first | refine pI rfl rfl ?_ | refine pu rfl rfl ?_
    first | refine ia (es := 6) rfl rfl rfl rfl rfl rfl (by omega) rfl ?_ | refine iai (es := 6) rfl rfl rfl rfl rfl rfl (by omega) (by omega) rfl ?_
    refine ldA (v := .agg _) rfl (by assumption) rfl rfl ?_
    refine SL_pcall rfl rfl cb64 (addonR (hin a (List.mem_of_getElem? ha))) rfl ?_
    first | refine pI rfl rfl ?_ | refine pu rfl rfl ?_
    refine SL_nil (nx (SWP_seq (SWP_seq (SWP_region ?_))))
    first | refine pI rfl rfl ?_ | refine pu rfl rfl ?_
    refine pc rfl rfl (fun c21 => ?_) (fun c21 => ?_)
    · skip
      refine SL_nil (nx (SWP_ct rfl (SWP_seq (SWP_region ?_))))
      first | refine pI rfl rfl ?_ | refine pu rfl rfl ?_
      first | refine pI rfl rfl ?_ | refine pu rfl rfl ?_
      refine SL_nil (nx (SWP_ret (nr (br (nr (nr (br (nr ?_))))))))
      refine fin [_] ⟨rfl, trivial⟩ ?_
      refine congrArg (Value.int .i64) ?_
      rw [hres, if_pos (by omega)]
    refine SL_nil (nx (SWP_cf rfl (SWP_skip (nx (SWP_seq ?_)))))
    rw [if_neg (by omega)] at hres
    refine SWP_region ?_
    refine pI rfl rfl ?_
    refine SL_nil (nx (SWP_block ?_))
    refine SWP_loop [2, 5, 23, 24, 25, 26, 27, 28, 29, 30, 31, 32, 33, 34, 35, 36, 37, 38, 39, 40, 41, 42, 43, 44, 45, 46, 47, 48, 49, 50, 51] [5]
        (fun vs σ' m' => ∃ (k : Nat), vs = [.int .i64 (k : Nat)] ∧ k ≤ i ∧ (∀ b ∈ (l.take i).take k, ¬ (b.name = a.name ∨ b.kind = a.kind)) ∧ σ' = [] ∧ m = m')
        (fun vs => i - nOf (vs.getD 0 undef)) rfl ?_ ?_
    · exact ⟨0, rfl, by omega, by simp, rfl, rfl⟩
    intro u1 vs1 σ1 m1 hJ1 _
    obtain ⟨k, rfl, hk, hno, rfl, rfl⟩ := hJ1
    refine SWP_seq (SWP_seq (SWP_region ?_))
    first | refine pI rfl rfl ?_ | refine pu rfl rfl ?_
    first | refine pI rfl rfl ?_ | refine pu rfl rfl ?_
    refine pc rfl rfl (fun c25 => ?_) (fun c25 => ?_)
    · skip
      refine SL_nil (nx (SWP_ct rfl (SWP_skip (nx (SWP_seq (SWP_block (SWP_seq ?_)))))))
      obtain ⟨u, hu⟩ : ∃ u, l[k]? = some u := ⟨_, List.getElem?_eq_getElem (by omega)⟩
      have hu' : (l.take i)[k]? = some u := by rw [List.getElem?_take, if_pos (by omega)]; exact hu
      obtain ⟨ad2, e2, _, hat2⟩ := h.atA Addon.enc_len hu
      cases e2
      refine SWP_draws (by kernel_rfl) (by kernel_rfl) ?_
      first | refine pL rfl rfl ?_ | refine pu rfl rfl ?_
      first | refine pI rfl rfl ?_ | refine pu rfl rfl ?_
      first | refine ia (es := 6) rfl rfl rfl rfl rfl rfl (by omega) rfl ?_ | refine iai (es := 6) rfl rfl rfl rfl rfl rfl (by omega) (by omega) rfl ?_
      refine pu rfl rfl ?_
      refine ldF (v := .string _) rfl rfl (by assumption) rfl rfl ?_
      first | refine pL rfl rfl ?_ | refine pu rfl rfl ?_
      first | refine pI rfl rfl ?_ | refine pu rfl rfl ?_
      first | refine ia (es := 6) rfl rfl rfl rfl rfl rfl (by omega) rfl ?_ | refine iai (es := 6) rfl rfl rfl rfl rfl rfl (by omega) (by omega) rfl ?_
      refine pu rfl rfl ?_
      refine ldF (v := .string _) rfl rfl (by assumption) rfl rfl ?_
      refine pc rfl rfl (fun c38 => ?_) (fun c38 => ?_)
      · skip
        refine pB rfl rfl ?_
        refine SL_no rfl rfl ?_
        refine SL_no rfl rfl ?_
        refine SL_no rfl rfl ?_
        refine SL_no rfl rfl ?_
        refine SL_no rfl rfl ?_
        refine SL_no rfl rfl ?_
        refine SL_no rfl rfl ?_
        refine SL_no rfl rfl ?_
        refine SL_no rfl rfl ?_
        refine SL_no rfl rfl ?_
        refine SL_no rfl rfl ?_
        refine pB rfl rfl ?_
        refine SL_nil (nx (SWP_ct rfl (SWP_seq (SWP_region ?_))))
        refine pI rfl rfl ?_
        refine SL_nil (nx (SWP_ret (br (nr (nr (br (br (nr (nr (br (nr ?_)))))))))))
        refine fin [_] ⟨rfl, trivial⟩ ?_
        refine congrArg (Value.int .i64) ?_
        rw [hres, if_pos ⟨u, List.mem_of_getElem? hu', .inl c38⟩]
      refine pB rfl rfl ?_
      refine SL_yes rfl ?_
      first | refine pL rfl rfl ?_ | refine pu rfl rfl ?_
      refine SL_yes rfl ?_
      first | refine pI rfl rfl ?_ | refine pu rfl rfl ?_
      refine SL_yes rfl ?_
      first | refine ia (es := 6) rfl rfl rfl rfl rfl rfl (by omega) rfl ?_ | refine iai (es := 6) rfl rfl rfl rfl rfl rfl (by omega) (by omega) rfl ?_
      refine SL_yes rfl ?_
      refine pu rfl rfl ?_
      refine SL_yes rfl ?_
      refine ldF (v := .int .i64 _) rfl rfl (by assumption) rfl rfl ?_
      refine SL_yes rfl ?_
      first | refine pL rfl rfl ?_ | refine pu rfl rfl ?_
      refine SL_yes rfl ?_
      first | refine pI rfl rfl ?_ | refine pu rfl rfl ?_
      refine SL_yes rfl ?_
      first | refine ia (es := 6) rfl rfl rfl rfl rfl rfl (by omega) rfl ?_ | refine iai (es := 6) rfl rfl rfl rfl rfl rfl (by omega) (by omega) rfl ?_
      refine SL_yes rfl ?_
      refine pu rfl rfl ?_
      refine SL_yes rfl ?_
      refine ldF (v := .int .i64 _) rfl rfl (by assumption) rfl rfl ?_
      refine SL_yes rfl ?_
      refine pc rfl rfl (fun c50 => ?_) (fun c50 => ?_)
      · skip
        refine pB rfl rfl ?_
        refine SL_nil (nx (SWP_ct rfl (SWP_seq (SWP_region ?_))))
        refine pI rfl rfl ?_
        refine SL_nil (nx (SWP_ret (br (nr (nr (br (br (nr (nr (br (nr ?_)))))))))))
        refine fin [_] ⟨rfl, trivial⟩ ?_
        refine congrArg (Value.int .i64) ?_
        rw [hres, if_pos ⟨u, List.mem_of_getElem? hu', .inr c50⟩]
      refine pB rfl rfl ?_
      refine SL_nil (nx (SWP_cf rfl (SWP_skip (nb (nx (SWP_region ?_))))))
      first | refine pI rfl rfl ?_ | refine pu rfl rfl ?_
      first | refine pw rfl rfl (w64 (by omega) (by omega)) ?_ | refine pu rfl rfl ?_
      refine pI rfl rfl ?_
      refine SL_nil (nx ?_)
      refine ⟨by repeat (first | exact Under.upds rfl (Under.hav _ _ _) | exact Under.hav _ _ _ | refine Under.upd rfl ?_ | refine Under.upds rfl ?_ | refine Under.hav2 rfl ?_), ?_, ?_⟩
      · refine ⟨k + 1, rfl, by omega, fun b hb => ?_, rfl, rfl⟩
        rw [take_snocA hu'] at hb
        rcases List.mem_append.1 hb with hb | hb
        · exact hno b hb
        · rw [List.mem_singleton.1 hb]
          rintro (e | e)
          · exact c38 e
          · exact c50 e
      · simp only [L_vals, List.map, List.getD]; show i - (k + 1) < i - k; omega
    refine SL_nil (nx (SWP_cf rfl (SWP_exit (ne (ne (be rfl (nb (nx (SWP_region ?_)))))))))
    first | refine pI rfl rfl ?_ | refine pu rfl rfl ?_
    first | refine pw rfl rfl (w64 (by omega) (by omega)) ?_ | refine pu rfl rfl ?_
    refine pI rfl rfl ?_
    refine SL_nil (nx ?_)
    refine ⟨by repeat (first | exact Under.upds rfl (Under.hav _ _ _) | exact Under.hav _ _ _ | refine Under.upd rfl ?_ | refine Under.upds rfl ?_ | refine Under.hav2 rfl ?_), ?_, ?_⟩
    · refine ⟨i + 1, rfl, by omega, ?_, rfl, rfl⟩
      have e : k = i := by omega
      rw [e, List.take_take, Nat.min_self] at hno
      rw [hres, if_neg (by rintro ⟨b, hb, hc⟩; exact hno b hb hc), take_snocA ha]
    · simp only [L_vals, List.map, List.getD]; show l.length - (i + 1) < l.length - i; omega
  refine SL_nil (nx (SWP_cf rfl (SWP_exit (ne (ne (be rfl (nx (SWP_seq (SWP_region ?_)))))))))
  refine pI rfl rfl ?_
  refine SL_nil (nx (SWP_ret ?_))
  refine fin [_] ⟨rfl, trivial⟩ ?_
  refine congrArg (Value.int .i64) ?_
  have e : i = l.length := by omega
  rw [hres, e, List.drop_length]; rfl
set_option maxRecDepth 100000 in
theorem tiersR {m : Mem} {g : Game} (hin : g.In m) (hk : g.kind = 1 ∨ g.kind = 2) (hgm : g.main ≤ 10) (hgb : g.bonus ≤ 10) (hge : g.extra ≤ 10) : PureCall Tryz.prog 36 [g.val] m (.int .i64 (tiersErr g)) := by
  refine CallsS.pure ?_
  obtain ⟨hcap, _⟩ := hin.trs.capI
  dsimp only [Game.val]
  refine enter Tryz.func36 Tryz.ntmps36 rfl rfl ?_
  refine SWP_seq (SWP_region ?_)
  refine bx (v := .agg _) rfl rfl (fun B1 => ?_)
  refine pI rfl rfl ?_
  refine SL_nil (nx (SWP_seq (SWP_seq (SWP_region ?_))))
  refine pu rfl rfl ?_
  refine lw (v := .slice _ _ _) B1 21 rfl rfl rfl rfl ?_
  refine pu rfl rfl ?_
  refine SL_pcall rfl rfl cb31 (inR _ _ _) rfl ?_
  refine psp 9 rfl (fun c9 => ?_) (fun c9 => ?_)
  · skip
    refine pB rfl rfl ?_
    refine SL_nil (nx (SWP_cf rfl (SWP_skip (nx (SWP_seq (SWP_seq (SWP_region ?_)))))))
    refine pI rfl rfl ?_
    refine SL_nil (nx (SWP_block ?_))
    refine SWP_loop [2, 3, 4, 5, 11, 12, 13, 14, 15, 16, 17, 18, 19, 20, 21, 22, 23, 24, 25, 26, 27, 28, 29, 30, 31, 32, 33, 34, 35, 36, 37, 38, 39, 40, 41, 42, 43, 44] [3]
        (fun vs σ' m' => ∃ (i : Nat), vs = [.int .i64 (i : Nat)] ∧ i ≤ g.tiers.length ∧ tiersErr g = tiersFrom g (g.tiers.take i) (g.tiers.drop i) ∧ (∀ b ∈ g.tiers.take i, tierErr g b = 0) ∧ σ' = [(B1, Cells 25 g.enc)] ∧ m = m')
        (fun vs => g.tiers.length - nOf (vs.getD 0 undef)) rfl ?_ ?_
    · refine ⟨0, rfl, by omega, ?_, by simp, rfl, rfl⟩
      unfold tiersErr
      rw [if_neg (by omega)]; rfl
    intro u0 vs0 σ0 m0 hJ0 _
    obtain ⟨i, rfl, hi, hres, hz, rfl, rfl⟩ := hJ0
    dsimp only [Game.enc]
    refine SWP_seq (SWP_seq (SWP_region ?_))
    first | refine pI rfl rfl ?_ | refine pu rfl rfl ?_
    refine pu rfl rfl ?_
    refine lw (v := .slice _ _ _) B1 21 rfl rfl rfl rfl ?_
    refine pu rfl rfl ?_
    refine pc rfl rfl (fun c15 => ?_) (fun c15 => ?_)
    · skip
      refine SL_nil (nx (SWP_ct rfl (SWP_skip (nx (SWP_seq (SWP_block (SWP_seq ?_)))))))
      obtain ⟨t, ht⟩ : ∃ t, g.tiers[i]? = some t := ⟨_, List.getElem?_eq_getElem (by omega)⟩
      obtain ⟨ad, had, _, hat⟩ := hin.trs.atA Tier.enc_len ht
      rw [tiersFrom_at ht] at hres
      refine SWP_draws (by kernel_rfl) (by kernel_rfl) ?_
      refine lw (v := .agg _) B1 0 rfl rfl rfl rfl ?_
      refine pu rfl rfl ?_
      refine lw (v := .slice _ _ _) B1 21 rfl rfl rfl rfl ?_
      first | refine pI rfl rfl ?_ | refine pu rfl rfl ?_
      rw [had]
      first | refine ia (es := 6) rfl rfl rfl rfl rfl rfl (by omega) rfl ?_ | refine iai (es := 6) rfl rfl rfl rfl rfl rfl (by omega) (by omega) rfl ?_
      rw [← had]
      refine ldA (v := .agg _) rfl (by assumption) rfl rfl ?_
      refine SL_pcall rfl rfl cb65 (tierR g t hk hgm hgb hge) rfl ?_
      first | refine pI rfl rfl ?_ | refine pu rfl rfl ?_
      refine SL_nil (nx (SWP_seq (SWP_seq (SWP_region ?_))))
      first | refine pI rfl rfl ?_ | refine pu rfl rfl ?_
      refine pc rfl rfl (fun c26 => ?_) (fun c26 => ?_)
      · skip
        refine SL_nil (nx (SWP_ct rfl (SWP_seq (SWP_region ?_))))
        first | refine pI rfl rfl ?_ | refine pu rfl rfl ?_
        first | refine pI rfl rfl ?_ | refine pu rfl rfl ?_
        refine SL_nil (nx (SWP_ret (nr (br (nr (nr (br (nr ?_))))))))
        refine fin [_] ⟨rfl, trivial⟩ ?_
        refine congrArg (Value.int .i64) ?_
        rw [hres, if_pos (by omega)]
      refine SL_nil (nx (SWP_cf rfl (SWP_skip (nx (SWP_seq ?_)))))
      rw [if_neg (by omega)] at hres
      have ht0 : tierErr g t = 0 := by omega
      refine SWP_region ?_
      refine pI rfl rfl ?_
      refine SL_nil (nx (SWP_block ?_))
      refine SWP_loop [2, 5, 28, 29, 30, 31, 32, 33, 34, 35, 36, 37, 38, 39, 40, 41, 42, 43, 44] [5]
          (fun vs σ' m' => ∃ (k : Nat), vs = [.int .i64 (k : Nat)] ∧ k ≤ i ∧ (∀ b ∈ (g.tiers.take i).take k, ¬ covP g b t) ∧ σ' = [(B1, Cells 25 g.enc)] ∧ m = m')
          (fun vs => i - nOf (vs.getD 0 undef)) rfl ?_ ?_
      · exact ⟨0, rfl, by omega, by simp, rfl, rfl⟩
      intro u1 vs1 σ1 m1 hJ1 _
      obtain ⟨k, rfl, hk2, hcv, rfl, rfl⟩ := hJ1
      dsimp only [Game.enc]
      refine SWP_seq (SWP_seq (SWP_region ?_))
      first | refine pI rfl rfl ?_ | refine pu rfl rfl ?_
      first | refine pI rfl rfl ?_ | refine pu rfl rfl ?_
      refine pc rfl rfl (fun c30 => ?_) (fun c30 => ?_)
      · skip
        refine SL_nil (nx (SWP_ct rfl (SWP_skip (nx (SWP_seq (SWP_block (SWP_seq ?_)))))))
        obtain ⟨u, hu⟩ : ∃ u, g.tiers[k]? = some u := ⟨_, List.getElem?_eq_getElem (by omega)⟩
        have hu' : (g.tiers.take i)[k]? = some u := by rw [List.getElem?_take, if_pos (by omega)]; exact hu
        obtain ⟨ad2, had2, _, hat2⟩ := hin.trs.atA Tier.enc_len hu
        rw [had] at had2
        cases had2
        refine SWP_draws (by kernel_rfl) (by kernel_rfl) ?_
        refine lw (v := .agg _) B1 0 rfl rfl rfl rfl ?_
        refine pu rfl rfl ?_
        refine lw (v := .slice _ _ _) B1 21 rfl rfl rfl rfl ?_
        first | refine pI rfl rfl ?_ | refine pu rfl rfl ?_
        rw [had]
        first | refine ia (es := 6) rfl rfl rfl rfl rfl rfl (by omega) rfl ?_ | refine iai (es := 6) rfl rfl rfl rfl rfl rfl (by omega) (by omega) rfl ?_
        rw [← had]
        refine ldA (v := .agg _) rfl (by assumption) rfl rfl ?_
        refine pu rfl rfl ?_
        refine lw (v := .slice _ _ _) B1 21 rfl rfl rfl rfl ?_
        first | refine pI rfl rfl ?_ | refine pu rfl rfl ?_
        rw [had]
        first | refine ia (es := 6) rfl rfl rfl rfl rfl rfl (by omega) rfl ?_ | refine iai (es := 6) rfl rfl rfl rfl rfl rfl (by omega) (by omega) rfl ?_
        rw [← had]
        refine ldA (v := .agg _) rfl (by assumption) rfl rfl ?_
        refine SL_pcall rfl rfl cb66 (coversR g u t hk (hz u (List.mem_of_getElem? hu')) ht0) rfl ?_
        refine psp 44 rfl (fun c44 => ?_) (fun c44 => ?_)
        · skip
          refine SL_nil (nx (SWP_ct rfl (SWP_seq (SWP_region ?_))))
          refine pI rfl rfl ?_
          refine SL_nil (nx (SWP_ret (br (nr (nr (br (br (nr (nr (br (nr ?_)))))))))))
          refine fin [_] ⟨rfl, trivial⟩ ?_
          refine congrArg (Value.int .i64) ?_
          rw [hres, if_pos ⟨u, List.mem_of_getElem? hu', c44⟩]
        refine SL_nil (nx (SWP_cf rfl (SWP_skip (nb (nx (SWP_region ?_))))))
        first | refine pI rfl rfl ?_ | refine pu rfl rfl ?_
        first | refine pw rfl rfl (w64 (by omega) (by omega)) ?_ | refine pu rfl rfl ?_
        refine pI rfl rfl ?_
        refine SL_nil (nx ?_)
        refine ⟨by repeat (first | exact Under.upds rfl (Under.hav _ _ _) | exact Under.hav _ _ _ | refine Under.upd rfl ?_ | refine Under.upds rfl ?_ | refine Under.hav2 rfl ?_), ?_, ?_⟩
        · refine ⟨k + 1, rfl, by omega, fun b hb => ?_, rfl, rfl⟩
          rw [take_snocA hu'] at hb
          rcases List.mem_append.1 hb with hb | hb
          · exact hcv b hb
          · rw [List.mem_singleton.1 hb]; exact c44
        · simp only [L_vals, List.map, List.getD]; show i - (k + 1) < i - k; omega
      refine SL_nil (nx (SWP_cf rfl (SWP_exit (ne (ne (be rfl (nb (nx (SWP_region ?_)))))))))
      first | refine pI rfl rfl ?_ | refine pu rfl rfl ?_
      first | refine pw rfl rfl (w64 (by omega) (by omega)) ?_ | refine pu rfl rfl ?_
      refine pI rfl rfl ?_
      refine SL_nil (nx ?_)
      refine ⟨by repeat (first | exact Under.upds rfl (Under.hav _ _ _) | exact Under.hav _ _ _ | refine Under.upd rfl ?_ | refine Under.upds rfl ?_ | refine Under.hav2 rfl ?_), ?_, ?_⟩
      · have e : k = i := by omega
        rw [e, List.take_take, Nat.min_self] at hcv
        refine ⟨i + 1, rfl, by omega, ?_, fun b hb => ?_, rfl, rfl⟩
        · rw [hres, if_neg (by rintro ⟨b, hb, hc⟩; exact hcv b hb hc), take_snocA ht]
        · rw [take_snocA ht] at hb
          rcases List.mem_append.1 hb with hb | hb
          · exact hz b hb
          · rw [List.mem_singleton.1 hb]; exact ht0
      · simp only [L_vals, List.map, List.getD]; show g.tiers.length - (i + 1) < g.tiers.length - i; omega
    refine SL_nil (nx (SWP_cf rfl (SWP_exit (ne (ne (be rfl (nx (SWP_seq (SWP_region ?_)))))))))
    refine pI rfl rfl ?_
    refine SL_nil (nx (SWP_ret ?_))
    refine fin [_] ⟨rfl, trivial⟩ ?_
    refine congrArg (Value.int .i64) ?_
    have e : i = g.tiers.length := by omega
    rw [hres, e, List.drop_length]; rfl
  refine pB rfl rfl ?_
  refine SL_nil (nx (SWP_ct rfl (SWP_seq (SWP_region ?_))))
  refine pI rfl rfl ?_
  refine SL_nil (nx (SWP_ret (nr ?_)))
  refine fin [_] ⟨rfl, trivial⟩ ?_
  refine congrArg (Value.int .i64) ?_
  unfold tiersErr
  rw [if_pos (by omega)]
def numG (g : Game) : List Int := [g.price, g.main, g.of, g.bonus, g.bonusOf, g.extra, g.draws, g.system, g.days, g.minute, g.close, g.cancel, g.expiry, g.pool, g.reserve, g.round, g.cap, g.rolls]
def lowL (o b k : Int) : List Int := [1, 1, o, 0, b, 0, 1, k, 1, 0, 0, 0, 1, 0, 0, 1, 0, 0]
def lowG (g : Game) : List Int := lowL (if g.kind = 2 then 2 else g.main) g.bonus g.main
def highL (o b p e k : Int) : List Int := [1000000, 10, o, b, p, e, 32, k, 127, 1439, 1440, 10080, 3660, 10000, 10000, 1000000, 1000000000000, 64]
def highG (g : Game) : List Int := highL (if g.kind = 2 then 10 else 80) (if g.kind = 2 then 0 else 4) (if g.bonus = 0 then 0 else 80) (if g.kind = 2 then 0 else min 4 (IntKind.wrap .i64 (g.of - g.main))) (if g.kind = 2 then g.main else min 14 g.of)
set_option maxRecDepth 100000 in
theorem numbersR {m : Mem} (g : Game) : CallsS Tryz.prog 30 [g.val].toArray [] m fun r σ' m' => σ' = [] ∧ RL m' intE 1 r (numG g) := by
  refine CallsS.ghost (R' := fun r σ' m' => RL m' intE 1 r (numG g)) ?_ ?h2
  case h2 =>
    rintro r σ' m' hr g0 W hC
    exact ⟨_, m', hC.sublist (List.nil_sublist _), Le.refl _, rfl, hr⟩
  dsimp only [Game.val]
  refine enter Tryz.func30 Tryz.ntmps30 rfl rfl ?_
  refine SWP_seq (SWP_region ?_)
  refine bx (v := .agg _) rfl rfl (fun B1 => ?_)
  refine pL rfl rfl ?_
  refine SL_nil (nx (SWP_seq (SWP_region ?_)))
  refine pu rfl rfl ?_
  refine lw (v := .int .i64 _) B1 2 rfl rfl rfl rfl ?_
  refine pu rfl rfl ?_
  refine lw (v := .int .i64 _) B1 3 rfl rfl rfl rfl ?_
  refine pu rfl rfl ?_
  refine lw (v := .int .i64 _) B1 4 rfl rfl rfl rfl ?_
  refine pu rfl rfl ?_
  refine lw (v := .int .i64 _) B1 5 rfl rfl rfl rfl ?_
  refine pu rfl rfl ?_
  refine lw (v := .int .i64 _) B1 6 rfl rfl rfl rfl ?_
  refine pu rfl rfl ?_
  refine lw (v := .int .i64 _) B1 7 rfl rfl rfl rfl ?_
  refine pu rfl rfl ?_
  refine lw (v := .int .i64 _) B1 8 rfl rfl rfl rfl ?_
  refine pu rfl rfl ?_
  refine lw (v := .int .i64 _) B1 9 rfl rfl rfl rfl ?_
  refine pu rfl rfl ?_
  refine lw (v := .int .i64 _) B1 10 rfl rfl rfl rfl ?_
  refine pu rfl rfl ?_
  refine lw (v := .int .i64 _) B1 11 rfl rfl rfl rfl ?_
  refine pu rfl rfl ?_
  refine lw (v := .int .i64 _) B1 12 rfl rfl rfl rfl ?_
  refine pu rfl rfl ?_
  refine lw (v := .int .i64 _) B1 13 rfl rfl rfl rfl ?_
  refine pu rfl rfl ?_
  refine lw (v := .int .i64 _) B1 14 rfl rfl rfl rfl ?_
  refine pu rfl rfl ?_
  refine lw (v := .int .i64 _) B1 15 rfl rfl rfl rfl ?_
  refine pu rfl rfl ?_
  refine lw (v := .int .i64 _) B1 16 rfl rfl rfl rfl ?_
  refine pu rfl rfl ?_
  refine lw (v := .int .i64 _) B1 17 rfl rfl rfl rfl ?_
  refine pu rfl rfl ?_
  refine lw (v := .int .i64 _) B1 18 rfl rfl rfl rfl ?_
  refine pu rfl rfl ?_
  refine lw (v := .int .i64 _) B1 19 rfl rfl rfl rfl ?_
  refine bs (cs := (numG g).flatMap intE) rfl rfl rfl (by kernel_rfl) rfl (fun B39 => ?_)
  refine SL_freeze (fun m9 hl9 hat9 => ?_)
  first | refine pL rfl rfl ?_ | refine pu rfl rfl ?_
  refine SL_nil (nx (SWP_ret ?_))
  refine fin [_] ⟨rfl, trivial⟩ ?_
  exact RL.of_at intE_len (numG g) rfl rfl hat9
set_option maxRecDepth 100000 in
theorem lowestR {m : Mem} (g : Game) : CallsS Tryz.prog 32 [g.val].toArray [] m fun r σ' m' => σ' = [] ∧ RL m' intE 1 r (lowG g) := by
  refine CallsS.ghost (R' := fun r σ' m' => RL m' intE 1 r (lowG g)) ?_ ?h2
  case h2 =>
    rintro r σ' m' hr g0 W hC
    exact ⟨_, m', hC.sublist (List.nil_sublist _), Le.refl _, rfl, hr⟩
  dsimp only [Game.val]
  refine enter Tryz.func32 Tryz.ntmps32 rfl rfl ?_
  refine SWP_seq (SWP_region ?_)
  refine bx (v := .agg _) rfl rfl (fun B1 => ?_)
  refine pL rfl rfl ?_
  refine SL_nil (nx (SWP_seq (SWP_region ?_)))
  refine pu rfl rfl ?_
  refine lw (v := .int .i64 _) B1 3 rfl rfl rfl rfl ?_
  refine pI rfl rfl ?_
  refine SL_nil (nx (SWP_seq (SWP_region ?_)))
  refine pu rfl rfl ?_
  refine lw (v := .int .i64 _) B1 3 rfl rfl rfl rfl ?_
  refine pI rfl rfl ?_
  refine SL_nil (nx (SWP_seq (SWP_region ?_)))
  refine pu rfl rfl ?_
  refine lw (v := .int .i64 _) B1 5 rfl rfl rfl rfl ?_
  refine pI rfl rfl ?_
  refine SL_nil (nx (SWP_seq (SWP_seq (SWP_region ?_))))
  refine pu rfl rfl ?_
  refine lw (v := .int .i64 _) B1 1 rfl rfl rfl rfl ?_
  refine pc rfl rfl (fun c14 => ?_) (fun c14 => ?_)
  · skip
    refine SL_nil (nx (SWP_ct rfl (SWP_region ?_)))
    refine pI rfl rfl ?_
    refine SL_nil (nx (SWP_seq (SWP_region ?_)))
    refine pI rfl rfl ?_
    refine pI rfl rfl ?_
    refine pI rfl rfl ?_
    refine bs (cs := (lowL 2 g.bonus g.main).flatMap intE) rfl rfl rfl (by kernel_rfl) rfl (fun B18 => ?_)
    refine SL_freeze (fun m9 hl9 hat9 => ?_)
    first | refine pL rfl rfl ?_ | refine pu rfl rfl ?_
    refine SL_nil (nx (SWP_ret ?_))
    refine fin [_] ⟨rfl, trivial⟩ ?_
    refine RL.of_at intE_len (lowG g) rfl ?_ hat9
    unfold lowG
    rw [if_pos c14]
  refine SL_nil (nx (SWP_cf rfl (SWP_skip (nx (SWP_seq (SWP_region ?_))))))
  refine pI rfl rfl ?_
  refine pI rfl rfl ?_
  refine pI rfl rfl ?_
  refine bs (cs := (lowL g.main g.bonus g.main).flatMap intE) rfl rfl rfl (by kernel_rfl) rfl (fun B18 => ?_)
  refine SL_freeze (fun m9 hl9 hat9 => ?_)
  first | refine pL rfl rfl ?_ | refine pu rfl rfl ?_
  refine SL_nil (nx (SWP_ret ?_))
  refine fin [_] ⟨rfl, trivial⟩ ?_
  refine RL.of_at intE_len (lowG g) rfl ?_ hat9
  unfold lowG
  rw [if_neg c14]
set_option maxRecDepth 100000 in
theorem highestR {m : Mem} (g : Game) : CallsS Tryz.prog 33 [g.val].toArray [] m fun r σ' m' => σ' = [] ∧ RL m' intE 1 r (highG g) := by
  refine CallsS.ghost (R' := fun r σ' m' => RL m' intE 1 r (highG g)) ?_ ?h2
  case h2 =>
    rintro r σ' m' hr g0 W hC
    exact ⟨_, m', hC.sublist (List.nil_sublist _), Le.refl _, rfl, hr⟩
  dsimp only [Game.val]
  refine enter Tryz.func33 Tryz.ntmps33 rfl rfl ?_
  refine SWP_seq (SWP_region ?_)
  refine bx (v := .agg _) rfl rfl (fun B1 => ?_)
  refine pL rfl rfl ?_
  refine SL_nil (nx (SWP_seq ?_))
  refine SWP_drawn [_] [0, 1, 2, 3, 4, 6, 7, 5, 8, 9, 10] (by kernel_rfl) (by kernel_rfl) (Sub.refl _) ?_
  refine pu rfl rfl ?_
  refine lw (v := .int .i64 _) B1 4 rfl rfl rfl rfl ?_
  refine pu rfl rfl ?_
  refine lw (v := .int .i64 _) B1 3 rfl rfl rfl rfl ?_
  first | refine pw rfl rfl (w64 (by omega) (by omega)) ?_ | refine pu rfl rfl ?_
  refine pu rfl rfl ?_
  refine lw (v := .int .i64 _) B1 4 rfl rfl rfl rfl ?_
  refine SL_pcall rfl rfl cb63 (leastR _ _) rfl ?_
  refine SL_pcall rfl rfl cb63 (leastR _ _) rfl ?_
  refine bs (cs := (highL 80 4 80 (min 4 (IntKind.wrap .i64 (g.of - g.main))) (min 14 g.of)).flatMap intE) rfl rfl rfl (by kernel_rfl) rfl (fun B13 => ?_)
  first | refine pL rfl rfl ?_ | refine pu rfl rfl ?_
  refine SL_nil (nx (SWP_seq (SWP_seq (SWP_region ?_))))
  refine pu rfl rfl ?_
  refine lw (v := .int .i64 _) B1 5 rfl rfl rfl rfl ?_
  refine pc rfl rfl (fun c16 => ?_) (fun c16 => ?_)
  · skip
    refine SL_nil (nx (SWP_ct rfl (SWP_region ?_)))
    first | refine pL rfl rfl ?_ | refine pu rfl rfl ?_
    refine ia (es := 1) (k := 4) rfl rfl rfl rfl rfl rfl (by omega) rfl ?_
    first | refine st (v := .int .i64 _) (off := 4) (σ₁ := []) rfl rfl rfl rfl rfl rfl rfl rfl ?_ | refine st (v := .int .i64 _) (off := 4) (σ₁ := [_]) rfl rfl rfl rfl rfl rfl rfl rfl ?_ | refine st (v := .int .i64 _) (off := 4) (σ₁ := [_, _]) rfl rfl rfl rfl rfl rfl rfl rfl ?_ | refine st (v := .int .i64 _) (off := 4) (σ₁ := [_, _, _]) rfl rfl rfl rfl rfl rfl rfl rfl ?_ | refine st (v := .int .i64 _) (off := 4) (σ₁ := [_, _, _, _]) rfl rfl rfl rfl rfl rfl rfl rfl ?_ | refine st (v := .int .i64 _) (off := 4) (σ₁ := [_, _, _, _, _]) rfl rfl rfl rfl rfl rfl rfl rfl ?_ | refine st (v := .int .i64 _) (off := 4) (σ₁ := [_, _, _, _, _, _]) rfl rfl rfl rfl rfl rfl rfl rfl ?_
    refine SL_nil (nx (SWP_seq (SWP_seq (SWP_region ?_))))
    refine pu rfl rfl ?_
    refine lw (v := .int .i64 _) B1 1 rfl rfl rfl rfl ?_
    refine pc rfl rfl (fun c21 => ?_) (fun c21 => ?_)
    · skip
      refine SL_nil (nx (SWP_ct rfl (SWP_seq (SWP_region ?_))))
      first | refine pL rfl rfl ?_ | refine pu rfl rfl ?_
      refine ia (es := 1) (k := 2) rfl rfl rfl rfl rfl rfl (by omega) rfl ?_
      first | refine st (v := .int .i64 _) (off := 2) (σ₁ := []) rfl rfl rfl rfl rfl rfl rfl rfl ?_ | refine st (v := .int .i64 _) (off := 2) (σ₁ := [_]) rfl rfl rfl rfl rfl rfl rfl rfl ?_ | refine st (v := .int .i64 _) (off := 2) (σ₁ := [_, _]) rfl rfl rfl rfl rfl rfl rfl rfl ?_ | refine st (v := .int .i64 _) (off := 2) (σ₁ := [_, _, _]) rfl rfl rfl rfl rfl rfl rfl rfl ?_ | refine st (v := .int .i64 _) (off := 2) (σ₁ := [_, _, _, _]) rfl rfl rfl rfl rfl rfl rfl rfl ?_ | refine st (v := .int .i64 _) (off := 2) (σ₁ := [_, _, _, _, _]) rfl rfl rfl rfl rfl rfl rfl rfl ?_ | refine st (v := .int .i64 _) (off := 2) (σ₁ := [_, _, _, _, _, _]) rfl rfl rfl rfl rfl rfl rfl rfl ?_
      refine SL_nil (nx (SWP_seq (SWP_region ?_)))
      first | refine pL rfl rfl ?_ | refine pu rfl rfl ?_
      refine ia (es := 1) (k := 3) rfl rfl rfl rfl rfl rfl (by omega) rfl ?_
      first | refine st (v := .int .i64 _) (off := 3) (σ₁ := []) rfl rfl rfl rfl rfl rfl rfl rfl ?_ | refine st (v := .int .i64 _) (off := 3) (σ₁ := [_]) rfl rfl rfl rfl rfl rfl rfl rfl ?_ | refine st (v := .int .i64 _) (off := 3) (σ₁ := [_, _]) rfl rfl rfl rfl rfl rfl rfl rfl ?_ | refine st (v := .int .i64 _) (off := 3) (σ₁ := [_, _, _]) rfl rfl rfl rfl rfl rfl rfl rfl ?_ | refine st (v := .int .i64 _) (off := 3) (σ₁ := [_, _, _, _]) rfl rfl rfl rfl rfl rfl rfl rfl ?_ | refine st (v := .int .i64 _) (off := 3) (σ₁ := [_, _, _, _, _]) rfl rfl rfl rfl rfl rfl rfl rfl ?_ | refine st (v := .int .i64 _) (off := 3) (σ₁ := [_, _, _, _, _, _]) rfl rfl rfl rfl rfl rfl rfl rfl ?_
      refine SL_nil (nx (SWP_seq (SWP_region ?_)))
      first | refine pL rfl rfl ?_ | refine pu rfl rfl ?_
      refine ia (es := 1) (k := 5) rfl rfl rfl rfl rfl rfl (by omega) rfl ?_
      first | refine st (v := .int .i64 _) (off := 5) (σ₁ := []) rfl rfl rfl rfl rfl rfl rfl rfl ?_ | refine st (v := .int .i64 _) (off := 5) (σ₁ := [_]) rfl rfl rfl rfl rfl rfl rfl rfl ?_ | refine st (v := .int .i64 _) (off := 5) (σ₁ := [_, _]) rfl rfl rfl rfl rfl rfl rfl rfl ?_ | refine st (v := .int .i64 _) (off := 5) (σ₁ := [_, _, _]) rfl rfl rfl rfl rfl rfl rfl rfl ?_ | refine st (v := .int .i64 _) (off := 5) (σ₁ := [_, _, _, _]) rfl rfl rfl rfl rfl rfl rfl rfl ?_ | refine st (v := .int .i64 _) (off := 5) (σ₁ := [_, _, _, _, _]) rfl rfl rfl rfl rfl rfl rfl rfl ?_ | refine st (v := .int .i64 _) (off := 5) (σ₁ := [_, _, _, _, _, _]) rfl rfl rfl rfl rfl rfl rfl rfl ?_
      refine SL_nil (nx (SWP_region ?_))
      first | refine pL rfl rfl ?_ | refine pu rfl rfl ?_
      refine pu rfl rfl ?_
      refine lw (v := .int .i64 _) B1 3 rfl rfl rfl rfl ?_
      refine ia (es := 1) (k := 7) rfl rfl rfl rfl rfl rfl (by omega) rfl ?_
      first | refine st (v := .int .i64 _) (off := 7) (σ₁ := []) rfl rfl rfl rfl rfl rfl rfl rfl ?_ | refine st (v := .int .i64 _) (off := 7) (σ₁ := [_]) rfl rfl rfl rfl rfl rfl rfl rfl ?_ | refine st (v := .int .i64 _) (off := 7) (σ₁ := [_, _]) rfl rfl rfl rfl rfl rfl rfl rfl ?_ | refine st (v := .int .i64 _) (off := 7) (σ₁ := [_, _, _]) rfl rfl rfl rfl rfl rfl rfl rfl ?_ | refine st (v := .int .i64 _) (off := 7) (σ₁ := [_, _, _, _]) rfl rfl rfl rfl rfl rfl rfl rfl ?_ | refine st (v := .int .i64 _) (off := 7) (σ₁ := [_, _, _, _, _]) rfl rfl rfl rfl rfl rfl rfl rfl ?_ | refine st (v := .int .i64 _) (off := 7) (σ₁ := [_, _, _, _, _, _]) rfl rfl rfl rfl rfl rfl rfl rfl ?_
      refine SL_nil (nx (SWP_seq (SWP_region ?_)))
      refine SL_freeze (fun m9 hl9 hat9 => ?_)
      first | refine pu (v := .slice _ _ _) rfl rfl ?_ | refine pu rfl rfl ?_
      first | refine pL rfl rfl ?_ | refine pu rfl rfl ?_
      refine SL_nil (nx (SWP_ret ?_))
      refine fin [_] ⟨rfl, trivial⟩ ?_
      refine RL.of_at intE_len (highG g) rfl ?_ hat9
      unfold highG
      simp only [if_pos c16, if_pos c21]
      try kernel_rfl
    refine SL_nil (nx (SWP_cf rfl (SWP_skip (nx (SWP_seq (SWP_region ?_))))))
    refine SL_freeze (fun m9 hl9 hat9 => ?_)
    first | refine pu (v := .slice _ _ _) rfl rfl ?_ | refine pu rfl rfl ?_
    first | refine pL rfl rfl ?_ | refine pu rfl rfl ?_
    refine SL_nil (nx (SWP_ret ?_))
    refine fin [_] ⟨rfl, trivial⟩ ?_
    refine RL.of_at intE_len (highG g) rfl ?_ hat9
    unfold highG
    simp only [if_pos c16, if_neg c21]
    try kernel_rfl
  refine SL_nil (nx (SWP_cf rfl (SWP_skip (nx (SWP_seq (SWP_seq (SWP_region ?_)))))))
  refine pu rfl rfl ?_
  refine lw (v := .int .i64 _) B1 1 rfl rfl rfl rfl ?_
  refine pc rfl rfl (fun c21 => ?_) (fun c21 => ?_)
  · skip
    refine SL_nil (nx (SWP_ct rfl (SWP_seq (SWP_region ?_))))
    first | refine pL rfl rfl ?_ | refine pu rfl rfl ?_
    refine ia (es := 1) (k := 2) rfl rfl rfl rfl rfl rfl (by omega) rfl ?_
    first | refine st (v := .int .i64 _) (off := 2) (σ₁ := []) rfl rfl rfl rfl rfl rfl rfl rfl ?_ | refine st (v := .int .i64 _) (off := 2) (σ₁ := [_]) rfl rfl rfl rfl rfl rfl rfl rfl ?_ | refine st (v := .int .i64 _) (off := 2) (σ₁ := [_, _]) rfl rfl rfl rfl rfl rfl rfl rfl ?_ | refine st (v := .int .i64 _) (off := 2) (σ₁ := [_, _, _]) rfl rfl rfl rfl rfl rfl rfl rfl ?_ | refine st (v := .int .i64 _) (off := 2) (σ₁ := [_, _, _, _]) rfl rfl rfl rfl rfl rfl rfl rfl ?_ | refine st (v := .int .i64 _) (off := 2) (σ₁ := [_, _, _, _, _]) rfl rfl rfl rfl rfl rfl rfl rfl ?_ | refine st (v := .int .i64 _) (off := 2) (σ₁ := [_, _, _, _, _, _]) rfl rfl rfl rfl rfl rfl rfl rfl ?_
    refine SL_nil (nx (SWP_seq (SWP_region ?_)))
    first | refine pL rfl rfl ?_ | refine pu rfl rfl ?_
    refine ia (es := 1) (k := 3) rfl rfl rfl rfl rfl rfl (by omega) rfl ?_
    first | refine st (v := .int .i64 _) (off := 3) (σ₁ := []) rfl rfl rfl rfl rfl rfl rfl rfl ?_ | refine st (v := .int .i64 _) (off := 3) (σ₁ := [_]) rfl rfl rfl rfl rfl rfl rfl rfl ?_ | refine st (v := .int .i64 _) (off := 3) (σ₁ := [_, _]) rfl rfl rfl rfl rfl rfl rfl rfl ?_ | refine st (v := .int .i64 _) (off := 3) (σ₁ := [_, _, _]) rfl rfl rfl rfl rfl rfl rfl rfl ?_ | refine st (v := .int .i64 _) (off := 3) (σ₁ := [_, _, _, _]) rfl rfl rfl rfl rfl rfl rfl rfl ?_ | refine st (v := .int .i64 _) (off := 3) (σ₁ := [_, _, _, _, _]) rfl rfl rfl rfl rfl rfl rfl rfl ?_ | refine st (v := .int .i64 _) (off := 3) (σ₁ := [_, _, _, _, _, _]) rfl rfl rfl rfl rfl rfl rfl rfl ?_
    refine SL_nil (nx (SWP_seq (SWP_region ?_)))
    first | refine pL rfl rfl ?_ | refine pu rfl rfl ?_
    refine ia (es := 1) (k := 5) rfl rfl rfl rfl rfl rfl (by omega) rfl ?_
    first | refine st (v := .int .i64 _) (off := 5) (σ₁ := []) rfl rfl rfl rfl rfl rfl rfl rfl ?_ | refine st (v := .int .i64 _) (off := 5) (σ₁ := [_]) rfl rfl rfl rfl rfl rfl rfl rfl ?_ | refine st (v := .int .i64 _) (off := 5) (σ₁ := [_, _]) rfl rfl rfl rfl rfl rfl rfl rfl ?_ | refine st (v := .int .i64 _) (off := 5) (σ₁ := [_, _, _]) rfl rfl rfl rfl rfl rfl rfl rfl ?_ | refine st (v := .int .i64 _) (off := 5) (σ₁ := [_, _, _, _]) rfl rfl rfl rfl rfl rfl rfl rfl ?_ | refine st (v := .int .i64 _) (off := 5) (σ₁ := [_, _, _, _, _]) rfl rfl rfl rfl rfl rfl rfl rfl ?_ | refine st (v := .int .i64 _) (off := 5) (σ₁ := [_, _, _, _, _, _]) rfl rfl rfl rfl rfl rfl rfl rfl ?_
    refine SL_nil (nx (SWP_region ?_))
    first | refine pL rfl rfl ?_ | refine pu rfl rfl ?_
    refine pu rfl rfl ?_
    refine lw (v := .int .i64 _) B1 3 rfl rfl rfl rfl ?_
    refine ia (es := 1) (k := 7) rfl rfl rfl rfl rfl rfl (by omega) rfl ?_
    first | refine st (v := .int .i64 _) (off := 7) (σ₁ := []) rfl rfl rfl rfl rfl rfl rfl rfl ?_ | refine st (v := .int .i64 _) (off := 7) (σ₁ := [_]) rfl rfl rfl rfl rfl rfl rfl rfl ?_ | refine st (v := .int .i64 _) (off := 7) (σ₁ := [_, _]) rfl rfl rfl rfl rfl rfl rfl rfl ?_ | refine st (v := .int .i64 _) (off := 7) (σ₁ := [_, _, _]) rfl rfl rfl rfl rfl rfl rfl rfl ?_ | refine st (v := .int .i64 _) (off := 7) (σ₁ := [_, _, _, _]) rfl rfl rfl rfl rfl rfl rfl rfl ?_ | refine st (v := .int .i64 _) (off := 7) (σ₁ := [_, _, _, _, _]) rfl rfl rfl rfl rfl rfl rfl rfl ?_ | refine st (v := .int .i64 _) (off := 7) (σ₁ := [_, _, _, _, _, _]) rfl rfl rfl rfl rfl rfl rfl rfl ?_
    refine SL_nil (nx (SWP_seq (SWP_region ?_)))
    refine SL_freeze (fun m9 hl9 hat9 => ?_)
    first | refine pu (v := .slice _ _ _) rfl rfl ?_ | refine pu rfl rfl ?_
    first | refine pL rfl rfl ?_ | refine pu rfl rfl ?_
    refine SL_nil (nx (SWP_ret ?_))
    refine fin [_] ⟨rfl, trivial⟩ ?_
    refine RL.of_at intE_len (highG g) rfl ?_ hat9
    unfold highG
    simp only [if_neg c16, if_pos c21]
    try kernel_rfl
  refine SL_nil (nx (SWP_cf rfl (SWP_skip (nx (SWP_seq (SWP_region ?_))))))
  refine SL_freeze (fun m9 hl9 hat9 => ?_)
  first | refine pu (v := .slice _ _ _) rfl rfl ?_ | refine pu rfl rfl ?_
  first | refine pL rfl rfl ?_ | refine pu rfl rfl ?_
  refine SL_nil (nx (SWP_ret ?_))
  refine fin [_] ⟨rfl, trivial⟩ ?_
  refine RL.of_at intE_len (highG g) rfl ?_ hat9
  unfold highG
  simp only [if_neg c16, if_neg c21]
  try kernel_rfl
end Go.Proofs.YtifjhpaoejageaaGreatDoor
namespace Go.Proofs.YtifjhpaoejageaaGreatDoor
open Eng
def sE (s : ByteArray) : List Value := [.string s]
theorem sE_len (s : ByteArray) : (sE s).length = 1 := rfl
def fieldsL : List ByteArray := [⟨#[112, 114, 105, 99, 101]⟩, ⟨#[109, 97, 105, 110]⟩, ⟨#[111, 102]⟩, ⟨#[98, 111, 110, 117, 115]⟩, ⟨#[98, 111, 110, 117, 115, 111, 102]⟩, ⟨#[101, 120, 116, 114, 97]⟩, ⟨#[100, 114, 97, 119, 115]⟩, ⟨#[115, 121, 115, 116, 101, 109]⟩, ⟨#[100, 97, 121, 115]⟩, ⟨#[97, 116]⟩, ⟨#[99, 108, 111, 115, 101]⟩, ⟨#[99, 97, 110, 99, 101, 108]⟩, ⟨#[101, 120, 112, 105, 114, 121]⟩, ⟨#[112, 111, 111, 108]⟩, ⟨#[114, 101, 115, 101, 114, 118, 101]⟩, ⟨#[114, 111, 117, 110, 100]⟩, ⟨#[99, 97, 112]⟩, ⟨#[114, 111, 108, 108, 115]⟩]
def inRg (g : Game) (j : Nat) : Prop := (lowG g).getD j 0 ≤ (numG g).getD j 0 ∧ (numG g).getD j 0 ≤ (highG g).getD j 0
theorem inRg_iff {g : Game} (hk : g.kind = 1 ∨ g.kind = 2) : (∀ j, j < 18 → inRg g j) ↔ MxOk g ∧ TmOk g := by
  constructor
  · intro h
    have h0 := h 0 (by omega); have h1 := h 1 (by omega); have h2 := h 2 (by omega); have h3 := h 3 (by omega); have h4 := h 4 (by omega); have h5 := h 5 (by omega)
    have h6 := h 6 (by omega); have h7 := h 7 (by omega); have h8 := h 8 (by omega); have h9 := h 9 (by omega); have h10 := h 10 (by omega); have h11 := h 11 (by omega)
    have h12 := h 12 (by omega); have h13 := h 13 (by omega); have h14 := h 14 (by omega); have h15 := h 15 (by omega); have h16 := h 16 (by omega); have h17 := h 17 (by omega)
    simp only [inRg, lowG, lowL, highG, highL, numG, List.getD_cons_zero, List.getD_cons_succ, IntKind.wrap_i64] at h0 h1 h2 h3 h4 h5 h6 h7 h8 h9 h10 h11 h12 h13 h14 h15 h16 h17
    rcases hk with hk | hk
    · simp only [hk, show ¬ ((1 : Int) = 2) by omega, if_false] at h2 h3 h5 h7
      by_cases hb : g.bonus = 0
      · rw [if_pos hb] at h4
        exact ⟨⟨h0, h1, by omega, by omega, by omega, by omega, by omega, by omega, by omega, by omega, by omega, by omega, by omega, by omega, by omega, by omega⟩, ⟨h8, h9, h10, h11, h12, h13, h14, h15, h16, h17⟩⟩
      · rw [if_neg hb] at h4
        exact ⟨⟨h0, h1, by omega, by omega, by omega, by omega, by omega, by omega, by omega, by omega, by omega, by omega, by omega, by omega, by omega, by omega⟩, ⟨h8, h9, h10, h11, h12, h13, h14, h15, h16, h17⟩⟩
    · simp only [hk, if_true] at h2 h3 h5 h7
      by_cases hb : g.bonus = 0
      · rw [if_pos hb] at h4
        exact ⟨⟨h0, h1, by omega, by omega, by omega, by omega, by omega, by omega, by omega, by omega, by omega, by omega, by omega, by omega, by omega, by omega⟩, ⟨h8, h9, h10, h11, h12, h13, h14, h15, h16, h17⟩⟩
      · rw [if_neg hb] at h4
        exact ⟨⟨h0, h1, by omega, by omega, by omega, by omega, by omega, by omega, by omega, by omega, by omega, by omega, by omega, by omega, by omega, by omega⟩, ⟨h8, h9, h10, h11, h12, h13, h14, h15, h16, h17⟩⟩
  · rintro ⟨⟨a1, a2, a3, a4, a5, a6, a7, a8, a9, a10, a11, a12, a13, a14, a15, a16⟩, ⟨b1, b2, b3, b4, b5, b6, b7, b8, b9, b10⟩⟩ j hj
    have key : ∀ (x : List Int × List Int × List Int), x = (lowG g, numG g, highG g) → x.1.getD j 0 ≤ x.2.1.getD j 0 ∧ x.2.1.getD j 0 ≤ x.2.2.getD j 0 := by
      intro x hx
      subst hx
      simp only [lowG, lowL, highG, highL, numG, IntKind.wrap_i64]
      rcases hk with hk | hk
      · simp only [hk, show ¬ ((1 : Int) = 2) by omega, if_false]
        by_cases hb : g.bonus = 0
        · rw [if_pos hb]
          match j, hj with
          | 0, _ | 1, _ | 2, _ | 3, _ | 4, _ | 5, _ | 6, _ | 7, _ | 8, _ | 9, _ | 10, _ | 11, _ | 12, _ | 13, _ | 14, _ | 15, _ | 16, _ | 17, _ => simp only [List.getD_cons_zero, List.getD_cons_succ]; omega
          | _ + 18, h => exact absurd h (by omega)
        · rw [if_neg hb]
          match j, hj with
          | 0, _ | 1, _ | 2, _ | 3, _ | 4, _ | 5, _ | 6, _ | 7, _ | 8, _ | 9, _ | 10, _ | 11, _ | 12, _ | 13, _ | 14, _ | 15, _ | 16, _ | 17, _ => simp only [List.getD_cons_zero, List.getD_cons_succ]; omega
          | _ + 18, h => exact absurd h (by omega)
      · simp only [hk, if_true]
        by_cases hb : g.bonus = 0
        · rw [if_pos hb]
          match j, hj with
          | 0, _ | 1, _ | 2, _ | 3, _ | 4, _ | 5, _ | 6, _ | 7, _ | 8, _ | 9, _ | 10, _ | 11, _ | 12, _ | 13, _ | 14, _ | 15, _ | 16, _ | 17, _ => simp only [List.getD_cons_zero, List.getD_cons_succ]; omega
          | _ + 18, h => exact absurd h (by omega)
        · rw [if_neg hb]
          match j, hj with
          | 0, _ | 1, _ | 2, _ | 3, _ | 4, _ | 5, _ | 6, _ | 7, _ | 8, _ | 9, _ | 10, _ | 11, _ | 12, _ | 13, _ | 14, _ | 15, _ | 16, _ | 17, _ => simp only [List.getD_cons_zero, List.getD_cons_succ]; omega
          | _ + 18, h => exact absurd h (by omega)
    exact key _ rfl
theorem at18 {l : List Int} {i : Nat} (hl : l.length = 18) (hi : i < 18) : l[i]? = some (l.getD i 0) := by
  rw [List.getD_eq_getElem?_getD, List.getElem?_eq_getElem (by omega)]; rfl
set_option maxRecDepth 100000 in
theorem fieldsR {m : Mem} : CallsS Tryz.prog 34 ([] : List Value).toArray [] m fun r σ' m' => σ' = [] ∧ RL m' sE 1 r fieldsL := by
  refine CallsS.ghost (R' := fun r σ' m' => RL m' sE 1 r fieldsL) ?_ ?h2
  case h2 =>
    rintro r σ' m' hr g0 W hC
    exact ⟨_, m', hC.sublist (List.nil_sublist _), Le.refl _, rfl, hr⟩
  refine enter Tryz.func34 Tryz.ntmps34 rfl rfl ?_
  refine SWP_seq (SWP_region ?_)
  refine pL rfl rfl ?_
  refine SL_nil (nx (SWP_seq (SWP_region ?_)))
  refine bs (cs := fieldsL.flatMap sE) rfl rfl rfl (by kernel_rfl) rfl (fun B1 => ?_)
  refine SL_freeze (fun m9 hl9 hat9 => ?_)
  first | refine pL rfl rfl ?_ | refine pu rfl rfl ?_
  refine SL_nil (nx (SWP_ret ?_))
  refine fin [_] ⟨rfl, trivial⟩ ?_
  exact RL.of_at sE_len fieldsL rfl rfl hat9
set_option maxRecDepth 100000 in
theorem checkR {m : Mem} {g : Game} (hin : g.In m) : CallsS Tryz.prog 17 [g.val].toArray [] m fun r σ' m' => σ' = [] ∧ m' = m ∧ ∃ s, r = .tuple #[.int .i64 (gameErr g), .string s] := by
  refine CallsS.forget (R := fun r => ∃ s, r = .tuple #[.int .i64 (gameErr g), .string s]) ?_
  dsimp only [Game.val]
  refine enter Tryz.func17 Tryz.ntmps17 rfl rfl ?_
  refine SWP_seq (SWP_region ?_)
  refine bx (v := .agg _) rfl rfl (fun B1 => ?_)
  refine pI rfl rfl ?_
  refine pS rfl rfl ?_
  refine SL_nil (nx (SWP_seq (SWP_seq (SWP_region ?_))))
  refine pu rfl rfl ?_
  refine lw (v := .string _) B1 0 rfl rfl rfl rfl ?_
  refine SL_pcall rfl rfl cb29 (nameRef _) rfl ?_
  refine bsp 9 rfl (fun b9 => ?_) (fun b9 => ?_)
  · skip
    refine pB rfl rfl ?_
    refine SL_nil (nx (SWP_cf rfl (SWP_skip (nx (SWP_seq (SWP_seq (SWP_region ?_)))))))
    refine pu rfl rfl ?_
    refine lw (v := .int .i64 _) B1 1 rfl rfl rfl rfl ?_
    refine pc rfl rfl (fun c13 => ?_) (fun c13 => ?_)
    · skip
      refine pB rfl rfl ?_
      refine SL_yes rfl ?_
      refine pu rfl rfl ?_
      refine SL_yes rfl ?_
      refine lw (v := .int .i64 _) B1 1 rfl rfl rfl rfl ?_
      refine SL_yes rfl ?_
      refine pc rfl rfl (fun c17 => ?_) (fun c17 => ?_)
      · skip
        refine pB rfl rfl ?_
        refine SL_nil (nx (SWP_ct rfl (SWP_seq (SWP_region ?_))))
        refine pI rfl rfl ?_
        refine pS rfl rfl ?_
        refine SL_nil (nx (SWP_ret (nr ?_)))
        refine fin [_, _] ⟨rfl, rfl, trivial⟩ ?_
        refine ⟨_, show _ = Value.tuple #[.int .i64 (gameErr g), .string _] by rw [show gameErr g = 7 by unfold gameErr; rw [if_neg (by rw [b9]; exact Bool.noConfusion), if_pos (by omega)]]; rfl⟩
      refine pB rfl rfl ?_
      refine SL_nil (nx (SWP_cf rfl (SWP_skip (nx (SWP_seq (SWP_region ?_))))))
      refine lw (v := .agg _) B1 0 rfl rfl rfl rfl ?_
      refine SL_call rfl rfl cb30 (CallsS.frame0 (numbersR g)) rfl (fun v5_1 σ5_1 m5_1 hl5_1 hR5_1 => ?_)
      obtain ⟨σn, rfl, rfl, hnum⟩ := hR5_1
      obtain ⟨na, nc, rfl⟩ := hnum.len
      first | refine pL rfl rfl ?_ | refine pu rfl rfl ?_
      refine SL_nil (nx (SWP_seq (SWP_seq (SWP_region ?_))))
      refine pI rfl rfl ?_
      refine SL_nil (nx (SWP_block ?_))
      refine SWP_loop [2, 3, 5, 21, 22, 23, 24, 25, 26, 27, 28, 29, 30, 31, 32, 33, 34, 35, 36, 37, 38, 39, 40, 41, 42, 43, 44, 45, 46] [5]
          (fun vs σ' m' => ∃ (i : Nat), vs = [.int .i64 (i : Nat)] ∧ i ≤ 18 ∧ (∀ j, j < i → inRg g j) ∧ σ' = [(B1, Cells 25 g.enc)] ∧ Le m5_1 m')
          (fun vs => 18 - nOf (vs.getD 0 undef)) rfl ?_ ?_
      · exact ⟨0, rfl, by omega, fun j hj => (by omega), rfl, Le.refl _⟩
      intro u0 vs0 σ0 m0 hJ0 _
      obtain ⟨i, rfl, hi, hall, rfl, hl0⟩ := hJ0
      have hle := hl5_1.trans hl0
      dsimp only [Game.enc]
      refine SWP_seq (SWP_seq (SWP_region ?_))
      first | refine pI rfl rfl ?_ | refine pu rfl rfl ?_
      first | refine pL rfl rfl ?_ | refine pu rfl rfl ?_
      refine pu rfl rfl ?_
      refine pc rfl rfl (fun c24 => ?_) (fun c24 => ?_)
      · skip
        refine SL_nil (nx (SWP_ct rfl (SWP_skip (nx (SWP_seq (SWP_block (SWP_seq ?_)))))))
        have hi18 : i < 18 := by have : (numG g).length = 18 := rfl; omega
        have hln : (numG g).length = 18 := rfl
        have hnum9 := at18 (l := numG g) rfl hi18
        obtain ⟨ad1, e1, _, hat1⟩ := (hnum.mono hl0).atI hnum9
        cases e1
        refine SWP_drawn [(B1, Cells 25 g.enc)] [0, 1, 2, 3, 4, 6, 9, 11, 5, 7, 8, 10, 12, 13, 14, 15] (by kernel_rfl) (by kernel_rfl) (Sub.refl _) ?_
        first | refine pL rfl rfl ?_ | refine pu rfl rfl ?_
        first | refine pI rfl rfl ?_ | refine pu rfl rfl ?_
        first | refine ia (es := 1) rfl rfl rfl (Nat.mul_one _) rfl rfl (by omega) rfl ?_ | refine iai (es := 1) rfl rfl rfl (Nat.mul_one _) rfl rfl (by omega) (by omega) rfl ?_
        refine ldA (v := .int .i64 _) rfl (by assumption) rfl rfl ?_
        refine lw (v := .agg _) B1 0 rfl rfl rfl rfl ?_
        first | refine pI rfl rfl ?_ | refine pu rfl rfl ?_
        refine lw (v := .agg _) B1 0 rfl rfl rfl rfl ?_
        first | refine pI rfl rfl ?_ | refine pu rfl rfl ?_
        refine SL_call rfl rfl cb32 (CallsS.frame0 (lowestR g)) rfl (fun v9_5 σ9_5 m9_5 hl9_5 hR9_5 => ?_)
        obtain ⟨σl, rfl, rfl, hlow⟩ := hR9_5
        obtain ⟨la, lc, elw⟩ := hlow.len
        subst elw
        have hll : (lowG g).length = 18 := rfl
        have hlow9 := at18 (l := lowG g) rfl hi18
        obtain ⟨ad2, e2, _, hat2⟩ := hlow.atI hlow9
        cases e2
        first | refine ia (es := 1) rfl rfl rfl (Nat.mul_one _) rfl rfl (by omega) rfl ?_ | refine iai (es := 1) rfl rfl rfl (Nat.mul_one _) rfl rfl (by omega) (by omega) rfl ?_
        refine ldA (v := .int .i64 _) rfl (by assumption) rfl rfl ?_
        refine SL_call rfl rfl cb33 (CallsS.frame0 (highestR g)) rfl (fun v9_10 σ9_10 m9_10 hl9_10 hR9_10 => ?_)
        obtain ⟨σh, rfl, rfl, hhigh⟩ := hR9_10
        obtain ⟨ha, hc, ehh⟩ := hhigh.len
        subst ehh
        have hlh : (highG g).length = 18 := rfl
        have hhigh9 := at18 (l := highG g) rfl hi18
        obtain ⟨ad3, e3, _, hat3⟩ := hhigh.atI hhigh9
        cases e3
        first | refine ia (es := 1) rfl rfl rfl (Nat.mul_one _) rfl rfl (by omega) rfl ?_ | refine iai (es := 1) rfl rfl rfl (Nat.mul_one _) rfl rfl (by omega) (by omega) rfl ?_
        refine ldA (v := .int .i64 _) rfl (by assumption) rfl rfl ?_
        refine SL_pcall rfl rfl cb31 (inR _ _ _) rfl ?_
        refine psp 41 rfl (fun c41 => ?_) (fun c41 => ?_)
        · skip
          refine pB rfl rfl ?_
          refine SL_nil (nx (SWP_cf rfl (SWP_skip (nb (nx (SWP_region ?_))))))
          first | refine pI rfl rfl ?_ | refine pu rfl rfl ?_
          first | refine pw rfl rfl (w64 (by omega) (by omega)) ?_ | refine pu rfl rfl ?_
          refine pI rfl rfl ?_
          refine SL_nil (nx ?_)
          refine ⟨by repeat (first | exact Under.upds rfl (Under.hav _ _ _) | exact Under.hav _ _ _ | refine Under.upd rfl ?_), ?_, ?_⟩
          · refine ⟨i + 1, rfl, by omega, fun j hj => ?_, rfl, hl0.trans (hl9_5.trans hl9_10)⟩
            by_cases e : j = i
            · subst e; exact c41
            · exact hall j (by omega)
          · simp only [L_vals, List.map, List.getD]; show 18 - (i + 1) < 18 - i; omega
        refine pB rfl rfl ?_
        refine SL_nil (nx (SWP_ct rfl (SWP_seq ?_)))
        refine SWP_drawn [(B1, Cells 25 g.enc)] [1, 0, 2, 3, 4, 5] (by kernel_rfl) (by kernel_rfl) (Sub.refl _) ?_
        first | refine pI rfl rfl ?_ | refine pu rfl rfl ?_
        refine SL_call rfl rfl cb34 (CallsS.frame0 fieldsR) rfl (fun v10_0 σ10_0 m10_0 hl10_0 hR10_0 => ?_)
        obtain ⟨σf, rfl, rfl, hfl⟩ := hR10_0
        obtain ⟨fa, fc, eff⟩ := hfl.len
        subst eff
        have hlf : fieldsL.length = 18 := rfl
        obtain ⟨fs, hfs⟩ : ∃ fs, fieldsL[i]? = some fs := ⟨_, List.getElem?_eq_getElem (by show i < 18; omega)⟩
        obtain ⟨ad4, e4, _, hat4⟩ := hfl.atA sE_len hfs
        cases e4
        rw [Nat.mul_one] at hat4
        first | refine ia (es := 1) rfl rfl rfl (Nat.mul_one _) rfl rfl (by omega) rfl ?_ | refine iai (es := 1) rfl rfl rfl (Nat.mul_one _) rfl rfl (by omega) (by omega) rfl ?_
        refine ldA (v := .string _) rfl (by assumption) rfl rfl ?_
        refine pI rfl rfl ?_
        refine pS rfl rfl ?_
        refine SL_nil (nx (SWP_ret (br (nr (nr (br (nr ?_)))))))
        refine fin [_, _] ⟨rfl, rfl, trivial⟩ ?_
        refine ⟨_, show _ = Value.tuple #[.int .i64 (gameErr g), .string _] by rw [show gameErr g = 2 by unfold gameErr; rw [if_neg (by rw [b9]; exact Bool.noConfusion), if_neg (by omega), okE_f (fun h => c41 ((inRg_iff (g := g) (by omega)).2 h i hi18))]]; rfl⟩
      refine SL_nil (nx (SWP_cf rfl (SWP_exit (ne (ne (be rfl (nx (SWP_seq ?_))))))))
      have hok := (inRg_iff (g := g) (by omega)).1 (fun j hj => hall j (by have : (numG g).length = 18 := rfl; omega))
      refine SWP_region ?_
      refine pu rfl rfl ?_
      refine lw (v := .slice _ _ _) B1 20 rfl rfl rfl rfl ?_
      refine SL_pcall rfl rfl cb35 (addonsR (hin.mono hle).ads (hin.mono hle).each) rfl ?_
      first | refine pI rfl rfl ?_ | refine pu rfl rfl ?_
      refine SL_nil (nx (SWP_seq (SWP_seq (SWP_region ?_))))
      first | refine pI rfl rfl ?_ | refine pu rfl rfl ?_
      refine pc rfl rfl (fun c51 => ?_) (fun c51 => ?_)
      · skip
        refine SL_nil (nx (SWP_ct rfl (SWP_seq (SWP_region ?_))))
        first | refine pI rfl rfl ?_ | refine pu rfl rfl ?_
        first | refine pI rfl rfl ?_ | refine pu rfl rfl ?_
        refine pS rfl rfl ?_
        refine SL_nil (nx (SWP_ret (nr ?_)))
        refine fin [_, _] ⟨rfl, rfl, trivial⟩ ?_
        refine ⟨_, show _ = Value.tuple #[.int .i64 (gameErr g), .string _] by rw [show gameErr g = addonsErr g.addons by unfold gameErr; rw [if_neg (by rw [b9]; exact Bool.noConfusion), if_neg (by omega), okE_t hok, if_pos c51]]; rfl⟩
      refine SL_nil (nx (SWP_cf rfl (SWP_skip (nx (SWP_seq (SWP_region ?_))))))
      refine lw (v := .agg _) B1 0 rfl rfl rfl rfl ?_
      refine SL_pcall rfl rfl cb36 (tiersR (hin.mono hle) (by omega) (by have := hok.1.h2; omega) (by have := hok.1.h6; have := hok.1.h7; omega) (by have := hok.1.h11; have := hok.1.h12; omega)) rfl ?_
      first | refine pI rfl rfl ?_ | refine pu rfl rfl ?_
      refine SL_nil (nx (SWP_seq (SWP_seq (SWP_region ?_))))
      first | refine pI rfl rfl ?_ | refine pu rfl rfl ?_
      refine pc rfl rfl (fun c56 => ?_) (fun c56 => ?_)
      · skip
        refine SL_nil (nx (SWP_ct rfl (SWP_seq (SWP_region ?_))))
        first | refine pI rfl rfl ?_ | refine pu rfl rfl ?_
        first | refine pI rfl rfl ?_ | refine pu rfl rfl ?_
        refine pS rfl rfl ?_
        refine SL_nil (nx (SWP_ret (nr ?_)))
        refine fin [_, _] ⟨rfl, rfl, trivial⟩ ?_
        refine ⟨_, show _ = Value.tuple #[.int .i64 (gameErr g), .string _] by rw [show gameErr g = tiersErr g by unfold gameErr; rw [if_neg (by rw [b9]; exact Bool.noConfusion), if_neg (by omega), okE_t hok, if_neg c51]]; rfl⟩
      refine SL_nil (nx (SWP_cf rfl (SWP_skip (nx (SWP_seq (SWP_region ?_))))))
      refine pI rfl rfl ?_
      refine pS rfl rfl ?_
      refine SL_nil (nx (SWP_ret ?_))
      refine fin [_, _] ⟨rfl, rfl, trivial⟩ ?_
      refine ⟨_, show _ = Value.tuple #[.int .i64 (gameErr g), .string _] by rw [show gameErr g = 0 by unfold gameErr; rw [if_neg (by rw [b9]; exact Bool.noConfusion), if_neg (by omega), okE_t hok, if_neg c51]; omega]; rfl⟩
    refine pB rfl rfl ?_
    refine SL_no rfl rfl ?_
    refine SL_no rfl rfl ?_
    refine SL_no rfl rfl ?_
    refine pB rfl rfl ?_
    refine SL_nil (nx (SWP_cf rfl (SWP_skip (nx (SWP_seq (SWP_region ?_))))))
    refine lw (v := .agg _) B1 0 rfl rfl rfl rfl ?_
    refine SL_call rfl rfl cb30 (CallsS.frame0 (numbersR g)) rfl (fun v5_1 σ5_1 m5_1 hl5_1 hR5_1 => ?_)
    obtain ⟨σn, rfl, rfl, hnum⟩ := hR5_1
    obtain ⟨na, nc, rfl⟩ := hnum.len
    first | refine pL rfl rfl ?_ | refine pu rfl rfl ?_
    refine SL_nil (nx (SWP_seq (SWP_seq (SWP_region ?_))))
    refine pI rfl rfl ?_
    refine SL_nil (nx (SWP_block ?_))
    refine SWP_loop [2, 3, 5, 21, 22, 23, 24, 25, 26, 27, 28, 29, 30, 31, 32, 33, 34, 35, 36, 37, 38, 39, 40, 41, 42, 43, 44, 45, 46] [5]
        (fun vs σ' m' => ∃ (i : Nat), vs = [.int .i64 (i : Nat)] ∧ i ≤ 18 ∧ (∀ j, j < i → inRg g j) ∧ σ' = [(B1, Cells 25 g.enc)] ∧ Le m5_1 m')
        (fun vs => 18 - nOf (vs.getD 0 undef)) rfl ?_ ?_
    · exact ⟨0, rfl, by omega, fun j hj => (by omega), rfl, Le.refl _⟩
    intro u0 vs0 σ0 m0 hJ0 _
    obtain ⟨i, rfl, hi, hall, rfl, hl0⟩ := hJ0
    have hle := hl5_1.trans hl0
    dsimp only [Game.enc]
    refine SWP_seq (SWP_seq (SWP_region ?_))
    first | refine pI rfl rfl ?_ | refine pu rfl rfl ?_
    first | refine pL rfl rfl ?_ | refine pu rfl rfl ?_
    refine pu rfl rfl ?_
    refine pc rfl rfl (fun c24 => ?_) (fun c24 => ?_)
    · skip
      refine SL_nil (nx (SWP_ct rfl (SWP_skip (nx (SWP_seq (SWP_block (SWP_seq ?_)))))))
      have hi18 : i < 18 := by have : (numG g).length = 18 := rfl; omega
      have hln : (numG g).length = 18 := rfl
      have hnum9 := at18 (l := numG g) rfl hi18
      obtain ⟨ad1, e1, _, hat1⟩ := (hnum.mono hl0).atI hnum9
      cases e1
      refine SWP_drawn [(B1, Cells 25 g.enc)] [0, 1, 2, 3, 4, 6, 9, 11, 5, 7, 8, 10, 12, 13, 14, 15] (by kernel_rfl) (by kernel_rfl) (Sub.refl _) ?_
      first | refine pL rfl rfl ?_ | refine pu rfl rfl ?_
      first | refine pI rfl rfl ?_ | refine pu rfl rfl ?_
      first | refine ia (es := 1) rfl rfl rfl (Nat.mul_one _) rfl rfl (by omega) rfl ?_ | refine iai (es := 1) rfl rfl rfl (Nat.mul_one _) rfl rfl (by omega) (by omega) rfl ?_
      refine ldA (v := .int .i64 _) rfl (by assumption) rfl rfl ?_
      refine lw (v := .agg _) B1 0 rfl rfl rfl rfl ?_
      first | refine pI rfl rfl ?_ | refine pu rfl rfl ?_
      refine lw (v := .agg _) B1 0 rfl rfl rfl rfl ?_
      first | refine pI rfl rfl ?_ | refine pu rfl rfl ?_
      refine SL_call rfl rfl cb32 (CallsS.frame0 (lowestR g)) rfl (fun v9_5 σ9_5 m9_5 hl9_5 hR9_5 => ?_)
      obtain ⟨σl, rfl, rfl, hlow⟩ := hR9_5
      obtain ⟨la, lc, elw⟩ := hlow.len
      subst elw
      have hll : (lowG g).length = 18 := rfl
      have hlow9 := at18 (l := lowG g) rfl hi18
      obtain ⟨ad2, e2, _, hat2⟩ := hlow.atI hlow9
      cases e2
      first | refine ia (es := 1) rfl rfl rfl (Nat.mul_one _) rfl rfl (by omega) rfl ?_ | refine iai (es := 1) rfl rfl rfl (Nat.mul_one _) rfl rfl (by omega) (by omega) rfl ?_
      refine ldA (v := .int .i64 _) rfl (by assumption) rfl rfl ?_
      refine SL_call rfl rfl cb33 (CallsS.frame0 (highestR g)) rfl (fun v9_10 σ9_10 m9_10 hl9_10 hR9_10 => ?_)
      obtain ⟨σh, rfl, rfl, hhigh⟩ := hR9_10
      obtain ⟨ha, hc, ehh⟩ := hhigh.len
      subst ehh
      have hlh : (highG g).length = 18 := rfl
      have hhigh9 := at18 (l := highG g) rfl hi18
      obtain ⟨ad3, e3, _, hat3⟩ := hhigh.atI hhigh9
      cases e3
      first | refine ia (es := 1) rfl rfl rfl (Nat.mul_one _) rfl rfl (by omega) rfl ?_ | refine iai (es := 1) rfl rfl rfl (Nat.mul_one _) rfl rfl (by omega) (by omega) rfl ?_
      refine ldA (v := .int .i64 _) rfl (by assumption) rfl rfl ?_
      refine SL_pcall rfl rfl cb31 (inR _ _ _) rfl ?_
      refine psp 41 rfl (fun c41 => ?_) (fun c41 => ?_)
      · skip
        refine pB rfl rfl ?_
        refine SL_nil (nx (SWP_cf rfl (SWP_skip (nb (nx (SWP_region ?_))))))
        first | refine pI rfl rfl ?_ | refine pu rfl rfl ?_
        first | refine pw rfl rfl (w64 (by omega) (by omega)) ?_ | refine pu rfl rfl ?_
        refine pI rfl rfl ?_
        refine SL_nil (nx ?_)
        refine ⟨by repeat (first | exact Under.upds rfl (Under.hav _ _ _) | exact Under.hav _ _ _ | refine Under.upd rfl ?_), ?_, ?_⟩
        · refine ⟨i + 1, rfl, by omega, fun j hj => ?_, rfl, hl0.trans (hl9_5.trans hl9_10)⟩
          by_cases e : j = i
          · subst e; exact c41
          · exact hall j (by omega)
        · simp only [L_vals, List.map, List.getD]; show 18 - (i + 1) < 18 - i; omega
      refine pB rfl rfl ?_
      refine SL_nil (nx (SWP_ct rfl (SWP_seq ?_)))
      refine SWP_drawn [(B1, Cells 25 g.enc)] [1, 0, 2, 3, 4, 5] (by kernel_rfl) (by kernel_rfl) (Sub.refl _) ?_
      first | refine pI rfl rfl ?_ | refine pu rfl rfl ?_
      refine SL_call rfl rfl cb34 (CallsS.frame0 fieldsR) rfl (fun v10_0 σ10_0 m10_0 hl10_0 hR10_0 => ?_)
      obtain ⟨σf, rfl, rfl, hfl⟩ := hR10_0
      obtain ⟨fa, fc, eff⟩ := hfl.len
      subst eff
      have hlf : fieldsL.length = 18 := rfl
      obtain ⟨fs, hfs⟩ : ∃ fs, fieldsL[i]? = some fs := ⟨_, List.getElem?_eq_getElem (by show i < 18; omega)⟩
      obtain ⟨ad4, e4, _, hat4⟩ := hfl.atA sE_len hfs
      cases e4
      rw [Nat.mul_one] at hat4
      first | refine ia (es := 1) rfl rfl rfl (Nat.mul_one _) rfl rfl (by omega) rfl ?_ | refine iai (es := 1) rfl rfl rfl (Nat.mul_one _) rfl rfl (by omega) (by omega) rfl ?_
      refine ldA (v := .string _) rfl (by assumption) rfl rfl ?_
      refine pI rfl rfl ?_
      refine pS rfl rfl ?_
      refine SL_nil (nx (SWP_ret (br (nr (nr (br (nr ?_)))))))
      refine fin [_, _] ⟨rfl, rfl, trivial⟩ ?_
      refine ⟨_, show _ = Value.tuple #[.int .i64 (gameErr g), .string _] by rw [show gameErr g = 2 by unfold gameErr; rw [if_neg (by rw [b9]; exact Bool.noConfusion), if_neg (by omega), okE_f (fun h => c41 ((inRg_iff (g := g) (by omega)).2 h i hi18))]]; rfl⟩
    refine SL_nil (nx (SWP_cf rfl (SWP_exit (ne (ne (be rfl (nx (SWP_seq ?_))))))))
    have hok := (inRg_iff (g := g) (by omega)).1 (fun j hj => hall j (by have : (numG g).length = 18 := rfl; omega))
    refine SWP_region ?_
    refine pu rfl rfl ?_
    refine lw (v := .slice _ _ _) B1 20 rfl rfl rfl rfl ?_
    refine SL_pcall rfl rfl cb35 (addonsR (hin.mono hle).ads (hin.mono hle).each) rfl ?_
    first | refine pI rfl rfl ?_ | refine pu rfl rfl ?_
    refine SL_nil (nx (SWP_seq (SWP_seq (SWP_region ?_))))
    first | refine pI rfl rfl ?_ | refine pu rfl rfl ?_
    refine pc rfl rfl (fun c51 => ?_) (fun c51 => ?_)
    · skip
      refine SL_nil (nx (SWP_ct rfl (SWP_seq (SWP_region ?_))))
      first | refine pI rfl rfl ?_ | refine pu rfl rfl ?_
      first | refine pI rfl rfl ?_ | refine pu rfl rfl ?_
      refine pS rfl rfl ?_
      refine SL_nil (nx (SWP_ret (nr ?_)))
      refine fin [_, _] ⟨rfl, rfl, trivial⟩ ?_
      refine ⟨_, show _ = Value.tuple #[.int .i64 (gameErr g), .string _] by rw [show gameErr g = addonsErr g.addons by unfold gameErr; rw [if_neg (by rw [b9]; exact Bool.noConfusion), if_neg (by omega), okE_t hok, if_pos c51]]; rfl⟩
    refine SL_nil (nx (SWP_cf rfl (SWP_skip (nx (SWP_seq (SWP_region ?_))))))
    refine lw (v := .agg _) B1 0 rfl rfl rfl rfl ?_
    refine SL_pcall rfl rfl cb36 (tiersR (hin.mono hle) (by omega) (by have := hok.1.h2; omega) (by have := hok.1.h6; have := hok.1.h7; omega) (by have := hok.1.h11; have := hok.1.h12; omega)) rfl ?_
    first | refine pI rfl rfl ?_ | refine pu rfl rfl ?_
    refine SL_nil (nx (SWP_seq (SWP_seq (SWP_region ?_))))
    first | refine pI rfl rfl ?_ | refine pu rfl rfl ?_
    refine pc rfl rfl (fun c56 => ?_) (fun c56 => ?_)
    · skip
      refine SL_nil (nx (SWP_ct rfl (SWP_seq (SWP_region ?_))))
      first | refine pI rfl rfl ?_ | refine pu rfl rfl ?_
      first | refine pI rfl rfl ?_ | refine pu rfl rfl ?_
      refine pS rfl rfl ?_
      refine SL_nil (nx (SWP_ret (nr ?_)))
      refine fin [_, _] ⟨rfl, rfl, trivial⟩ ?_
      refine ⟨_, show _ = Value.tuple #[.int .i64 (gameErr g), .string _] by rw [show gameErr g = tiersErr g by unfold gameErr; rw [if_neg (by rw [b9]; exact Bool.noConfusion), if_neg (by omega), okE_t hok, if_neg c51]]; rfl⟩
    refine SL_nil (nx (SWP_cf rfl (SWP_skip (nx (SWP_seq (SWP_region ?_))))))
    refine pI rfl rfl ?_
    refine pS rfl rfl ?_
    refine SL_nil (nx (SWP_ret ?_))
    refine fin [_, _] ⟨rfl, rfl, trivial⟩ ?_
    refine ⟨_, show _ = Value.tuple #[.int .i64 (gameErr g), .string _] by rw [show gameErr g = 0 by unfold gameErr; rw [if_neg (by rw [b9]; exact Bool.noConfusion), if_neg (by omega), okE_t hok, if_neg c51]; omega]; rfl⟩
  refine pB rfl rfl ?_
  refine SL_nil (nx (SWP_ct rfl (SWP_seq (SWP_region ?_))))
  refine pI rfl rfl ?_
  refine pS rfl rfl ?_
  refine SL_nil (nx (SWP_ret (nr ?_)))
  refine fin [_, _] ⟨rfl, rfl, trivial⟩ ?_
  refine ⟨_, show _ = Value.tuple #[.int .i64 (gameErr g), .string _] by rw [show gameErr g = 4 by unfold gameErr; rw [if_pos b9]]; rfl⟩
end Go.Proofs.YtifjhpaoejageaaGreatDoor
namespace Go.Proofs.YtifjhpaoejageaaGreatDoor
open Eng
theorem Eng.RL.small {α : Type} {m : Mem} {en : α → List Value} {size : Nat} {v : Value} {l : List α} (h : RL m en size v l) : l.length ≤ 9223372036854775807 := by
  obtain ⟨a, cap, _, _, h2, h3, _⟩ := h
  unfold maxLen at h3
  omega
structure Line where
  ma : Option Addr
  mc : Nat
  main : List Int
  ba : Option Addr
  bc : Nat
  bonus : List Int
def Line.val (l : Line) : Value := .agg #[.slice l.ma l.main.length l.mc, .slice l.ba l.bonus.length l.bc]
def Line.enc (l : Line) : List Value := [.slice l.ma l.main.length l.mc, .slice l.ba l.bonus.length l.bc]
structure Line.In (m : Mem) (l : Line) : Prop where
  mn : RL m intE 1 (.slice l.ma l.main.length l.mc) l.main
  bn : RL m intE 1 (.slice l.ba l.bonus.length l.bc) l.bonus
theorem Line.In.mono {m m' : Mem} {l : Line} (h : l.In m) (hl : Le m m') : l.In m' := ⟨h.mn.mono hl, h.bn.mono hl⟩
def allIn (lo hi : Int) (l : List Int) : Prop := ∀ x ∈ l, lo ≤ x ∧ x ≤ hi
instance (lo hi : Int) (l : List Int) : Decidable (allIn lo hi l) := by unfold allIn; infer_instance
noncomputable def lineErr (g : Game) (l : Line) : Int :=
  if gameErr g ≠ 0 then gameErr g
  else if (l.main.length : Int) ≠ g.main ∨ (l.bonus.length : Int) ≠ g.bonus then 3
  else if ¬ allIn (if g.kind = 2 then 0 else 1) (if g.kind = 2 then g.of - 1 else g.of) l.main ∨ ¬ allIn 1 g.bonusOf l.bonus then 2
  else if (g.kind ≠ 2 ∧ ¬ l.main.Nodup) ∨ ¬ l.bonus.Nodup then 6
  else 0
structure GameOk (g : Game) : Prop where
  name : nameB g.name = true
  kind : g.kind = 1 ∨ g.kind = 2
  mx : MxOk g
  tm : TmOk g
  ad : addonsErr g.addons = 0
  tr : tiersErr g = 0
theorem gameOk {g : Game} (h : gameErr g = 0) : GameOk g := by
  unfold gameErr at h
  split at h
  · cases h
  · split at h
    · cases h
    · rename_i h1 h2
      by_cases hok : MxOk g ∧ TmOk g
      · rw [okE_t hok] at h
        split at h
        · rename_i h3; exact absurd h h3
        · rename_i h3
          exact ⟨by simpa using h1, by omega, hok.1, hok.2, Classical.not_not.1 h3, h⟩
      · rw [okE_f hok] at h; cases h
theorem allIn_snoc {lo hi x : Int} {l : List Int} {i : Nat} (hx : l[i]? = some x) (h : allIn lo hi (l.take i)) (h' : lo ≤ x ∧ x ≤ hi) : allIn lo hi (l.take (i + 1)) := fun y hy => by
  rw [take_snocA hx] at hy
  rcases List.mem_append.1 hy with hy | hy
  · exact h y hy
  · rw [List.mem_singleton.1 hy]; exact h'
theorem insideI {m : Mem} {v : Value} {l : List Int} (h : RL m intE 1 v l) (lo hi : Int) : PureCall Tryz.prog 110 [v, .int .i64 lo, .int .i64 hi] m (.bool (decide (allIn lo hi l))) := by
  refine CallsS.pure ?_
  have hsm := h.small
  obtain ⟨pa, pcap, rfl⟩ := h.len
  refine enter Tryz.func110 Tryz.ntmps110 rfl rfl ?_
  refine SWP_seq (SWP_region ?_)
  refine pB rfl rfl ?_
  refine SL_nil (nx (SWP_seq (SWP_seq (SWP_region ?_))))
  first | refine pL rfl rfl ?_ | refine pu rfl rfl ?_
  refine pu rfl rfl ?_
  refine pI rfl rfl ?_
  refine SL_nil (nx (SWP_block ?_))
  refine SWP_loop [6, 8, 11, 12, 13, 14, 15, 16, 17, 18, 19, 20, 21, 22, 23] [11]
      (fun vs σ' m' => ∃ (i : Nat), vs = [.int .i64 (i : Nat)] ∧ i ≤ l.length ∧ allIn lo hi (l.take i) ∧ σ' = [] ∧ m = m')
      (fun vs => l.length - nOf (vs.getD 0 undef)) rfl ?_ ?_
  · exact ⟨0, rfl, by omega, fun x h => (by cases h), rfl, rfl⟩
  intro u0 vs0 σ0 m0 hJ0 _
  obtain ⟨i, rfl, hi, hall, rfl, rfl⟩ := hJ0
  refine SWP_seq (SWP_region ?_)
  refine pc rfl rfl (fun c12 => ?_) (fun c12 => ?_)
  · skip
    refine SL_nil (nx (SWP_seq (SWP_ct rfl (SWP_skip (nx (SWP_seq (SWP_block (SWP_seq ?_))))))))
    obtain ⟨x, hx⟩ : ∃ x, l[i]? = some x := ⟨_, List.getElem?_eq_getElem (by omega)⟩
    obtain ⟨ad, e0, _, hat⟩ := h.atI hx
    cases e0
    refine SWP_region ?_
    first | refine ia (es := 1) rfl rfl rfl (Nat.mul_one _) rfl rfl (by omega) rfl ?_ | refine iai (es := 1) rfl rfl rfl (Nat.mul_one _) rfl rfl (by omega) (by omega) rfl ?_
    refine ldA (v := .int .i64 _) rfl (by assumption) rfl rfl ?_
    refine pI rfl rfl ?_
    refine SL_nil (nx (SWP_seq (SWP_region ?_)))
    refine pI rfl rfl ?_
    first | refine pI rfl rfl ?_ | refine pu rfl rfl ?_
    refine pc rfl rfl (fun c17 => ?_) (fun c17 => ?_)
    · skip
      refine pB rfl rfl ?_
      refine SL_no rfl rfl ?_
      refine SL_no rfl rfl ?_
      refine SL_no rfl rfl ?_
      refine pB rfl rfl ?_
      refine SL_nil (nx (SWP_ct rfl (SWP_seq (SWP_region ?_))))
      refine pB rfl rfl ?_
      refine SL_nil (nx (SWP_ret (br (nr (nr (br (nr ?_)))))))
      refine fin [_] ⟨rfl, trivial⟩ ?_
      first | exact congrArg Value.bool (decide_eq_false fun h => by have := h x (List.mem_of_getElem? hx); omega).symm | (refine congrArg Value.bool (decide_eq_true ?_).symm; rw [List.take_of_length_le (by omega)] at hall; exact hall)
    refine pB rfl rfl ?_
    refine SL_yes rfl ?_
    refine pI rfl rfl ?_
    refine SL_yes rfl ?_
    first | refine pI rfl rfl ?_ | refine pu rfl rfl ?_
    refine SL_yes rfl ?_
    refine pc rfl rfl (fun c21 => ?_) (fun c21 => ?_)
    · skip
      refine pB rfl rfl ?_
      refine SL_nil (nx (SWP_ct rfl (SWP_seq (SWP_region ?_))))
      refine pB rfl rfl ?_
      refine SL_nil (nx (SWP_ret (br (nr (nr (br (nr ?_)))))))
      refine fin [_] ⟨rfl, trivial⟩ ?_
      first | exact congrArg Value.bool (decide_eq_false fun h => by have := h x (List.mem_of_getElem? hx); omega).symm | (refine congrArg Value.bool (decide_eq_true ?_).symm; rw [List.take_of_length_le (by omega)] at hall; exact hall)
    refine pB rfl rfl ?_
    refine SL_nil (nx (SWP_cf rfl (SWP_skip (nb (nx (SWP_region ?_))))))
    first | refine pw rfl rfl (w64 (by omega) (by omega)) ?_ | refine pu rfl rfl ?_
    refine pI rfl rfl ?_
    refine SL_nil (nx ?_)
    refine ⟨by repeat (first | exact Under.upds rfl (Under.hav _ _ _) | exact Under.hav _ _ _ | refine Under.upd rfl ?_), ?_, ?_⟩
    · exact ⟨i + 1, rfl, by omega, allIn_snoc hx hall (by omega), rfl, rfl⟩
    · simp only [L_vals, List.map, List.getD]; show l.length - (i + 1) < l.length - i; omega
  refine SL_nil (nx (SWP_seq (SWP_cf rfl (SWP_exit (ne (ne (be rfl (nx (SWP_seq (SWP_region ?_))))))))))
  refine pB rfl rfl ?_
  refine SL_nil (nx (SWP_ret ?_))
  refine fin [_] ⟨rfl, trivial⟩ ?_
  first | exact congrArg Value.bool (decide_eq_false fun h => by have := h x (List.mem_of_getElem? hx); omega).symm | (refine congrArg Value.bool (decide_eq_true ?_).symm; rw [List.take_of_length_le (by omega)] at hall; exact hall)
theorem indexI {m : Mem} {v : Value} {l : List Int} (h : RL m intE 1 v l) (x : Int) : CallsS Tryz.prog 154 [v, .int .i64 x].toArray [] m fun r σ' m' => σ' = [] ∧ m' = m ∧ ∃ k : Int, r = .int .i64 k ∧ (0 ≤ k ↔ x ∈ l) := by
  refine CallsS.forget (R := fun r => ∃ k : Int, r = .int .i64 k ∧ (0 ≤ k ↔ x ∈ l)) ?_
  have hsm := h.small
  obtain ⟨pa, pcap, rfl⟩ := h.len
  refine enter Tryz.func154 Tryz.ntmps154 rfl rfl ?_
  refine SWP_seq (SWP_region ?_)
  refine pI rfl rfl ?_
  refine SL_nil (nx (SWP_seq (SWP_seq (SWP_region ?_))))
  first | refine pL rfl rfl ?_ | refine pu rfl rfl ?_
  refine pu rfl rfl ?_
  refine pI rfl rfl ?_
  refine SL_nil (nx (SWP_block ?_))
  refine SWP_loop [4, 5, 8, 9, 10, 11, 12, 13, 14, 15, 16, 17, 18] [8]
      (fun vs σ' m' => ∃ (i : Nat), vs = [.int .i64 (i : Nat)] ∧ i ≤ l.length ∧ x ∉ l.take i ∧ σ' = [] ∧ m = m')
      (fun vs => l.length - nOf (vs.getD 0 undef)) rfl ?_ ?_
  · exact ⟨0, rfl, by omega, by simp, rfl, rfl⟩
  intro u0 vs0 σ0 m0 hJ0 _
  obtain ⟨i, rfl, hi, hno, rfl, rfl⟩ := hJ0
  refine SWP_seq (SWP_region ?_)
  refine pc rfl rfl (fun c9 => ?_) (fun c9 => ?_)
  · skip
    refine SL_nil (nx (SWP_seq (SWP_ct rfl (SWP_skip (nx (SWP_seq (SWP_block (SWP_seq ?_))))))))
    obtain ⟨y, hy⟩ : ∃ y, l[i]? = some y := ⟨_, List.getElem?_eq_getElem (by omega)⟩
    obtain ⟨ad, e0, _, hat⟩ := h.atI hy
    cases e0
    refine SWP_region ?_
    first | refine pI rfl rfl ?_ | refine pu rfl rfl ?_
    first | refine pI rfl rfl ?_ | refine pu rfl rfl ?_
    refine SL_nil (nx (SWP_seq (SWP_region ?_)))
    first | refine pI rfl rfl ?_ | refine pu rfl rfl ?_
    first | refine pL rfl rfl ?_ | refine pu rfl rfl ?_
    first | refine pI rfl rfl ?_ | refine pu rfl rfl ?_
    first | refine ia (es := 1) rfl rfl rfl (Nat.mul_one _) rfl rfl (by omega) rfl ?_ | refine iai (es := 1) rfl rfl rfl (Nat.mul_one _) rfl rfl (by omega) (by omega) rfl ?_
    refine ldA (v := .int .i64 _) rfl (by assumption) rfl rfl ?_
    refine pc rfl rfl (fun c16 => ?_) (fun c16 => ?_)
    · skip
      refine SL_nil (nx (SWP_ct rfl (SWP_seq (SWP_region ?_))))
      first | refine pI rfl rfl ?_ | refine pu rfl rfl ?_
      first | refine pI rfl rfl ?_ | refine pu rfl rfl ?_
      refine SL_nil (nx (SWP_ret (br (nr (nr (br (nr ?_)))))))
      refine fin [_] ⟨rfl, trivial⟩ ?_
      exact ⟨_, rfl, fun _ => by rw [c16]; exact List.mem_of_getElem? hy, fun _ => by omega⟩
    refine SL_nil (nx (SWP_cf rfl (SWP_skip (nb (nx (SWP_region ?_))))))
    first | refine pw rfl rfl (w64 (by omega) (by omega)) ?_ | refine pu rfl rfl ?_
    refine pI rfl rfl ?_
    refine SL_nil (nx ?_)
    refine ⟨by repeat (first | exact Under.upds rfl (Under.hav _ _ _) | exact Under.hav _ _ _ | refine Under.upd rfl ?_), ?_, ?_⟩
    · refine ⟨i + 1, rfl, by omega, fun hm => ?_, rfl, rfl⟩
      rw [take_snocA hy] at hm
      rcases List.mem_append.1 hm with hm | hm
      · exact hno hm
      · rw [List.mem_singleton] at hm; exact c16 hm
    · simp only [L_vals, List.map, List.getD]; show l.length - (i + 1) < l.length - i; omega
  refine SL_nil (nx (SWP_seq (SWP_cf rfl (SWP_exit (ne (ne (be rfl (nx (SWP_seq (SWP_region ?_))))))))))
  refine pI rfl rfl ?_
  refine SL_nil (nx (SWP_ret ?_))
  refine fin [_] ⟨rfl, trivial⟩ ?_
  refine ⟨_, rfl, fun h => by omega, fun hm => ?_⟩
  rw [List.take_of_length_le (by omega)] at hno
  exact absurd hm hno
theorem containsI {m : Mem} {v : Value} {l : List Int} (h : RL m intE 1 v l) (x : Int) : PureCall Tryz.prog 143 [v, .int .i64 x] m (.bool (decide (x ∈ l))) := by
  refine CallsS.pure ?_
  refine enter Tryz.func143 Tryz.ntmps143 rfl rfl ?_
  refine SWP_seq (SWP_region ?_)
  refine pB rfl rfl ?_
  refine SL_nil (nx (SWP_seq (SWP_region ?_)))
  first | refine pL rfl rfl ?_ | refine pu rfl rfl ?_
  first | refine pI rfl rfl ?_ | refine pu rfl rfl ?_
  refine SL_call rfl rfl cb154 (indexI h x) rfl (fun v1_2 σ1_2 m1_2 hl1_2 hR1_2 => ?_)
  obtain ⟨rfl, hm1_2, k, rfl, hk⟩ := hR1_2
  have hn1_2 := hm1_2.symm
  subst hn1_2
  refine pu rfl rfl ?_
  refine pB rfl rfl ?_
  refine SL_nil (nx (SWP_ret ?_))
  refine fin [_] ⟨rfl, trivial⟩ ?_
  exact congrArg Value.bool (decide_eq_decide.2 hk)
theorem nodup_snoc {l : List Int} {x : Int} {i : Nat} (hx : l[i]? = some x) : (l.take (i + 1)).Nodup ↔ (l.take i).Nodup ∧ x ∉ l.take i := by
  rw [take_snocA hx, List.nodup_append]
  constructor
  · exact fun h => ⟨h.1, fun hm => h.2.2 x hm x (by simp) rfl⟩
  · exact fun h => ⟨h.1, by simp, fun a ha b hb e => by simp only [List.mem_singleton] at hb; subst hb; subst e; exact h.2 ha⟩
theorem not_nodup_take {l : List Int} {x : Int} {i : Nat} (hx : l[i]? = some x) (h : x ∈ l.take i) : ¬ l.Nodup := fun hn => ((nodup_snoc hx).1 (hn.sublist (List.take_sublist _ _))).2 h
theorem repeatedI {m : Mem} {v : Value} {l : List Int} (h : RL m intE 1 v l) : PureCall Tryz.prog 111 [v] m (.bool (decide (¬ l.Nodup))) := by
  refine CallsS.pure ?_
  have hsm := h.small
  obtain ⟨pa, pcap, rfl⟩ := h.len
  obtain ⟨hcp, _⟩ := h.capI
  refine enter Tryz.func111 Tryz.ntmps111 rfl rfl ?_
  refine SWP_seq (SWP_region ?_)
  refine pB rfl rfl ?_
  refine SL_nil (nx (SWP_seq (SWP_seq (SWP_region ?_))))
  first | refine pL rfl rfl ?_ | refine pu rfl rfl ?_
  refine pu rfl rfl ?_
  refine pI rfl rfl ?_
  refine SL_nil (nx (SWP_block ?_))
  refine SWP_loop [2, 3, 4, 7, 8, 9, 10, 11, 12, 13, 14, 15, 16, 17] [7]
      (fun vs σ' m' => ∃ (i : Nat), vs = [.int .i64 (i : Nat)] ∧ i ≤ l.length ∧ (l.take i).Nodup ∧ σ' = [] ∧ m = m')
      (fun vs => l.length - nOf (vs.getD 0 undef)) rfl ?_ ?_
  · exact ⟨0, rfl, by omega, by simp, rfl, rfl⟩
  intro u0 vs0 σ0 m0 hJ0 _
  obtain ⟨i, rfl, hi, hnd, rfl, rfl⟩ := hJ0
  refine SWP_seq (SWP_region ?_)
  refine pc rfl rfl (fun c8 => ?_) (fun c8 => ?_)
  · skip
    refine SL_nil (nx (SWP_seq (SWP_ct rfl (SWP_skip (nx (SWP_seq (SWP_block (SWP_seq ?_))))))))
    obtain ⟨x, hx⟩ : ∃ x, l[i]? = some x := ⟨_, List.getElem?_eq_getElem (by omega)⟩
    obtain ⟨ad, e0, _, hat⟩ := h.atI hx
    cases e0
    refine SWP_region ?_
    first | refine pI rfl rfl ?_ | refine pu rfl rfl ?_
    first | refine ia (es := 1) rfl rfl rfl (Nat.mul_one _) rfl rfl (by omega) rfl ?_ | refine iai (es := 1) rfl rfl rfl (Nat.mul_one _) rfl rfl (by omega) (by omega) rfl ?_
    refine ldA (v := .int .i64 _) rfl (by assumption) rfl rfl ?_
    first | refine pI rfl rfl ?_ | refine pu rfl rfl ?_
    refine pI rfl rfl ?_
    refine SL_nil (nx (SWP_seq (SWP_region ?_)))
    first | refine pL rfl rfl ?_ | refine pu rfl rfl ?_
    first | refine pI rfl rfl ?_ | refine pu rfl rfl ?_
    refine slh (size := 1) rfl rfl rfl rfl rfl (by omega) (by omega) rfl ?_
    have hsub := RL.sub intE_len h (Nat.zero_le i) (by omega)
    rw [List.drop_zero] at hsub
    rw [Int.toNat_natCast]
    refine pI rfl rfl ?_
    refine SL_pcall rfl rfl cb143 (containsI hsub x) rfl ?_
    refine psp 16 rfl (fun c16 => ?_) (fun c16 => ?_)
    · skip
      refine SL_nil (nx (SWP_ct rfl (SWP_seq (SWP_region ?_))))
      refine pB rfl rfl ?_
      refine SL_nil (nx (SWP_ret (br (nr (nr (br (nr ?_)))))))
      refine fin [_] ⟨rfl, trivial⟩ ?_
      exact congrArg Value.bool (decide_eq_true (not_nodup_take hx c16)).symm
    refine SL_nil (nx (SWP_cf rfl (SWP_skip (nb (nx (SWP_region ?_))))))
    first | refine pw rfl rfl (w64 (by omega) (by omega)) ?_ | refine pu rfl rfl ?_
    refine pI rfl rfl ?_
    refine SL_nil (nx ?_)
    refine ⟨by repeat (first | exact Under.upds rfl (Under.hav _ _ _) | exact Under.hav _ _ _ | refine Under.upd rfl ?_), ?_, ?_⟩
    · exact ⟨i + 1, rfl, by omega, (nodup_snoc hx).2 ⟨hnd, c16⟩, rfl, rfl⟩
    · simp only [L_vals, List.map, List.getD]; show l.length - (i + 1) < l.length - i; omega
  refine SL_nil (nx (SWP_seq (SWP_cf rfl (SWP_exit (ne (ne (be rfl (nx (SWP_seq (SWP_region ?_))))))))))
  refine pB rfl rfl ?_
  refine SL_nil (nx (SWP_ret ?_))
  refine fin [_] ⟨rfl, trivial⟩ ?_
  refine congrArg Value.bool (decide_eq_false ?_).symm
  rw [List.take_of_length_le (by omega)] at hnd
  exact Classical.not_not.2 hnd
set_option maxRecDepth 100000 in
theorem lineI {m : Mem} {g : Game} {l : Line} (hin : g.In m) (hl : l.In m) : PureCall Tryz.prog 81 [g.val, l.val] m (.int .i64 (lineErr g l)) := by
  refine CallsS.pure ?_
  dsimp only [Game.val, Line.val]
  refine enter Tryz.func81 Tryz.ntmps81 rfl rfl ?_
  refine SWP_seq (SWP_region ?_)
  refine bx (v := .agg _) rfl rfl (fun B2 => ?_)
  refine bx (v := .agg _) rfl rfl (fun B3 => ?_)
  refine pI rfl rfl ?_
  refine SL_nil (nx (SWP_seq (SWP_seq (SWP_region ?_))))
  refine lw (v := .agg _) B2 0 rfl rfl rfl rfl ?_
  refine SL_call rfl rfl cb37 (CallsS.frame0 (checkI hin)) rfl (fun v1_1 σ1_1 m1_1 hl1_1 hR1_1 => ?_)
  obtain ⟨σc, rfl, rfl, hm1_1, s, rfl⟩ := hR1_1
  have hn1_1 := hm1_1.symm
  subst hn1_1
  refine pu rfl rfl ?_
  first | refine pI rfl rfl ?_ | refine pu rfl rfl ?_
  first | refine pS rfl rfl ?_ | refine pu rfl rfl ?_
  first | refine pI rfl rfl ?_ | refine pu rfl rfl ?_
  first | refine pS rfl rfl ?_ | refine pu rfl rfl ?_
  refine SL_nil (nx (SWP_seq (SWP_region ?_)))
  first | refine pI rfl rfl ?_ | refine pu rfl rfl ?_
  refine pc rfl rfl (fun c16 => ?_) (fun c16 => ?_)
  · skip
    refine SL_nil (nx (SWP_ct rfl (SWP_seq (SWP_region ?_))))
    first | refine pI rfl rfl ?_ | refine pu rfl rfl ?_
    first | refine pI rfl rfl ?_ | refine pu rfl rfl ?_
    refine SL_nil (nx (SWP_ret (nr ?_)))
    refine fin [_] ⟨rfl, trivial⟩ ?_
    refine congrArg (Value.int .i64) ?_
    unfold lineErr
    rw [if_pos (by omega)]
  refine SL_nil (nx (SWP_cf rfl (SWP_skip (nx ?_))))
  refine SWP_merge1 [4, 18, 19, 20, 21, 22, 23, 24, 25, 26, 27, 28, 29, 30, 31] []
      (fun vs σ' m' => vs = [] ∧ (l.main.length : Int) = g.main ∧ (l.bonus.length : Int) = g.bonus ∧ σ' = [(B3, Cells 50 l.enc), (B2, Cells 25 g.enc)] ∧ m = m')
      rfl ?_ ?_
  · skip
    refine SWP_seq (SWP_region ?_)
    refine pu rfl rfl ?_
    refine lw (v := .slice _ _ _) B3 0 rfl rfl rfl rfl ?_
    refine pu rfl rfl ?_
    refine pu rfl rfl ?_
    refine lw (v := .int .i64 _) B2 3 rfl rfl rfl rfl ?_
    refine pc rfl rfl (fun c23 => ?_) (fun c23 => ?_)
    · skip
      refine pB rfl rfl ?_
      refine SL_no rfl rfl ?_
      refine SL_no rfl rfl ?_
      refine SL_no rfl rfl ?_
      refine SL_no rfl rfl ?_
      refine SL_no rfl rfl ?_
      refine SL_no rfl rfl ?_
      refine pB rfl rfl ?_
      refine SL_nil (nx (SWP_ct rfl (SWP_seq (SWP_region ?_))))
      refine pI rfl rfl ?_
      refine SL_nil (nx (SWP_ret (nr ?_)))
      refine fin [_] ⟨rfl, trivial⟩ ?_
      refine congrArg (Value.int .i64) ?_
      unfold lineErr
      rw [if_neg (by omega), if_pos (by omega)]
    refine pB rfl rfl ?_
    refine SL_yes rfl ?_
    refine pu rfl rfl ?_
    refine SL_yes rfl ?_
    refine lw (v := .slice _ _ _) B3 1 rfl rfl rfl rfl ?_
    refine SL_yes rfl ?_
    refine pu rfl rfl ?_
    refine SL_yes rfl ?_
    refine pu rfl rfl ?_
    refine SL_yes rfl ?_
    refine lw (v := .int .i64 _) B2 5 rfl rfl rfl rfl ?_
    refine SL_yes rfl ?_
    refine pc rfl rfl (fun c30 => ?_) (fun c30 => ?_)
    · skip
      refine pB rfl rfl ?_
      refine SL_nil (nx (SWP_ct rfl (SWP_seq (SWP_region ?_))))
      refine pI rfl rfl ?_
      refine SL_nil (nx (SWP_ret (nr ?_)))
      refine fin [_] ⟨rfl, trivial⟩ ?_
      refine congrArg (Value.int .i64) ?_
      unfold lineErr
      rw [if_neg (by omega), if_pos (by omega)]
    refine pB rfl rfl ?_
    refine SL_nil (nx (SWP_cf rfl (SWP_skip (nx ?_))))
    refine ⟨by repeat (first | with_reducible exact Under.refl _ _ | exact Under.upds rfl (Under.hav _ _ _) | exact Under.hav _ _ _ | refine Under.upd rfl ?_ | refine Under.upds rfl ?_ | refine Under.hav2 rfl ?_), ?_⟩
    exact ⟨rfl, by omega, by omega, rfl, rfl⟩
  intro uM0 vM0 σM0 mM0 hM0 _
  obtain ⟨rfl, hm1, hm2, rfl, rfl⟩ := hM0
  have hz : gameErr g = 0 := by omega
  have hok := gameOk hz
  dsimp only [Line.enc, Game.enc]
  refine SWP_seq (SWP_region ?_)
  refine pu rfl rfl ?_
  refine lw (v := .int .i64 _) B2 1 rfl rfl rfl rfl ?_
  refine pu rfl rfl ?_
  first | refine pB rfl rfl ?_ | refine pu rfl rfl ?_
  refine SL_nil (nx (SWP_seq ?_))
  refine SWP_draws (by kernel_rfl) (by kernel_rfl) ?_
  refine pu rfl rfl ?_
  refine lw (v := .int .i64 _) B2 4 rfl rfl rfl rfl ?_
  refine pI rfl rfl ?_
  refine pI rfl rfl ?_
  refine SL_nil (nx ?_)
  refine SWP_merge1 [8, 9, 37, 38, 39, 40] [8, 9]
      (fun vs σ' m' => vs = [.int .i64 (if g.kind = 2 then 0 else 1), .int .i64 (if g.kind = 2 then g.of - 1 else g.of)] ∧ σ' = [(B3, Cells 50 l.enc), (B2, Cells 25 g.enc)] ∧ m = m')
      rfl ?_ ?_
  · skip
    refine SWP_seq (SWP_region ?_)
    refine pu (v := .bool (decide (g.kind = 2))) rfl rfl ?_
    refine psp 37 rfl (fun c37 => ?_) (fun c37 => ?_)
    · skip
      refine SL_nil (nx (SWP_ct rfl ?_))
      refine SWP_draws (by kernel_rfl) (by kernel_rfl) ?_
      refine pu rfl rfl ?_
      refine lw (v := .int .i64 _) B2 4 rfl rfl rfl rfl ?_
      refine pw rfl rfl (w64 (by have := hok.mx.h3; have := hok.mx.h4; omega) (by have := hok.mx.h3; have := hok.mx.h4; omega)) ?_
      refine pI rfl rfl ?_
      first | refine pI rfl rfl ?_ | refine pu rfl rfl ?_
      refine SL_nil (nx ?_)
      refine ⟨by repeat (first | with_reducible exact Under.refl _ _ | exact Under.upds rfl (Under.hav _ _ _) | exact Under.hav _ _ _ | refine Under.upd rfl ?_ | refine Under.upds rfl ?_ | refine Under.hav2 rfl ?_), ?_⟩
      refine ⟨?_, rfl, rfl⟩
      first | (rw [if_pos c37, if_pos c37]; rfl) | (rw [if_neg c37, if_neg c37]; rfl)
    refine SL_nil (nx (SWP_cf rfl (SWP_skip (nx ?_))))
    refine ⟨by repeat (first | with_reducible exact Under.refl _ _ | exact Under.upds rfl (Under.hav _ _ _) | exact Under.hav _ _ _ | refine Under.upd rfl ?_ | refine Under.upds rfl ?_ | refine Under.hav2 rfl ?_), ?_⟩
    refine ⟨?_, rfl, rfl⟩
    first | (rw [if_pos c37, if_pos c37]; rfl) | (rw [if_neg c37, if_neg c37]; rfl)
  intro uM1 vM1 σM1 mM1 hM1 _
  obtain ⟨rfl, rfl, rfl⟩ := hM1
  dsimp only [Line.enc, Game.enc]
  refine SWP_merge1 [4, 41, 42, 43, 44, 45, 46, 47, 48, 49, 50, 51, 52, 53, 54] []
      (fun vs σ' m' => vs = [] ∧ (allIn (if g.kind = 2 then 0 else 1) (if g.kind = 2 then g.of - 1 else g.of) l.main ∧ allIn 1 g.bonusOf l.bonus) ∧ σ' = [(B3, Cells 50 l.enc), (B2, Cells 25 g.enc)] ∧ m = m')
      rfl ?_ ?_
  · skip
    refine SWP_seq (SWP_region ?_)
    refine pu rfl rfl ?_
    refine lw (v := .slice _ _ _) B3 0 rfl rfl rfl rfl ?_
    first | refine pI rfl rfl ?_ | refine pu rfl rfl ?_
    first | refine pI rfl rfl ?_ | refine pu rfl rfl ?_
    refine SL_pcall rfl rfl cb110 (insideI hl.mn _ _) rfl ?_
    refine psp 45 rfl (fun c45 => ?_) (fun c45 => ?_)
    · skip
      refine pB rfl rfl ?_
      refine pB rfl rfl ?_
      refine SL_yes rfl ?_
      refine pu rfl rfl ?_
      refine SL_yes rfl ?_
      refine lw (v := .slice _ _ _) B3 1 rfl rfl rfl rfl ?_
      refine SL_yes rfl ?_
      refine pu rfl rfl ?_
      refine SL_yes rfl ?_
      refine lw (v := .int .i64 _) B2 6 rfl rfl rfl rfl ?_
      refine SL_yes rfl ?_
      refine SL_pcall rfl rfl cb110 (insideI hl.bn _ _) rfl ?_
      refine psp 52 rfl (fun c52 => ?_) (fun c52 => ?_)
      · skip
        refine SL_yes rfl ?_
        refine pB rfl rfl ?_
        refine pB rfl rfl ?_
        refine SL_nil (nx (SWP_cf rfl (SWP_skip (nx ?_))))
        refine ⟨by repeat (first | with_reducible exact Under.refl _ _ | exact Under.upds rfl (Under.hav _ _ _) | exact Under.hav _ _ _ | refine Under.upd rfl ?_ | refine Under.upds rfl ?_ | refine Under.hav2 rfl ?_), ?_⟩
        exact ⟨rfl, ⟨c45, c52⟩, rfl, rfl⟩
      refine SL_yes rfl ?_
      refine pB rfl rfl ?_
      refine pB rfl rfl ?_
      refine SL_nil (nx (SWP_ct rfl (SWP_seq (SWP_region ?_))))
      refine pI rfl rfl ?_
      refine SL_nil (nx (SWP_ret (nr ?_)))
      refine fin [_] ⟨rfl, trivial⟩ ?_
      refine congrArg (Value.int .i64) ?_
      unfold lineErr
      rw [if_neg (by omega), if_neg (by omega), if_pos (.inr c52)]
    refine pB rfl rfl ?_
    refine pB rfl rfl ?_
    refine SL_no rfl rfl ?_
    refine SL_no rfl rfl ?_
    refine SL_no rfl rfl ?_
    refine SL_no rfl rfl ?_
    refine SL_no rfl rfl ?_
    refine SL_no rfl rfl ?_
    refine pB rfl rfl ?_
    refine SL_nil (nx (SWP_ct rfl (SWP_seq (SWP_region ?_))))
    refine pI rfl rfl ?_
    refine SL_nil (nx (SWP_ret (nr ?_)))
    refine fin [_] ⟨rfl, trivial⟩ ?_
    refine congrArg (Value.int .i64) ?_
    unfold lineErr
    rw [if_neg (by omega), if_neg (by omega), if_pos (.inl c45)]
  intro uM2 vM2 σM2 mM2 hM2 _
  obtain ⟨rfl, hai, rfl, rfl⟩ := hM2
  dsimp only [Line.enc, Game.enc]
  refine SWP_seq (SWP_seq (SWP_region ?_))
  refine pu (v := .bool (decide (g.kind = 2))) rfl rfl ?_
  refine psp 55 rfl (fun c55 => ?_) (fun c55 => ?_)
  · skip
    refine pB rfl rfl ?_
    refine pB rfl rfl ?_
    refine SL_no rfl rfl ?_
    refine SL_no rfl rfl ?_
    refine SL_no rfl rfl ?_
    refine pB rfl rfl ?_
    refine pB rfl rfl ?_
    refine SL_yes rfl ?_
    refine pu rfl rfl ?_
    refine SL_yes rfl ?_
    refine lw (v := .slice _ _ _) B3 1 rfl rfl rfl rfl ?_
    refine SL_yes rfl ?_
    refine SL_pcall rfl rfl cb111 (repeatedI hl.bn) rfl ?_
    refine psp 65 rfl (fun c65 => ?_) (fun c65 => ?_)
    · skip
      refine pB rfl rfl ?_
      refine SL_nil (nx (SWP_ct rfl (SWP_seq (SWP_region ?_))))
      refine pI rfl rfl ?_
      refine SL_nil (nx (SWP_ret (nr ?_)))
      refine fin [_] ⟨rfl, trivial⟩ ?_
      refine congrArg (Value.int .i64) ?_
      unfold lineErr
      rw [if_neg (by omega), if_neg (by omega), if_neg (fun h => h.elim (fun h => h hai.1) (fun h => h hai.2))]
      first
        | exact (if_pos (.inl ⟨by omega, by assumption⟩)).symm
        | exact (if_pos (.inr (by assumption))).symm
        | exact (if_neg (fun h => h.elim (fun h => by first | exact absurd h.2 (by assumption) | exact absurd h.1 (by omega)) (by assumption))).symm
    refine pB rfl rfl ?_
    refine SL_nil (nx (SWP_cf rfl (SWP_skip (nx (SWP_seq (SWP_region ?_))))))
    refine pI rfl rfl ?_
    refine SL_nil (nx (SWP_ret ?_))
    refine fin [_] ⟨rfl, trivial⟩ ?_
    refine congrArg (Value.int .i64) ?_
    unfold lineErr
    rw [if_neg (by omega), if_neg (by omega), if_neg (fun h => h.elim (fun h => h hai.1) (fun h => h hai.2))]
    first
      | exact (if_pos (.inl ⟨by omega, by assumption⟩)).symm
      | exact (if_pos (.inr (by assumption))).symm
      | exact (if_neg (fun h => h.elim (fun h => by first | exact absurd h.2 (by assumption) | exact absurd h.1 (by omega)) (by assumption))).symm
  refine pB rfl rfl ?_
  refine pB rfl rfl ?_
  refine SL_yes rfl ?_
  refine pu rfl rfl ?_
  refine SL_yes rfl ?_
  refine lw (v := .slice _ _ _) B3 0 rfl rfl rfl rfl ?_
  refine SL_yes rfl ?_
  refine SL_pcall rfl rfl cb111 (repeatedI hl.mn) rfl ?_
  refine psp 60 rfl (fun c60 => ?_) (fun c60 => ?_)
  · skip
    refine pB rfl rfl ?_
    refine pB rfl rfl ?_
    refine SL_no rfl rfl ?_
    refine SL_no rfl rfl ?_
    refine SL_no rfl rfl ?_
    refine pB rfl rfl ?_
    refine SL_nil (nx (SWP_ct rfl (SWP_seq (SWP_region ?_))))
    refine pI rfl rfl ?_
    refine SL_nil (nx (SWP_ret (nr ?_)))
    refine fin [_] ⟨rfl, trivial⟩ ?_
    refine congrArg (Value.int .i64) ?_
    unfold lineErr
    rw [if_neg (by omega), if_neg (by omega), if_neg (fun h => h.elim (fun h => h hai.1) (fun h => h hai.2))]
    first
      | exact (if_pos (.inl ⟨by omega, by assumption⟩)).symm
      | exact (if_pos (.inr (by assumption))).symm
      | exact (if_neg (fun h => h.elim (fun h => by first | exact absurd h.2 (by assumption) | exact absurd h.1 (by omega)) (by assumption))).symm
  refine pB rfl rfl ?_
  refine pB rfl rfl ?_
  refine SL_yes rfl ?_
  refine pu rfl rfl ?_
  refine SL_yes rfl ?_
  refine lw (v := .slice _ _ _) B3 1 rfl rfl rfl rfl ?_
  refine SL_yes rfl ?_
  refine SL_pcall rfl rfl cb111 (repeatedI hl.bn) rfl ?_
  refine psp 65 rfl (fun c65 => ?_) (fun c65 => ?_)
  · skip
    refine pB rfl rfl ?_
    refine SL_nil (nx (SWP_ct rfl (SWP_seq (SWP_region ?_))))
    refine pI rfl rfl ?_
    refine SL_nil (nx (SWP_ret (nr ?_)))
    refine fin [_] ⟨rfl, trivial⟩ ?_
    refine congrArg (Value.int .i64) ?_
    unfold lineErr
    rw [if_neg (by omega), if_neg (by omega), if_neg (fun h => h.elim (fun h => h hai.1) (fun h => h hai.2))]
    first
      | exact (if_pos (.inl ⟨by omega, by assumption⟩)).symm
      | exact (if_pos (.inr (by assumption))).symm
      | exact (if_neg (fun h => h.elim (fun h => by first | exact absurd h.2 (by assumption) | exact absurd h.1 (by omega)) (by assumption))).symm
  refine pB rfl rfl ?_
  refine SL_nil (nx (SWP_cf rfl (SWP_skip (nx (SWP_seq (SWP_region ?_))))))
  refine pI rfl rfl ?_
  refine SL_nil (nx (SWP_ret ?_))
  refine fin [_] ⟨rfl, trivial⟩ ?_
  refine congrArg (Value.int .i64) ?_
  unfold lineErr
  rw [if_neg (by omega), if_neg (by omega), if_neg (fun h => h.elim (fun h => h hai.1) (fun h => h hai.2))]
  first
    | exact (if_pos (.inl ⟨by omega, by assumption⟩)).symm
    | exact (if_pos (.inr (by assumption))).symm
    | exact (if_neg (fun h => h.elim (fun h => by first | exact absurd h.2 (by assumption) | exact absurd h.1 (by omega)) (by assumption))).symm
end Go.Proofs.YtifjhpaoejageaaGreatDoor
namespace Go.Proofs.YtifjhpaoejageaaGreatDoor
open Eng
theorem wrapU (x : Int) : IntKind.u64.wrap x = x % 18446744073709551616 := by simp [IntKind.wrap, IntKind.bits, IntKind.signed]
theorem wrapV (x : Int) : IntKind.u32.wrap x = x % 4294967296 := by simp [IntKind.wrap, IntKind.bits, IntKind.signed]
def u32E (x : Int) : List Value := [.int .u32 x]
theorem u32E_len (x : Int) : (u32E x).length = 1 := rfl
theorem all_u32E : ∀ l : List Int, (l.flatMap u32E).all (·.oneCell') = true
  | [] => rfl
  | x :: l => by rw [List.flatMap_cons, List.all_append, all_u32E l]; rfl
theorem Eng.RL.atV {m : Mem} {k n c : Nat} {a : Option Addr} {l : List Int} {x : Int} (h : RL m u32E 1 (.slice a n c) l) (hk : l[k]? = some x) : ∃ ad, a = some ad ∧ n = l.length ∧ At m (ad.add k) (u32E x) := by
  have := Eng.RL.atA u32E_len h hk
  simpa using this
theorem getDV {l : List Int} {i : Nat} {x : Int} (h : l[i]? = some x) : l.getD i 0 = x := by rw [List.getD_eq_getElem?_getD, h]; rfl
def valL : List Int → Int
  | [] => 0
  | a :: l => a + 4294967296 * valL l
def okL (l : List Int) : Prop := ∀ x ∈ l, 0 ≤ x ∧ x < 4294967296
theorem okL_cons {a : Int} {l : List Int} : okL (a :: l) ↔ (0 ≤ a ∧ a < 4294967296) ∧ okL l := by
  unfold okL; simp
theorem okL_take {l : List Int} (h : okL l) (n : Nat) : okL (l.take n) := fun x hx => h x (List.mem_of_mem_take hx)
def natL (N : Int) : List Int := if N = 0 then [] else if N < 4294967296 then [N] else [N % 4294967296, N / 4294967296]
theorem natL_len (N : Int) : (natL N).length ≤ 2 := by
  unfold natL
  split
  · simp
  · split <;> simp
theorem valL_natL (N : Int) : valL (natL N) = N := by
  unfold natL
  split
  · rename_i h; rw [h]; rfl
  · split
    · show N + 4294967296 * 0 = N; omega
    · show N % 4294967296 + 4294967296 * (N / 4294967296 + 4294967296 * 0) = N; omega
theorem okL_natL {N : Int} (h : 0 ≤ N) (h' : N < 18446744073709551616) : okL (natL N) := by
  unfold natL okL
  intro x hx
  split at hx
  · cases hx
  · split at hx
    · rw [List.mem_singleton] at hx; omega
    · rcases List.mem_cons.1 hx with hx | hx
      · omega
      · rw [List.mem_singleton] at hx; omega
def tidyL (l : List Int) : Prop := l = [] ∨ l.getD (l.length - 1) 0 ≠ 0
theorem tidy_pos : ∀ {l : List Int}, okL l → l ≠ [] → tidyL l → 1 ≤ valL l
  | [], _, h, _ => absurd rfl h
  | [a], h, _, ht => by
    rcases ht with ht | ht
    · cases ht
    · have h1 := (okL_cons.1 h).1
      have ht' : a ≠ 0 := ht
      show 1 ≤ a + 4294967296 * 0; omega
  | a :: b :: l, h, _, ht => by
    have h1 := (okL_cons.1 h).1
    have h2 : 1 ≤ valL (b :: l) := tidy_pos (okL_cons.1 h).2 (fun e => by cases e) (by
      rcases ht with ht | ht
      · cases ht
      · refine .inr ?_
        simpa using ht)
    show 1 ≤ a + 4294967296 * valL (b :: l); omega
theorem natL_of {l : List Int} (h : okL l) (ht : tidyL l) {N : Int} (hv : valL l = N) (hN : N < 18446744073709551616) : l = natL N := by
  match l, h, ht, hv with
  | [], _, _, hv => rw [← hv]; rfl
  | [a], h, ht, hv =>
    have h1 := tidy_pos h (fun e => by cases e) ht
    have h2 := (okL_cons.1 h).1
    have h3 : a + 4294967296 * 0 = N := hv
    unfold natL
    rw [if_neg (by omega), if_pos (by omega)]
    rw [show a = N by omega]
  | [a, b], h, ht, hv =>
    have h1 := (okL_cons.1 h).1
    have h2 := (okL_cons.1 (okL_cons.1 h).2).1
    have hb : b ≠ 0 := by
      rcases ht with ht | ht
      · cases ht
      · exact ht
    have h3 : a + 4294967296 * (b + 4294967296 * 0) = N := hv
    unfold natL
    rw [if_neg (by omega), if_neg (by omega), show a = N % 4294967296 by omega, show b = N / 4294967296 by omega]
  | a :: b :: c :: l, h, ht, hv =>
    have h1 := (okL_cons.1 h).1
    have h2 := (okL_cons.1 (okL_cons.1 h).2).1
    have h3 : 1 ≤ valL (c :: l) := tidy_pos (okL_cons.1 (okL_cons.1 h).2).2 (fun e => by cases e) (by
      rcases ht with ht | ht
      · cases ht
      · refine .inr ?_
        simpa using ht)
    have h4 : a + 4294967296 * (b + 4294967296 * valL (c :: l)) = N := hv
    omega
theorem tidy_natL {N : Int} (h : 0 ≤ N) : tidyL (natL N) := by
  unfold natL tidyL
  split
  · exact .inl rfl
  · split
    · refine .inr ?_; show N ≠ 0; assumption
    · refine .inr ?_; show N / 4294967296 ≠ 0; omega
def trimN (l : List Int) : Nat → Nat
  | 0 => 0
  | k + 1 => if l.getD k 0 = 0 then trimN l k else k + 1
theorem trimN_le (l : List Int) : ∀ k, trimN l k ≤ k
  | 0 => Nat.le_refl _
  | k + 1 => by
    unfold trimN
    have := trimN_le l k
    split <;> omega
def trimL (l : List Int) : List Int := l.take (trimN l l.length)
theorem trimN_tidy (l : List Int) : ∀ k, k ≤ l.length → tidyL (l.take (trimN l k))
  | 0, _ => .inl (by simp [trimN])
  | k + 1, h => by
    unfold trimN
    split
    · exact trimN_tidy l k (by omega)
    · rename_i h0
      refine .inr ?_
      rw [List.length_take, show min (k + 1) l.length - 1 = k by omega, List.getD_eq_getElem?_getD, List.getElem?_take, if_pos (by omega), ← List.getD_eq_getElem?_getD]
      exact h0
theorem valL_snoc : ∀ (l : List Int), valL (l ++ [0]) = valL l
  | [] => rfl
  | a :: l => by show a + 4294967296 * valL (l ++ [0]) = _; rw [valL_snoc l]; rfl
theorem trimN_val (l : List Int) : ∀ k, k ≤ l.length → valL (l.take (trimN l k)) = valL (l.take k)
  | 0, _ => rfl
  | k + 1, h => by
    unfold trimN
    split
    · rename_i h0
      obtain ⟨x, hx⟩ : ∃ x, l[k]? = some x := ⟨_, List.getElem?_eq_getElem (by omega)⟩
      have hx0 : x = 0 := by rw [← getDV hx]; exact h0
      rw [trimN_val l k (by omega), take_snocA hx, hx0, valL_snoc]
    · rfl
theorem trim_nat {l : List Int} (h : okL l) {N : Int} (hv : valL l = N) (hN : N < 18446744073709551616) : trimL l = natL N :=
  natL_of (okL_take h _) (trimN_tidy l _ (Nat.le_refl _)) (by
    rw [trimN_val l _ (Nat.le_refl _), List.take_length]; exact hv) hN
theorem trimN_pred {l : List Int} {k : Nat} (h0 : 0 < k) (h : l.getD (k - 1) 0 = 0) : trimN l k = trimN l (k - 1) := by
  cases k with
  | zero => omega
  | succ k => exact if_pos h
theorem trimN_stop {l : List Int} {k : Nat} (h0 : 0 < k) (h : l.getD (k - 1) 0 ≠ 0) : trimN l k = k := by
  cases k with
  | zero => omega
  | succ k => exact if_neg h
def trimV (a : Option Addr) (l : List Int) : Value := if trimN l l.length = 0 then .slice none 0 0 else sliced a 0 (trimN l l.length) (trimN l l.length) 1
theorem trim_RL {m : Mem} {a : Option Addr} {c : Nat} {l : List Int} (h : RL m u32E 1 (.slice a l.length c) l) : RL m u32E 1 (trimV a l) (trimL l) := by
  obtain ⟨a', c', e, hc⟩ := h.full
  cases e
  unfold trimV trimL
  have hle := trimN_le l l.length
  by_cases h0 : trimN l l.length = 0
  · rw [if_pos h0, h0, List.take_zero]; exact RL.nil _ _
  · rw [if_neg h0]
    have := RL.sub3 (lo := 0) (hi := trimN l l.length) (mx := trimN l l.length) u32E_len h (by omega) hle (Nat.le_refl _) (by omega)
    rwa [List.drop_zero] at this
theorem trimI {m : Mem} {a : Option Addr} {c : Nat} {l : List Int} (h : RL m u32E 1 (.slice a l.length c) l) : PureCall Tryz.prog 132 [.slice a l.length c] m (.agg #[trimV a l]) := by
  refine CallsS.pure ?_
  have hsm := h.small
  obtain ⟨a0, c0, e0, hcap⟩ := h.full
  cases e0
  refine enter Tryz.func132 Tryz.ntmps132 rfl rfl ?_
  refine SWP_seq (SWP_region ?_)
  refine al rfl rfl (fun B2 => ?_)
  refine SL_nil (nx (SWP_seq (SWP_region ?_)))
  first | refine pL rfl rfl ?_ | refine pu rfl rfl ?_
  refine pu rfl rfl ?_
  refine pI rfl rfl ?_
  refine SL_nil (nx (SWP_seq (SWP_block ?_)))
  refine SWP_loop [3, 6, 7, 8, 9, 10, 11, 12, 13, 14, 15, 16, 17] [3]
      (fun vs σ' m' => ∃ (k : Nat), vs = [.int .i64 (k : Nat)] ∧ k ≤ l.length ∧ trimN l l.length = trimN l k ∧ σ' = [(B2, Cells 112 [.slice none 0 0])] ∧ m = m')
      (fun vs => nOf (vs.getD 0 undef)) rfl ?_ ?_
  · exact ⟨l.length, rfl, Nat.le_refl _, rfl, rfl, rfl⟩
  intro u0 vs0 σ0 m0 hJ0 _
  obtain ⟨k, rfl, hk, hT, rfl, rfl⟩ := hJ0
  refine SWP_seq (SWP_seq (SWP_region ?_))
  first | refine pI rfl rfl ?_ | refine pu rfl rfl ?_
  refine pc rfl rfl (fun c7 => ?_) (fun c7 => ?_)
  · skip
    refine pB rfl rfl ?_
    refine SL_yes rfl ?_
    first | refine pL rfl rfl ?_ | refine pu rfl rfl ?_
    refine SL_yes rfl ?_
    first | refine pI rfl rfl ?_ | refine pu rfl rfl ?_
    refine SL_yes rfl ?_
    refine pw rfl rfl (w64 (by omega) (by omega)) ?_
    have h0k : 0 < k := by omega
    rw [show (k : Int) - 1 = ((k - 1 : Nat) : Int) by omega]
    obtain ⟨x, hx⟩ : ∃ z, l[k - 1]? = some z := ⟨_, List.getElem?_eq_getElem (by omega)⟩
    obtain ⟨adx, ex, _, hatx⟩ := h.atV hx
    cases ex
    have gx := getDV hx
    refine SL_yes rfl ?_
    refine ia (es := 1) rfl rfl rfl (Nat.mul_one _) rfl rfl (by omega) rfl ?_
    refine SL_yes rfl ?_
    refine ldA (v := .int .u32 _) rfl hatx rfl rfl ?_
    refine SL_yes rfl ?_
    refine pc rfl rfl (fun c14 => ?_) (fun c14 => ?_)
    · skip
      refine pB rfl rfl ?_
      refine SL_nil (nx (SWP_ct rfl (SWP_skip (nx (SWP_block (SWP_region ?_))))))
      first | refine pI rfl rfl ?_ | refine pu rfl rfl ?_
      refine pw rfl rfl (w64 (by omega) (by omega)) ?_
      rw [show (k : Int) - 1 = ((k - 1 : Nat) : Int) by omega]
      first | refine pI rfl rfl ?_ | refine pu rfl rfl ?_
      refine SL_nil (nb (nx ?_))
      refine ⟨by repeat (first | exact Under.upds rfl (Under.hav _ _ _) | exact Under.hav _ _ _ | refine Under.upd rfl ?_), ?_, ?_⟩
      · exact ⟨k - 1, rfl, by omega, hT.trans (trimN_pred h0k (gx.trans (by omega))), rfl, rfl⟩
      · simp only [L_vals, List.map, List.getD]; show k - 1 < k; omega
    refine pB rfl rfl ?_
    refine SL_nil (nx (SWP_cf rfl (SWP_exit (ne (ne (be rfl (nx (SWP_seq (SWP_seq (SWP_region ?_))))))))))
    first | refine pI rfl rfl ?_ | refine pu rfl rfl ?_
    refine pc rfl rfl (fun c19 => ?_) (fun c19 => ?_)
    · skip
      refine SL_nil (nx (SWP_ct rfl (SWP_seq (SWP_region ?_))))
      refine pA rfl rfl ?_
      refine sw (v := .agg _) B2 0 rfl rfl rfl rfl rfl rfl rfl ?_
      refine SL_nil (nx (SWP_ret (nr ?_)))
      refine fin [_] ⟨⟨_, _, rfl, Rd.of_cells (MemO.mem (B := B2)), rfl⟩, trivial⟩ ?_
      omega
    refine SL_nil (nx (SWP_cf rfl (SWP_skip (nx (SWP_seq (SWP_region ?_))))))
    first | refine pL rfl rfl ?_ | refine pu rfl rfl ?_
    first | refine pI rfl rfl ?_ | refine pu rfl rfl ?_
    first | refine pI rfl rfl ?_ | refine pu rfl rfl ?_
    refine shm (size := 1) rfl rfl rfl rfl rfl rfl (by omega) (by omega) (by omega) rfl ?_
    rw [Int.toNat_natCast]
    refine pu (v := .agg #[sliced _ 0 k k 1]) rfl rfl ?_
    refine sw (v := .agg _) B2 0 rfl rfl rfl rfl rfl rfl rfl ?_
    refine SL_nil (nx (SWP_ret ?_))
    refine fin [_] ⟨⟨_, _, rfl, Rd.of_cells (MemO.mem (B := B2)), rfl⟩, trivial⟩ ?_
    have hT2 : trimN l l.length = k := hT.trans (trimN_stop h0k (by rw [gx]; assumption))
    unfold trimV
    rw [hT2, if_neg (by omega)]
    rfl
  refine pB rfl rfl ?_
  refine SL_no rfl rfl ?_
  refine SL_no rfl rfl ?_
  refine SL_no rfl rfl ?_
  refine SL_no rfl rfl ?_
  refine SL_no rfl rfl ?_
  refine SL_no rfl rfl ?_
  refine pB rfl rfl ?_
  refine SL_nil (nx (SWP_cf rfl (SWP_exit (ne (ne (be rfl (nx (SWP_seq (SWP_seq (SWP_region ?_))))))))))
  first | refine pI rfl rfl ?_ | refine pu rfl rfl ?_
  refine pc rfl rfl (fun c19 => ?_) (fun c19 => ?_)
  · skip
    refine SL_nil (nx (SWP_ct rfl (SWP_seq (SWP_region ?_))))
    refine pA rfl rfl ?_
    refine sw (v := .agg _) B2 0 rfl rfl rfl rfl rfl rfl rfl ?_
    refine SL_nil (nx (SWP_ret (nr ?_)))
    refine fin [_] ⟨⟨_, _, rfl, Rd.of_cells (MemO.mem (B := B2)), rfl⟩, trivial⟩ ?_
    have hk0 : k = 0 := by omega
    have e : trimN l l.length = 0 := by rw [hT, hk0]; rfl
    unfold trimV
    rw [if_pos e]
    rfl
  refine SL_nil (nx (SWP_cf rfl (SWP_skip (nx (SWP_seq (SWP_region ?_))))))
  first | refine pL rfl rfl ?_ | refine pu rfl rfl ?_
  first | refine pI rfl rfl ?_ | refine pu rfl rfl ?_
  first | refine pI rfl rfl ?_ | refine pu rfl rfl ?_
  refine shm (size := 1) rfl rfl rfl rfl rfl rfl (by omega) (by omega) (by omega) rfl ?_
  rw [Int.toNat_natCast]
  refine pu (v := .agg #[sliced _ 0 k k 1]) rfl rfl ?_
  refine sw (v := .agg _) B2 0 rfl rfl rfl rfl rfl rfl rfl ?_
  refine SL_nil (nx (SWP_ret ?_))
  refine fin [_] ⟨⟨_, _, rfl, Rd.of_cells (MemO.mem (B := B2)), rfl⟩, trivial⟩ ?_
  omega
end Go.Proofs.YtifjhpaoejageaaGreatDoor
namespace Go.Proofs.YtifjhpaoejageaaGreatDoor
open Eng
theorem or_lo {y x : Int} (hy₀ : 0 ≤ y) (hy : y < 4294967296) (hx₀ : 0 ≤ x) (hx : x % 4294967296 = 0) (hx₁ : x < 18446744073709551616) : bits .or .u64 y x = y + x := u64_or32 y x hy₀ hy hx₀ hx hx₁
theorem or_hi {y x : Int} (hy₀ : 0 ≤ y) (hy : y < 4294967296) (hx₀ : 0 ≤ x) (hx : x % 4294967296 = 0) (hx₁ : x < 18446744073709551616) : bits .or .u64 x y = x + y :=
  bits_join .u64 64 (by decide) wraps_u64 32 x y hx₀ hx hx₁ hy₀ hy (by omega)
theorem fdiv32 {N : Int} (h : 0 ≤ N) : N.fdiv (2 ^ (min (32 : Int).toNat IntKind.u64.bits)) = N / 4294967296 := by
  show N.fdiv 4294967296 = _
  exact Int.fdiv_eq_ediv_of_nonneg _ (by decide)
def divS (D : Int) : List Int → List Int × Int
  | [] => ([], 0)
  | a :: l => (((divS D l).2 * 4294967296 + a) / D :: (divS D l).1, ((divS D l).2 * 4294967296 + a) % D)
theorem divS_ok {D : Int} (hD : 1 ≤ D) (hD' : D < 4294967296) : ∀ {l : List Int}, okL l → okL (divS D l).1 ∧ (0 ≤ (divS D l).2 ∧ (divS D l).2 < D) ∧ valL (divS D l).1 * D + (divS D l).2 = valL l ∧ (divS D l).1.length = l.length
  | [], _ => ⟨(fun _ h => by cases h), ⟨Int.le_refl _, (by show (0 : Int) < D; omega)⟩, (by show 0 * D + 0 = 0; omega), rfl⟩
  | a :: l, h => by
    obtain ⟨h1, h2, h3, h4⟩ := divS_ok hD hD' (okL_cons.1 h).2
    have ha := (okL_cons.1 h).1
    have h0 : 0 ≤ (divS D l).2 * 4294967296 + a := by omega
    have hlt : (divS D l).2 * 4294967296 + a < 4294967296 * D := by omega
    have hr0 : 0 ≤ ((divS D l).2 * 4294967296 + a) % D := Int.emod_nonneg _ (by omega)
    have hr1 : ((divS D l).2 * 4294967296 + a) % D < D := Int.emod_lt_of_pos _ (by omega)
    have hq0 : 0 ≤ ((divS D l).2 * 4294967296 + a) / D := Int.ediv_nonneg h0 (by omega)
    have hq1 : ((divS D l).2 * 4294967296 + a) / D < 4294967296 := Int.ediv_lt_of_lt_mul (by omega) hlt
    have hqr : D * (((divS D l).2 * 4294967296 + a) / D) + ((divS D l).2 * 4294967296 + a) % D = (divS D l).2 * 4294967296 + a := Int.mul_ediv_add_emod _ _
    refine ⟨okL_cons.2 ⟨⟨hq0, hq1⟩, h1⟩, ⟨hr0, hr1⟩, ?_, by show (divS D l).1.length + 1 = _; rw [h4]; rfl⟩
    show (((divS D l).2 * 4294967296 + a) / D + 4294967296 * valL (divS D l).1) * D + ((divS D l).2 * 4294967296 + a) % D = a + 4294967296 * valL l
    rw [← h3, Int.add_mul, Int.mul_add, Int.mul_comm (((divS D l).2 * 4294967296 + a) / D) D, Int.mul_assoc]
    omega
theorem divS_at {D : Int} {l : List Int} {i : Nat} {x : Int} (h : l[i]? = some x) : divS D (l.drop i) = (((divS D (l.drop (i + 1))).2 * 4294967296 + x) / D :: (divS D (l.drop (i + 1))).1, ((divS D (l.drop (i + 1))).2 * 4294967296 + x) % D) := by
  obtain ⟨h1, h2⟩ := List.getElem?_eq_some_iff.1 h
  rw [List.drop_eq_getElem_cons h1, h2]; rfl
theorem div_set {l q : List Int} {i : Nat} {x y : Int} (h : l[i]? = some x) : (l.take (i + 1) ++ q).set i y = l.take i ++ (y :: q) := by
  have hi := (List.getElem?_eq_some_iff.1 h).1
  rw [take_snocA h, List.append_assoc, List.set_append, if_neg (by rw [List.length_take]; omega), List.length_take, show i - min i l.length = 0 by omega]
  rfl
theorem div_get {l q : List Int} {i : Nat} {x : Int} (h : l[i]? = some x) : (l.take (i + 1) ++ q)[i]? = some x := by
  have hi := (List.getElem?_eq_some_iff.1 h).1
  rw [List.getElem?_append_left (by rw [List.length_take]; omega), List.getElem?_take, if_pos (by omega)]; exact h
theorem okL_at {l : List Int} (h : okL l) {i : Nat} {x : Int} (hx : l[i]? = some x) : 0 ≤ x ∧ x < 4294967296 := h x (List.mem_of_getElem? hx)
theorem okL_drop {l : List Int} (h : okL l) (n : Nat) : okL (l.drop n) := fun x hx => h x (List.mem_of_mem_drop hx)
theorem trimV_form {m : Mem} {a : Option Addr} {c : Nat} {l : List Int} (h : RL m u32E 1 (.slice a l.length c) l) : ∃ a' c', trimV a l = .slice a' (trimL l).length c' := (trim_RL h).len
theorem ofI {m : Mem} {N : Int} (h0 : 0 ≤ N) (h1 : N < 18446744073709551616) : CallsS Tryz.prog 103 [.int .u64 N].toArray [] m fun r σ' m' => σ' = [] ∧ ∃ a c, r = .agg #[.slice a (natL N).length c] ∧ RL m' u32E 1 (.slice a (natL N).length c) (natL N) := by
  refine CallsS.ghost (R' := fun r σ' m' => ∃ a c, r = .agg #[.slice a (natL N).length c] ∧ RL m' u32E 1 (.slice a (natL N).length c) (natL N)) ?_ ?h2
  case h2 =>
    rintro r σ' m' hr g0 W hC
    exact ⟨_, m', hC.sublist (List.nil_sublist _), Le.refl _, rfl, hr⟩
  refine enter Tryz.func103 Tryz.ntmps103 rfl rfl ?_
  refine SWP_seq (SWP_region ?_)
  refine al rfl rfl (fun B2 => ?_)
  refine SL_nil (nx (SWP_seq (SWP_region ?_)))
  first | refine pI rfl rfl ?_ | refine pu rfl rfl ?_
  refine pu (v := .int .u32 (IntKind.u32.wrap N)) rfl rfl ?_
  rw [wrapV]
  first | refine pI rfl rfl ?_ | refine pu rfl rfl ?_
  refine pshr rfl rfl (by decide) (fdiv32 h0) rfl ?_
  refine pu (v := .int .u32 (IntKind.u32.wrap (N / 4294967296))) rfl rfl ?_
  rw [wrapV, show N / 4294967296 % 4294967296 = N / 4294967296 by omega]
  refine bs (cs := ([N % 4294967296, N / 4294967296] : List Int).flatMap u32E) rfl rfl rfl rfl rfl (fun B8 => ?_)
  refine SL_freeze (fun m8 hl8 hat8 => ?_)
  have hR8 := RL.of_at u32E_len [N % 4294967296, N / 4294967296] rfl rfl hat8
  have hT : trimL [N % 4294967296, N / 4294967296] = natL N := trim_nat (okL_cons.2 ⟨by omega, okL_cons.2 ⟨by omega, fun _ h => by cases h⟩⟩) (show N % 4294967296 + 4294967296 * (N / 4294967296 + 4294967296 * 0) = N by omega) h1
  have hw := trim_RL hR8
  obtain ⟨a', c', hwf⟩ := trimV_form hR8
  rw [hT] at hw hwf
  rw [hwf] at hw
  refine SL_pcall rfl rfl cb132 (trimI hR8) rfl ?_
  rw [hwf]
  refine sw (v := .agg _) B2 0 rfl rfl rfl rfl rfl rfl rfl ?_
  refine SL_nil (nx (SWP_ret ?_))
  refine fin [_] ⟨⟨_, _, rfl, Rd.of_cells (MemO.mem (B := B2)), rfl⟩, trivial⟩ ?_
  exact ⟨a', c', rfl, hw⟩
theorem validI {m : Mem} {a : Option Addr} {c : Nat} {l : List Int} (h : RL m u32E 1 (.slice a l.length c) l) (hl : l.length ≤ 64) (ht : tidyL l) : PureCall Tryz.prog 133 [.agg #[.slice a l.length c]] m (.bool true) := by
  refine CallsS.pure ?_
  refine enter Tryz.func133 Tryz.ntmps133 rfl rfl ?_
  refine SWP_seq (SWP_region ?_)
  refine bx (v := .agg _) rfl rfl (fun B1 => ?_)
  refine pB rfl rfl ?_
  refine SL_nil (nx (SWP_seq (SWP_region ?_)))
  refine pu rfl rfl ?_
  refine lw (v := .slice _ _ _) B1 0 rfl rfl rfl rfl ?_
  refine pu rfl rfl ?_
  refine pI rfl rfl ?_
  refine SL_nil (nx (SWP_seq (SWP_region ?_)))
  refine pI rfl rfl ?_
  refine pt rfl rfl (by omega) ?_
  refine pB rfl rfl ?_
  refine SL_yes rfl ?_
  refine pI rfl rfl ?_
  refine SL_yes rfl ?_
  refine pc rfl rfl (fun c11 => ?_) (fun c11 => ?_)
  · skip
    refine SL_yes rfl ?_
    refine pB rfl rfl ?_
    refine SL_no rfl rfl ?_
    refine SL_no rfl rfl ?_
    refine SL_no rfl rfl ?_
    refine SL_no rfl rfl ?_
    refine SL_no rfl rfl ?_
    refine SL_no rfl rfl ?_
    refine SL_no rfl rfl ?_
    refine SL_yes rfl ?_
    refine pB rfl rfl ?_
    refine pB rfl rfl ?_
    refine pB rfl rfl ?_
    refine SL_nil (nx (SWP_ret ?_))
    refine fin [_] ⟨rfl, trivial⟩ ?_
    rfl
  refine SL_yes rfl ?_
  refine pB rfl rfl ?_
  refine SL_yes rfl ?_
  refine pu rfl rfl ?_
  refine SL_yes rfl ?_
  refine lw (v := .slice _ _ _) B1 0 rfl rfl rfl rfl ?_
  refine SL_yes rfl ?_
  refine pI rfl rfl ?_
  refine SL_yes rfl ?_
  refine pw rfl rfl (w64 (by omega) (by omega)) ?_
  rw [show (l.length : Int) - 1 = ((l.length - 1 : Nat) : Int) by omega]
  obtain ⟨x, hx⟩ : ∃ z, l[l.length - 1]? = some z := ⟨_, List.getElem?_eq_getElem (by omega)⟩
  obtain ⟨adx, ex, _, hatx⟩ := h.atV hx
  cases ex
  have gx := getDV hx
  refine SL_yes rfl ?_
  refine ia (es := 1) rfl rfl rfl (Nat.mul_one _) rfl rfl (by omega) rfl ?_
  refine SL_yes rfl ?_
  refine ldA (v := .int .u32 _) rfl hatx rfl rfl ?_
  refine SL_yes rfl ?_
  refine pt rfl rfl (fun hh => (ht.resolve_left (fun e => by rw [e] at hx; cases hx)) (gx.trans hh)) ?_
  refine SL_yes rfl ?_
  refine pB rfl rfl ?_
  refine pB rfl rfl ?_
  refine pB rfl rfl ?_
  refine SL_nil (nx (SWP_ret ?_))
  refine fin [_] ⟨rfl, trivial⟩ ?_
  rfl
theorem boundI {m : Mem} {a : Option Addr} {c : Nat} {l : List Int} (h : RL m u32E 1 (.slice a l.length c) l) (hl : (trimL l).length ≤ 64) : PureCall Tryz.prog 134 [.slice a l.length c] m (.tuple #[.agg #[trimV a l], .int .i64 0]) := by
  refine CallsS.pure ?_
  obtain ⟨a', c', hwf⟩ := trimV_form h
  rw [hwf]
  refine enter Tryz.func134 Tryz.ntmps134 rfl rfl ?_
  refine SWP_seq (SWP_region ?_)
  refine al rfl rfl (fun B2 => ?_)
  refine pI rfl rfl ?_
  refine SL_nil (nx (SWP_seq (SWP_region ?_)))
  first | refine pL rfl rfl ?_ | refine pu rfl rfl ?_
  refine SL_pcall rfl rfl cb132 (trimI h) rfl ?_
  rw [hwf]
  refine al rfl rfl (fun B4 => ?_)
  refine sw (v := .agg _) B4 0 rfl rfl rfl rfl rfl rfl rfl ?_
  refine SL_nil (nx (SWP_seq (SWP_seq (SWP_region ?_))))
  refine pu rfl rfl ?_
  refine lw (v := .slice _ _ _) B4 0 rfl rfl rfl rfl ?_
  refine pu rfl rfl ?_
  refine pn rfl rfl (by omega) ?_
  refine SL_nil (nx (SWP_cf rfl (SWP_skip (nx (SWP_seq (SWP_region ?_))))))
  refine lw (v := .agg _) B4 0 rfl rfl rfl rfl ?_
  refine sw (v := .agg _) B2 0 rfl rfl rfl rfl rfl rfl rfl ?_
  refine pI rfl rfl ?_
  refine SL_nil (nx (SWP_ret ?_))
  refine fin [_, _] ⟨⟨_, _, rfl, Rd.of_cells (MemO.mem (B := B2)), rfl⟩, rfl, trivial⟩ ?_
  rfl
theorem cmpI {m : Mem} {a b : Option Addr} {c d : Nat} {l : List Int} {D : Int} (h : RL m u32E 1 (.slice a l.length c) l) (h' : RL m u32E 1 (.slice b ([D] : List Int).length d) [D]) (hok : okL l) (ht : tidyL l) (hD : 1 ≤ D ∧ D < 4294967296) (hge : D ≤ valL l) : CallsS Tryz.prog 135 [.slice a l.length c, .slice b ([D] : List Int).length d].toArray [] m fun r σ' m' => ∃ z, r = .int .i64 z ∧ ¬ z < 0 := by
  have e1 : ([D] : List Int).length = 1 := rfl
  rw [e1]
  obtain ⟨adD, eD, _, hatD⟩ := h'.atV (show ([D] : List Int)[0]? = some D from rfl)
  cases eD
  refine enter Tryz.func135 Tryz.ntmps135 rfl rfl ?_
  refine SWP_seq (SWP_region ?_)
  refine pI rfl rfl ?_
  refine SL_nil (nx (SWP_seq (SWP_seq (SWP_region ?_))))
  first | refine pL rfl rfl ?_ | refine pu rfl rfl ?_
  refine pu rfl rfl ?_
  first | refine pL rfl rfl ?_ | refine pu rfl rfl ?_
  refine pu rfl rfl ?_
  refine pc rfl rfl (fun c10 => ?_) (fun c10 => ?_)
  · skip
    refine SL_nil (nx (SWP_ct rfl (SWP_seq (SWP_seq (SWP_region ?_)))))
    first | refine pL rfl rfl ?_ | refine pu rfl rfl ?_
    refine pu rfl rfl ?_
    first | refine pL rfl rfl ?_ | refine pu rfl rfl ?_
    refine pu rfl rfl ?_
    refine pc rfl rfl (fun c15 => ?_) (fun c15 => ?_)
    · skip
      refine SL_nil (nx (SWP_ct rfl (SWP_seq (SWP_region ?_))))
      refine pI rfl rfl ?_
      refine SL_nil (nx (SWP_ret (nr (nr ?_))))
      refine fin [_] ⟨rfl, trivial⟩ ?_
      have hl0 : l = [] := List.eq_nil_of_length_eq_zero (by omega)
      rw [hl0] at hge
      have e0 : valL [] = 0 := rfl
      omega
    refine SL_nil (nx (SWP_cf rfl (SWP_skip (nx (SWP_seq (SWP_region ?_))))))
    refine pI rfl rfl ?_
    refine SL_nil (nx (SWP_ret (nr ?_)))
    refine fin [_] ⟨rfl, trivial⟩ ?_
    exact ⟨1, rfl, by omega⟩
  refine SL_nil (nx (SWP_cf rfl (SWP_skip (nx (SWP_seq (SWP_seq ?_))))))
  obtain ⟨x, hx⟩ : ∃ z, l[0]? = some z := ⟨_, List.getElem?_eq_getElem (by omega)⟩
  obtain ⟨adx, ex, _, hatx⟩ := h.atV hx
  cases ex
  have hlx : l = [x] := by
    have hl1 : l.length = 1 := by omega
    match l, hl1, hx with
    | [y], _, hx => simpa using hx
  have hvx : valL l = x := by rw [hlx]; show x + 4294967296 * 0 = x; omega
  have hl1 : l.length = 1 := by omega
  rw [hl1]
  refine SWP_region ?_
  first | refine pL rfl rfl ?_ | refine pu rfl rfl ?_
  refine pu rfl rfl ?_
  refine pw (x := 0) rfl rfl (w64 (by omega) (by omega)) ?_
  first | refine pI rfl rfl ?_ | refine pu rfl rfl ?_
  refine SL_nil (nx (SWP_block ?_))
  refine SWP_loop [4, 5, 19, 20, 21, 22, 23, 24, 25, 26, 27, 28, 29, 30, 31, 32, 33, 34, 35, 36, 37, 38, 39, 40] [5]
      (fun vs σ' m' => ∃ (i : Int), vs = [.int .i64 i] ∧ (i = 0 ∨ i = -1) ∧ σ' = [] ∧ m = m')
      (fun vs => (match vs.getD 0 undef with | .int _ n => (n + 1).toNat | _ => 0)) rfl ?_ ?_
  · exact ⟨0, rfl, .inl rfl, rfl, rfl⟩
  intro u0 vs0 σ0 m0 hJ0 _
  obtain ⟨i, rfl, hi, rfl, rfl⟩ := hJ0
  refine SWP_seq (SWP_seq (SWP_region ?_))
  first | refine pI rfl rfl ?_ | refine pu rfl rfl ?_
  refine pc rfl rfl (fun c20 => ?_) (fun c20 => ?_)
  · skip
    refine SL_nil (nx (SWP_ct rfl (SWP_skip (nx (SWP_seq (SWP_block (SWP_seq (SWP_seq ?_))))))))
    obtain rfl : i = 0 := by omega
    refine SWP_draws (by kernel_rfl) (by kernel_rfl) ?_
    first | refine pL rfl rfl ?_ | refine pu rfl rfl ?_
    first | refine pI rfl rfl ?_ | refine pu rfl rfl ?_
    refine ia (es := 1) (ea := 0) (k := 0) rfl rfl rfl rfl rfl rfl (by omega) rfl ?_
    refine ldA (v := .int .u32 _) rfl hatx rfl rfl ?_
    first | refine pL rfl rfl ?_ | refine pu rfl rfl ?_
    first | refine pI rfl rfl ?_ | refine pu rfl rfl ?_
    refine ia (es := 1) (ea := 0) (k := 0) rfl rfl rfl rfl rfl rfl (by omega) rfl ?_
    refine ldA (v := .int .u32 _) rfl hatD rfl rfl ?_
    refine pc rfl rfl (fun c31 => ?_) (fun c31 => ?_)
    · skip
      refine SL_nil (nx (SWP_ct rfl (SWP_seq (SWP_region ?_))))
      refine pI rfl rfl ?_
      refine SL_nil (nx (SWP_ret (nr (br (nr (nr (br (nr ?_))))))))
      refine fin [_] ⟨rfl, trivial⟩ ?_
      omega
    refine SL_nil (nx (SWP_cf rfl (SWP_skip (nx (SWP_seq ?_)))))
    refine SWP_draws (by kernel_rfl) (by kernel_rfl) ?_
    first | refine pL rfl rfl ?_ | refine pu rfl rfl ?_
    first | refine pI rfl rfl ?_ | refine pu rfl rfl ?_
    refine ia (es := 1) (ea := 0) (k := 0) rfl rfl rfl rfl rfl rfl (by omega) rfl ?_
    refine ldA (v := .int .u32 _) rfl hatx rfl rfl ?_
    first | refine pL rfl rfl ?_ | refine pu rfl rfl ?_
    first | refine pI rfl rfl ?_ | refine pu rfl rfl ?_
    refine ia (es := 1) (ea := 0) (k := 0) rfl rfl rfl rfl rfl rfl (by omega) rfl ?_
    refine ldA (v := .int .u32 _) rfl hatD rfl rfl ?_
    refine pc rfl rfl (fun c40 => ?_) (fun c40 => ?_)
    · skip
      refine SL_nil (nx (SWP_ct rfl (SWP_seq (SWP_region ?_))))
      refine pI rfl rfl ?_
      refine SL_nil (nx (SWP_ret (br (nr (nr (br (nr ?_)))))))
      refine fin [_] ⟨rfl, trivial⟩ ?_
      exact ⟨1, rfl, by omega⟩
    refine SL_nil (nx (SWP_cf rfl (SWP_skip (nb (nx (SWP_region ?_))))))
    first | refine pI rfl rfl ?_ | refine pu rfl rfl ?_
    first | refine pw rfl rfl (w64 (by omega) (by omega)) ?_ | refine pu rfl rfl ?_
    refine pI rfl rfl ?_
    refine SL_nil (nx ?_)
    refine ⟨by repeat (first | exact Under.upds rfl (Under.hav _ _ _) | exact Under.hav _ _ _ | refine Under.upd rfl ?_), ?_, ?_⟩
    · exact ⟨-1, rfl, .inr rfl, rfl, rfl⟩
    · simp only [L_vals, List.map, List.getD]; show ((-1 : Int) + 1).toNat < ((0 : Int) + 1).toNat; decide
  refine SL_nil (nx (SWP_cf rfl (SWP_exit (ne (ne (be rfl (nx (SWP_seq (SWP_region ?_)))))))))
  refine pI rfl rfl ?_
  refine SL_nil (nx (SWP_ret ?_))
  refine fin [_] ⟨rfl, trivial⟩ ?_
  exact ⟨0, rfl, by omega⟩
set_option maxRecDepth 100000 in
theorem divSI {m : Mem} {a : Option Addr} {c : Nat} {l : List Int} {D : Int} {σe : Sig} (hok : okL l) (hD : 1 ≤ D ∧ D < 4294967296) (hl : l.length ≤ 64) (hown : OwnS 156 1 (.slice a l.length c) (l.flatMap u32E) σe) :
    CallsS Tryz.prog 137 [.slice a l.length c, .int .u32 D].toArray σe m fun r σ' m' => r = .int .u32 (divS D l).2 ∧ OwnS 156 1 (.slice a l.length c) ((divS D l).1.flatMap u32E) σ' ∧ m' = m := by
  refine enter Tryz.func137 Tryz.ntmps137 rfl rfl ?_
  refine SWP_seq (SWP_region ?_)
  refine pI rfl rfl ?_
  refine SL_nil (nx (SWP_seq (SWP_region ?_)))
  refine pI rfl rfl ?_
  refine SL_nil (nx (SWP_seq (SWP_seq (SWP_region ?_))))
  first | refine pL rfl rfl ?_ | refine pu rfl rfl ?_
  refine pu rfl rfl ?_
  refine pw rfl rfl (w64 (by omega) (by omega)) ?_
  first | refine pI rfl rfl ?_ | refine pu rfl rfl ?_
  refine SL_nil (nx (SWP_block ?_))
  refine SWP_loop [5, 6, 10, 11, 12, 13, 14, 15, 16, 17, 18, 19, 20, 21, 22, 23, 24, 25, 26, 27, 28, 29, 30, 31, 32, 33] [5, 6]
      (fun vs σ' m' => ∃ (j : Int), vs = [.int .u64 (divS D (l.drop j.toNat)).2, .int .i64 (j - 1)] ∧ 0 ≤ j ∧ j ≤ l.length ∧ OwnS 156 1 (.slice a l.length c) ((l.take j.toNat ++ (divS D (l.drop j.toNat)).1).flatMap u32E) σ' ∧ m = m')
      (fun vs => (match vs.getD 1 undef with | .int _ n => (n + 1).toNat | _ => 0)) rfl ?_ ?_
  · refine ⟨l.length, ?_, by omega, by omega, ?_, rfl⟩
    · rw [Int.toNat_natCast, List.drop_length]; rfl
    · rw [Int.toNat_natCast, List.drop_length, List.take_length]; show OwnS _ _ _ ((l ++ []).flatMap u32E) _; rw [List.append_nil]; exact hown
  intro u0 vs0 σ0 m0 hJ0 _
  clear hown
  obtain ⟨j, rfl, hj0, hjl, hown, rfl⟩ := hJ0
  refine SWP_seq (SWP_seq (SWP_region ?_))
  first | refine pI rfl rfl ?_ | refine pu rfl rfl ?_
  refine pc rfl rfl (fun c11 => ?_) (fun c11 => ?_)
  · skip
    refine SL_nil (nx (SWP_ct rfl (SWP_skip (nx (SWP_seq (SWP_block (SWP_seq ?_)))))))
    obtain ⟨i, rfl⟩ : ∃ i : Nat, j = (i : Int) + 1 := ⟨(j - 1).toNat, by omega⟩
    rw [show (i : Int) + 1 - 1 = (i : Int) by omega]
    obtain ⟨x, hx⟩ : ∃ z, l[i]? = some z := ⟨_, List.getElem?_eq_getElem (by omega)⟩
    have hxr := okL_at hok hx
    rw [show ((i : Int) + 1).toNat = i + 1 by omega] at hown
    rw [show ((i : Int) + 1).toNat = i + 1 by omega]
    obtain ⟨d1, d2, d3, d4⟩ := divS_ok hD.1 hD.2 (okL_drop hok (i + 1))
    obtain ⟨ad0, e0, _, _, hrd⟩ := hown.atN (by omega) u32E_len (div_get (q := (divS D (l.drop (i + 1))).1) hx)
    cases e0
    have hq0 : 0 ≤ ((divS D (l.drop (i + 1))).2 * 4294967296 + x) / D := Int.ediv_nonneg (by omega) (by omega)
    have hq1 : ((divS D (l.drop (i + 1))).2 * 4294967296 + x) / D < 4294967296 := Int.ediv_lt_of_lt_mul (by omega) (by omega)
    have hr0 : 0 ≤ ((divS D (l.drop (i + 1))).2 * 4294967296 + x) % D := Int.emod_nonneg _ (by omega)
    have hr1 : ((divS D (l.drop (i + 1))).2 * 4294967296 + x) % D < D := Int.emod_lt_of_pos _ (by omega)
    refine SWP_region ?_
    first | refine pI rfl rfl ?_ | refine pu rfl rfl ?_
    refine pshl rfl rfl (by decide) (show IntKind.u64.wrap ((divS D (l.drop (i + 1))).2 * 4294967296) = (divS D (l.drop (i + 1))).2 * 4294967296 by rw [wrapU]; omega) rfl ?_
    first | refine pL rfl rfl ?_ | refine pu rfl rfl ?_
    first | refine pI rfl rfl ?_ | refine pu rfl rfl ?_
    refine ia (es := 1) rfl rfl rfl (Nat.mul_one _) rfl rfl (by omega) rfl ?_
    refine ldO (off := 0) (hrd _ _ (fun q hq => by simp [hq])) rfl (q1 _ _) rfl rfl ?_
    refine pw rfl rfl (by rw [wrapU]; omega) ?_
    refine pu (v := .int .u64 (bits .or .u64 ((divS D (l.drop (i + 1))).2 * 4294967296) x)) rfl rfl ?_
    rw [or_hi (by omega) (by omega) (by omega) (by omega) (by omega)]
    first | refine pI rfl rfl ?_ | refine pu rfl rfl ?_
    refine SL_nil (nx (SWP_seq (SWP_region ?_)))
    first | refine pL rfl rfl ?_ | refine pu rfl rfl ?_
    first | refine pI rfl rfl ?_ | refine pu rfl rfl ?_
    first | refine pI rfl rfl ?_ | refine pu rfl rfl ?_
    first | refine pI rfl rfl ?_ | refine pu rfl rfl ?_
    refine pw rfl rfl (by rw [wrapU]; omega) ?_
    refine pqu rfl rfl (by omega) (show IntKind.u64.wrap (((divS D (l.drop (i + 1))).2 * 4294967296 + x).tdiv D) = ((divS D (l.drop (i + 1))).2 * 4294967296 + x) / D by rw [Int.tdiv_eq_ediv_of_nonneg (by omega), wrapU]; omega) rfl ?_
    refine pw rfl rfl (by rw [wrapV]; omega) ?_
    refine ia (es := 1) rfl rfl rfl (Nat.mul_one _) rfl rfl (by omega) rfl ?_
    refine stL (σe := σ0) (τ := []) (k := i) (b := x) (b' := ((divS D (l.drop (i + 1))).2 * 4294967296 + x) / D) (off := 0) u32E_len rfl hown (by simp) (div_get hx) rfl (q1 _ _) rfl rfl (by show 0 + 1 ≤ 1; omega) rfl rfl (fun σ2 hown2 => ?_)
    rw [List.append_nil]
    rw [div_set hx] at hown2
    refine SL_nil (nx (SWP_region ?_))
    first | refine pI rfl rfl ?_ | refine pu rfl rfl ?_
    first | refine pI rfl rfl ?_ | refine pu rfl rfl ?_
    refine pw rfl rfl (by rw [wrapU]; omega) ?_
    refine prm rfl rfl (by omega) (show ((divS D (l.drop (i + 1))).2 * 4294967296 + x).tmod D = ((divS D (l.drop (i + 1))).2 * 4294967296 + x) % D from Int.tmod_eq_emod_of_nonneg (by omega)) rfl ?_
    first | refine pI rfl rfl ?_ | refine pu rfl rfl ?_
    refine SL_nil (nb (nx (SWP_region ?_)))
    first | refine pI rfl rfl ?_ | refine pu rfl rfl ?_
    refine pw rfl rfl (w64 (by omega) (by omega)) ?_
    first | refine pI rfl rfl ?_ | refine pu rfl rfl ?_
    refine SL_nil (nx ?_)
    refine ⟨by repeat (first | exact Under.upds rfl (Under.hav _ _ _) | exact Under.hav _ _ _ | refine Under.upd rfl ?_), ?_, ?_⟩
    · refine ⟨i, ?_, by omega, by omega, ?_, rfl⟩
      · rw [Int.toNat_natCast, divS_at hx]; rfl
      · rw [Int.toNat_natCast, divS_at hx]; exact hown2
    · simp only [L_vals, List.map, List.getD]; show ((i : Int) - 1 + 1).toNat < ((i : Int) + 1).toNat; omega
  refine SL_nil (nx (SWP_cf rfl (SWP_exit (ne (ne (be rfl (nx (SWP_seq ?_))))))))
  obtain rfl : j = 0 := by omega
  rw [show ((0 : Int)).toNat = 0 from rfl] at hown
  rw [show ((0 : Int)).toNat = 0 from rfl]
  rw [List.drop_zero]
  rw [List.drop_zero, List.take_zero, List.nil_append] at hown
  obtain ⟨d1, d2, d3, d4⟩ := divS_ok hD.1 hD.2 hok
  refine SWP_region ?_
  first | refine pI rfl rfl ?_ | refine pu rfl rfl ?_
  refine pw rfl rfl (by rw [wrapV]; omega) ?_
  first | refine pI rfl rfl ?_ | refine pu rfl rfl ?_
  refine SL_nil (nx (SWP_ret ?_))
  refine fin [_] ⟨rfl, trivial⟩ ?_
  exact ⟨rfl, hown, rfl⟩
end Go.Proofs.YtifjhpaoejageaaGreatDoor
namespace Go.Proofs.YtifjhpaoejageaaGreatDoor
open Eng
theorem natL_at0 {N x : Int} (h0 : 0 ≤ N) (h : (natL N)[0]? = some x) : valL ((natL N).take 1) = x ∧ 0 ≤ x ∧ x < 4294967296 := by
  unfold natL at h ⊢
  split at h
  · simp at h
  · rename_i h1
    rw [if_neg h1]
    split at h
    · rename_i h2
      rw [if_pos h2]
      simp only [List.getElem?_cons_zero, Option.some.injEq] at h
      subst h
      exact ⟨by show N + 4294967296 * 0 = N; omega, by omega, by omega⟩
    · rename_i h2
      rw [if_neg h2]
      simp only [List.getElem?_cons_zero, Option.some.injEq] at h
      subst h
      exact ⟨by show N % 4294967296 + 4294967296 * 0 = _; omega, by omega, by omega⟩
theorem natL_at1 {N x : Int} (h0 : 0 ≤ N) (hN : N < 18446744073709551616) (h : (natL N)[1]? = some x) : valL ((natL N).take 1) = N % 4294967296 ∧ valL ((natL N).take 2) = N % 4294967296 + 4294967296 * x ∧ 0 ≤ x ∧ x < 4294967296 := by
  unfold natL at h ⊢
  split at h
  · simp at h
  · rename_i h1
    rw [if_neg h1]
    split at h
    · simp at h
    · rename_i h2
      rw [if_neg h2]
      simp only [List.getElem?_cons_succ, List.getElem?_cons_zero, Option.some.injEq] at h
      subst h
      exact ⟨by show N % 4294967296 + 4294967296 * 0 = _; omega, by show N % 4294967296 + 4294967296 * (N / 4294967296 + 4294967296 * 0) = _; omega, by omega, by omega⟩
def mulS (B : Int) : List Int → Int → List Int
  | [], c => [c]
  | a :: l, c => (a * B + c) % 4294967296 :: mulS B l ((a * B + c) / 4294967296)
theorem mul_rng {a B : Int} (h1 : 0 ≤ a ∧ a < 4294967296) (h2 : 0 ≤ B ∧ B < 4294967296) : 0 ≤ a * B ∧ a * B ≤ 18446744065119617025 := by
  refine ⟨Int.mul_nonneg h1.1 h2.1, ?_⟩
  calc a * B ≤ 4294967295 * B := Int.mul_le_mul_of_nonneg_right (by omega) h2.1
    _ ≤ 4294967295 * 4294967295 := Int.mul_le_mul_of_nonneg_left (by omega) (by decide)
    _ = 18446744065119617025 := by decide
theorem mulS_ok {B : Int} (hB : 0 ≤ B ∧ B < 4294967296) : ∀ {l : List Int} {c : Int}, okL l → 0 ≤ c ∧ c < 4294967296 → okL (mulS B l c) ∧ valL (mulS B l c) = valL l * B + c ∧ (mulS B l c).length = l.length + 1
  | [], c, _, hc => ⟨okL_cons.2 ⟨hc, (fun _ h => by cases h)⟩, (by show c + 4294967296 * 0 = 0 * B + c; omega), rfl⟩
  | a :: l, c, h, hc => by
    have ha := (okL_cons.1 h).1
    obtain ⟨p0, p1⟩ := mul_rng ha hB
    obtain ⟨h1, h2, h3⟩ := mulS_ok hB (okL_cons.1 h).2 (c := (a * B + c) / 4294967296) (by omega)
    refine ⟨okL_cons.2 ⟨by omega, h1⟩, ?_, by show (mulS B l _).length + 1 = _; rw [h3]; rfl⟩
    show (a * B + c) % 4294967296 + 4294967296 * valL (mulS B l ((a * B + c) / 4294967296)) = (a + 4294967296 * valL l) * B + c
    rw [h2, Int.add_mul, Int.mul_assoc]
    omega
theorem mulS_at {B c : Int} {l : List Int} {i : Nat} {x : Int} (h : l[i]? = some x) : mulS B (l.drop i) c = (x * B + c) % 4294967296 :: mulS B (l.drop (i + 1)) ((x * B + c) / 4294967296) := by
  obtain ⟨h1, h2⟩ := List.getElem?_eq_some_iff.1 h
  rw [List.drop_eq_getElem_cons h1, h2]; rfl
theorem set_at {D Z : List Int} {c v : Int} {i : Nat} (h : D.length = i) : (D ++ c :: Z).set i v = D ++ v :: Z := by
  rw [List.set_append, if_neg (by omega), show i - D.length = 0 by omega]; rfl
theorem set_at1 {D Z : List Int} {c d v : Int} {i : Nat} (h : D.length = i) : (D ++ c :: d :: Z).set (i + 1) v = D ++ c :: v :: Z := by
  rw [List.set_append, if_neg (by omega), show i + 1 - D.length = 1 by omega]; rfl
theorem get_at {D Z : List Int} {c : Int} {i : Nat} (h : D.length = i) : (D ++ c :: Z)[i]? = some c := by
  rw [List.getElem?_append_right (by omega), show i - D.length = 0 by omega]; rfl
theorem get_at1 {D Z : List Int} {c d : Int} {i : Nat} (h : D.length = i) : (D ++ c :: d :: Z)[i + 1]? = some d := by
  rw [List.getElem?_append_right (by omega), show i + 1 - D.length = 1 by omega]; rfl
theorem repV_flat (n : Nat) : (List.replicate n (0 : Int)).flatMap u32E = List.replicate n (.int .u32 0) := by
  induction n with
  | zero => rfl
  | succ n ih => rw [List.replicate_succ, List.flatMap_cons, ih]; rfl
theorem natL_one {D : Int} (h : 1 ≤ D) (h' : D < 4294967296) : natL D = [D] := by
  unfold natL; rw [if_neg (by omega), if_pos h']
set_option maxRecDepth 100000 in
theorem uintI {m : Mem} {a : Option Addr} {c : Nat} {N : Int} (h0 : 0 ≤ N) (h1 : N < 18446744073709551616) (h : RL m u32E 1 (.slice a (natL N).length c) (natL N)) : PureCall Tryz.prog 106 [.agg #[.slice a (natL N).length c]] m (.tuple #[.int .u64 N, .bool true]) := by
  refine CallsS.pure ?_
  have hln := natL_len N
  refine enter Tryz.func106 Tryz.ntmps106 rfl rfl ?_
  refine SWP_seq (SWP_region ?_)
  refine bx (v := .agg _) rfl rfl (fun B1 => ?_)
  refine pI rfl rfl ?_
  refine pB rfl rfl ?_
  refine SL_nil (nx (SWP_seq (SWP_seq (SWP_region ?_))))
  refine lw (v := .agg _) B1 0 rfl rfl rfl rfl ?_
  refine SL_pcall rfl rfl cb133 (validI h (by omega) (tidy_natL h0)) rfl ?_
  refine pB rfl rfl ?_
  refine pB rfl rfl ?_
  refine SL_yes rfl ?_
  refine pu rfl rfl ?_
  refine SL_yes rfl ?_
  refine lw (v := .slice _ _ _) B1 0 rfl rfl rfl rfl ?_
  refine SL_yes rfl ?_
  refine pu rfl rfl ?_
  refine SL_yes rfl ?_
  refine pn rfl rfl (by omega) ?_
  refine pB rfl rfl ?_
  refine SL_nil (nx (SWP_cf rfl (SWP_skip (nx (SWP_seq (SWP_region ?_))))))
  refine pI rfl rfl ?_
  refine SL_nil (nx (SWP_seq (SWP_seq (SWP_region ?_))))
  refine pu rfl rfl ?_
  refine lw (v := .slice _ _ _) B1 0 rfl rfl rfl rfl ?_
  refine pu rfl rfl ?_
  refine pI rfl rfl ?_
  refine SL_nil (nx (SWP_block ?_))
  refine SWP_loop [4, 5, 6, 19, 20, 21, 22, 23, 24, 25, 26, 27, 28, 29, 30, 31] [4, 19]
      (fun vs σ' m' => ∃ (i : Nat), vs = [.int .u64 (valL ((natL N).take i)), .int .i64 (i : Nat)] ∧ i ≤ (natL N).length ∧ σ' = [(B1, Cells 112 [.slice a (natL N).length c])] ∧ m = m')
      (fun vs => (natL N).length - nOf (vs.getD 1 undef)) rfl ?_ ?_
  · exact ⟨0, rfl, by omega, rfl, rfl⟩
  intro u0 vs0 σ0 m0 hJ0 _
  obtain ⟨i, rfl, hi, rfl, rfl⟩ := hJ0
  refine SWP_seq (SWP_region ?_)
  refine pc rfl rfl (fun c20 => ?_) (fun c20 => ?_)
  · skip
    refine SL_nil (nx (SWP_seq (SWP_ct rfl (SWP_skip (nx (SWP_seq (SWP_block (SWP_seq (SWP_region ?_)))))))))
    first | refine pI rfl rfl ?_ | refine pu rfl rfl ?_
    obtain ⟨x, hx⟩ : ∃ z, (natL N)[i]? = some z := ⟨_, List.getElem?_eq_getElem (by omega)⟩
    obtain ⟨adx, ex, _, hatx⟩ := h.atV hx
    cases ex
    refine ia (es := 1) rfl rfl rfl (Nat.mul_one _) rfl rfl (by omega) rfl ?_
    refine ldA (v := .int .u32 _) rfl hatx rfl rfl ?_
    have hxr := okL_at (okL_natL h0 h1) hx
    first | refine pI rfl rfl ?_ | refine pu rfl rfl ?_
    first | refine pI rfl rfl ?_ | refine pu rfl rfl ?_
    refine SL_nil (nx (SWP_region ?_))
    first | refine pI rfl rfl ?_ | refine pu rfl rfl ?_
    first | refine pI rfl rfl ?_ | refine pu rfl rfl ?_
    refine pw rfl rfl (by rw [wrapU]; omega) ?_
    first | refine pI rfl rfl ?_ | refine pu rfl rfl ?_
    refine pw rfl rfl (w64 (by omega) (by omega)) ?_
    have hi2 : i = 0 ∨ i = 1 := by omega
    have hstep : ∃ y : Int, IntKind.u64.wrap (x * 2 ^ (min (32 * (i : Int)).toNat IntKind.u64.bits)) = y ∧ bits .or .u64 (valL ((natL N).take i)) y = valL ((natL N).take (i + 1)) := by
      rcases hi2 with rfl | rfl
      · obtain ⟨q1, q2, q3⟩ := natL_at0 h0 hx
        refine ⟨x, by show IntKind.u64.wrap (x * 1) = x; rw [wrapU]; omega, ?_⟩
        rw [q1]
        show bits .or .u64 0 x = x
        have := or_hi (y := x) (x := 0) (by omega) (by omega) (by omega) (by decide) (by decide)
        rw [this]; omega
      · obtain ⟨q0, q1, q2, q3⟩ := natL_at1 h0 h1 hx
        refine ⟨x * 4294967296, by show IntKind.u64.wrap (x * 4294967296) = _; rw [wrapU]; omega, ?_⟩
        rw [q0, q1, or_lo (by omega) (by omega) (by omega) (by omega) (by omega)]; omega
    obtain ⟨y, hy1, hy2⟩ := hstep
    refine pshl rfl rfl (by omega) hy1 rfl ?_
    refine pu (v := .int .u64 (bits .or .u64 (valL ((natL N).take i)) y)) rfl rfl ?_
    rw [hy2]
    first | refine pI rfl rfl ?_ | refine pu rfl rfl ?_
    refine SL_nil (nb (nx (SWP_region ?_)))
    first | refine pw rfl rfl (w64 (by omega) (by omega)) ?_ | refine pu rfl rfl ?_
    refine pI rfl rfl ?_
    refine SL_nil (nx ?_)
    refine ⟨by repeat (first | exact Under.upds rfl (Under.hav _ _ _) | exact Under.hav _ _ _ | refine Under.upd rfl ?_), ?_, ?_⟩
    · exact ⟨i + 1, rfl, by omega, rfl, rfl⟩
    · simp only [L_vals, List.map, List.getD]; show (natL N).length - (i + 1) < (natL N).length - i; omega
  refine SL_nil (nx (SWP_seq (SWP_cf rfl (SWP_exit (ne (ne (be rfl (nx (SWP_seq (SWP_region ?_))))))))))
  first | refine pI rfl rfl ?_ | refine pu rfl rfl ?_
  first | refine pI rfl rfl ?_ | refine pu rfl rfl ?_
  refine pB rfl rfl ?_
  refine SL_nil (nx (SWP_ret ?_))
  refine fin [_, _] ⟨rfl, rfl, trivial⟩ ?_
  have e : valL ((natL N).take i) = N := by rw [List.take_of_length_le (by omega), valL_natL]
  rw [e]
  rfl
set_option maxRecDepth 100000 in
theorem mulI {m : Mem} {a b : Option Addr} {c d : Nat} {l : List Int} {B N : Int} (h : RL m u32E 1 (.slice a l.length c) l) (h' : RL m u32E 1 (.slice b ([B] : List Int).length d) [B]) (hok : okL l) (hll : l.length ≤ 2) (ht : tidyL l) (hB : 1 ≤ B ∧ B < 4294967296) (hN : valL l * B = N) (hN2 : N < 18446744073709551616) :
    CallsS Tryz.prog 104 [.agg #[.slice a l.length c], .agg #[.slice b ([B] : List Int).length d]].toArray [] m fun r σ' m' => σ' = [] ∧ ∃ a' c', r = .tuple #[.agg #[.slice a' (natL N).length c'], .int .i64 0] ∧ RL m' u32E 1 (.slice a' (natL N).length c') (natL N) := by
  refine CallsS.ghost (R' := fun r σ' m' => ∃ a' c', r = .tuple #[.agg #[.slice a' (natL N).length c'], .int .i64 0] ∧ RL m' u32E 1 (.slice a' (natL N).length c') (natL N)) ?_ ?h2
  case h2 =>
    rintro r σ' m' hr g0 W hC
    exact ⟨_, m', hC.sublist (List.nil_sublist _), Le.refl _, rfl, hr⟩
  have hokB : okL [B] := okL_cons.2 ⟨by omega, fun _ h => by cases h⟩
  have e1 : ([B] : List Int).length = 1 := rfl
  obtain ⟨adB, eB, _, hatB⟩ := h'.atV (show ([B] : List Int)[0]? = some B from rfl)
  cases eB
  refine enter Tryz.func104 Tryz.ntmps104 rfl rfl ?_
  refine SWP_seq (SWP_region ?_)
  refine bx (v := .agg _) rfl rfl (fun B2 => ?_)
  refine bx (v := .agg _) rfl rfl (fun B3 => ?_)
  refine al rfl rfl (fun B4 => ?_)
  refine pI rfl rfl ?_
  refine SL_nil (nx (SWP_seq (SWP_seq (SWP_region ?_))))
  refine lw (v := .agg _) B2 0 rfl rfl rfl rfl ?_
  refine SL_pcall rfl rfl cb133 (validI h (by omega) ht) rfl ?_
  refine pB rfl rfl ?_
  refine pB rfl rfl ?_
  refine SL_yes rfl ?_
  refine lw (v := .agg _) B3 0 rfl rfl rfl rfl ?_
  refine SL_yes rfl ?_
  refine SL_pcall rfl rfl cb133 (validI h' (show 1 ≤ 64 by decide) (.inr (show B ≠ 0 by omega))) rfl ?_
  refine SL_yes rfl ?_
  refine pB rfl rfl ?_
  refine pB rfl rfl ?_
  refine SL_nil (nx (SWP_cf rfl (SWP_skip (nx (SWP_seq (SWP_region ?_))))))
  refine pu rfl rfl ?_
  refine lw (v := .slice _ _ _) B2 0 rfl rfl rfl rfl ?_
  refine pu rfl rfl ?_
  refine pu rfl rfl ?_
  refine lw (v := .slice _ _ _) B3 0 rfl rfl rfl rfl ?_
  refine pu rfl rfl ?_
  refine pw rfl rfl (w64 (by rw [e1]; omega) (by rw [e1]; omega)) ?_
  refine mkn (c := l.length + 1) (z := .int .u32 0) rfl rfl rfl rfl (by show Value.int .i64 ((l.length : Int) + ((([B] : List Int).length : Nat) : Int)) = _; rw [e1]; rfl) (by show Value.int .i64 ((l.length : Int) + ((([B] : List Int).length : Nat) : Int)) = _; rw [e1]; rfl) (by show 4 * (l.length + 1) ≤ 281474976710656; omega) (by unfold maxLen; omega) rfl (fun B29 σ29 hown29 => ?_)
  rw [← repV_flat] at hown29
  first | refine pL rfl rfl ?_ | refine pu rfl rfl ?_
  refine SL_nil (nx (SWP_seq (SWP_seq (SWP_region ?_))))
  refine pu rfl rfl ?_
  refine lw (v := .slice _ _ _) B2 0 rfl rfl rfl rfl ?_
  refine pu rfl rfl ?_
  refine pI rfl rfl ?_
  refine SL_nil (nx (SWP_block ?_))
  refine SWP_loop [7, 8, 9, 10, 11, 12, 33, 34, 35, 36, 37, 38, 39, 40, 41, 42, 43, 44, 45, 46, 47, 48, 49, 50, 51, 52, 53, 54, 55, 56, 57, 58, 59, 60, 61, 62, 63, 64, 65, 66, 67, 68, 69, 70, 71, 72, 73, 74, 75, 76, 77, 78, 79, 80, 81, 82, 83, 84, 85, 86, 87, 88, 89] [33]
      (fun vs σ' m' => ∃ (i : Nat) (D0 : List Int) (cc : Int) (σp : Sig), vs = [.int .i64 (i : Nat)] ∧ i ≤ l.length ∧ D0.length = i ∧ D0 ++ mulS B (l.drop i) cc = mulS B l 0 ∧ (0 ≤ cc ∧ cc < 4294967296) ∧ OwnS 156 1 (.slice (some ⟨B29, 0, none⟩) (l.length + 1) (l.length + 1)) ((D0 ++ cc :: List.replicate (l.length - i) 0).flatMap u32E) σp ∧ σ' = σp ++ [(B4, Cells 112 [.slice none 0 0]), (B3, Cells 112 [.slice (some adB) ([B] : List Int).length d]), (B2, Cells 112 [.slice a l.length c])] ∧ m = m')
      (fun vs => l.length - nOf (vs.getD 0 undef)) rfl ?_ ?_
  · exact ⟨0, [], 0, σ29, rfl, by omega, rfl, rfl, by decide, hown29, rfl, rfl⟩
  intro u0 vs0 σ0 m0 hJ0 _
  obtain ⟨i, D0, cc, σp, rfl, hi, hD0, hD, hcc, hown, rfl, rfl⟩ := hJ0
  refine SWP_seq (SWP_region ?_)
  refine pc rfl rfl (fun c34 => ?_) (fun c34 => ?_)
  · skip
    refine SL_nil (nx (SWP_seq (SWP_ct rfl (SWP_skip (nx (SWP_seq (SWP_block (SWP_seq ?_))))))))
    rw [show l.length - i = (l.length - (i + 1)) + 1 by omega, List.replicate_succ] at hown
    refine SWP_region ?_
    first | refine pI rfl rfl ?_ | refine pu rfl rfl ?_
    obtain ⟨x, hx⟩ : ∃ z, l[i]? = some z := ⟨_, List.getElem?_eq_getElem (by omega)⟩
    obtain ⟨adx, ex, _, hatx⟩ := h.atV hx
    have hxr := okL_at hok hx
    refine ia (es := 1) (ad := adx) rfl rfl rfl (Nat.mul_one _) (by show Value.slice a _ _ = _; rw [ex]) rfl (by omega) rfl ?_
    refine ldA (v := .int .u32 _) rfl hatx rfl rfl ?_
    first | refine pI rfl rfl ?_ | refine pu rfl rfl ?_
    first | refine pI rfl rfl ?_ | refine pu rfl rfl ?_
    refine SL_nil (nx (SWP_seq (SWP_region ?_)))
    first | refine pL rfl rfl ?_ | refine pu rfl rfl ?_
    first | refine pI rfl rfl ?_ | refine pu rfl rfl ?_
    first | refine pI rfl rfl ?_ | refine pu rfl rfl ?_
    refine pu rfl rfl ?_
    refine lw (v := .slice _ _ _) B3 0 rfl rfl rfl rfl ?_
    refine pu rfl rfl ?_
    refine pw rfl rfl (w64 (by rw [e1]; omega) (by rw [e1]; omega)) ?_
    refine pw rfl rfl (w64 (by rw [e1]; omega) (by rw [e1]; omega)) ?_
    first | refine pI rfl rfl ?_ | refine pu rfl rfl ?_
    refine pu rfl rfl ?_
    refine lw (v := .slice _ _ _) B3 0 rfl rfl rfl rfl ?_
    refine pu rfl rfl ?_
    refine pw rfl rfl (w64 (by rw [e1]; omega) (by rw [e1]; omega)) ?_
    refine pw rfl rfl (w64 (by rw [e1]; omega) (by rw [e1]; omega)) ?_
    refine slhm (size := 1) (a := some ⟨B29, 0, none⟩) rfl rfl rfl rfl rfl rfl rfl (by omega) (by rw [e1]; omega) (by rw [e1]; omega) (by rw [e1]; omega) rfl ?_
    rw [show sliced (some ⟨B29, 0, none⟩) ((i : Nat) : Int).toNat ((i : Int) + ((([B] : List Int).length : Nat) : Int) + 1).toNat ((i : Int) + ((([B] : List Int).length : Nat) : Int) + 1).toNat 1 = .slice (some ((⟨B29, 0, none⟩ : Addr).add i)) 2 2 by rw [e1, Int.toNat_natCast, show ((i : Int) + ((1 : Nat) : Int) + 1).toNat = i + 2 by omega]; unfold sliced; rw [if_neg (by omega), Nat.mul_one, show i + 2 - i = 2 by omega]; rfl]
    first | refine pL rfl rfl ?_ | refine pu rfl rfl ?_
    refine SL_nil (nx (SWP_seq ?_))
    obtain ⟨p0, p1⟩ := mul_rng hxr (show 0 ≤ B ∧ B < 4294967296 by omega)
    refine SWP_region ?_
    refine pI rfl rfl ?_
    refine SL_nil (nx (SWP_seq (SWP_seq (SWP_region ?_))))
    refine pu rfl rfl ?_
    refine lw (v := .slice _ _ _) B3 0 rfl rfl rfl rfl ?_
    refine pu rfl rfl ?_
    refine pI rfl rfl ?_
    refine SL_nil (nx (SWP_block ?_))
    refine SWP_loop [10, 11, 12, 56, 57, 58, 59, 60, 61, 62, 63, 64, 65, 66, 67, 68, 69, 70, 71, 72, 73, 74, 75, 76, 77, 78, 79, 80, 81] [10, 56]
        (fun vs σ' m' => ∃ (j : Nat) (w : Int) (σq : Sig), vs = [.int .u64 w, .int .i64 (j : Nat)] ∧ j ≤ 1 ∧ ((j = 0 ∧ w = 0 ∧ OwnS 156 1 (.slice (some ⟨B29, 0, none⟩) (l.length + 1) (l.length + 1)) ((D0 ++ cc :: 0 :: List.replicate (l.length - (i + 1)) 0).flatMap u32E) σq) ∨ (j = 1 ∧ w = (x * B + cc) / 4294967296 ∧ OwnS 156 1 (.slice (some ⟨B29, 0, none⟩) (l.length + 1) (l.length + 1)) ((D0 ++ (x * B + cc) % 4294967296 :: 0 :: List.replicate (l.length - (i + 1)) 0).flatMap u32E) σq)) ∧ σ' = σq ++ [(B4, Cells 112 [.slice none 0 0]), (B3, Cells 112 [.slice (some adB) ([B] : List Int).length d]), (B2, Cells 112 [.slice a l.length c])] ∧ m = m')
        (fun vs => 1 - nOf (vs.getD 1 undef)) rfl ?_ ?_
    · exact ⟨0, 0, σp, rfl, by omega, .inl ⟨rfl, rfl, hown⟩, rfl, rfl⟩
    intro u1 vs1 σ1 m1 hJ1 _
    clear hown σp
    obtain ⟨j, w, σq, rfl, hj, hdj, rfl, rfl⟩ := hJ1
    refine SWP_seq (SWP_region ?_)
    refine pc rfl rfl (fun c57 => ?_) (fun c57 => ?_)
    · skip
      refine SL_nil (nx (SWP_seq (SWP_ct rfl (SWP_skip (nx (SWP_seq (SWP_block (SWP_seq ?_))))))))
      have hj0 : j = 0 := by rw [e1] at c57; omega
      subst hj0
      obtain ⟨rfl, hown⟩ : w = 0 ∧ OwnS 156 1 (.slice (some ⟨B29, 0, none⟩) (l.length + 1) (l.length + 1)) ((D0 ++ cc :: 0 :: List.replicate (l.length - (i + 1)) 0).flatMap u32E) σq := by
        rcases hdj with ⟨_, hw, ho⟩ | ⟨hj, _, _⟩
        · exact ⟨hw, ho⟩
        · omega
      obtain ⟨ad0, e0, _, _, hrd⟩ := hown.atN (by omega) u32E_len (get_at hD0)
      cases e0
      refine SWP_region ?_
      first | refine pI rfl rfl ?_ | refine pu rfl rfl ?_
      refine ia (es := 1) (ad := adB) (len := ([B] : List Int).length) rfl rfl rfl (Nat.mul_one _) rfl rfl (show 0 < 1 by decide) rfl ?_
      refine ldA (v := .int .u32 B) rfl hatB rfl rfl ?_
      first | refine pI rfl rfl ?_ | refine pu rfl rfl ?_
      first | refine pI rfl rfl ?_ | refine pu rfl rfl ?_
      refine SL_nil (nx (SWP_seq (SWP_region ?_)))
      first | refine pI rfl rfl ?_ | refine pu rfl rfl ?_
      first | refine pI rfl rfl ?_ | refine pu rfl rfl ?_
      refine pw rfl rfl (by rw [wrapU]; omega) ?_
      first | refine pI rfl rfl ?_ | refine pu rfl rfl ?_
      refine pw rfl rfl (by rw [wrapU]; omega) ?_
      refine pw rfl rfl (by rw [wrapU]; omega) ?_
      first | refine pL rfl rfl ?_ | refine pu rfl rfl ?_
      first | refine pI rfl rfl ?_ | refine pu rfl rfl ?_
      refine ia (es := 1) rfl rfl rfl (Nat.mul_one _) rfl rfl (by omega) rfl ?_
      refine ldO (off := 0) (hrd _ _ (fun q hq => by simp [hq])) rfl (by rw [Nat.mul_one]) rfl rfl ?_
      refine pw rfl rfl (by rw [wrapU]; omega) ?_
      refine pw rfl rfl (by rw [wrapU]; omega) ?_
      refine pw rfl rfl (by rw [wrapU]; omega) ?_
      rw [show (0 : Int) + (x * B + cc) = x * B + cc by omega]
      first | refine pI rfl rfl ?_ | refine pu rfl rfl ?_
      refine SL_nil (nx (SWP_seq (SWP_region ?_)))
      first | refine pL rfl rfl ?_ | refine pu rfl rfl ?_
      first | refine pI rfl rfl ?_ | refine pu rfl rfl ?_
      first | refine pI rfl rfl ?_ | refine pu rfl rfl ?_
      refine pu (v := .int .u32 (IntKind.u32.wrap (x * B + cc))) rfl rfl ?_
      rw [wrapV]
      refine ia (es := 1) rfl rfl rfl (Nat.mul_one _) rfl rfl (by omega) rfl ?_
      refine stL (σe := σq) (τ := [(B4, Cells 112 [.slice none 0 0]), (B3, Cells 112 [.slice (some adB) ([B] : List Int).length d]), (B2, Cells 112 [.slice a l.length c])]) (k := i) (b := cc) (b' := (x * B + cc) % 4294967296) (off := 0) u32E_len rfl hown (.refl _) (get_at hD0) rfl (by rw [Nat.mul_one]) rfl rfl (by show 0 + 1 ≤ 1; omega) rfl rfl (fun σp2 hown2 => ?_)
      rw [set_at hD0] at hown2
      refine SL_nil (nx (SWP_region ?_))
      first | refine pI rfl rfl ?_ | refine pu rfl rfl ?_
      refine pshr rfl rfl (by decide) (fdiv32 (by omega)) rfl ?_
      first | refine pI rfl rfl ?_ | refine pu rfl rfl ?_
      refine SL_nil (nb (nx (SWP_region ?_)))
      first | refine pw rfl rfl (w64 (by omega) (by omega)) ?_ | refine pu rfl rfl ?_
      refine pI rfl rfl ?_
      refine SL_nil (nx ?_)
      refine ⟨by repeat (first | exact Under.upds rfl (Under.hav _ _ _) | exact Under.hav _ _ _ | refine Under.upd rfl ?_ | refine Under.upds rfl ?_ | refine Under.hav2 rfl ?_), ?_, ?_⟩
      · exact ⟨1, _, σp2, rfl, by omega, .inr ⟨rfl, rfl, hown2⟩, rfl, rfl⟩
      · simp only [L_vals, List.map, List.getD]; show 1 - (0 + 1) < 1 - 0; omega
    refine SL_nil (nx (SWP_seq (SWP_cf rfl (SWP_exit (ne (ne (be rfl (nx ?_))))))))
    skip
    obtain ⟨rfl, hq2⟩ : w = (x * B + cc) / 4294967296 ∧ OwnS 156 1 (.slice (some ⟨B29, 0, none⟩) (l.length + 1) (l.length + 1)) ((D0 ++ (x * B + cc) % 4294967296 :: 0 :: List.replicate (l.length - (i + 1)) 0).flatMap u32E) σq := by
      rcases hdj with ⟨hj, _, _⟩ | ⟨_, hw, ho⟩
      · rw [e1] at c57; omega
      · exact ⟨hw, ho⟩
    refine SWP_region ?_
    first | refine pL rfl rfl ?_ | refine pu rfl rfl ?_
    refine pu rfl rfl ?_
    refine lw (v := .slice _ _ _) B3 0 rfl rfl rfl rfl ?_
    refine pu rfl rfl ?_
    first | refine pI rfl rfl ?_ | refine pu rfl rfl ?_
    refine pw rfl rfl (by rw [wrapV]; omega) ?_
    refine ia (es := 1) (k := ([B] : List Int).length) rfl rfl rfl (Nat.mul_one _) rfl rfl (by rw [e1]; omega) rfl ?_
    refine stL (σe := σq) (τ := [(B4, Cells 112 [.slice none 0 0]), (B3, Cells 112 [.slice (some adB) ([B] : List Int).length d]), (B2, Cells 112 [.slice a l.length c])]) (k := i + 1) (b := 0) (b' := (x * B + cc) / 4294967296) (off := 0) u32E_len rfl hq2 (.refl _) (get_at1 hD0) rfl (by rw [e1, add_add, add_zero', Nat.mul_one]) rfl rfl (by show 0 + 1 ≤ 1; omega) rfl rfl (fun σp3 hown3 => ?_)
    rw [set_at1 hD0] at hown3
    refine SL_nil (nb (nx (SWP_region ?_)))
    first | refine pw rfl rfl (w64 (by omega) (by omega)) ?_ | refine pu rfl rfl ?_
    refine pI rfl rfl ?_
    refine SL_nil (nx ?_)
    refine ⟨by repeat (first | exact Under.upds rfl (Under.hav _ _ _) | exact Under.hav _ _ _ | refine Under.upd rfl ?_ | refine Under.upds rfl ?_ | refine Under.hav2 rfl ?_), ?_, ?_⟩
    · refine ⟨i + 1, D0 ++ [(x * B + cc) % 4294967296], (x * B + cc) / 4294967296, σp3, rfl, by omega, by rw [List.length_append, hD0]; rfl, ?_, by omega, ?_, rfl, rfl⟩
      · rw [← hD, mulS_at hx, List.append_assoc]; rfl
      · rw [List.append_assoc]; exact hown3
    · simp only [L_vals, List.map, List.getD]; show l.length - (i + 1) < l.length - i; omega
  refine SL_nil (nx (SWP_seq (SWP_cf rfl (SWP_exit (ne (ne (be rfl (nx (SWP_seq (SWP_region ?_))))))))))
  obtain rfl : i = l.length := by omega
  have hM : D0 ++ [cc] = mulS B l 0 := by rw [← hD, List.drop_length]; rfl
  rw [Nat.sub_self] at hown
  have hown9 : OwnS 156 1 (.slice (some ⟨B29, 0, none⟩) (l.length + 1) (l.length + 1)) ((mulS B l 0).flatMap u32E) σp := by rw [← hM]; exact hown
  obtain ⟨m1, m2, m3⟩ := mulS_ok (B := B) (by omega) hok (c := 0) (by decide)
  have hTP := trim_nat m1 (show valL (mulS B l 0) = N by rw [m2]; omega) hN2
  refine SL_freezeL (by omega) u32E_len hown9 (fun m9 hl9 hRP => ?_)
  rw [show l.length + 1 = (mulS B l 0).length from m3.symm] at hRP
  rw [show l.length + 1 = (mulS B l 0).length from m3.symm]
  obtain ⟨a9, c9, hwf⟩ := trimV_form hRP
  have hw := trim_RL hRP
  rw [hTP] at hwf hw
  rw [hwf] at hw
  refine pu rfl rfl ?_
  refine SL_pcall rfl rfl cb134 (boundI hRP (by rw [hTP]; have := natL_len N; omega)) rfl ?_
  rw [hwf]
  first | refine pA rfl rfl ?_ | refine pu rfl rfl ?_
  first | refine pI rfl rfl ?_ | refine pu rfl rfl ?_
  refine sw (v := .agg _) B4 0 rfl rfl rfl rfl rfl rfl rfl ?_
  first | refine pI rfl rfl ?_ | refine pu rfl rfl ?_
  refine SL_nil (nx (SWP_ret ?_))
  refine fin [_, _] ⟨⟨_, _, rfl, Rd.of_cells (MemO.mem (B := B4)), rfl⟩, rfl, trivial⟩ ?_
  exact ⟨a9, c9, rfl, hw⟩
end Go.Proofs.YtifjhpaoejageaaGreatDoor
