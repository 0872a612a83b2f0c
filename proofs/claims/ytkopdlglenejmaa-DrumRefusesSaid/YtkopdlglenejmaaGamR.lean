/- lotteryref12: add-ons and tiers. -/
import Derived.Test.YtkopdlglenejmaaGamC
namespace Go.Proofs.Ytkopdlglenejmaa
open Eng

theorem inR {m : Mem} (n lo hi : Int) : PureCall Try.prog 36 [.int .i64 n, .int .i64 lo, .int .i64 hi] m (.bool (decide (lo ≤ n ∧ n ≤ hi))) := by
  refine CallsS.pure ?_
  refine enter Try.func36 Try.ntmps36 rfl rfl ?_
  refine SWP_seq ?_
  refine SWP_region ?_
  refine pB rfl rfl ?_
  refine SL_nil ?_
  refine nx ?_
  refine SWP_seq ?_
  refine SWP_region ?_
  first | refine pI rfl rfl ?_ | refine pu rfl rfl ?_
  first | refine pI rfl rfl ?_ | refine pu rfl rfl ?_
  refine pc rfl rfl (fun c9 => ?_) (fun c9 => ?_)
  · skip
    refine pB rfl rfl ?_
    refine SL_yes rfl ?_
    first | refine pI rfl rfl ?_ | refine pu rfl rfl ?_
    refine SL_yes rfl ?_
    first | refine pI rfl rfl ?_ | refine pu rfl rfl ?_
    refine SL_yes rfl ?_
    refine pu rfl rfl ?_
    refine pB rfl rfl ?_
    refine pB rfl rfl ?_
    refine SL_nil ?_
    refine nx ?_
    refine SWP_ret ?_
    refine fin [_] ⟨rfl, trivial⟩ ?_
    first | exact congrArg Value.bool (decide_eq_decide.2 ⟨fun h => ⟨by omega, h⟩, fun h => h.2⟩) | exact (congrArg Value.bool (decide_eq_false (by omega))).symm | exact (congrArg Value.bool (decide_eq_true (by omega))).symm
  refine pB rfl rfl ?_
  refine SL_no rfl rfl ?_
  refine SL_no rfl rfl ?_
  refine SL_no rfl rfl ?_
  refine pB rfl rfl ?_
  refine pB rfl rfl ?_
  refine SL_nil ?_
  refine nx ?_
  refine SWP_ret ?_
  refine fin [_] ⟨rfl, trivial⟩ ?_
  first | exact congrArg Value.bool (decide_eq_decide.2 ⟨fun h => ⟨by omega, h⟩, fun h => h.2⟩) | exact (congrArg Value.bool (decide_eq_false (by omega))).symm | exact (congrArg Value.bool (decide_eq_true (by omega))).symm

theorem leastR {m : Mem} (a b : Int) : PureCall Try.prog 57 [.int .i64 a, .int .i64 b] m (.int .i64 (min a b)) := by
  refine CallsS.pure ?_
  refine enter Try.func57 Try.ntmps57 rfl rfl ?_
  refine SWP_seq ?_
  refine SWP_region ?_
  refine pI rfl rfl ?_
  refine SL_nil ?_
  refine nx ?_
  refine SWP_seq ?_
  refine SWP_seq ?_
  refine SWP_region ?_
  first | refine pI rfl rfl ?_ | refine pu rfl rfl ?_
  first | refine pI rfl rfl ?_ | refine pu rfl rfl ?_
  refine pc rfl rfl (fun c7 => ?_) (fun c7 => ?_)
  · skip
    refine SL_nil ?_
    refine nx ?_
    refine SWP_ct rfl ?_
    refine SWP_seq ?_
    refine SWP_region ?_
    first | refine pI rfl rfl ?_ | refine pu rfl rfl ?_
    first | refine pI rfl rfl ?_ | refine pu rfl rfl ?_
    refine SL_nil ?_
    refine nx ?_
    refine SWP_ret ?_
    refine nr ?_
    refine fin [_] ⟨rfl, trivial⟩ ?_
    exact congrArg (Value.int .i64) (by omega)
  refine SL_nil ?_
  refine nx ?_
  refine SWP_cf rfl ?_
  refine SWP_skip ?_
  refine nx ?_
  refine SWP_seq ?_
  refine SWP_region ?_
  first | refine pI rfl rfl ?_ | refine pu rfl rfl ?_
  first | refine pI rfl rfl ?_ | refine pu rfl rfl ?_
  refine SL_nil ?_
  refine nx ?_
  refine SWP_ret ?_
  refine fin [_] ⟨rfl, trivial⟩ ?_
  exact congrArg (Value.int .i64) (by omega)

theorem allE0 {lo hi : Int} {l : List Int} {i : Nat} (h : ∀ x ∈ l.take i, lo ≤ x ∧ x ≤ hi) (hi' : l.length ≤ i) : allErr lo hi l = 0 := by
  rw [List.take_of_length_le hi'] at h
  unfold allErr
  rw [if_pos h]
theorem allE2 {lo hi : Int} {l : List Int} {i : Nat} {x : Int} (hx : l[i]? = some x) (h : ¬ (lo ≤ x ∧ x ≤ hi)) : allErr lo hi l = 2 := by
  unfold allErr
  rw [if_neg fun h' => h (h' x (List.mem_of_getElem? hx))]

set_option maxRecDepth 100000 in
theorem addonR {m : Mem} {a : Addon} (h : a.In m) : PureCall Try.prog 58 [a.val] m (.int .i64 (addonErr a)) := by
  refine CallsS.pure ?_
  obtain ⟨hf, hp⟩ := h
  dsimp only [Addon.val]
  refine enter Try.func58 Try.ntmps58 rfl rfl ?_
  refine SWP_seq ?_
  refine SWP_region ?_
  refine bx (v := .agg _) rfl rfl (fun B1 => ?_)
  refine pI rfl rfl ?_
  refine SL_nil ?_
  refine nx ?_
  refine SWP_seq ?_
  refine SWP_seq ?_
  refine SWP_region ?_
  refine pu rfl rfl ?_
  refine lw (v := .string _) B1 0 rfl rfl rfl rfl ?_
  refine SL_pcall rfl rfl cb34 (nameRef _) rfl ?_
  refine bsp 7 rfl (fun b7 => ?_) (fun b7 => ?_)
  · skip
    refine pB rfl rfl ?_
    refine SL_nil ?_
    refine nx ?_
    refine SWP_cf rfl ?_
    refine SWP_skip ?_
    refine nx ?_
    refine SWP_seq ?_
    refine SWP_seq ?_
    refine SWP_region ?_
    refine pu rfl rfl ?_
    refine lw (v := .int .i64 _) B1 1 rfl rfl rfl rfl ?_
    refine pc rfl rfl (fun c11 => ?_) (fun c11 => ?_)
    · skip
      refine pB rfl rfl ?_
      refine SL_yes rfl ?_
      refine pu rfl rfl ?_
      refine SL_yes rfl ?_
      refine lw (v := .int .i64 _) B1 1 rfl rfl rfl rfl ?_
      refine SL_yes rfl ?_
      refine pc rfl rfl (fun c15 => ?_) (fun c15 => ?_)
      · skip
        refine pB rfl rfl ?_
        refine SL_nil ?_
        refine nx ?_
        refine SWP_ct rfl ?_
        refine SWP_seq ?_
        refine SWP_region ?_
        refine pI rfl rfl ?_
        refine SL_nil ?_
        refine nx ?_
        refine SWP_ret ?_
        refine nr ?_
        refine fin [_] ⟨rfl, trivial⟩ ?_
        refine congrArg (Value.int .i64) ?_
        first | (exfalso; omega) | exact aE4 b7 | exact aE7 b7 (by omega) | exact aE2 b7 (by omega) (by omega) | (rw [aEf b7 (by omega) (by omega)]; first | rw [if_pos (by omega)] | rw [if_neg (by omega), if_pos (by omega)] | (rw [if_neg (by omega), if_neg (by omega)]; first | exact (allE2 hx (by omega)).symm | exact (allE0 hall (by omega)).symm)) | (rw [aEs b7 (by omega) (by omega)]; first | rw [if_pos (by omega)] | rw [if_neg (by omega), if_pos (by omega)] | rw [if_neg (by omega), if_neg (by omega), if_pos (by omega)] | (rw [if_neg (by omega), if_neg (by omega), if_neg (by omega)]; first | exact (allE2 hx (by omega)).symm | exact (allE0 hall (by omega)).symm))
      refine pB rfl rfl ?_
      refine SL_nil ?_
      refine nx ?_
      refine SWP_cf rfl ?_
      refine SWP_skip ?_
      refine nx ?_
      refine SWP_seq ?_
      refine SWP_seq ?_
      refine SWP_region ?_
      refine pu rfl rfl ?_
      refine lw (v := .int .i64 _) B1 2 rfl rfl rfl rfl ?_
      refine SL_pcall rfl rfl cb36 (inR _ _ _) rfl ?_
      refine psp 19 rfl (fun c19 => ?_) (fun c19 => ?_)
      · skip
        refine pB rfl rfl ?_
        refine SL_nil ?_
        refine nx ?_
        refine SWP_cf rfl ?_
        refine SWP_skip ?_
        refine nx ?_
        refine SWP_seq ?_
        refine SWP_seq ?_
        refine SWP_region ?_
        refine pu rfl rfl ?_
        refine lw (v := .int .i64 _) B1 1 rfl rfl rfl rfl ?_
        refine pc rfl rfl (fun c23 => ?_) (fun c23 => ?_)
        · skip
          refine SL_nil ?_
          refine nx ?_
          refine SWP_ct rfl ?_
          refine SWP_seq ?_
          refine SWP_seq ?_
          refine SWP_region ?_
          refine pu rfl rfl ?_
          refine lw (v := .int .i64 _) B1 4 rfl rfl rfl rfl ?_
          refine pc rfl rfl (fun c26 => ?_) (fun c26 => ?_)
          · skip
            refine pB rfl rfl ?_
            refine SL_no rfl rfl ?_
            refine SL_no rfl rfl ?_
            refine SL_no rfl rfl ?_
            refine SL_no rfl rfl ?_
            refine pB rfl rfl ?_
            refine SL_nil ?_
            refine nx ?_
            refine SWP_ct rfl ?_
            refine SWP_seq ?_
            refine SWP_region ?_
            refine pI rfl rfl ?_
            refine SL_nil ?_
            refine nx ?_
            refine SWP_ret ?_
            refine nr ?_
            refine nr ?_
            refine fin [_] ⟨rfl, trivial⟩ ?_
            refine congrArg (Value.int .i64) ?_
            first | (exfalso; omega) | exact aE4 b7 | exact aE7 b7 (by omega) | exact aE2 b7 (by omega) (by omega) | (rw [aEf b7 (by omega) (by omega)]; first | rw [if_pos (by omega)] | rw [if_neg (by omega), if_pos (by omega)] | (rw [if_neg (by omega), if_neg (by omega)]; first | exact (allE2 hx (by omega)).symm | exact (allE0 hall (by omega)).symm)) | (rw [aEs b7 (by omega) (by omega)]; first | rw [if_pos (by omega)] | rw [if_neg (by omega), if_pos (by omega)] | rw [if_neg (by omega), if_neg (by omega), if_pos (by omega)] | (rw [if_neg (by omega), if_neg (by omega), if_neg (by omega)]; first | exact (allE2 hx (by omega)).symm | exact (allE0 hall (by omega)).symm))
          refine pB rfl rfl ?_
          refine SL_yes rfl ?_
          refine pu rfl rfl ?_
          refine SL_yes rfl ?_
          refine lw (v := .slice _ _ _) B1 5 rfl rfl rfl rfl ?_
          refine SL_yes rfl ?_
          refine pu rfl rfl ?_
          refine SL_yes rfl ?_
          refine pc rfl rfl (fun c31 => ?_) (fun c31 => ?_)
          · skip
            refine pB rfl rfl ?_
            refine SL_nil ?_
            refine nx ?_
            refine SWP_ct rfl ?_
            refine SWP_seq ?_
            refine SWP_region ?_
            refine pI rfl rfl ?_
            refine SL_nil ?_
            refine nx ?_
            refine SWP_ret ?_
            refine nr ?_
            refine nr ?_
            refine fin [_] ⟨rfl, trivial⟩ ?_
            refine congrArg (Value.int .i64) ?_
            first | (exfalso; omega) | exact aE4 b7 | exact aE7 b7 (by omega) | exact aE2 b7 (by omega) (by omega) | (rw [aEf b7 (by omega) (by omega)]; first | rw [if_pos (by omega)] | rw [if_neg (by omega), if_pos (by omega)] | (rw [if_neg (by omega), if_neg (by omega)]; first | exact (allE2 hx (by omega)).symm | exact (allE0 hall (by omega)).symm)) | (rw [aEs b7 (by omega) (by omega)]; first | rw [if_pos (by omega)] | rw [if_neg (by omega), if_pos (by omega)] | rw [if_neg (by omega), if_neg (by omega), if_pos (by omega)] | (rw [if_neg (by omega), if_neg (by omega), if_neg (by omega)]; first | exact (allE2 hx (by omega)).symm | exact (allE0 hall (by omega)).symm))
          refine pB rfl rfl ?_
          refine SL_nil ?_
          refine nx ?_
          refine SWP_cf rfl ?_
          refine SWP_skip ?_
          refine nx ?_
          refine SWP_seq ?_
          refine SWP_seq ?_
          refine SWP_region ?_
          refine pu rfl rfl ?_
          refine lw (v := .slice _ _ _) B1 3 rfl rfl rfl rfl ?_
          refine pu rfl rfl ?_
          refine SL_pcall rfl rfl cb36 (inR _ _ _) rfl ?_
          refine psp 36 rfl (fun c36 => ?_) (fun c36 => ?_)
          · skip
            refine pB rfl rfl ?_
            refine SL_nil ?_
            refine nx ?_
            refine SWP_cf rfl ?_
            refine SWP_skip ?_
            refine nx ?_
            refine SWP_seq ?_
            refine SWP_seq ?_
            refine SWP_region ?_
            refine pI rfl rfl ?_
            refine SL_nil ?_
            refine nx ?_
            refine SWP_block ?_
            refine SWP_loop [2, 3, 38, 39, 40, 41, 42, 43, 44, 45, 46, 47, 48, 49, 50, 51] [3]
                (fun vs σ' m' => ∃ (i : Nat), vs = [.int .i64 (i : Nat)] ∧ i ≤ a.factors.length ∧ (∀ x ∈ a.factors.take i, (1 : Int) ≤ x ∧ x ≤ 100) ∧ σ' = [(B1, Cells 47 a.enc)] ∧ m = m')
                (fun vs => a.factors.length - nOf (vs.getD 0 undef)) rfl ?_ ?_
            · exact ⟨0, rfl, by omega, by simp, rfl, rfl⟩
            intro u0 vs0 σ0 m0 hJ0 _
            obtain ⟨i, rfl, hi, hall, rfl, rfl⟩ := hJ0
            dsimp only [Addon.enc]
            refine SWP_seq ?_
            refine SWP_seq ?_
            refine SWP_region ?_
            first | refine pI rfl rfl ?_ | refine pu rfl rfl ?_
            refine pu rfl rfl ?_
            refine lw (v := .slice _ _ _) B1 3 rfl rfl rfl rfl ?_
            refine pu rfl rfl ?_
            refine pc rfl rfl (fun c42 => ?_) (fun c42 => ?_)
            · skip
              refine SL_nil ?_
              refine nx ?_
              refine SWP_ct rfl ?_
              refine SWP_skip ?_
              refine nx ?_
              refine SWP_seq ?_
              refine SWP_block ?_
              refine SWP_seq ?_
              obtain ⟨x, hx⟩ : ∃ x, a.factors[i]? = some x := ⟨_, List.getElem?_eq_getElem (by omega)⟩
              obtain ⟨ad, had, _, hat⟩ := hf.atI hx
              refine SWP_region ?_
              refine pu rfl rfl ?_
              refine lw (v := .slice _ _ _) B1 3 rfl rfl rfl rfl ?_
              first | refine pI rfl rfl ?_ | refine pu rfl rfl ?_
              rw [had]
              first | refine ia (es := 1) rfl rfl rfl (Nat.mul_one _) rfl rfl (by omega) rfl ?_ | refine iai (es := 1) rfl rfl rfl (Nat.mul_one _) rfl rfl (by omega) (by omega) rfl ?_
              rw [← had]
              refine ldA (v := .int .i64 _) rfl (by assumption) rfl rfl ?_
              refine SL_pcall rfl rfl cb36 (inR _ _ _) rfl ?_
              refine psp 50 rfl (fun c50 => ?_) (fun c50 => ?_)
              · skip
                refine pB rfl rfl ?_
                refine SL_nil ?_
                refine nx ?_
                refine SWP_cf rfl ?_
                refine SWP_skip ?_
                refine nb ?_
                refine nx ?_
                refine SWP_region ?_
                first | refine pI rfl rfl ?_ | refine pu rfl rfl ?_
                first | refine pw rfl rfl (w64 (by omega) (by omega)) ?_ | refine pu rfl rfl ?_
                refine pI rfl rfl ?_
                refine SL_nil ?_
                refine nx ?_
                refine ⟨by repeat (first | exact Under.upds rfl (Under.hav _ _ _) | exact Under.hav _ _ _ | refine Under.upd rfl ?_ | refine Under.upds rfl ?_ | refine Under.hav2 rfl ?_), ?_, ?_⟩
                · refine ⟨i + 1, rfl, by omega, fun y hy => ?_, rfl, rfl⟩
                  rw [take_snocA hx] at hy
                  rcases List.mem_append.1 hy with hy | hy
                  · exact hall y hy
                  · rw [List.mem_singleton.1 hy]; omega
                · simp only [L_vals, List.map, List.getD]; show a.factors.length - (i + 1) < a.factors.length - i; omega
              refine pB rfl rfl ?_
              refine SL_nil ?_
              refine nx ?_
              refine SWP_ct rfl ?_
              refine SWP_seq ?_
              refine SWP_region ?_
              refine pI rfl rfl ?_
              refine SL_nil ?_
              refine nx ?_
              refine SWP_ret ?_
              refine br ?_
              refine nr ?_
              refine nr ?_
              refine br ?_
              refine nr ?_
              refine nr ?_
              refine fin [_] ⟨rfl, trivial⟩ ?_
              refine congrArg (Value.int .i64) ?_
              first | (exfalso; omega) | exact aE4 b7 | exact aE7 b7 (by omega) | exact aE2 b7 (by omega) (by omega) | (rw [aEf b7 (by omega) (by omega)]; first | rw [if_pos (by omega)] | rw [if_neg (by omega), if_pos (by omega)] | (rw [if_neg (by omega), if_neg (by omega)]; first | exact (allE2 hx (by omega)).symm | exact (allE0 hall (by omega)).symm)) | (rw [aEs b7 (by omega) (by omega)]; first | rw [if_pos (by omega)] | rw [if_neg (by omega), if_pos (by omega)] | rw [if_neg (by omega), if_neg (by omega), if_pos (by omega)] | (rw [if_neg (by omega), if_neg (by omega), if_neg (by omega)]; first | exact (allE2 hx (by omega)).symm | exact (allE0 hall (by omega)).symm))
            refine SL_nil ?_
            refine nx ?_
            refine SWP_cf rfl ?_
            refine SWP_exit ?_
            refine ne ?_
            refine ne ?_
            refine be rfl ?_
            refine nx ?_
            refine SWP_seq ?_
            refine SWP_region ?_
            refine pI rfl rfl ?_
            refine SL_nil ?_
            refine nx ?_
            refine SWP_ret ?_
            refine nr ?_
            refine fin [_] ⟨rfl, trivial⟩ ?_
            refine congrArg (Value.int .i64) ?_
            first | (exfalso; omega) | exact aE4 b7 | exact aE7 b7 (by omega) | exact aE2 b7 (by omega) (by omega) | (rw [aEf b7 (by omega) (by omega)]; first | rw [if_pos (by omega)] | rw [if_neg (by omega), if_pos (by omega)] | (rw [if_neg (by omega), if_neg (by omega)]; first | exact (allE2 hx (by omega)).symm | exact (allE0 hall (by omega)).symm)) | (rw [aEs b7 (by omega) (by omega)]; first | rw [if_pos (by omega)] | rw [if_neg (by omega), if_pos (by omega)] | rw [if_neg (by omega), if_neg (by omega), if_pos (by omega)] | (rw [if_neg (by omega), if_neg (by omega), if_neg (by omega)]; first | exact (allE2 hx (by omega)).symm | exact (allE0 hall (by omega)).symm))
          refine pB rfl rfl ?_
          refine SL_nil ?_
          refine nx ?_
          refine SWP_ct rfl ?_
          refine SWP_seq ?_
          refine SWP_region ?_
          refine pI rfl rfl ?_
          refine SL_nil ?_
          refine nx ?_
          refine SWP_ret ?_
          refine nr ?_
          refine nr ?_
          refine fin [_] ⟨rfl, trivial⟩ ?_
          refine congrArg (Value.int .i64) ?_
          first | (exfalso; omega) | exact aE4 b7 | exact aE7 b7 (by omega) | exact aE2 b7 (by omega) (by omega) | (rw [aEf b7 (by omega) (by omega)]; first | rw [if_pos (by omega)] | rw [if_neg (by omega), if_pos (by omega)] | (rw [if_neg (by omega), if_neg (by omega)]; first | exact (allE2 hx (by omega)).symm | exact (allE0 hall (by omega)).symm)) | (rw [aEs b7 (by omega) (by omega)]; first | rw [if_pos (by omega)] | rw [if_neg (by omega), if_pos (by omega)] | rw [if_neg (by omega), if_neg (by omega), if_pos (by omega)] | (rw [if_neg (by omega), if_neg (by omega), if_neg (by omega)]; first | exact (allE2 hx (by omega)).symm | exact (allE0 hall (by omega)).symm))
        refine SL_nil ?_
        refine nx ?_
        refine SWP_cf rfl ?_
        refine SWP_skip ?_
        refine nx ?_
        refine SWP_seq ?_
        refine SWP_seq ?_
        refine SWP_region ?_
        refine pu rfl rfl ?_
        refine lw (v := .slice _ _ _) B1 3 rfl rfl rfl rfl ?_
        refine pu rfl rfl ?_
        refine pc rfl rfl (fun c55 => ?_) (fun c55 => ?_)
        · skip
          refine SL_nil ?_
          refine nx ?_
          refine SWP_ct rfl ?_
          refine SWP_seq ?_
          refine SWP_region ?_
          refine pI rfl rfl ?_
          refine SL_nil ?_
          refine nx ?_
          refine SWP_ret ?_
          refine nr ?_
          refine fin [_] ⟨rfl, trivial⟩ ?_
          refine congrArg (Value.int .i64) ?_
          first | (exfalso; omega) | exact aE4 b7 | exact aE7 b7 (by omega) | exact aE2 b7 (by omega) (by omega) | (rw [aEf b7 (by omega) (by omega)]; first | rw [if_pos (by omega)] | rw [if_neg (by omega), if_pos (by omega)] | (rw [if_neg (by omega), if_neg (by omega)]; first | exact (allE2 hx (by omega)).symm | exact (allE0 hall (by omega)).symm)) | (rw [aEs b7 (by omega) (by omega)]; first | rw [if_pos (by omega)] | rw [if_neg (by omega), if_pos (by omega)] | rw [if_neg (by omega), if_neg (by omega), if_pos (by omega)] | (rw [if_neg (by omega), if_neg (by omega), if_neg (by omega)]; first | exact (allE2 hx (by omega)).symm | exact (allE0 hall (by omega)).symm))
        refine SL_nil ?_
        refine nx ?_
        refine SWP_cf rfl ?_
        refine SWP_skip ?_
        refine nx ?_
        refine SWP_seq ?_
        refine SWP_seq ?_
        refine SWP_region ?_
        refine pu rfl rfl ?_
        refine lw (v := .int .i64 _) B1 4 rfl rfl rfl rfl ?_
        refine SL_pcall rfl rfl cb36 (inR _ _ _) rfl ?_
        refine psp 58 rfl (fun c58 => ?_) (fun c58 => ?_)
        · skip
          refine pB rfl rfl ?_
          refine SL_nil ?_
          refine nx ?_
          refine SWP_cf rfl ?_
          refine SWP_skip ?_
          refine nx ?_
          refine SWP_seq ?_
          refine SWP_seq ?_
          refine SWP_region ?_
          refine pu rfl rfl ?_
          refine lw (v := .slice _ _ _) B1 5 rfl rfl rfl rfl ?_
          refine pu rfl rfl ?_
          refine pu rfl rfl ?_
          refine lw (v := .int .i64 _) B1 4 rfl rfl rfl rfl ?_
          refine pc rfl rfl (fun c65 => ?_) (fun c65 => ?_)
          · skip
            refine SL_nil ?_
            refine nx ?_
            refine SWP_ct rfl ?_
            refine SWP_seq ?_
            refine SWP_region ?_
            refine pI rfl rfl ?_
            refine SL_nil ?_
            refine nx ?_
            refine SWP_ret ?_
            refine nr ?_
            refine fin [_] ⟨rfl, trivial⟩ ?_
            refine congrArg (Value.int .i64) ?_
            first | (exfalso; omega) | exact aE4 b7 | exact aE7 b7 (by omega) | exact aE2 b7 (by omega) (by omega) | (rw [aEf b7 (by omega) (by omega)]; first | rw [if_pos (by omega)] | rw [if_neg (by omega), if_pos (by omega)] | (rw [if_neg (by omega), if_neg (by omega)]; first | exact (allE2 hx (by omega)).symm | exact (allE0 hall (by omega)).symm)) | (rw [aEs b7 (by omega) (by omega)]; first | rw [if_pos (by omega)] | rw [if_neg (by omega), if_pos (by omega)] | rw [if_neg (by omega), if_neg (by omega), if_pos (by omega)] | (rw [if_neg (by omega), if_neg (by omega), if_neg (by omega)]; first | exact (allE2 hx (by omega)).symm | exact (allE0 hall (by omega)).symm))
          refine SL_nil ?_
          refine nx ?_
          refine SWP_cf rfl ?_
          refine SWP_skip ?_
          refine nx ?_
          refine SWP_seq ?_
          refine SWP_seq ?_
          refine SWP_region ?_
          refine pI rfl rfl ?_
          refine SL_nil ?_
          refine nx ?_
          refine SWP_block ?_
          refine SWP_loop [2, 4, 66, 67, 68, 69, 70, 71, 72, 73, 74, 75, 76, 77, 78, 79] [4]
              (fun vs σ' m' => ∃ (i : Nat), vs = [.int .i64 (i : Nat)] ∧ i ≤ a.prizes.length ∧ (∀ x ∈ a.prizes.take i, (0 : Int) ≤ x ∧ x ≤ 1000000000) ∧ σ' = [(B1, Cells 47 a.enc)] ∧ m = m')
              (fun vs => a.prizes.length - nOf (vs.getD 0 undef)) rfl ?_ ?_
          · exact ⟨0, rfl, by omega, by simp, rfl, rfl⟩
          intro u1 vs1 σ1 m1 hJ1 _
          obtain ⟨i, rfl, hi, hall, rfl, rfl⟩ := hJ1
          dsimp only [Addon.enc]
          refine SWP_seq ?_
          refine SWP_seq ?_
          refine SWP_region ?_
          first | refine pI rfl rfl ?_ | refine pu rfl rfl ?_
          refine pu rfl rfl ?_
          refine lw (v := .slice _ _ _) B1 5 rfl rfl rfl rfl ?_
          refine pu rfl rfl ?_
          refine pc rfl rfl (fun c70 => ?_) (fun c70 => ?_)
          · skip
            refine SL_nil ?_
            refine nx ?_
            refine SWP_ct rfl ?_
            refine SWP_skip ?_
            refine nx ?_
            refine SWP_seq ?_
            refine SWP_block ?_
            refine SWP_seq ?_
            obtain ⟨x, hx⟩ : ∃ x, a.prizes[i]? = some x := ⟨_, List.getElem?_eq_getElem (by omega)⟩
            obtain ⟨ad, had, _, hat⟩ := hp.atI hx
            refine SWP_region ?_
            refine pu rfl rfl ?_
            refine lw (v := .slice _ _ _) B1 5 rfl rfl rfl rfl ?_
            first | refine pI rfl rfl ?_ | refine pu rfl rfl ?_
            rw [had]
            first | refine ia (es := 1) rfl rfl rfl (Nat.mul_one _) rfl rfl (by omega) rfl ?_ | refine iai (es := 1) rfl rfl rfl (Nat.mul_one _) rfl rfl (by omega) (by omega) rfl ?_
            rw [← had]
            refine ldA (v := .int .i64 _) rfl (by assumption) rfl rfl ?_
            refine SL_pcall rfl rfl cb36 (inR _ _ _) rfl ?_
            refine psp 78 rfl (fun c78 => ?_) (fun c78 => ?_)
            · skip
              refine pB rfl rfl ?_
              refine SL_nil ?_
              refine nx ?_
              refine SWP_cf rfl ?_
              refine SWP_skip ?_
              refine nb ?_
              refine nx ?_
              refine SWP_region ?_
              first | refine pI rfl rfl ?_ | refine pu rfl rfl ?_
              first | refine pw rfl rfl (w64 (by omega) (by omega)) ?_ | refine pu rfl rfl ?_
              refine pI rfl rfl ?_
              refine SL_nil ?_
              refine nx ?_
              refine ⟨by repeat (first | exact Under.upds rfl (Under.hav _ _ _) | exact Under.hav _ _ _ | refine Under.upd rfl ?_ | refine Under.upds rfl ?_ | refine Under.hav2 rfl ?_), ?_, ?_⟩
              · refine ⟨i + 1, rfl, by omega, fun y hy => ?_, rfl, rfl⟩
                rw [take_snocA hx] at hy
                rcases List.mem_append.1 hy with hy | hy
                · exact hall y hy
                · rw [List.mem_singleton.1 hy]; omega
              · simp only [L_vals, List.map, List.getD]; show a.prizes.length - (i + 1) < a.prizes.length - i; omega
            refine pB rfl rfl ?_
            refine SL_nil ?_
            refine nx ?_
            refine SWP_ct rfl ?_
            refine SWP_seq ?_
            refine SWP_region ?_
            refine pI rfl rfl ?_
            refine SL_nil ?_
            refine nx ?_
            refine SWP_ret ?_
            refine br ?_
            refine nr ?_
            refine nr ?_
            refine br ?_
            refine nr ?_
            refine fin [_] ⟨rfl, trivial⟩ ?_
            refine congrArg (Value.int .i64) ?_
            first | (exfalso; omega) | exact aE4 b7 | exact aE7 b7 (by omega) | exact aE2 b7 (by omega) (by omega) | (rw [aEf b7 (by omega) (by omega)]; first | rw [if_pos (by omega)] | rw [if_neg (by omega), if_pos (by omega)] | (rw [if_neg (by omega), if_neg (by omega)]; first | exact (allE2 hx (by omega)).symm | exact (allE0 hall (by omega)).symm)) | (rw [aEs b7 (by omega) (by omega)]; first | rw [if_pos (by omega)] | rw [if_neg (by omega), if_pos (by omega)] | rw [if_neg (by omega), if_neg (by omega), if_pos (by omega)] | (rw [if_neg (by omega), if_neg (by omega), if_neg (by omega)]; first | exact (allE2 hx (by omega)).symm | exact (allE0 hall (by omega)).symm))
          refine SL_nil ?_
          refine nx ?_
          refine SWP_cf rfl ?_
          refine SWP_exit ?_
          refine ne ?_
          refine ne ?_
          refine be rfl ?_
          refine nx ?_
          refine SWP_seq ?_
          refine SWP_region ?_
          refine pI rfl rfl ?_
          refine SL_nil ?_
          refine nx ?_
          refine SWP_ret ?_
          refine fin [_] ⟨rfl, trivial⟩ ?_
          refine congrArg (Value.int .i64) ?_
          first | (exfalso; omega) | exact aE4 b7 | exact aE7 b7 (by omega) | exact aE2 b7 (by omega) (by omega) | (rw [aEf b7 (by omega) (by omega)]; first | rw [if_pos (by omega)] | rw [if_neg (by omega), if_pos (by omega)] | (rw [if_neg (by omega), if_neg (by omega)]; first | exact (allE2 hx (by omega)).symm | exact (allE0 hall (by omega)).symm)) | (rw [aEs b7 (by omega) (by omega)]; first | rw [if_pos (by omega)] | rw [if_neg (by omega), if_pos (by omega)] | rw [if_neg (by omega), if_neg (by omega), if_pos (by omega)] | (rw [if_neg (by omega), if_neg (by omega), if_neg (by omega)]; first | exact (allE2 hx (by omega)).symm | exact (allE0 hall (by omega)).symm))
        refine pB rfl rfl ?_
        refine SL_nil ?_
        refine nx ?_
        refine SWP_ct rfl ?_
        refine SWP_seq ?_
        refine SWP_region ?_
        refine pI rfl rfl ?_
        refine SL_nil ?_
        refine nx ?_
        refine SWP_ret ?_
        refine nr ?_
        refine fin [_] ⟨rfl, trivial⟩ ?_
        refine congrArg (Value.int .i64) ?_
        first | (exfalso; omega) | exact aE4 b7 | exact aE7 b7 (by omega) | exact aE2 b7 (by omega) (by omega) | (rw [aEf b7 (by omega) (by omega)]; first | rw [if_pos (by omega)] | rw [if_neg (by omega), if_pos (by omega)] | (rw [if_neg (by omega), if_neg (by omega)]; first | exact (allE2 hx (by omega)).symm | exact (allE0 hall (by omega)).symm)) | (rw [aEs b7 (by omega) (by omega)]; first | rw [if_pos (by omega)] | rw [if_neg (by omega), if_pos (by omega)] | rw [if_neg (by omega), if_neg (by omega), if_pos (by omega)] | (rw [if_neg (by omega), if_neg (by omega), if_neg (by omega)]; first | exact (allE2 hx (by omega)).symm | exact (allE0 hall (by omega)).symm))
      refine pB rfl rfl ?_
      refine SL_nil ?_
      refine nx ?_
      refine SWP_ct rfl ?_
      refine SWP_seq ?_
      refine SWP_region ?_
      refine pI rfl rfl ?_
      refine SL_nil ?_
      refine nx ?_
      refine SWP_ret ?_
      refine nr ?_
      refine fin [_] ⟨rfl, trivial⟩ ?_
      refine congrArg (Value.int .i64) ?_
      first | (exfalso; omega) | exact aE4 b7 | exact aE7 b7 (by omega) | exact aE2 b7 (by omega) (by omega) | (rw [aEf b7 (by omega) (by omega)]; first | rw [if_pos (by omega)] | rw [if_neg (by omega), if_pos (by omega)] | (rw [if_neg (by omega), if_neg (by omega)]; first | exact (allE2 hx (by omega)).symm | exact (allE0 hall (by omega)).symm)) | (rw [aEs b7 (by omega) (by omega)]; first | rw [if_pos (by omega)] | rw [if_neg (by omega), if_pos (by omega)] | rw [if_neg (by omega), if_neg (by omega), if_pos (by omega)] | (rw [if_neg (by omega), if_neg (by omega), if_neg (by omega)]; first | exact (allE2 hx (by omega)).symm | exact (allE0 hall (by omega)).symm))
    refine pB rfl rfl ?_
    refine SL_no rfl rfl ?_
    refine SL_no rfl rfl ?_
    refine SL_no rfl rfl ?_
    refine pB rfl rfl ?_
    refine SL_nil ?_
    refine nx ?_
    refine SWP_cf rfl ?_
    refine SWP_skip ?_
    refine nx ?_
    refine SWP_seq ?_
    refine SWP_seq ?_
    refine SWP_region ?_
    refine pu rfl rfl ?_
    refine lw (v := .int .i64 _) B1 2 rfl rfl rfl rfl ?_
    refine SL_pcall rfl rfl cb36 (inR _ _ _) rfl ?_
    refine psp 19 rfl (fun c19 => ?_) (fun c19 => ?_)
    · skip
      refine pB rfl rfl ?_
      refine SL_nil ?_
      refine nx ?_
      refine SWP_cf rfl ?_
      refine SWP_skip ?_
      refine nx ?_
      refine SWP_seq ?_
      refine SWP_seq ?_
      refine SWP_region ?_
      refine pu rfl rfl ?_
      refine lw (v := .int .i64 _) B1 1 rfl rfl rfl rfl ?_
      refine pc rfl rfl (fun c23 => ?_) (fun c23 => ?_)
      · skip
        refine SL_nil ?_
        refine nx ?_
        refine SWP_ct rfl ?_
        refine SWP_seq ?_
        refine SWP_seq ?_
        refine SWP_region ?_
        refine pu rfl rfl ?_
        refine lw (v := .int .i64 _) B1 4 rfl rfl rfl rfl ?_
        refine pc rfl rfl (fun c26 => ?_) (fun c26 => ?_)
        · skip
          refine pB rfl rfl ?_
          refine SL_no rfl rfl ?_
          refine SL_no rfl rfl ?_
          refine SL_no rfl rfl ?_
          refine SL_no rfl rfl ?_
          refine pB rfl rfl ?_
          refine SL_nil ?_
          refine nx ?_
          refine SWP_ct rfl ?_
          refine SWP_seq ?_
          refine SWP_region ?_
          refine pI rfl rfl ?_
          refine SL_nil ?_
          refine nx ?_
          refine SWP_ret ?_
          refine nr ?_
          refine nr ?_
          refine fin [_] ⟨rfl, trivial⟩ ?_
          refine congrArg (Value.int .i64) ?_
          first | (exfalso; omega) | exact aE4 b7 | exact aE7 b7 (by omega) | exact aE2 b7 (by omega) (by omega) | (rw [aEf b7 (by omega) (by omega)]; first | rw [if_pos (by omega)] | rw [if_neg (by omega), if_pos (by omega)] | (rw [if_neg (by omega), if_neg (by omega)]; first | exact (allE2 hx (by omega)).symm | exact (allE0 hall (by omega)).symm)) | (rw [aEs b7 (by omega) (by omega)]; first | rw [if_pos (by omega)] | rw [if_neg (by omega), if_pos (by omega)] | rw [if_neg (by omega), if_neg (by omega), if_pos (by omega)] | (rw [if_neg (by omega), if_neg (by omega), if_neg (by omega)]; first | exact (allE2 hx (by omega)).symm | exact (allE0 hall (by omega)).symm))
        refine pB rfl rfl ?_
        refine SL_yes rfl ?_
        refine pu rfl rfl ?_
        refine SL_yes rfl ?_
        refine lw (v := .slice _ _ _) B1 5 rfl rfl rfl rfl ?_
        refine SL_yes rfl ?_
        refine pu rfl rfl ?_
        refine SL_yes rfl ?_
        refine pc rfl rfl (fun c31 => ?_) (fun c31 => ?_)
        · skip
          refine pB rfl rfl ?_
          refine SL_nil ?_
          refine nx ?_
          refine SWP_ct rfl ?_
          refine SWP_seq ?_
          refine SWP_region ?_
          refine pI rfl rfl ?_
          refine SL_nil ?_
          refine nx ?_
          refine SWP_ret ?_
          refine nr ?_
          refine nr ?_
          refine fin [_] ⟨rfl, trivial⟩ ?_
          refine congrArg (Value.int .i64) ?_
          first | (exfalso; omega) | exact aE4 b7 | exact aE7 b7 (by omega) | exact aE2 b7 (by omega) (by omega) | (rw [aEf b7 (by omega) (by omega)]; first | rw [if_pos (by omega)] | rw [if_neg (by omega), if_pos (by omega)] | (rw [if_neg (by omega), if_neg (by omega)]; first | exact (allE2 hx (by omega)).symm | exact (allE0 hall (by omega)).symm)) | (rw [aEs b7 (by omega) (by omega)]; first | rw [if_pos (by omega)] | rw [if_neg (by omega), if_pos (by omega)] | rw [if_neg (by omega), if_neg (by omega), if_pos (by omega)] | (rw [if_neg (by omega), if_neg (by omega), if_neg (by omega)]; first | exact (allE2 hx (by omega)).symm | exact (allE0 hall (by omega)).symm))
        refine pB rfl rfl ?_
        refine SL_nil ?_
        refine nx ?_
        refine SWP_cf rfl ?_
        refine SWP_skip ?_
        refine nx ?_
        refine SWP_seq ?_
        refine SWP_seq ?_
        refine SWP_region ?_
        refine pu rfl rfl ?_
        refine lw (v := .slice _ _ _) B1 3 rfl rfl rfl rfl ?_
        refine pu rfl rfl ?_
        refine SL_pcall rfl rfl cb36 (inR _ _ _) rfl ?_
        refine psp 36 rfl (fun c36 => ?_) (fun c36 => ?_)
        · skip
          refine pB rfl rfl ?_
          refine SL_nil ?_
          refine nx ?_
          refine SWP_cf rfl ?_
          refine SWP_skip ?_
          refine nx ?_
          refine SWP_seq ?_
          refine SWP_seq ?_
          refine SWP_region ?_
          refine pI rfl rfl ?_
          refine SL_nil ?_
          refine nx ?_
          refine SWP_block ?_
          refine SWP_loop [2, 3, 38, 39, 40, 41, 42, 43, 44, 45, 46, 47, 48, 49, 50, 51] [3]
              (fun vs σ' m' => ∃ (i : Nat), vs = [.int .i64 (i : Nat)] ∧ i ≤ a.factors.length ∧ (∀ x ∈ a.factors.take i, (1 : Int) ≤ x ∧ x ≤ 100) ∧ σ' = [(B1, Cells 47 a.enc)] ∧ m = m')
              (fun vs => a.factors.length - nOf (vs.getD 0 undef)) rfl ?_ ?_
          · exact ⟨0, rfl, by omega, by simp, rfl, rfl⟩
          intro u0 vs0 σ0 m0 hJ0 _
          obtain ⟨i, rfl, hi, hall, rfl, rfl⟩ := hJ0
          dsimp only [Addon.enc]
          refine SWP_seq ?_
          refine SWP_seq ?_
          refine SWP_region ?_
          first | refine pI rfl rfl ?_ | refine pu rfl rfl ?_
          refine pu rfl rfl ?_
          refine lw (v := .slice _ _ _) B1 3 rfl rfl rfl rfl ?_
          refine pu rfl rfl ?_
          refine pc rfl rfl (fun c42 => ?_) (fun c42 => ?_)
          · skip
            refine SL_nil ?_
            refine nx ?_
            refine SWP_ct rfl ?_
            refine SWP_skip ?_
            refine nx ?_
            refine SWP_seq ?_
            refine SWP_block ?_
            refine SWP_seq ?_
            obtain ⟨x, hx⟩ : ∃ x, a.factors[i]? = some x := ⟨_, List.getElem?_eq_getElem (by omega)⟩
            obtain ⟨ad, had, _, hat⟩ := hf.atI hx
            refine SWP_region ?_
            refine pu rfl rfl ?_
            refine lw (v := .slice _ _ _) B1 3 rfl rfl rfl rfl ?_
            first | refine pI rfl rfl ?_ | refine pu rfl rfl ?_
            rw [had]
            first | refine ia (es := 1) rfl rfl rfl (Nat.mul_one _) rfl rfl (by omega) rfl ?_ | refine iai (es := 1) rfl rfl rfl (Nat.mul_one _) rfl rfl (by omega) (by omega) rfl ?_
            rw [← had]
            refine ldA (v := .int .i64 _) rfl (by assumption) rfl rfl ?_
            refine SL_pcall rfl rfl cb36 (inR _ _ _) rfl ?_
            refine psp 50 rfl (fun c50 => ?_) (fun c50 => ?_)
            · skip
              refine pB rfl rfl ?_
              refine SL_nil ?_
              refine nx ?_
              refine SWP_cf rfl ?_
              refine SWP_skip ?_
              refine nb ?_
              refine nx ?_
              refine SWP_region ?_
              first | refine pI rfl rfl ?_ | refine pu rfl rfl ?_
              first | refine pw rfl rfl (w64 (by omega) (by omega)) ?_ | refine pu rfl rfl ?_
              refine pI rfl rfl ?_
              refine SL_nil ?_
              refine nx ?_
              refine ⟨by repeat (first | exact Under.upds rfl (Under.hav _ _ _) | exact Under.hav _ _ _ | refine Under.upd rfl ?_ | refine Under.upds rfl ?_ | refine Under.hav2 rfl ?_), ?_, ?_⟩
              · refine ⟨i + 1, rfl, by omega, fun y hy => ?_, rfl, rfl⟩
                rw [take_snocA hx] at hy
                rcases List.mem_append.1 hy with hy | hy
                · exact hall y hy
                · rw [List.mem_singleton.1 hy]; omega
              · simp only [L_vals, List.map, List.getD]; show a.factors.length - (i + 1) < a.factors.length - i; omega
            refine pB rfl rfl ?_
            refine SL_nil ?_
            refine nx ?_
            refine SWP_ct rfl ?_
            refine SWP_seq ?_
            refine SWP_region ?_
            refine pI rfl rfl ?_
            refine SL_nil ?_
            refine nx ?_
            refine SWP_ret ?_
            refine br ?_
            refine nr ?_
            refine nr ?_
            refine br ?_
            refine nr ?_
            refine nr ?_
            refine fin [_] ⟨rfl, trivial⟩ ?_
            refine congrArg (Value.int .i64) ?_
            first | (exfalso; omega) | exact aE4 b7 | exact aE7 b7 (by omega) | exact aE2 b7 (by omega) (by omega) | (rw [aEf b7 (by omega) (by omega)]; first | rw [if_pos (by omega)] | rw [if_neg (by omega), if_pos (by omega)] | (rw [if_neg (by omega), if_neg (by omega)]; first | exact (allE2 hx (by omega)).symm | exact (allE0 hall (by omega)).symm)) | (rw [aEs b7 (by omega) (by omega)]; first | rw [if_pos (by omega)] | rw [if_neg (by omega), if_pos (by omega)] | rw [if_neg (by omega), if_neg (by omega), if_pos (by omega)] | (rw [if_neg (by omega), if_neg (by omega), if_neg (by omega)]; first | exact (allE2 hx (by omega)).symm | exact (allE0 hall (by omega)).symm))
          refine SL_nil ?_
          refine nx ?_
          refine SWP_cf rfl ?_
          refine SWP_exit ?_
          refine ne ?_
          refine ne ?_
          refine be rfl ?_
          refine nx ?_
          refine SWP_seq ?_
          refine SWP_region ?_
          refine pI rfl rfl ?_
          refine SL_nil ?_
          refine nx ?_
          refine SWP_ret ?_
          refine nr ?_
          refine fin [_] ⟨rfl, trivial⟩ ?_
          refine congrArg (Value.int .i64) ?_
          first | (exfalso; omega) | exact aE4 b7 | exact aE7 b7 (by omega) | exact aE2 b7 (by omega) (by omega) | (rw [aEf b7 (by omega) (by omega)]; first | rw [if_pos (by omega)] | rw [if_neg (by omega), if_pos (by omega)] | (rw [if_neg (by omega), if_neg (by omega)]; first | exact (allE2 hx (by omega)).symm | exact (allE0 hall (by omega)).symm)) | (rw [aEs b7 (by omega) (by omega)]; first | rw [if_pos (by omega)] | rw [if_neg (by omega), if_pos (by omega)] | rw [if_neg (by omega), if_neg (by omega), if_pos (by omega)] | (rw [if_neg (by omega), if_neg (by omega), if_neg (by omega)]; first | exact (allE2 hx (by omega)).symm | exact (allE0 hall (by omega)).symm))
        refine pB rfl rfl ?_
        refine SL_nil ?_
        refine nx ?_
        refine SWP_ct rfl ?_
        refine SWP_seq ?_
        refine SWP_region ?_
        refine pI rfl rfl ?_
        refine SL_nil ?_
        refine nx ?_
        refine SWP_ret ?_
        refine nr ?_
        refine nr ?_
        refine fin [_] ⟨rfl, trivial⟩ ?_
        refine congrArg (Value.int .i64) ?_
        first | (exfalso; omega) | exact aE4 b7 | exact aE7 b7 (by omega) | exact aE2 b7 (by omega) (by omega) | (rw [aEf b7 (by omega) (by omega)]; first | rw [if_pos (by omega)] | rw [if_neg (by omega), if_pos (by omega)] | (rw [if_neg (by omega), if_neg (by omega)]; first | exact (allE2 hx (by omega)).symm | exact (allE0 hall (by omega)).symm)) | (rw [aEs b7 (by omega) (by omega)]; first | rw [if_pos (by omega)] | rw [if_neg (by omega), if_pos (by omega)] | rw [if_neg (by omega), if_neg (by omega), if_pos (by omega)] | (rw [if_neg (by omega), if_neg (by omega), if_neg (by omega)]; first | exact (allE2 hx (by omega)).symm | exact (allE0 hall (by omega)).symm))
      refine SL_nil ?_
      refine nx ?_
      refine SWP_cf rfl ?_
      refine SWP_skip ?_
      refine nx ?_
      refine SWP_seq ?_
      refine SWP_seq ?_
      refine SWP_region ?_
      refine pu rfl rfl ?_
      refine lw (v := .slice _ _ _) B1 3 rfl rfl rfl rfl ?_
      refine pu rfl rfl ?_
      refine pc rfl rfl (fun c55 => ?_) (fun c55 => ?_)
      · skip
        refine SL_nil ?_
        refine nx ?_
        refine SWP_ct rfl ?_
        refine SWP_seq ?_
        refine SWP_region ?_
        refine pI rfl rfl ?_
        refine SL_nil ?_
        refine nx ?_
        refine SWP_ret ?_
        refine nr ?_
        refine fin [_] ⟨rfl, trivial⟩ ?_
        refine congrArg (Value.int .i64) ?_
        first | (exfalso; omega) | exact aE4 b7 | exact aE7 b7 (by omega) | exact aE2 b7 (by omega) (by omega) | (rw [aEf b7 (by omega) (by omega)]; first | rw [if_pos (by omega)] | rw [if_neg (by omega), if_pos (by omega)] | (rw [if_neg (by omega), if_neg (by omega)]; first | exact (allE2 hx (by omega)).symm | exact (allE0 hall (by omega)).symm)) | (rw [aEs b7 (by omega) (by omega)]; first | rw [if_pos (by omega)] | rw [if_neg (by omega), if_pos (by omega)] | rw [if_neg (by omega), if_neg (by omega), if_pos (by omega)] | (rw [if_neg (by omega), if_neg (by omega), if_neg (by omega)]; first | exact (allE2 hx (by omega)).symm | exact (allE0 hall (by omega)).symm))
      refine SL_nil ?_
      refine nx ?_
      refine SWP_cf rfl ?_
      refine SWP_skip ?_
      refine nx ?_
      refine SWP_seq ?_
      refine SWP_seq ?_
      refine SWP_region ?_
      refine pu rfl rfl ?_
      refine lw (v := .int .i64 _) B1 4 rfl rfl rfl rfl ?_
      refine SL_pcall rfl rfl cb36 (inR _ _ _) rfl ?_
      refine psp 58 rfl (fun c58 => ?_) (fun c58 => ?_)
      · skip
        refine pB rfl rfl ?_
        refine SL_nil ?_
        refine nx ?_
        refine SWP_cf rfl ?_
        refine SWP_skip ?_
        refine nx ?_
        refine SWP_seq ?_
        refine SWP_seq ?_
        refine SWP_region ?_
        refine pu rfl rfl ?_
        refine lw (v := .slice _ _ _) B1 5 rfl rfl rfl rfl ?_
        refine pu rfl rfl ?_
        refine pu rfl rfl ?_
        refine lw (v := .int .i64 _) B1 4 rfl rfl rfl rfl ?_
        refine pc rfl rfl (fun c65 => ?_) (fun c65 => ?_)
        · skip
          refine SL_nil ?_
          refine nx ?_
          refine SWP_ct rfl ?_
          refine SWP_seq ?_
          refine SWP_region ?_
          refine pI rfl rfl ?_
          refine SL_nil ?_
          refine nx ?_
          refine SWP_ret ?_
          refine nr ?_
          refine fin [_] ⟨rfl, trivial⟩ ?_
          refine congrArg (Value.int .i64) ?_
          first | (exfalso; omega) | exact aE4 b7 | exact aE7 b7 (by omega) | exact aE2 b7 (by omega) (by omega) | (rw [aEf b7 (by omega) (by omega)]; first | rw [if_pos (by omega)] | rw [if_neg (by omega), if_pos (by omega)] | (rw [if_neg (by omega), if_neg (by omega)]; first | exact (allE2 hx (by omega)).symm | exact (allE0 hall (by omega)).symm)) | (rw [aEs b7 (by omega) (by omega)]; first | rw [if_pos (by omega)] | rw [if_neg (by omega), if_pos (by omega)] | rw [if_neg (by omega), if_neg (by omega), if_pos (by omega)] | (rw [if_neg (by omega), if_neg (by omega), if_neg (by omega)]; first | exact (allE2 hx (by omega)).symm | exact (allE0 hall (by omega)).symm))
        refine SL_nil ?_
        refine nx ?_
        refine SWP_cf rfl ?_
        refine SWP_skip ?_
        refine nx ?_
        refine SWP_seq ?_
        refine SWP_seq ?_
        refine SWP_region ?_
        refine pI rfl rfl ?_
        refine SL_nil ?_
        refine nx ?_
        refine SWP_block ?_
        refine SWP_loop [2, 4, 66, 67, 68, 69, 70, 71, 72, 73, 74, 75, 76, 77, 78, 79] [4]
            (fun vs σ' m' => ∃ (i : Nat), vs = [.int .i64 (i : Nat)] ∧ i ≤ a.prizes.length ∧ (∀ x ∈ a.prizes.take i, (0 : Int) ≤ x ∧ x ≤ 1000000000) ∧ σ' = [(B1, Cells 47 a.enc)] ∧ m = m')
            (fun vs => a.prizes.length - nOf (vs.getD 0 undef)) rfl ?_ ?_
        · exact ⟨0, rfl, by omega, by simp, rfl, rfl⟩
        intro u1 vs1 σ1 m1 hJ1 _
        obtain ⟨i, rfl, hi, hall, rfl, rfl⟩ := hJ1
        dsimp only [Addon.enc]
        refine SWP_seq ?_
        refine SWP_seq ?_
        refine SWP_region ?_
        first | refine pI rfl rfl ?_ | refine pu rfl rfl ?_
        refine pu rfl rfl ?_
        refine lw (v := .slice _ _ _) B1 5 rfl rfl rfl rfl ?_
        refine pu rfl rfl ?_
        refine pc rfl rfl (fun c70 => ?_) (fun c70 => ?_)
        · skip
          refine SL_nil ?_
          refine nx ?_
          refine SWP_ct rfl ?_
          refine SWP_skip ?_
          refine nx ?_
          refine SWP_seq ?_
          refine SWP_block ?_
          refine SWP_seq ?_
          obtain ⟨x, hx⟩ : ∃ x, a.prizes[i]? = some x := ⟨_, List.getElem?_eq_getElem (by omega)⟩
          obtain ⟨ad, had, _, hat⟩ := hp.atI hx
          refine SWP_region ?_
          refine pu rfl rfl ?_
          refine lw (v := .slice _ _ _) B1 5 rfl rfl rfl rfl ?_
          first | refine pI rfl rfl ?_ | refine pu rfl rfl ?_
          rw [had]
          first | refine ia (es := 1) rfl rfl rfl (Nat.mul_one _) rfl rfl (by omega) rfl ?_ | refine iai (es := 1) rfl rfl rfl (Nat.mul_one _) rfl rfl (by omega) (by omega) rfl ?_
          rw [← had]
          refine ldA (v := .int .i64 _) rfl (by assumption) rfl rfl ?_
          refine SL_pcall rfl rfl cb36 (inR _ _ _) rfl ?_
          refine psp 78 rfl (fun c78 => ?_) (fun c78 => ?_)
          · skip
            refine pB rfl rfl ?_
            refine SL_nil ?_
            refine nx ?_
            refine SWP_cf rfl ?_
            refine SWP_skip ?_
            refine nb ?_
            refine nx ?_
            refine SWP_region ?_
            first | refine pI rfl rfl ?_ | refine pu rfl rfl ?_
            first | refine pw rfl rfl (w64 (by omega) (by omega)) ?_ | refine pu rfl rfl ?_
            refine pI rfl rfl ?_
            refine SL_nil ?_
            refine nx ?_
            refine ⟨by repeat (first | exact Under.upds rfl (Under.hav _ _ _) | exact Under.hav _ _ _ | refine Under.upd rfl ?_ | refine Under.upds rfl ?_ | refine Under.hav2 rfl ?_), ?_, ?_⟩
            · refine ⟨i + 1, rfl, by omega, fun y hy => ?_, rfl, rfl⟩
              rw [take_snocA hx] at hy
              rcases List.mem_append.1 hy with hy | hy
              · exact hall y hy
              · rw [List.mem_singleton.1 hy]; omega
            · simp only [L_vals, List.map, List.getD]; show a.prizes.length - (i + 1) < a.prizes.length - i; omega
          refine pB rfl rfl ?_
          refine SL_nil ?_
          refine nx ?_
          refine SWP_ct rfl ?_
          refine SWP_seq ?_
          refine SWP_region ?_
          refine pI rfl rfl ?_
          refine SL_nil ?_
          refine nx ?_
          refine SWP_ret ?_
          refine br ?_
          refine nr ?_
          refine nr ?_
          refine br ?_
          refine nr ?_
          refine fin [_] ⟨rfl, trivial⟩ ?_
          refine congrArg (Value.int .i64) ?_
          first | (exfalso; omega) | exact aE4 b7 | exact aE7 b7 (by omega) | exact aE2 b7 (by omega) (by omega) | (rw [aEf b7 (by omega) (by omega)]; first | rw [if_pos (by omega)] | rw [if_neg (by omega), if_pos (by omega)] | (rw [if_neg (by omega), if_neg (by omega)]; first | exact (allE2 hx (by omega)).symm | exact (allE0 hall (by omega)).symm)) | (rw [aEs b7 (by omega) (by omega)]; first | rw [if_pos (by omega)] | rw [if_neg (by omega), if_pos (by omega)] | rw [if_neg (by omega), if_neg (by omega), if_pos (by omega)] | (rw [if_neg (by omega), if_neg (by omega), if_neg (by omega)]; first | exact (allE2 hx (by omega)).symm | exact (allE0 hall (by omega)).symm))
        refine SL_nil ?_
        refine nx ?_
        refine SWP_cf rfl ?_
        refine SWP_exit ?_
        refine ne ?_
        refine ne ?_
        refine be rfl ?_
        refine nx ?_
        refine SWP_seq ?_
        refine SWP_region ?_
        refine pI rfl rfl ?_
        refine SL_nil ?_
        refine nx ?_
        refine SWP_ret ?_
        refine fin [_] ⟨rfl, trivial⟩ ?_
        refine congrArg (Value.int .i64) ?_
        first | (exfalso; omega) | exact aE4 b7 | exact aE7 b7 (by omega) | exact aE2 b7 (by omega) (by omega) | (rw [aEf b7 (by omega) (by omega)]; first | rw [if_pos (by omega)] | rw [if_neg (by omega), if_pos (by omega)] | (rw [if_neg (by omega), if_neg (by omega)]; first | exact (allE2 hx (by omega)).symm | exact (allE0 hall (by omega)).symm)) | (rw [aEs b7 (by omega) (by omega)]; first | rw [if_pos (by omega)] | rw [if_neg (by omega), if_pos (by omega)] | rw [if_neg (by omega), if_neg (by omega), if_pos (by omega)] | (rw [if_neg (by omega), if_neg (by omega), if_neg (by omega)]; first | exact (allE2 hx (by omega)).symm | exact (allE0 hall (by omega)).symm))
      refine pB rfl rfl ?_
      refine SL_nil ?_
      refine nx ?_
      refine SWP_ct rfl ?_
      refine SWP_seq ?_
      refine SWP_region ?_
      refine pI rfl rfl ?_
      refine SL_nil ?_
      refine nx ?_
      refine SWP_ret ?_
      refine nr ?_
      refine fin [_] ⟨rfl, trivial⟩ ?_
      refine congrArg (Value.int .i64) ?_
      first | (exfalso; omega) | exact aE4 b7 | exact aE7 b7 (by omega) | exact aE2 b7 (by omega) (by omega) | (rw [aEf b7 (by omega) (by omega)]; first | rw [if_pos (by omega)] | rw [if_neg (by omega), if_pos (by omega)] | (rw [if_neg (by omega), if_neg (by omega)]; first | exact (allE2 hx (by omega)).symm | exact (allE0 hall (by omega)).symm)) | (rw [aEs b7 (by omega) (by omega)]; first | rw [if_pos (by omega)] | rw [if_neg (by omega), if_pos (by omega)] | rw [if_neg (by omega), if_neg (by omega), if_pos (by omega)] | (rw [if_neg (by omega), if_neg (by omega), if_neg (by omega)]; first | exact (allE2 hx (by omega)).symm | exact (allE0 hall (by omega)).symm))
    refine pB rfl rfl ?_
    refine SL_nil ?_
    refine nx ?_
    refine SWP_ct rfl ?_
    refine SWP_seq ?_
    refine SWP_region ?_
    refine pI rfl rfl ?_
    refine SL_nil ?_
    refine nx ?_
    refine SWP_ret ?_
    refine nr ?_
    refine fin [_] ⟨rfl, trivial⟩ ?_
    refine congrArg (Value.int .i64) ?_
    first | (exfalso; omega) | exact aE4 b7 | exact aE7 b7 (by omega) | exact aE2 b7 (by omega) (by omega) | (rw [aEf b7 (by omega) (by omega)]; first | rw [if_pos (by omega)] | rw [if_neg (by omega), if_pos (by omega)] | (rw [if_neg (by omega), if_neg (by omega)]; first | exact (allE2 hx (by omega)).symm | exact (allE0 hall (by omega)).symm)) | (rw [aEs b7 (by omega) (by omega)]; first | rw [if_pos (by omega)] | rw [if_neg (by omega), if_pos (by omega)] | rw [if_neg (by omega), if_neg (by omega), if_pos (by omega)] | (rw [if_neg (by omega), if_neg (by omega), if_neg (by omega)]; first | exact (allE2 hx (by omega)).symm | exact (allE0 hall (by omega)).symm))
  refine pB rfl rfl ?_
  refine SL_nil ?_
  refine nx ?_
  refine SWP_ct rfl ?_
  refine SWP_seq ?_
  refine SWP_region ?_
  refine pI rfl rfl ?_
  refine SL_nil ?_
  refine nx ?_
  refine SWP_ret ?_
  refine nr ?_
  refine fin [_] ⟨rfl, trivial⟩ ?_
  refine congrArg (Value.int .i64) ?_
  first | (exfalso; omega) | exact aE4 b7 | exact aE7 b7 (by omega) | exact aE2 b7 (by omega) (by omega) | (rw [aEf b7 (by omega) (by omega)]; first | rw [if_pos (by omega)] | rw [if_neg (by omega), if_pos (by omega)] | (rw [if_neg (by omega), if_neg (by omega)]; first | exact (allE2 hx (by omega)).symm | exact (allE0 hall (by omega)).symm)) | (rw [aEs b7 (by omega) (by omega)]; first | rw [if_pos (by omega)] | rw [if_neg (by omega), if_pos (by omega)] | rw [if_neg (by omega), if_neg (by omega), if_pos (by omega)] | (rw [if_neg (by omega), if_neg (by omega), if_neg (by omega)]; first | exact (allE2 hx (by omega)).symm | exact (allE0 hall (by omega)).symm))

set_option maxRecDepth 100000 in
theorem tierR {m : Mem} (g : Game) (t : Tier) (hk : g.kind = 1 ∨ g.kind = 2) (hm : g.main ≤ 10) (hb : g.bonus ≤ 10) (he : g.extra ≤ 10) : PureCall Try.prog 59 [g.val, t.val] m (.int .i64 (tierErr g t)) := by
  refine CallsS.pure ?_
  dsimp only [Game.val, Tier.val]
  refine enter Try.func59 Try.ntmps59 rfl rfl ?_
  refine SWP_seq ?_
  refine SWP_region ?_
  refine bx (v := .agg _) rfl rfl (fun B2 => ?_)
  refine bx (v := .agg _) rfl rfl (fun B3 => ?_)
  refine pI rfl rfl ?_
  refine SL_nil ?_
  refine nx ?_
  refine SWP_seq ?_
  refine SWP_seq ?_
  refine SWP_region ?_
  refine pu rfl rfl ?_
  refine lw (v := .int .i64 _) B2 1 rfl rfl rfl rfl ?_
  refine pc rfl rfl (fun c8 => ?_) (fun c8 => ?_)
  · skip
    refine SL_nil ?_
    refine nx ?_
    refine SWP_ct rfl ?_
    refine SWP_seq ?_
    refine SWP_seq ?_
    refine SWP_region ?_
    refine pu rfl rfl ?_
    refine lw (v := .int .i64 _) B3 3 rfl rfl rfl rfl ?_
    refine pc rfl rfl (fun c11 => ?_) (fun c11 => ?_)
    · skip
      refine SL_nil ?_
      refine nx ?_
      refine SWP_ct rfl ?_
      refine SWP_seq ?_
      refine SWP_region ?_
      refine pI rfl rfl ?_
      refine SL_nil ?_
      refine nx ?_
      refine SWP_ret ?_
      refine nr ?_
      refine nr ?_
      refine fin [_] ⟨rfl, trivial⟩ ?_
      refine congrArg (Value.int .i64) ?_
      have hh : hitsErr g.kind g.main g.bonus g.extra t = 7 ∨ hitsErr g.kind g.main g.bonus g.extra t = 2 ∨ hitsErr g.kind g.main g.bonus g.extra t = 0 := by
        unfold hitsErr
        (repeat' split) <;> simp
      unfold tierErr
      first
        | (have e7 : hitsErr g.kind g.main g.bonus g.extra t = 7 := by
             unfold hitsErr
             first
               | rw [if_pos (by omega), if_pos (by omega)]
               | rw [if_neg (by omega), if_pos (by omega)]
           rw [e7, if_pos (by omega)]; done)
        | (have e2 : hitsErr g.kind g.main g.bonus g.extra t = 2 := by
             unfold hitsErr
             first
               | rw [if_pos (by omega), if_neg (by omega), if_pos (by omega)]
               | rw [if_neg (by omega), if_neg (by omega), if_pos (by omega)]
           rw [e2, if_pos (by omega)]; done)
        | (have e0 : hitsErr g.kind g.main g.bonus g.extra t = 0 := by
             unfold hitsErr
             first
               | rw [if_pos (by omega), if_neg (by omega), if_neg (by omega)]
               | rw [if_neg (by omega), if_neg (by omega), if_neg (by omega)]
           rw [e0, if_neg (by omega)]
           first | rw [if_pos (by omega)] | rw [if_neg (by omega), if_pos (by omega)] | rw [if_neg (by omega), if_neg (by omega)])
    refine SL_nil ?_
    refine nx ?_
    refine SWP_cf rfl ?_
    refine SWP_skip ?_
    refine nx ?_
    refine SWP_seq ?_
    refine SWP_region ?_
    refine pu rfl rfl ?_
    refine lw (v := .int .i64 _) B3 0 rfl rfl rfl rfl ?_
    refine pu rfl rfl ?_
    refine lw (v := .int .i64 _) B2 3 rfl rfl rfl rfl ?_
    refine SL_pcall rfl rfl cb36 (inR _ _ _) rfl ?_
    refine psp 16 rfl (fun c16 => ?_) (fun c16 => ?_)
    · skip
      refine pB rfl rfl ?_
      refine pB rfl rfl ?_
      refine SL_yes rfl ?_
      refine pu rfl rfl ?_
      refine SL_yes rfl ?_
      refine lw (v := .int .i64 _) B3 1 rfl rfl rfl rfl ?_
      refine SL_yes rfl ?_
      refine pu rfl rfl ?_
      refine SL_yes rfl ?_
      refine lw (v := .int .i64 _) B2 5 rfl rfl rfl rfl ?_
      refine SL_yes rfl ?_
      refine SL_pcall rfl rfl cb36 (inR _ _ _) rfl ?_
      refine psp 23 rfl (fun c23 => ?_) (fun c23 => ?_)
      · skip
        refine SL_yes rfl ?_
        refine pB rfl rfl ?_
        refine pB rfl rfl ?_
        refine pB rfl rfl ?_
        refine SL_yes rfl ?_
        refine pu rfl rfl ?_
        refine SL_yes rfl ?_
        refine lw (v := .int .i64 _) B3 2 rfl rfl rfl rfl ?_
        refine SL_yes rfl ?_
        refine pu rfl rfl ?_
        refine SL_yes rfl ?_
        refine lw (v := .int .i64 _) B2 7 rfl rfl rfl rfl ?_
        refine SL_yes rfl ?_
        refine SL_pcall rfl rfl cb36 (inR _ _ _) rfl ?_
        refine psp 31 rfl (fun c31 => ?_) (fun c31 => ?_)
        · skip
          refine SL_yes rfl ?_
          refine pB rfl rfl ?_
          refine pB rfl rfl ?_
          refine pB rfl rfl ?_
          refine SL_yes rfl ?_
          refine pu rfl rfl ?_
          refine SL_yes rfl ?_
          refine lw (v := .int .i64 _) B3 0 rfl rfl rfl rfl ?_
          refine SL_yes rfl ?_
          refine pu rfl rfl ?_
          refine SL_yes rfl ?_
          refine lw (v := .int .i64 _) B3 1 rfl rfl rfl rfl ?_
          refine SL_yes rfl ?_
          first | refine pw rfl rfl (w64 (by omega) (by omega)) ?_ | refine pu rfl rfl ?_
          refine SL_yes rfl ?_
          refine pu rfl rfl ?_
          refine SL_yes rfl ?_
          refine lw (v := .int .i64 _) B3 2 rfl rfl rfl rfl ?_
          refine SL_yes rfl ?_
          first | refine pw rfl rfl (w64 (by omega) (by omega)) ?_ | refine pu rfl rfl ?_
          refine SL_yes rfl ?_
          refine pc rfl rfl (fun c43 => ?_) (fun c43 => ?_)
          · skip
            refine pB rfl rfl ?_
            refine SL_nil ?_
            refine nx ?_
            refine SWP_ct rfl ?_
            refine SWP_seq ?_
            refine SWP_region ?_
            refine pI rfl rfl ?_
            refine SL_nil ?_
            refine nx ?_
            refine SWP_ret ?_
            refine nr ?_
            refine fin [_] ⟨rfl, trivial⟩ ?_
            refine congrArg (Value.int .i64) ?_
            have hh : hitsErr g.kind g.main g.bonus g.extra t = 7 ∨ hitsErr g.kind g.main g.bonus g.extra t = 2 ∨ hitsErr g.kind g.main g.bonus g.extra t = 0 := by
              unfold hitsErr
              (repeat' split) <;> simp
            unfold tierErr
            first
              | (have e7 : hitsErr g.kind g.main g.bonus g.extra t = 7 := by
                   unfold hitsErr
                   first
                     | rw [if_pos (by omega), if_pos (by omega)]
                     | rw [if_neg (by omega), if_pos (by omega)]
                 rw [e7, if_pos (by omega)]; done)
              | (have e2 : hitsErr g.kind g.main g.bonus g.extra t = 2 := by
                   unfold hitsErr
                   first
                     | rw [if_pos (by omega), if_neg (by omega), if_pos (by omega)]
                     | rw [if_neg (by omega), if_neg (by omega), if_pos (by omega)]
                 rw [e2, if_pos (by omega)]; done)
              | (have e0 : hitsErr g.kind g.main g.bonus g.extra t = 0 := by
                   unfold hitsErr
                   first
                     | rw [if_pos (by omega), if_neg (by omega), if_neg (by omega)]
                     | rw [if_neg (by omega), if_neg (by omega), if_neg (by omega)]
                 rw [e0, if_neg (by omega)]
                 first | rw [if_pos (by omega)] | rw [if_neg (by omega), if_pos (by omega)] | rw [if_neg (by omega), if_neg (by omega)])
          refine pB rfl rfl ?_
          refine SL_nil ?_
          refine nx ?_
          refine SWP_cf rfl ?_
          refine SWP_skip ?_
          refine nx ?_
          refine SWP_seq ?_
          refine SWP_seq ?_
          refine SWP_region ?_
          refine pu rfl rfl ?_
          refine lw (v := .int .i64 _) B3 4 rfl rfl rfl rfl ?_
          refine SL_pcall rfl rfl cb36 (inR _ _ _) rfl ?_
          refine psp 87 rfl (fun c87 => ?_) (fun c87 => ?_)
          · skip
            refine pB rfl rfl ?_
            refine SL_nil ?_
            refine nx ?_
            refine SWP_cf rfl ?_
            refine SWP_skip ?_
            refine nx ?_
            refine SWP_seq ?_
            refine SWP_seq ?_
            refine SWP_region ?_
            refine pu rfl rfl ?_
            refine lw (v := .int .i64 _) B3 5 rfl rfl rfl rfl ?_
            refine SL_pcall rfl rfl cb36 (inR _ _ _) rfl ?_
            refine psp 91 rfl (fun c91 => ?_) (fun c91 => ?_)
            · skip
              refine pB rfl rfl ?_
              refine SL_nil ?_
              refine nx ?_
              refine SWP_cf rfl ?_
              refine SWP_skip ?_
              refine nx ?_
              refine SWP_seq ?_
              refine SWP_region ?_
              refine pI rfl rfl ?_
              refine SL_nil ?_
              refine nx ?_
              refine SWP_ret ?_
              refine fin [_] ⟨rfl, trivial⟩ ?_
              refine congrArg (Value.int .i64) ?_
              have hh : hitsErr g.kind g.main g.bonus g.extra t = 7 ∨ hitsErr g.kind g.main g.bonus g.extra t = 2 ∨ hitsErr g.kind g.main g.bonus g.extra t = 0 := by
                unfold hitsErr
                (repeat' split) <;> simp
              unfold tierErr
              first
                | (have e7 : hitsErr g.kind g.main g.bonus g.extra t = 7 := by
                     unfold hitsErr
                     first
                       | rw [if_pos (by omega), if_pos (by omega)]
                       | rw [if_neg (by omega), if_pos (by omega)]
                   rw [e7, if_pos (by omega)]; done)
                | (have e2 : hitsErr g.kind g.main g.bonus g.extra t = 2 := by
                     unfold hitsErr
                     first
                       | rw [if_pos (by omega), if_neg (by omega), if_pos (by omega)]
                       | rw [if_neg (by omega), if_neg (by omega), if_pos (by omega)]
                   rw [e2, if_pos (by omega)]; done)
                | (have e0 : hitsErr g.kind g.main g.bonus g.extra t = 0 := by
                     unfold hitsErr
                     first
                       | rw [if_pos (by omega), if_neg (by omega), if_neg (by omega)]
                       | rw [if_neg (by omega), if_neg (by omega), if_neg (by omega)]
                   rw [e0, if_neg (by omega)]
                   first | rw [if_pos (by omega)] | rw [if_neg (by omega), if_pos (by omega)] | rw [if_neg (by omega), if_neg (by omega)])
            refine pB rfl rfl ?_
            refine SL_nil ?_
            refine nx ?_
            refine SWP_ct rfl ?_
            refine SWP_seq ?_
            refine SWP_region ?_
            refine pI rfl rfl ?_
            refine SL_nil ?_
            refine nx ?_
            refine SWP_ret ?_
            refine nr ?_
            refine fin [_] ⟨rfl, trivial⟩ ?_
            refine congrArg (Value.int .i64) ?_
            have hh : hitsErr g.kind g.main g.bonus g.extra t = 7 ∨ hitsErr g.kind g.main g.bonus g.extra t = 2 ∨ hitsErr g.kind g.main g.bonus g.extra t = 0 := by
              unfold hitsErr
              (repeat' split) <;> simp
            unfold tierErr
            first
              | (have e7 : hitsErr g.kind g.main g.bonus g.extra t = 7 := by
                   unfold hitsErr
                   first
                     | rw [if_pos (by omega), if_pos (by omega)]
                     | rw [if_neg (by omega), if_pos (by omega)]
                 rw [e7, if_pos (by omega)]; done)
              | (have e2 : hitsErr g.kind g.main g.bonus g.extra t = 2 := by
                   unfold hitsErr
                   first
                     | rw [if_pos (by omega), if_neg (by omega), if_pos (by omega)]
                     | rw [if_neg (by omega), if_neg (by omega), if_pos (by omega)]
                 rw [e2, if_pos (by omega)]; done)
              | (have e0 : hitsErr g.kind g.main g.bonus g.extra t = 0 := by
                   unfold hitsErr
                   first
                     | rw [if_pos (by omega), if_neg (by omega), if_neg (by omega)]
                     | rw [if_neg (by omega), if_neg (by omega), if_neg (by omega)]
                 rw [e0, if_neg (by omega)]
                 first | rw [if_pos (by omega)] | rw [if_neg (by omega), if_pos (by omega)] | rw [if_neg (by omega), if_neg (by omega)])
          refine pB rfl rfl ?_
          refine SL_nil ?_
          refine nx ?_
          refine SWP_ct rfl ?_
          refine SWP_seq ?_
          refine SWP_region ?_
          refine pI rfl rfl ?_
          refine SL_nil ?_
          refine nx ?_
          refine SWP_ret ?_
          refine nr ?_
          refine fin [_] ⟨rfl, trivial⟩ ?_
          refine congrArg (Value.int .i64) ?_
          have hh : hitsErr g.kind g.main g.bonus g.extra t = 7 ∨ hitsErr g.kind g.main g.bonus g.extra t = 2 ∨ hitsErr g.kind g.main g.bonus g.extra t = 0 := by
            unfold hitsErr
            (repeat' split) <;> simp
          unfold tierErr
          first
            | (have e7 : hitsErr g.kind g.main g.bonus g.extra t = 7 := by
                 unfold hitsErr
                 first
                   | rw [if_pos (by omega), if_pos (by omega)]
                   | rw [if_neg (by omega), if_pos (by omega)]
               rw [e7, if_pos (by omega)]; done)
            | (have e2 : hitsErr g.kind g.main g.bonus g.extra t = 2 := by
                 unfold hitsErr
                 first
                   | rw [if_pos (by omega), if_neg (by omega), if_pos (by omega)]
                   | rw [if_neg (by omega), if_neg (by omega), if_pos (by omega)]
               rw [e2, if_pos (by omega)]; done)
            | (have e0 : hitsErr g.kind g.main g.bonus g.extra t = 0 := by
                 unfold hitsErr
                 first
                   | rw [if_pos (by omega), if_neg (by omega), if_neg (by omega)]
                   | rw [if_neg (by omega), if_neg (by omega), if_neg (by omega)]
               rw [e0, if_neg (by omega)]
               first | rw [if_pos (by omega)] | rw [if_neg (by omega), if_pos (by omega)] | rw [if_neg (by omega), if_neg (by omega)])
        refine SL_yes rfl ?_
        refine pB rfl rfl ?_
        refine pB rfl rfl ?_
        refine pB rfl rfl ?_
        refine SL_no rfl rfl ?_
        refine SL_no rfl rfl ?_
        refine SL_no rfl rfl ?_
        refine SL_no rfl rfl ?_
        refine SL_no rfl rfl ?_
        refine SL_no rfl rfl ?_
        refine SL_no rfl rfl ?_
        refine SL_no rfl rfl ?_
        refine SL_no rfl rfl ?_
        refine pB rfl rfl ?_
        refine SL_nil ?_
        refine nx ?_
        refine SWP_ct rfl ?_
        refine SWP_seq ?_
        refine SWP_region ?_
        refine pI rfl rfl ?_
        refine SL_nil ?_
        refine nx ?_
        refine SWP_ret ?_
        refine nr ?_
        refine fin [_] ⟨rfl, trivial⟩ ?_
        refine congrArg (Value.int .i64) ?_
        have hh : hitsErr g.kind g.main g.bonus g.extra t = 7 ∨ hitsErr g.kind g.main g.bonus g.extra t = 2 ∨ hitsErr g.kind g.main g.bonus g.extra t = 0 := by
          unfold hitsErr
          (repeat' split) <;> simp
        unfold tierErr
        first
          | (have e7 : hitsErr g.kind g.main g.bonus g.extra t = 7 := by
               unfold hitsErr
               first
                 | rw [if_pos (by omega), if_pos (by omega)]
                 | rw [if_neg (by omega), if_pos (by omega)]
             rw [e7, if_pos (by omega)]; done)
          | (have e2 : hitsErr g.kind g.main g.bonus g.extra t = 2 := by
               unfold hitsErr
               first
                 | rw [if_pos (by omega), if_neg (by omega), if_pos (by omega)]
                 | rw [if_neg (by omega), if_neg (by omega), if_pos (by omega)]
             rw [e2, if_pos (by omega)]; done)
          | (have e0 : hitsErr g.kind g.main g.bonus g.extra t = 0 := by
               unfold hitsErr
               first
                 | rw [if_pos (by omega), if_neg (by omega), if_neg (by omega)]
                 | rw [if_neg (by omega), if_neg (by omega), if_neg (by omega)]
             rw [e0, if_neg (by omega)]
             first | rw [if_pos (by omega)] | rw [if_neg (by omega), if_pos (by omega)] | rw [if_neg (by omega), if_neg (by omega)])
      refine SL_yes rfl ?_
      refine pB rfl rfl ?_
      refine pB rfl rfl ?_
      refine pB rfl rfl ?_
      refine SL_no rfl rfl ?_
      refine SL_no rfl rfl ?_
      refine SL_no rfl rfl ?_
      refine SL_no rfl rfl ?_
      refine SL_no rfl rfl ?_
      refine SL_no rfl rfl ?_
      refine pB rfl rfl ?_
      refine pB rfl rfl ?_
      refine SL_no rfl rfl ?_
      refine SL_no rfl rfl ?_
      refine SL_no rfl rfl ?_
      refine SL_no rfl rfl ?_
      refine SL_no rfl rfl ?_
      refine SL_no rfl rfl ?_
      refine SL_no rfl rfl ?_
      refine SL_no rfl rfl ?_
      refine SL_no rfl rfl ?_
      refine pB rfl rfl ?_
      refine SL_nil ?_
      refine nx ?_
      refine SWP_ct rfl ?_
      refine SWP_seq ?_
      refine SWP_region ?_
      refine pI rfl rfl ?_
      refine SL_nil ?_
      refine nx ?_
      refine SWP_ret ?_
      refine nr ?_
      refine fin [_] ⟨rfl, trivial⟩ ?_
      refine congrArg (Value.int .i64) ?_
      have hh : hitsErr g.kind g.main g.bonus g.extra t = 7 ∨ hitsErr g.kind g.main g.bonus g.extra t = 2 ∨ hitsErr g.kind g.main g.bonus g.extra t = 0 := by
        unfold hitsErr
        (repeat' split) <;> simp
      unfold tierErr
      first
        | (have e7 : hitsErr g.kind g.main g.bonus g.extra t = 7 := by
             unfold hitsErr
             first
               | rw [if_pos (by omega), if_pos (by omega)]
               | rw [if_neg (by omega), if_pos (by omega)]
           rw [e7, if_pos (by omega)]; done)
        | (have e2 : hitsErr g.kind g.main g.bonus g.extra t = 2 := by
             unfold hitsErr
             first
               | rw [if_pos (by omega), if_neg (by omega), if_pos (by omega)]
               | rw [if_neg (by omega), if_neg (by omega), if_pos (by omega)]
           rw [e2, if_pos (by omega)]; done)
        | (have e0 : hitsErr g.kind g.main g.bonus g.extra t = 0 := by
             unfold hitsErr
             first
               | rw [if_pos (by omega), if_neg (by omega), if_neg (by omega)]
               | rw [if_neg (by omega), if_neg (by omega), if_neg (by omega)]
           rw [e0, if_neg (by omega)]
           first | rw [if_pos (by omega)] | rw [if_neg (by omega), if_pos (by omega)] | rw [if_neg (by omega), if_neg (by omega)])
    refine pB rfl rfl ?_
    refine pB rfl rfl ?_
    refine SL_no rfl rfl ?_
    refine SL_no rfl rfl ?_
    refine SL_no rfl rfl ?_
    refine SL_no rfl rfl ?_
    refine SL_no rfl rfl ?_
    refine SL_no rfl rfl ?_
    refine pB rfl rfl ?_
    refine pB rfl rfl ?_
    refine SL_no rfl rfl ?_
    refine SL_no rfl rfl ?_
    refine SL_no rfl rfl ?_
    refine SL_no rfl rfl ?_
    refine SL_no rfl rfl ?_
    refine SL_no rfl rfl ?_
    refine pB rfl rfl ?_
    refine pB rfl rfl ?_
    refine SL_no rfl rfl ?_
    refine SL_no rfl rfl ?_
    refine SL_no rfl rfl ?_
    refine SL_no rfl rfl ?_
    refine SL_no rfl rfl ?_
    refine SL_no rfl rfl ?_
    refine SL_no rfl rfl ?_
    refine SL_no rfl rfl ?_
    refine SL_no rfl rfl ?_
    refine pB rfl rfl ?_
    refine SL_nil ?_
    refine nx ?_
    refine SWP_ct rfl ?_
    refine SWP_seq ?_
    refine SWP_region ?_
    refine pI rfl rfl ?_
    refine SL_nil ?_
    refine nx ?_
    refine SWP_ret ?_
    refine nr ?_
    refine fin [_] ⟨rfl, trivial⟩ ?_
    refine congrArg (Value.int .i64) ?_
    have hh : hitsErr g.kind g.main g.bonus g.extra t = 7 ∨ hitsErr g.kind g.main g.bonus g.extra t = 2 ∨ hitsErr g.kind g.main g.bonus g.extra t = 0 := by
      unfold hitsErr
      (repeat' split) <;> simp
    unfold tierErr
    first
      | (have e7 : hitsErr g.kind g.main g.bonus g.extra t = 7 := by
           unfold hitsErr
           first
             | rw [if_pos (by omega), if_pos (by omega)]
             | rw [if_neg (by omega), if_pos (by omega)]
         rw [e7, if_pos (by omega)]; done)
      | (have e2 : hitsErr g.kind g.main g.bonus g.extra t = 2 := by
           unfold hitsErr
           first
             | rw [if_pos (by omega), if_neg (by omega), if_pos (by omega)]
             | rw [if_neg (by omega), if_neg (by omega), if_pos (by omega)]
         rw [e2, if_pos (by omega)]; done)
      | (have e0 : hitsErr g.kind g.main g.bonus g.extra t = 0 := by
           unfold hitsErr
           first
             | rw [if_pos (by omega), if_neg (by omega), if_neg (by omega)]
             | rw [if_neg (by omega), if_neg (by omega), if_neg (by omega)]
         rw [e0, if_neg (by omega)]
         first | rw [if_pos (by omega)] | rw [if_neg (by omega), if_pos (by omega)] | rw [if_neg (by omega), if_neg (by omega)])
  refine SL_nil ?_
  refine nx ?_
  refine SWP_cf rfl ?_
  refine SWP_seq ?_
  refine SWP_seq ?_
  refine SWP_region ?_
  refine pu rfl rfl ?_
  refine lw (v := .int .i64 _) B3 3 rfl rfl rfl rfl ?_
  refine SL_pcall rfl rfl cb36 (inR _ _ _) rfl ?_
  refine psp 47 rfl (fun c47 => ?_) (fun c47 => ?_)
  · skip
    refine pB rfl rfl ?_
    refine SL_nil ?_
    refine nx ?_
    refine SWP_cf rfl ?_
    refine SWP_skip ?_
    refine nx ?_
    refine SWP_seq ?_
    refine SWP_region ?_
    refine pu rfl rfl ?_
    refine lw (v := .int .i64 _) B3 3 rfl rfl rfl rfl ?_
    refine pc rfl rfl (fun c51 => ?_) (fun c51 => ?_)
    · skip
      refine pB rfl rfl ?_
      refine SL_no rfl rfl ?_
      refine SL_no rfl rfl ?_
      refine SL_no rfl rfl ?_
      refine pB rfl rfl ?_
      refine pB rfl rfl ?_
      refine SL_nil ?_
      refine nx ?_
      refine SWP_seq ?_
      refine SWP_region ?_
      refine pu rfl rfl ?_
      refine lw (v := .int .i64 _) B3 1 rfl rfl rfl rfl ?_
      refine pc rfl rfl (fun c59 => ?_) (fun c59 => ?_)
      · skip
        refine pB rfl rfl ?_
        refine SL_no rfl rfl ?_
        refine SL_no rfl rfl ?_
        refine SL_no rfl rfl ?_
        refine pB rfl rfl ?_
        refine pB rfl rfl ?_
        refine SL_no rfl rfl ?_
        refine SL_no rfl rfl ?_
        refine SL_no rfl rfl ?_
        refine SL_no rfl rfl ?_
        refine SL_no rfl rfl ?_
        refine SL_no rfl rfl ?_
        refine SL_no rfl rfl ?_
        refine SL_no rfl rfl ?_
        refine SL_no rfl rfl ?_
        refine pB rfl rfl ?_
        refine pB rfl rfl ?_
        refine SL_no rfl rfl ?_
        refine SL_no rfl rfl ?_
        refine SL_no rfl rfl ?_
        refine SL_no rfl rfl ?_
        refine SL_no rfl rfl ?_
        refine SL_no rfl rfl ?_
        refine SL_no rfl rfl ?_
        refine pB rfl rfl ?_
        refine SL_nil ?_
        refine nx ?_
        refine SWP_ct rfl ?_
        refine SWP_seq ?_
        refine SWP_region ?_
        refine pI rfl rfl ?_
        refine SL_nil ?_
        refine nx ?_
        refine SWP_ret ?_
        refine nr ?_
        refine fin [_] ⟨rfl, trivial⟩ ?_
        refine congrArg (Value.int .i64) ?_
        have hh : hitsErr g.kind g.main g.bonus g.extra t = 7 ∨ hitsErr g.kind g.main g.bonus g.extra t = 2 ∨ hitsErr g.kind g.main g.bonus g.extra t = 0 := by
          unfold hitsErr
          (repeat' split) <;> simp
        unfold tierErr
        first
          | (have e7 : hitsErr g.kind g.main g.bonus g.extra t = 7 := by
               unfold hitsErr
               first
                 | rw [if_pos (by omega), if_pos (by omega)]
                 | rw [if_neg (by omega), if_pos (by omega)]
             rw [e7, if_pos (by omega)]; done)
          | (have e2 : hitsErr g.kind g.main g.bonus g.extra t = 2 := by
               unfold hitsErr
               first
                 | rw [if_pos (by omega), if_neg (by omega), if_pos (by omega)]
                 | rw [if_neg (by omega), if_neg (by omega), if_pos (by omega)]
             rw [e2, if_pos (by omega)]; done)
          | (have e0 : hitsErr g.kind g.main g.bonus g.extra t = 0 := by
               unfold hitsErr
               first
                 | rw [if_pos (by omega), if_neg (by omega), if_neg (by omega)]
                 | rw [if_neg (by omega), if_neg (by omega), if_neg (by omega)]
             rw [e0, if_neg (by omega)]
             first | rw [if_pos (by omega)] | rw [if_neg (by omega), if_pos (by omega)] | rw [if_neg (by omega), if_neg (by omega)])
      refine pB rfl rfl ?_
      refine SL_yes rfl ?_
      refine pu rfl rfl ?_
      refine SL_yes rfl ?_
      refine lw (v := .int .i64 _) B3 2 rfl rfl rfl rfl ?_
      refine SL_yes rfl ?_
      refine pc rfl rfl (fun c63 => ?_) (fun c63 => ?_)
      · skip
        refine pB rfl rfl ?_
        refine pB rfl rfl ?_
        refine SL_no rfl rfl ?_
        refine SL_no rfl rfl ?_
        refine SL_no rfl rfl ?_
        refine SL_no rfl rfl ?_
        refine SL_no rfl rfl ?_
        refine SL_no rfl rfl ?_
        refine SL_no rfl rfl ?_
        refine SL_no rfl rfl ?_
        refine SL_no rfl rfl ?_
        refine pB rfl rfl ?_
        refine pB rfl rfl ?_
        refine SL_no rfl rfl ?_
        refine SL_no rfl rfl ?_
        refine SL_no rfl rfl ?_
        refine SL_no rfl rfl ?_
        refine SL_no rfl rfl ?_
        refine SL_no rfl rfl ?_
        refine SL_no rfl rfl ?_
        refine pB rfl rfl ?_
        refine SL_nil ?_
        refine nx ?_
        refine SWP_ct rfl ?_
        refine SWP_seq ?_
        refine SWP_region ?_
        refine pI rfl rfl ?_
        refine SL_nil ?_
        refine nx ?_
        refine SWP_ret ?_
        refine nr ?_
        refine fin [_] ⟨rfl, trivial⟩ ?_
        refine congrArg (Value.int .i64) ?_
        have hh : hitsErr g.kind g.main g.bonus g.extra t = 7 ∨ hitsErr g.kind g.main g.bonus g.extra t = 2 ∨ hitsErr g.kind g.main g.bonus g.extra t = 0 := by
          unfold hitsErr
          (repeat' split) <;> simp
        unfold tierErr
        first
          | (have e7 : hitsErr g.kind g.main g.bonus g.extra t = 7 := by
               unfold hitsErr
               first
                 | rw [if_pos (by omega), if_pos (by omega)]
                 | rw [if_neg (by omega), if_pos (by omega)]
             rw [e7, if_pos (by omega)]; done)
          | (have e2 : hitsErr g.kind g.main g.bonus g.extra t = 2 := by
               unfold hitsErr
               first
                 | rw [if_pos (by omega), if_neg (by omega), if_pos (by omega)]
                 | rw [if_neg (by omega), if_neg (by omega), if_pos (by omega)]
             rw [e2, if_pos (by omega)]; done)
          | (have e0 : hitsErr g.kind g.main g.bonus g.extra t = 0 := by
               unfold hitsErr
               first
                 | rw [if_pos (by omega), if_neg (by omega), if_neg (by omega)]
                 | rw [if_neg (by omega), if_neg (by omega), if_neg (by omega)]
             rw [e0, if_neg (by omega)]
             first | rw [if_pos (by omega)] | rw [if_neg (by omega), if_pos (by omega)] | rw [if_neg (by omega), if_neg (by omega)])
      refine pB rfl rfl ?_
      refine pB rfl rfl ?_
      refine SL_yes rfl ?_
      refine pB rfl rfl ?_
      refine SL_yes rfl ?_
      refine pB rfl rfl ?_
      refine SL_yes rfl ?_
      refine pu rfl rfl ?_
      refine SL_yes rfl ?_
      refine lw (v := .int .i64 _) B3 0 rfl rfl rfl rfl ?_
      refine SL_yes rfl ?_
      refine pu rfl rfl ?_
      refine SL_yes rfl ?_
      refine lw (v := .int .i64 _) B2 3 rfl rfl rfl rfl ?_
      refine SL_yes rfl ?_
      refine SL_pcall rfl rfl cb36 (inR _ _ _) rfl ?_
      refine psp 72 rfl (fun c72 => ?_) (fun c72 => ?_)
      · skip
        refine SL_yes rfl ?_
        refine pB rfl rfl ?_
        refine SL_yes rfl ?_
        refine pB rfl rfl ?_
        refine pB rfl rfl ?_
        refine pB rfl rfl ?_
        refine SL_yes rfl ?_
        refine pB rfl rfl ?_
        refine SL_yes rfl ?_
        refine pB rfl rfl ?_
        refine SL_yes rfl ?_
        refine pB rfl rfl ?_
        refine SL_no rfl rfl ?_
        refine SL_no rfl rfl ?_
        refine SL_no rfl rfl ?_
        refine SL_yes rfl ?_
        refine pB rfl rfl ?_
        refine pB rfl rfl ?_
        refine SL_nil ?_
        refine nx ?_
        refine SWP_cf rfl ?_
        refine SWP_skip ?_
        refine nx ?_
        refine SWP_seq ?_
        refine SWP_seq ?_
        refine SWP_region ?_
        refine pu rfl rfl ?_
        refine lw (v := .int .i64 _) B3 4 rfl rfl rfl rfl ?_
        refine SL_pcall rfl rfl cb36 (inR _ _ _) rfl ?_
        refine psp 87 rfl (fun c87 => ?_) (fun c87 => ?_)
        · skip
          refine pB rfl rfl ?_
          refine SL_nil ?_
          refine nx ?_
          refine SWP_cf rfl ?_
          refine SWP_skip ?_
          refine nx ?_
          refine SWP_seq ?_
          refine SWP_seq ?_
          refine SWP_region ?_
          refine pu rfl rfl ?_
          refine lw (v := .int .i64 _) B3 5 rfl rfl rfl rfl ?_
          refine SL_pcall rfl rfl cb36 (inR _ _ _) rfl ?_
          refine psp 91 rfl (fun c91 => ?_) (fun c91 => ?_)
          · skip
            refine pB rfl rfl ?_
            refine SL_nil ?_
            refine nx ?_
            refine SWP_cf rfl ?_
            refine SWP_skip ?_
            refine nx ?_
            refine SWP_seq ?_
            refine SWP_region ?_
            refine pI rfl rfl ?_
            refine SL_nil ?_
            refine nx ?_
            refine SWP_ret ?_
            refine fin [_] ⟨rfl, trivial⟩ ?_
            refine congrArg (Value.int .i64) ?_
            have hh : hitsErr g.kind g.main g.bonus g.extra t = 7 ∨ hitsErr g.kind g.main g.bonus g.extra t = 2 ∨ hitsErr g.kind g.main g.bonus g.extra t = 0 := by
              unfold hitsErr
              (repeat' split) <;> simp
            unfold tierErr
            first
              | (have e7 : hitsErr g.kind g.main g.bonus g.extra t = 7 := by
                   unfold hitsErr
                   first
                     | rw [if_pos (by omega), if_pos (by omega)]
                     | rw [if_neg (by omega), if_pos (by omega)]
                 rw [e7, if_pos (by omega)]; done)
              | (have e2 : hitsErr g.kind g.main g.bonus g.extra t = 2 := by
                   unfold hitsErr
                   first
                     | rw [if_pos (by omega), if_neg (by omega), if_pos (by omega)]
                     | rw [if_neg (by omega), if_neg (by omega), if_pos (by omega)]
                 rw [e2, if_pos (by omega)]; done)
              | (have e0 : hitsErr g.kind g.main g.bonus g.extra t = 0 := by
                   unfold hitsErr
                   first
                     | rw [if_pos (by omega), if_neg (by omega), if_neg (by omega)]
                     | rw [if_neg (by omega), if_neg (by omega), if_neg (by omega)]
                 rw [e0, if_neg (by omega)]
                 first | rw [if_pos (by omega)] | rw [if_neg (by omega), if_pos (by omega)] | rw [if_neg (by omega), if_neg (by omega)])
          refine pB rfl rfl ?_
          refine SL_nil ?_
          refine nx ?_
          refine SWP_ct rfl ?_
          refine SWP_seq ?_
          refine SWP_region ?_
          refine pI rfl rfl ?_
          refine SL_nil ?_
          refine nx ?_
          refine SWP_ret ?_
          refine nr ?_
          refine fin [_] ⟨rfl, trivial⟩ ?_
          refine congrArg (Value.int .i64) ?_
          have hh : hitsErr g.kind g.main g.bonus g.extra t = 7 ∨ hitsErr g.kind g.main g.bonus g.extra t = 2 ∨ hitsErr g.kind g.main g.bonus g.extra t = 0 := by
            unfold hitsErr
            (repeat' split) <;> simp
          unfold tierErr
          first
            | (have e7 : hitsErr g.kind g.main g.bonus g.extra t = 7 := by
                 unfold hitsErr
                 first
                   | rw [if_pos (by omega), if_pos (by omega)]
                   | rw [if_neg (by omega), if_pos (by omega)]
               rw [e7, if_pos (by omega)]; done)
            | (have e2 : hitsErr g.kind g.main g.bonus g.extra t = 2 := by
                 unfold hitsErr
                 first
                   | rw [if_pos (by omega), if_neg (by omega), if_pos (by omega)]
                   | rw [if_neg (by omega), if_neg (by omega), if_pos (by omega)]
               rw [e2, if_pos (by omega)]; done)
            | (have e0 : hitsErr g.kind g.main g.bonus g.extra t = 0 := by
                 unfold hitsErr
                 first
                   | rw [if_pos (by omega), if_neg (by omega), if_neg (by omega)]
                   | rw [if_neg (by omega), if_neg (by omega), if_neg (by omega)]
               rw [e0, if_neg (by omega)]
               first | rw [if_pos (by omega)] | rw [if_neg (by omega), if_pos (by omega)] | rw [if_neg (by omega), if_neg (by omega)])
        refine pB rfl rfl ?_
        refine SL_nil ?_
        refine nx ?_
        refine SWP_ct rfl ?_
        refine SWP_seq ?_
        refine SWP_region ?_
        refine pI rfl rfl ?_
        refine SL_nil ?_
        refine nx ?_
        refine SWP_ret ?_
        refine nr ?_
        refine fin [_] ⟨rfl, trivial⟩ ?_
        refine congrArg (Value.int .i64) ?_
        have hh : hitsErr g.kind g.main g.bonus g.extra t = 7 ∨ hitsErr g.kind g.main g.bonus g.extra t = 2 ∨ hitsErr g.kind g.main g.bonus g.extra t = 0 := by
          unfold hitsErr
          (repeat' split) <;> simp
        unfold tierErr
        first
          | (have e7 : hitsErr g.kind g.main g.bonus g.extra t = 7 := by
               unfold hitsErr
               first
                 | rw [if_pos (by omega), if_pos (by omega)]
                 | rw [if_neg (by omega), if_pos (by omega)]
             rw [e7, if_pos (by omega)]; done)
          | (have e2 : hitsErr g.kind g.main g.bonus g.extra t = 2 := by
               unfold hitsErr
               first
                 | rw [if_pos (by omega), if_neg (by omega), if_pos (by omega)]
                 | rw [if_neg (by omega), if_neg (by omega), if_pos (by omega)]
             rw [e2, if_pos (by omega)]; done)
          | (have e0 : hitsErr g.kind g.main g.bonus g.extra t = 0 := by
               unfold hitsErr
               first
                 | rw [if_pos (by omega), if_neg (by omega), if_neg (by omega)]
                 | rw [if_neg (by omega), if_neg (by omega), if_neg (by omega)]
             rw [e0, if_neg (by omega)]
             first | rw [if_pos (by omega)] | rw [if_neg (by omega), if_pos (by omega)] | rw [if_neg (by omega), if_neg (by omega)])
      refine SL_yes rfl ?_
      refine pB rfl rfl ?_
      refine SL_yes rfl ?_
      refine pB rfl rfl ?_
      refine pB rfl rfl ?_
      refine pB rfl rfl ?_
      refine SL_no rfl rfl ?_
      refine SL_no rfl rfl ?_
      refine SL_no rfl rfl ?_
      refine SL_no rfl rfl ?_
      refine SL_no rfl rfl ?_
      refine SL_no rfl rfl ?_
      refine SL_no rfl rfl ?_
      refine pB rfl rfl ?_
      refine SL_nil ?_
      refine nx ?_
      refine SWP_ct rfl ?_
      refine SWP_seq ?_
      refine SWP_region ?_
      refine pI rfl rfl ?_
      refine SL_nil ?_
      refine nx ?_
      refine SWP_ret ?_
      refine nr ?_
      refine fin [_] ⟨rfl, trivial⟩ ?_
      refine congrArg (Value.int .i64) ?_
      have hh : hitsErr g.kind g.main g.bonus g.extra t = 7 ∨ hitsErr g.kind g.main g.bonus g.extra t = 2 ∨ hitsErr g.kind g.main g.bonus g.extra t = 0 := by
        unfold hitsErr
        (repeat' split) <;> simp
      unfold tierErr
      first
        | (have e7 : hitsErr g.kind g.main g.bonus g.extra t = 7 := by
             unfold hitsErr
             first
               | rw [if_pos (by omega), if_pos (by omega)]
               | rw [if_neg (by omega), if_pos (by omega)]
           rw [e7, if_pos (by omega)]; done)
        | (have e2 : hitsErr g.kind g.main g.bonus g.extra t = 2 := by
             unfold hitsErr
             first
               | rw [if_pos (by omega), if_neg (by omega), if_pos (by omega)]
               | rw [if_neg (by omega), if_neg (by omega), if_pos (by omega)]
           rw [e2, if_pos (by omega)]; done)
        | (have e0 : hitsErr g.kind g.main g.bonus g.extra t = 0 := by
             unfold hitsErr
             first
               | rw [if_pos (by omega), if_neg (by omega), if_neg (by omega)]
               | rw [if_neg (by omega), if_neg (by omega), if_neg (by omega)]
           rw [e0, if_neg (by omega)]
           first | rw [if_pos (by omega)] | rw [if_neg (by omega), if_pos (by omega)] | rw [if_neg (by omega), if_neg (by omega)])
    refine pB rfl rfl ?_
    refine SL_yes rfl ?_
    refine pu rfl rfl ?_
    refine SL_yes rfl ?_
    refine lw (v := .int .i64 _) B3 3 rfl rfl rfl rfl ?_
    refine SL_yes rfl ?_
    refine pc rfl rfl (fun c55 => ?_) (fun c55 => ?_)
    · skip
      refine pB rfl rfl ?_
      refine pB rfl rfl ?_
      refine SL_nil ?_
      refine nx ?_
      refine SWP_seq ?_
      refine SWP_region ?_
      refine pu rfl rfl ?_
      refine lw (v := .int .i64 _) B3 1 rfl rfl rfl rfl ?_
      refine pc rfl rfl (fun c59 => ?_) (fun c59 => ?_)
      · skip
        refine pB rfl rfl ?_
        refine SL_no rfl rfl ?_
        refine SL_no rfl rfl ?_
        refine SL_no rfl rfl ?_
        refine pB rfl rfl ?_
        refine pB rfl rfl ?_
        refine SL_no rfl rfl ?_
        refine SL_no rfl rfl ?_
        refine SL_no rfl rfl ?_
        refine SL_no rfl rfl ?_
        refine SL_no rfl rfl ?_
        refine SL_no rfl rfl ?_
        refine SL_no rfl rfl ?_
        refine SL_no rfl rfl ?_
        refine SL_no rfl rfl ?_
        refine pB rfl rfl ?_
        refine pB rfl rfl ?_
        refine SL_no rfl rfl ?_
        refine SL_no rfl rfl ?_
        refine SL_no rfl rfl ?_
        refine SL_no rfl rfl ?_
        refine SL_no rfl rfl ?_
        refine SL_no rfl rfl ?_
        refine SL_no rfl rfl ?_
        refine pB rfl rfl ?_
        refine SL_nil ?_
        refine nx ?_
        refine SWP_ct rfl ?_
        refine SWP_seq ?_
        refine SWP_region ?_
        refine pI rfl rfl ?_
        refine SL_nil ?_
        refine nx ?_
        refine SWP_ret ?_
        refine nr ?_
        refine fin [_] ⟨rfl, trivial⟩ ?_
        refine congrArg (Value.int .i64) ?_
        have hh : hitsErr g.kind g.main g.bonus g.extra t = 7 ∨ hitsErr g.kind g.main g.bonus g.extra t = 2 ∨ hitsErr g.kind g.main g.bonus g.extra t = 0 := by
          unfold hitsErr
          (repeat' split) <;> simp
        unfold tierErr
        first
          | (have e7 : hitsErr g.kind g.main g.bonus g.extra t = 7 := by
               unfold hitsErr
               first
                 | rw [if_pos (by omega), if_pos (by omega)]
                 | rw [if_neg (by omega), if_pos (by omega)]
             rw [e7, if_pos (by omega)]; done)
          | (have e2 : hitsErr g.kind g.main g.bonus g.extra t = 2 := by
               unfold hitsErr
               first
                 | rw [if_pos (by omega), if_neg (by omega), if_pos (by omega)]
                 | rw [if_neg (by omega), if_neg (by omega), if_pos (by omega)]
             rw [e2, if_pos (by omega)]; done)
          | (have e0 : hitsErr g.kind g.main g.bonus g.extra t = 0 := by
               unfold hitsErr
               first
                 | rw [if_pos (by omega), if_neg (by omega), if_neg (by omega)]
                 | rw [if_neg (by omega), if_neg (by omega), if_neg (by omega)]
             rw [e0, if_neg (by omega)]
             first | rw [if_pos (by omega)] | rw [if_neg (by omega), if_pos (by omega)] | rw [if_neg (by omega), if_neg (by omega)])
      refine pB rfl rfl ?_
      refine SL_yes rfl ?_
      refine pu rfl rfl ?_
      refine SL_yes rfl ?_
      refine lw (v := .int .i64 _) B3 2 rfl rfl rfl rfl ?_
      refine SL_yes rfl ?_
      refine pc rfl rfl (fun c63 => ?_) (fun c63 => ?_)
      · skip
        refine pB rfl rfl ?_
        refine pB rfl rfl ?_
        refine SL_no rfl rfl ?_
        refine SL_no rfl rfl ?_
        refine SL_no rfl rfl ?_
        refine SL_no rfl rfl ?_
        refine SL_no rfl rfl ?_
        refine SL_no rfl rfl ?_
        refine SL_no rfl rfl ?_
        refine SL_no rfl rfl ?_
        refine SL_no rfl rfl ?_
        refine pB rfl rfl ?_
        refine pB rfl rfl ?_
        refine SL_no rfl rfl ?_
        refine SL_no rfl rfl ?_
        refine SL_no rfl rfl ?_
        refine SL_no rfl rfl ?_
        refine SL_no rfl rfl ?_
        refine SL_no rfl rfl ?_
        refine SL_no rfl rfl ?_
        refine pB rfl rfl ?_
        refine SL_nil ?_
        refine nx ?_
        refine SWP_ct rfl ?_
        refine SWP_seq ?_
        refine SWP_region ?_
        refine pI rfl rfl ?_
        refine SL_nil ?_
        refine nx ?_
        refine SWP_ret ?_
        refine nr ?_
        refine fin [_] ⟨rfl, trivial⟩ ?_
        refine congrArg (Value.int .i64) ?_
        have hh : hitsErr g.kind g.main g.bonus g.extra t = 7 ∨ hitsErr g.kind g.main g.bonus g.extra t = 2 ∨ hitsErr g.kind g.main g.bonus g.extra t = 0 := by
          unfold hitsErr
          (repeat' split) <;> simp
        unfold tierErr
        first
          | (have e7 : hitsErr g.kind g.main g.bonus g.extra t = 7 := by
               unfold hitsErr
               first
                 | rw [if_pos (by omega), if_pos (by omega)]
                 | rw [if_neg (by omega), if_pos (by omega)]
             rw [e7, if_pos (by omega)]; done)
          | (have e2 : hitsErr g.kind g.main g.bonus g.extra t = 2 := by
               unfold hitsErr
               first
                 | rw [if_pos (by omega), if_neg (by omega), if_pos (by omega)]
                 | rw [if_neg (by omega), if_neg (by omega), if_pos (by omega)]
             rw [e2, if_pos (by omega)]; done)
          | (have e0 : hitsErr g.kind g.main g.bonus g.extra t = 0 := by
               unfold hitsErr
               first
                 | rw [if_pos (by omega), if_neg (by omega), if_neg (by omega)]
                 | rw [if_neg (by omega), if_neg (by omega), if_neg (by omega)]
             rw [e0, if_neg (by omega)]
             first | rw [if_pos (by omega)] | rw [if_neg (by omega), if_pos (by omega)] | rw [if_neg (by omega), if_neg (by omega)])
      refine pB rfl rfl ?_
      refine pB rfl rfl ?_
      refine SL_yes rfl ?_
      refine pB rfl rfl ?_
      refine SL_yes rfl ?_
      refine pB rfl rfl ?_
      refine SL_yes rfl ?_
      refine pu rfl rfl ?_
      refine SL_yes rfl ?_
      refine lw (v := .int .i64 _) B3 0 rfl rfl rfl rfl ?_
      refine SL_yes rfl ?_
      refine pu rfl rfl ?_
      refine SL_yes rfl ?_
      refine lw (v := .int .i64 _) B2 3 rfl rfl rfl rfl ?_
      refine SL_yes rfl ?_
      refine SL_pcall rfl rfl cb36 (inR _ _ _) rfl ?_
      refine psp 72 rfl (fun c72 => ?_) (fun c72 => ?_)
      · skip
        refine SL_yes rfl ?_
        refine pB rfl rfl ?_
        refine SL_yes rfl ?_
        refine pB rfl rfl ?_
        refine pB rfl rfl ?_
        refine pB rfl rfl ?_
        refine SL_yes rfl ?_
        refine pB rfl rfl ?_
        refine SL_yes rfl ?_
        refine pB rfl rfl ?_
        refine SL_yes rfl ?_
        refine pB rfl rfl ?_
        refine SL_no rfl rfl ?_
        refine SL_no rfl rfl ?_
        refine SL_no rfl rfl ?_
        refine SL_yes rfl ?_
        refine pB rfl rfl ?_
        refine pB rfl rfl ?_
        refine SL_nil ?_
        refine nx ?_
        refine SWP_cf rfl ?_
        refine SWP_skip ?_
        refine nx ?_
        refine SWP_seq ?_
        refine SWP_seq ?_
        refine SWP_region ?_
        refine pu rfl rfl ?_
        refine lw (v := .int .i64 _) B3 4 rfl rfl rfl rfl ?_
        refine SL_pcall rfl rfl cb36 (inR _ _ _) rfl ?_
        refine psp 87 rfl (fun c87 => ?_) (fun c87 => ?_)
        · skip
          refine pB rfl rfl ?_
          refine SL_nil ?_
          refine nx ?_
          refine SWP_cf rfl ?_
          refine SWP_skip ?_
          refine nx ?_
          refine SWP_seq ?_
          refine SWP_seq ?_
          refine SWP_region ?_
          refine pu rfl rfl ?_
          refine lw (v := .int .i64 _) B3 5 rfl rfl rfl rfl ?_
          refine SL_pcall rfl rfl cb36 (inR _ _ _) rfl ?_
          refine psp 91 rfl (fun c91 => ?_) (fun c91 => ?_)
          · skip
            refine pB rfl rfl ?_
            refine SL_nil ?_
            refine nx ?_
            refine SWP_cf rfl ?_
            refine SWP_skip ?_
            refine nx ?_
            refine SWP_seq ?_
            refine SWP_region ?_
            refine pI rfl rfl ?_
            refine SL_nil ?_
            refine nx ?_
            refine SWP_ret ?_
            refine fin [_] ⟨rfl, trivial⟩ ?_
            refine congrArg (Value.int .i64) ?_
            have hh : hitsErr g.kind g.main g.bonus g.extra t = 7 ∨ hitsErr g.kind g.main g.bonus g.extra t = 2 ∨ hitsErr g.kind g.main g.bonus g.extra t = 0 := by
              unfold hitsErr
              (repeat' split) <;> simp
            unfold tierErr
            first
              | (have e7 : hitsErr g.kind g.main g.bonus g.extra t = 7 := by
                   unfold hitsErr
                   first
                     | rw [if_pos (by omega), if_pos (by omega)]
                     | rw [if_neg (by omega), if_pos (by omega)]
                 rw [e7, if_pos (by omega)]; done)
              | (have e2 : hitsErr g.kind g.main g.bonus g.extra t = 2 := by
                   unfold hitsErr
                   first
                     | rw [if_pos (by omega), if_neg (by omega), if_pos (by omega)]
                     | rw [if_neg (by omega), if_neg (by omega), if_pos (by omega)]
                 rw [e2, if_pos (by omega)]; done)
              | (have e0 : hitsErr g.kind g.main g.bonus g.extra t = 0 := by
                   unfold hitsErr
                   first
                     | rw [if_pos (by omega), if_neg (by omega), if_neg (by omega)]
                     | rw [if_neg (by omega), if_neg (by omega), if_neg (by omega)]
                 rw [e0, if_neg (by omega)]
                 first | rw [if_pos (by omega)] | rw [if_neg (by omega), if_pos (by omega)] | rw [if_neg (by omega), if_neg (by omega)])
          refine pB rfl rfl ?_
          refine SL_nil ?_
          refine nx ?_
          refine SWP_ct rfl ?_
          refine SWP_seq ?_
          refine SWP_region ?_
          refine pI rfl rfl ?_
          refine SL_nil ?_
          refine nx ?_
          refine SWP_ret ?_
          refine nr ?_
          refine fin [_] ⟨rfl, trivial⟩ ?_
          refine congrArg (Value.int .i64) ?_
          have hh : hitsErr g.kind g.main g.bonus g.extra t = 7 ∨ hitsErr g.kind g.main g.bonus g.extra t = 2 ∨ hitsErr g.kind g.main g.bonus g.extra t = 0 := by
            unfold hitsErr
            (repeat' split) <;> simp
          unfold tierErr
          first
            | (have e7 : hitsErr g.kind g.main g.bonus g.extra t = 7 := by
                 unfold hitsErr
                 first
                   | rw [if_pos (by omega), if_pos (by omega)]
                   | rw [if_neg (by omega), if_pos (by omega)]
               rw [e7, if_pos (by omega)]; done)
            | (have e2 : hitsErr g.kind g.main g.bonus g.extra t = 2 := by
                 unfold hitsErr
                 first
                   | rw [if_pos (by omega), if_neg (by omega), if_pos (by omega)]
                   | rw [if_neg (by omega), if_neg (by omega), if_pos (by omega)]
               rw [e2, if_pos (by omega)]; done)
            | (have e0 : hitsErr g.kind g.main g.bonus g.extra t = 0 := by
                 unfold hitsErr
                 first
                   | rw [if_pos (by omega), if_neg (by omega), if_neg (by omega)]
                   | rw [if_neg (by omega), if_neg (by omega), if_neg (by omega)]
               rw [e0, if_neg (by omega)]
               first | rw [if_pos (by omega)] | rw [if_neg (by omega), if_pos (by omega)] | rw [if_neg (by omega), if_neg (by omega)])
        refine pB rfl rfl ?_
        refine SL_nil ?_
        refine nx ?_
        refine SWP_ct rfl ?_
        refine SWP_seq ?_
        refine SWP_region ?_
        refine pI rfl rfl ?_
        refine SL_nil ?_
        refine nx ?_
        refine SWP_ret ?_
        refine nr ?_
        refine fin [_] ⟨rfl, trivial⟩ ?_
        refine congrArg (Value.int .i64) ?_
        have hh : hitsErr g.kind g.main g.bonus g.extra t = 7 ∨ hitsErr g.kind g.main g.bonus g.extra t = 2 ∨ hitsErr g.kind g.main g.bonus g.extra t = 0 := by
          unfold hitsErr
          (repeat' split) <;> simp
        unfold tierErr
        first
          | (have e7 : hitsErr g.kind g.main g.bonus g.extra t = 7 := by
               unfold hitsErr
               first
                 | rw [if_pos (by omega), if_pos (by omega)]
                 | rw [if_neg (by omega), if_pos (by omega)]
             rw [e7, if_pos (by omega)]; done)
          | (have e2 : hitsErr g.kind g.main g.bonus g.extra t = 2 := by
               unfold hitsErr
               first
                 | rw [if_pos (by omega), if_neg (by omega), if_pos (by omega)]
                 | rw [if_neg (by omega), if_neg (by omega), if_pos (by omega)]
             rw [e2, if_pos (by omega)]; done)
          | (have e0 : hitsErr g.kind g.main g.bonus g.extra t = 0 := by
               unfold hitsErr
               first
                 | rw [if_pos (by omega), if_neg (by omega), if_neg (by omega)]
                 | rw [if_neg (by omega), if_neg (by omega), if_neg (by omega)]
             rw [e0, if_neg (by omega)]
             first | rw [if_pos (by omega)] | rw [if_neg (by omega), if_pos (by omega)] | rw [if_neg (by omega), if_neg (by omega)])
      refine SL_yes rfl ?_
      refine pB rfl rfl ?_
      refine SL_yes rfl ?_
      refine pB rfl rfl ?_
      refine pB rfl rfl ?_
      refine pB rfl rfl ?_
      refine SL_no rfl rfl ?_
      refine SL_no rfl rfl ?_
      refine SL_no rfl rfl ?_
      refine SL_no rfl rfl ?_
      refine SL_no rfl rfl ?_
      refine SL_no rfl rfl ?_
      refine SL_no rfl rfl ?_
      refine pB rfl rfl ?_
      refine SL_nil ?_
      refine nx ?_
      refine SWP_ct rfl ?_
      refine SWP_seq ?_
      refine SWP_region ?_
      refine pI rfl rfl ?_
      refine SL_nil ?_
      refine nx ?_
      refine SWP_ret ?_
      refine nr ?_
      refine fin [_] ⟨rfl, trivial⟩ ?_
      refine congrArg (Value.int .i64) ?_
      have hh : hitsErr g.kind g.main g.bonus g.extra t = 7 ∨ hitsErr g.kind g.main g.bonus g.extra t = 2 ∨ hitsErr g.kind g.main g.bonus g.extra t = 0 := by
        unfold hitsErr
        (repeat' split) <;> simp
      unfold tierErr
      first
        | (have e7 : hitsErr g.kind g.main g.bonus g.extra t = 7 := by
             unfold hitsErr
             first
               | rw [if_pos (by omega), if_pos (by omega)]
               | rw [if_neg (by omega), if_pos (by omega)]
           rw [e7, if_pos (by omega)]; done)
        | (have e2 : hitsErr g.kind g.main g.bonus g.extra t = 2 := by
             unfold hitsErr
             first
               | rw [if_pos (by omega), if_neg (by omega), if_pos (by omega)]
               | rw [if_neg (by omega), if_neg (by omega), if_pos (by omega)]
           rw [e2, if_pos (by omega)]; done)
        | (have e0 : hitsErr g.kind g.main g.bonus g.extra t = 0 := by
             unfold hitsErr
             first
               | rw [if_pos (by omega), if_neg (by omega), if_neg (by omega)]
               | rw [if_neg (by omega), if_neg (by omega), if_neg (by omega)]
           rw [e0, if_neg (by omega)]
           first | rw [if_pos (by omega)] | rw [if_neg (by omega), if_pos (by omega)] | rw [if_neg (by omega), if_neg (by omega)])
    refine pB rfl rfl ?_
    refine pB rfl rfl ?_
    refine SL_nil ?_
    refine nx ?_
    refine SWP_seq ?_
    refine SWP_region ?_
    refine pu rfl rfl ?_
    refine lw (v := .int .i64 _) B3 1 rfl rfl rfl rfl ?_
    refine pc rfl rfl (fun c59 => ?_) (fun c59 => ?_)
    · skip
      refine pB rfl rfl ?_
      refine SL_no rfl rfl ?_
      refine SL_no rfl rfl ?_
      refine SL_no rfl rfl ?_
      refine pB rfl rfl ?_
      refine pB rfl rfl ?_
      refine SL_no rfl rfl ?_
      refine SL_no rfl rfl ?_
      refine SL_no rfl rfl ?_
      refine SL_no rfl rfl ?_
      refine SL_no rfl rfl ?_
      refine SL_no rfl rfl ?_
      refine SL_no rfl rfl ?_
      refine SL_no rfl rfl ?_
      refine SL_no rfl rfl ?_
      refine pB rfl rfl ?_
      refine pB rfl rfl ?_
      refine SL_no rfl rfl ?_
      refine SL_no rfl rfl ?_
      refine SL_no rfl rfl ?_
      refine SL_no rfl rfl ?_
      refine SL_no rfl rfl ?_
      refine SL_no rfl rfl ?_
      refine SL_no rfl rfl ?_
      refine pB rfl rfl ?_
      refine SL_nil ?_
      refine nx ?_
      refine SWP_ct rfl ?_
      refine SWP_seq ?_
      refine SWP_region ?_
      refine pI rfl rfl ?_
      refine SL_nil ?_
      refine nx ?_
      refine SWP_ret ?_
      refine nr ?_
      refine fin [_] ⟨rfl, trivial⟩ ?_
      refine congrArg (Value.int .i64) ?_
      have hh : hitsErr g.kind g.main g.bonus g.extra t = 7 ∨ hitsErr g.kind g.main g.bonus g.extra t = 2 ∨ hitsErr g.kind g.main g.bonus g.extra t = 0 := by
        unfold hitsErr
        (repeat' split) <;> simp
      unfold tierErr
      first
        | (have e7 : hitsErr g.kind g.main g.bonus g.extra t = 7 := by
             unfold hitsErr
             first
               | rw [if_pos (by omega), if_pos (by omega)]
               | rw [if_neg (by omega), if_pos (by omega)]
           rw [e7, if_pos (by omega)]; done)
        | (have e2 : hitsErr g.kind g.main g.bonus g.extra t = 2 := by
             unfold hitsErr
             first
               | rw [if_pos (by omega), if_neg (by omega), if_pos (by omega)]
               | rw [if_neg (by omega), if_neg (by omega), if_pos (by omega)]
           rw [e2, if_pos (by omega)]; done)
        | (have e0 : hitsErr g.kind g.main g.bonus g.extra t = 0 := by
             unfold hitsErr
             first
               | rw [if_pos (by omega), if_neg (by omega), if_neg (by omega)]
               | rw [if_neg (by omega), if_neg (by omega), if_neg (by omega)]
           rw [e0, if_neg (by omega)]
           first | rw [if_pos (by omega)] | rw [if_neg (by omega), if_pos (by omega)] | rw [if_neg (by omega), if_neg (by omega)])
    refine pB rfl rfl ?_
    refine SL_yes rfl ?_
    refine pu rfl rfl ?_
    refine SL_yes rfl ?_
    refine lw (v := .int .i64 _) B3 2 rfl rfl rfl rfl ?_
    refine SL_yes rfl ?_
    refine pc rfl rfl (fun c63 => ?_) (fun c63 => ?_)
    · skip
      refine pB rfl rfl ?_
      refine pB rfl rfl ?_
      refine SL_no rfl rfl ?_
      refine SL_no rfl rfl ?_
      refine SL_no rfl rfl ?_
      refine SL_no rfl rfl ?_
      refine SL_no rfl rfl ?_
      refine SL_no rfl rfl ?_
      refine SL_no rfl rfl ?_
      refine SL_no rfl rfl ?_
      refine SL_no rfl rfl ?_
      refine pB rfl rfl ?_
      refine pB rfl rfl ?_
      refine SL_no rfl rfl ?_
      refine SL_no rfl rfl ?_
      refine SL_no rfl rfl ?_
      refine SL_no rfl rfl ?_
      refine SL_no rfl rfl ?_
      refine SL_no rfl rfl ?_
      refine SL_no rfl rfl ?_
      refine pB rfl rfl ?_
      refine SL_nil ?_
      refine nx ?_
      refine SWP_ct rfl ?_
      refine SWP_seq ?_
      refine SWP_region ?_
      refine pI rfl rfl ?_
      refine SL_nil ?_
      refine nx ?_
      refine SWP_ret ?_
      refine nr ?_
      refine fin [_] ⟨rfl, trivial⟩ ?_
      refine congrArg (Value.int .i64) ?_
      have hh : hitsErr g.kind g.main g.bonus g.extra t = 7 ∨ hitsErr g.kind g.main g.bonus g.extra t = 2 ∨ hitsErr g.kind g.main g.bonus g.extra t = 0 := by
        unfold hitsErr
        (repeat' split) <;> simp
      unfold tierErr
      first
        | (have e7 : hitsErr g.kind g.main g.bonus g.extra t = 7 := by
             unfold hitsErr
             first
               | rw [if_pos (by omega), if_pos (by omega)]
               | rw [if_neg (by omega), if_pos (by omega)]
           rw [e7, if_pos (by omega)]; done)
        | (have e2 : hitsErr g.kind g.main g.bonus g.extra t = 2 := by
             unfold hitsErr
             first
               | rw [if_pos (by omega), if_neg (by omega), if_pos (by omega)]
               | rw [if_neg (by omega), if_neg (by omega), if_pos (by omega)]
           rw [e2, if_pos (by omega)]; done)
        | (have e0 : hitsErr g.kind g.main g.bonus g.extra t = 0 := by
             unfold hitsErr
             first
               | rw [if_pos (by omega), if_neg (by omega), if_neg (by omega)]
               | rw [if_neg (by omega), if_neg (by omega), if_neg (by omega)]
           rw [e0, if_neg (by omega)]
           first | rw [if_pos (by omega)] | rw [if_neg (by omega), if_pos (by omega)] | rw [if_neg (by omega), if_neg (by omega)])
    refine pB rfl rfl ?_
    refine pB rfl rfl ?_
    refine SL_yes rfl ?_
    refine pB rfl rfl ?_
    refine SL_yes rfl ?_
    refine pB rfl rfl ?_
    refine SL_no rfl rfl ?_
    refine SL_no rfl rfl ?_
    refine SL_no rfl rfl ?_
    refine SL_no rfl rfl ?_
    refine SL_no rfl rfl ?_
    refine SL_no rfl rfl ?_
    refine SL_yes rfl ?_
    refine pB rfl rfl ?_
    refine pB rfl rfl ?_
    refine pB rfl rfl ?_
    refine SL_yes rfl ?_
    refine pB rfl rfl ?_
    refine SL_yes rfl ?_
    refine pB rfl rfl ?_
    refine SL_yes rfl ?_
    refine pB rfl rfl ?_
    refine SL_yes rfl ?_
    refine pu rfl rfl ?_
    refine SL_yes rfl ?_
    refine lw (v := .int .i64 _) B3 0 rfl rfl rfl rfl ?_
    refine SL_yes rfl ?_
    refine pc rfl rfl (fun c82 => ?_) (fun c82 => ?_)
    · skip
      refine SL_yes rfl ?_
      refine pB rfl rfl ?_
      refine pB rfl rfl ?_
      refine SL_nil ?_
      refine nx ?_
      refine SWP_ct rfl ?_
      refine SWP_seq ?_
      refine SWP_region ?_
      refine pI rfl rfl ?_
      refine SL_nil ?_
      refine nx ?_
      refine SWP_ret ?_
      refine nr ?_
      refine fin [_] ⟨rfl, trivial⟩ ?_
      refine congrArg (Value.int .i64) ?_
      have hh : hitsErr g.kind g.main g.bonus g.extra t = 7 ∨ hitsErr g.kind g.main g.bonus g.extra t = 2 ∨ hitsErr g.kind g.main g.bonus g.extra t = 0 := by
        unfold hitsErr
        (repeat' split) <;> simp
      unfold tierErr
      first
        | (have e7 : hitsErr g.kind g.main g.bonus g.extra t = 7 := by
             unfold hitsErr
             first
               | rw [if_pos (by omega), if_pos (by omega)]
               | rw [if_neg (by omega), if_pos (by omega)]
           rw [e7, if_pos (by omega)]; done)
        | (have e2 : hitsErr g.kind g.main g.bonus g.extra t = 2 := by
             unfold hitsErr
             first
               | rw [if_pos (by omega), if_neg (by omega), if_pos (by omega)]
               | rw [if_neg (by omega), if_neg (by omega), if_pos (by omega)]
           rw [e2, if_pos (by omega)]; done)
        | (have e0 : hitsErr g.kind g.main g.bonus g.extra t = 0 := by
             unfold hitsErr
             first
               | rw [if_pos (by omega), if_neg (by omega), if_neg (by omega)]
               | rw [if_neg (by omega), if_neg (by omega), if_neg (by omega)]
           rw [e0, if_neg (by omega)]
           first | rw [if_pos (by omega)] | rw [if_neg (by omega), if_pos (by omega)] | rw [if_neg (by omega), if_neg (by omega)])
    refine SL_yes rfl ?_
    refine pB rfl rfl ?_
    refine pB rfl rfl ?_
    refine SL_nil ?_
    refine nx ?_
    refine SWP_cf rfl ?_
    refine SWP_skip ?_
    refine nx ?_
    refine SWP_seq ?_
    refine SWP_seq ?_
    refine SWP_region ?_
    refine pu rfl rfl ?_
    refine lw (v := .int .i64 _) B3 4 rfl rfl rfl rfl ?_
    refine SL_pcall rfl rfl cb36 (inR _ _ _) rfl ?_
    refine psp 87 rfl (fun c87 => ?_) (fun c87 => ?_)
    · skip
      refine pB rfl rfl ?_
      refine SL_nil ?_
      refine nx ?_
      refine SWP_cf rfl ?_
      refine SWP_skip ?_
      refine nx ?_
      refine SWP_seq ?_
      refine SWP_seq ?_
      refine SWP_region ?_
      refine pu rfl rfl ?_
      refine lw (v := .int .i64 _) B3 5 rfl rfl rfl rfl ?_
      refine SL_pcall rfl rfl cb36 (inR _ _ _) rfl ?_
      refine psp 91 rfl (fun c91 => ?_) (fun c91 => ?_)
      · skip
        refine pB rfl rfl ?_
        refine SL_nil ?_
        refine nx ?_
        refine SWP_cf rfl ?_
        refine SWP_skip ?_
        refine nx ?_
        refine SWP_seq ?_
        refine SWP_region ?_
        refine pI rfl rfl ?_
        refine SL_nil ?_
        refine nx ?_
        refine SWP_ret ?_
        refine fin [_] ⟨rfl, trivial⟩ ?_
        refine congrArg (Value.int .i64) ?_
        have hh : hitsErr g.kind g.main g.bonus g.extra t = 7 ∨ hitsErr g.kind g.main g.bonus g.extra t = 2 ∨ hitsErr g.kind g.main g.bonus g.extra t = 0 := by
          unfold hitsErr
          (repeat' split) <;> simp
        unfold tierErr
        first
          | (have e7 : hitsErr g.kind g.main g.bonus g.extra t = 7 := by
               unfold hitsErr
               first
                 | rw [if_pos (by omega), if_pos (by omega)]
                 | rw [if_neg (by omega), if_pos (by omega)]
             rw [e7, if_pos (by omega)]; done)
          | (have e2 : hitsErr g.kind g.main g.bonus g.extra t = 2 := by
               unfold hitsErr
               first
                 | rw [if_pos (by omega), if_neg (by omega), if_pos (by omega)]
                 | rw [if_neg (by omega), if_neg (by omega), if_pos (by omega)]
             rw [e2, if_pos (by omega)]; done)
          | (have e0 : hitsErr g.kind g.main g.bonus g.extra t = 0 := by
               unfold hitsErr
               first
                 | rw [if_pos (by omega), if_neg (by omega), if_neg (by omega)]
                 | rw [if_neg (by omega), if_neg (by omega), if_neg (by omega)]
             rw [e0, if_neg (by omega)]
             first | rw [if_pos (by omega)] | rw [if_neg (by omega), if_pos (by omega)] | rw [if_neg (by omega), if_neg (by omega)])
      refine pB rfl rfl ?_
      refine SL_nil ?_
      refine nx ?_
      refine SWP_ct rfl ?_
      refine SWP_seq ?_
      refine SWP_region ?_
      refine pI rfl rfl ?_
      refine SL_nil ?_
      refine nx ?_
      refine SWP_ret ?_
      refine nr ?_
      refine fin [_] ⟨rfl, trivial⟩ ?_
      refine congrArg (Value.int .i64) ?_
      have hh : hitsErr g.kind g.main g.bonus g.extra t = 7 ∨ hitsErr g.kind g.main g.bonus g.extra t = 2 ∨ hitsErr g.kind g.main g.bonus g.extra t = 0 := by
        unfold hitsErr
        (repeat' split) <;> simp
      unfold tierErr
      first
        | (have e7 : hitsErr g.kind g.main g.bonus g.extra t = 7 := by
             unfold hitsErr
             first
               | rw [if_pos (by omega), if_pos (by omega)]
               | rw [if_neg (by omega), if_pos (by omega)]
           rw [e7, if_pos (by omega)]; done)
        | (have e2 : hitsErr g.kind g.main g.bonus g.extra t = 2 := by
             unfold hitsErr
             first
               | rw [if_pos (by omega), if_neg (by omega), if_pos (by omega)]
               | rw [if_neg (by omega), if_neg (by omega), if_pos (by omega)]
           rw [e2, if_pos (by omega)]; done)
        | (have e0 : hitsErr g.kind g.main g.bonus g.extra t = 0 := by
             unfold hitsErr
             first
               | rw [if_pos (by omega), if_neg (by omega), if_neg (by omega)]
               | rw [if_neg (by omega), if_neg (by omega), if_neg (by omega)]
           rw [e0, if_neg (by omega)]
           first | rw [if_pos (by omega)] | rw [if_neg (by omega), if_pos (by omega)] | rw [if_neg (by omega), if_neg (by omega)])
    refine pB rfl rfl ?_
    refine SL_nil ?_
    refine nx ?_
    refine SWP_ct rfl ?_
    refine SWP_seq ?_
    refine SWP_region ?_
    refine pI rfl rfl ?_
    refine SL_nil ?_
    refine nx ?_
    refine SWP_ret ?_
    refine nr ?_
    refine fin [_] ⟨rfl, trivial⟩ ?_
    refine congrArg (Value.int .i64) ?_
    have hh : hitsErr g.kind g.main g.bonus g.extra t = 7 ∨ hitsErr g.kind g.main g.bonus g.extra t = 2 ∨ hitsErr g.kind g.main g.bonus g.extra t = 0 := by
      unfold hitsErr
      (repeat' split) <;> simp
    unfold tierErr
    first
      | (have e7 : hitsErr g.kind g.main g.bonus g.extra t = 7 := by
           unfold hitsErr
           first
             | rw [if_pos (by omega), if_pos (by omega)]
             | rw [if_neg (by omega), if_pos (by omega)]
         rw [e7, if_pos (by omega)]; done)
      | (have e2 : hitsErr g.kind g.main g.bonus g.extra t = 2 := by
           unfold hitsErr
           first
             | rw [if_pos (by omega), if_neg (by omega), if_pos (by omega)]
             | rw [if_neg (by omega), if_neg (by omega), if_pos (by omega)]
         rw [e2, if_pos (by omega)]; done)
      | (have e0 : hitsErr g.kind g.main g.bonus g.extra t = 0 := by
           unfold hitsErr
           first
             | rw [if_pos (by omega), if_neg (by omega), if_neg (by omega)]
             | rw [if_neg (by omega), if_neg (by omega), if_neg (by omega)]
         rw [e0, if_neg (by omega)]
         first | rw [if_pos (by omega)] | rw [if_neg (by omega), if_pos (by omega)] | rw [if_neg (by omega), if_neg (by omega)])
  refine pB rfl rfl ?_
  refine SL_nil ?_
  refine nx ?_
  refine SWP_ct rfl ?_
  refine SWP_seq ?_
  refine SWP_region ?_
  refine pI rfl rfl ?_
  refine SL_nil ?_
  refine nx ?_
  refine SWP_ret ?_
  refine nr ?_
  refine nr ?_
  refine fin [_] ⟨rfl, trivial⟩ ?_
  refine congrArg (Value.int .i64) ?_
  have hh : hitsErr g.kind g.main g.bonus g.extra t = 7 ∨ hitsErr g.kind g.main g.bonus g.extra t = 2 ∨ hitsErr g.kind g.main g.bonus g.extra t = 0 := by
    unfold hitsErr
    (repeat' split) <;> simp
  unfold tierErr
  first
    | (have e7 : hitsErr g.kind g.main g.bonus g.extra t = 7 := by
         unfold hitsErr
         first
           | rw [if_pos (by omega), if_pos (by omega)]
           | rw [if_neg (by omega), if_pos (by omega)]
       rw [e7, if_pos (by omega)]; done)
    | (have e2 : hitsErr g.kind g.main g.bonus g.extra t = 2 := by
         unfold hitsErr
         first
           | rw [if_pos (by omega), if_neg (by omega), if_pos (by omega)]
           | rw [if_neg (by omega), if_neg (by omega), if_pos (by omega)]
       rw [e2, if_pos (by omega)]; done)
    | (have e0 : hitsErr g.kind g.main g.bonus g.extra t = 0 := by
         unfold hitsErr
         first
           | rw [if_pos (by omega), if_neg (by omega), if_neg (by omega)]
           | rw [if_neg (by omega), if_neg (by omega), if_neg (by omega)]
       rw [e0, if_neg (by omega)]
       first | rw [if_pos (by omega)] | rw [if_neg (by omega), if_pos (by omega)] | rw [if_neg (by omega), if_neg (by omega)])

theorem modeR {m : Mem} (g : Game) (t : Tier) (h : 1 ≤ t.mode ∧ t.mode ≤ 4) : PureCall Try.prog 71 [g.val, t.val] m (.int .i64 (effM g t)) := by
  refine CallsS.pure ?_
  dsimp only [Game.val, Tier.val]
  refine enter Try.func71 Try.ntmps71 rfl rfl ?_
  refine SWP_seq ?_
  refine SWP_region ?_
  refine bx (v := .agg _) rfl rfl (fun B2 => ?_)
  refine bx (v := .agg _) rfl rfl (fun B3 => ?_)
  refine pI rfl rfl ?_
  refine SL_nil ?_
  refine nx ?_
  refine SWP_seq ?_
  refine SWP_seq ?_
  refine SWP_region ?_
  refine pu rfl rfl ?_
  refine lw (v := .int .i64 _) B3 3 rfl rfl rfl rfl ?_
  refine pc rfl rfl (fun c7 => ?_) (fun c7 => ?_)
  · skip
    refine pB rfl rfl ?_
    refine SL_yes rfl ?_
    refine pu rfl rfl ?_
    refine SL_yes rfl ?_
    refine lw (v := .int .i64 _) B3 0 rfl rfl rfl rfl ?_
    refine SL_yes rfl ?_
    refine pu rfl rfl ?_
    refine SL_yes rfl ?_
    refine lw (v := .int .i64 _) B2 3 rfl rfl rfl rfl ?_
    refine SL_yes rfl ?_
    refine pc rfl rfl (fun c13 => ?_) (fun c13 => ?_)
    · skip
      refine pB rfl rfl ?_
      refine SL_nil ?_
      refine nx ?_
      refine SWP_ct rfl ?_
      refine SWP_seq ?_
      refine SWP_region ?_
      refine pI rfl rfl ?_
      refine SL_nil ?_
      refine nx ?_
      refine SWP_ret ?_
      refine nr ?_
      refine fin [_] ⟨rfl, trivial⟩ ?_
      refine congrArg (Value.int .i64) ?_
      unfold effM
      first | rw [if_pos (by omega)] | rw [if_neg (by omega)]
    refine pB rfl rfl ?_
    refine SL_nil ?_
    refine nx ?_
    refine SWP_cf rfl ?_
    refine SWP_skip ?_
    refine nx ?_
    refine SWP_seq ?_
    refine SWP_region ?_
    refine pu rfl rfl ?_
    refine lw (v := .int .i64 _) B3 3 rfl rfl rfl rfl ?_
    refine pI rfl rfl ?_
    refine SL_nil ?_
    refine nx ?_
    refine SWP_ret ?_
    refine fin [_] ⟨rfl, trivial⟩ ?_
    refine congrArg (Value.int .i64) ?_
    unfold effM
    first | rw [if_pos (by omega)] | rw [if_neg (by omega)]
  refine pB rfl rfl ?_
  refine SL_no rfl rfl ?_
  refine SL_no rfl rfl ?_
  refine SL_no rfl rfl ?_
  refine SL_no rfl rfl ?_
  refine SL_no rfl rfl ?_
  refine pB rfl rfl ?_
  refine SL_nil ?_
  refine nx ?_
  refine SWP_cf rfl ?_
  refine SWP_skip ?_
  refine nx ?_
  refine SWP_seq ?_
  refine SWP_region ?_
  refine pu rfl rfl ?_
  refine lw (v := .int .i64 _) B3 3 rfl rfl rfl rfl ?_
  refine pI rfl rfl ?_
  refine SL_nil ?_
  refine nx ?_
  refine SWP_ret ?_
  refine fin [_] ⟨rfl, trivial⟩ ?_
  refine congrArg (Value.int .i64) ?_
  unfold effM
  first | rw [if_pos (by omega)] | rw [if_neg (by omega)]

theorem tier_digits {g : Game} {t : Tier} (h : tierErr g t = 0) (hk : g.kind = 2) : 1 ≤ t.mode ∧ t.mode ≤ 4 ∧ (t.mode ≤ 2 → t.main = 0) := by
  unfold tierErr at h
  have h0 : hitsErr g.kind g.main g.bonus g.extra t = 0 := by
    by_cases e : hitsErr g.kind g.main g.bonus g.extra t = 0
    · exact e
    · rw [if_pos e] at h; exact h
  unfold hitsErr at h0
  rw [if_pos hk] at h0
  split at h0
  · cases h0
  · split at h0
    · cases h0
    · omega
theorem effM_cases (g : Game) (t : Tier) : (effM g t = 1 ∧ (t.mode = 3 ∨ t.mode = 4) ∧ t.main = g.main) ∨ (effM g t = t.mode ∧ ¬ ((t.mode = 3 ∨ t.mode = 4) ∧ t.main = g.main)) := by
  unfold effM
  split
  · rename_i h; exact .inl ⟨rfl, h⟩
  · rename_i h; exact .inr ⟨rfl, h⟩

theorem coversR {m : Mem} (g : Game) (a b : Tier) (hk : g.kind = 1 ∨ g.kind = 2) (ha : tierErr g a = 0) (hb : tierErr g b = 0) : PureCall Try.prog 60 [g.val, a.val, b.val] m (.bool (decide (covP g a b))) := by
  refine CallsS.pure ?_
  dsimp only [Game.val, Tier.val]
  refine enter Try.func60 Try.ntmps60 rfl rfl ?_
  refine SWP_seq ?_
  refine SWP_region ?_
  refine bx (v := .agg _) rfl rfl (fun B3 => ?_)
  refine bx (v := .agg _) rfl rfl (fun B4 => ?_)
  refine bx (v := .agg _) rfl rfl (fun B5 => ?_)
  refine pB rfl rfl ?_
  refine SL_nil ?_
  refine nx ?_
  refine SWP_seq ?_
  refine SWP_seq ?_
  refine SWP_region ?_
  refine pu rfl rfl ?_
  refine lw (v := .int .i64 _) B3 1 rfl rfl rfl rfl ?_
  refine pc rfl rfl (fun c11 => ?_) (fun c11 => ?_)
  · skip
    refine SL_nil ?_
    refine nx ?_
    refine SWP_ct rfl ?_
    refine SWP_seq ?_
    refine SWP_region ?_
    refine pu rfl rfl ?_
    refine lw (v := .int .i64 _) B4 0 rfl rfl rfl rfl ?_
    refine pu rfl rfl ?_
    refine lw (v := .int .i64 _) B5 0 rfl rfl rfl rfl ?_
    refine pc rfl rfl (fun c16 => ?_) (fun c16 => ?_)
    · skip
      refine pB rfl rfl ?_
      refine SL_yes rfl ?_
      refine pu rfl rfl ?_
      refine SL_yes rfl ?_
      refine lw (v := .int .i64 _) B4 1 rfl rfl rfl rfl ?_
      refine SL_yes rfl ?_
      refine pu rfl rfl ?_
      refine SL_yes rfl ?_
      refine lw (v := .int .i64 _) B5 1 rfl rfl rfl rfl ?_
      refine SL_yes rfl ?_
      refine pc rfl rfl (fun c22 => ?_) (fun c22 => ?_)
      · skip
        refine pB rfl rfl ?_
        refine pB rfl rfl ?_
        refine SL_yes rfl ?_
        refine pu rfl rfl ?_
        refine SL_yes rfl ?_
        refine lw (v := .int .i64 _) B4 2 rfl rfl rfl rfl ?_
        refine SL_yes rfl ?_
        refine pu rfl rfl ?_
        refine SL_yes rfl ?_
        refine lw (v := .int .i64 _) B5 2 rfl rfl rfl rfl ?_
        refine SL_yes rfl ?_
        refine pu rfl rfl ?_
        refine pB rfl rfl ?_
        refine pB rfl rfl ?_
        refine SL_nil ?_
        refine nx ?_
        refine SWP_ret ?_
        refine nr ?_
        refine fin [_] ⟨rfl, trivial⟩ ?_
        refine congrArg Value.bool ?_
        first | exact (decide_eq_true (by unfold covP; omega)).symm | exact (decide_eq_false (by unfold covP; omega)).symm | exact decide_eq_decide.2 (by unfold covP; omega)
      refine pB rfl rfl ?_
      refine pB rfl rfl ?_
      refine SL_no rfl rfl ?_
      refine SL_no rfl rfl ?_
      refine SL_no rfl rfl ?_
      refine SL_no rfl rfl ?_
      refine SL_no rfl rfl ?_
      refine pB rfl rfl ?_
      refine pB rfl rfl ?_
      refine SL_nil ?_
      refine nx ?_
      refine SWP_ret ?_
      refine nr ?_
      refine fin [_] ⟨rfl, trivial⟩ ?_
      refine congrArg Value.bool ?_
      first | exact (decide_eq_true (by unfold covP; omega)).symm | exact (decide_eq_false (by unfold covP; omega)).symm | exact decide_eq_decide.2 (by unfold covP; omega)
    refine pB rfl rfl ?_
    refine SL_no rfl rfl ?_
    refine SL_no rfl rfl ?_
    refine SL_no rfl rfl ?_
    refine SL_no rfl rfl ?_
    refine SL_no rfl rfl ?_
    refine pB rfl rfl ?_
    refine pB rfl rfl ?_
    refine SL_no rfl rfl ?_
    refine SL_no rfl rfl ?_
    refine SL_no rfl rfl ?_
    refine SL_no rfl rfl ?_
    refine SL_no rfl rfl ?_
    refine pB rfl rfl ?_
    refine pB rfl rfl ?_
    refine SL_nil ?_
    refine nx ?_
    refine SWP_ret ?_
    refine nr ?_
    refine fin [_] ⟨rfl, trivial⟩ ?_
    refine congrArg Value.bool ?_
    first | exact (decide_eq_true (by unfold covP; omega)).symm | exact (decide_eq_false (by unfold covP; omega)).symm | exact decide_eq_decide.2 (by unfold covP; omega)
  refine SL_nil ?_
  refine nx ?_
  refine SWP_cf rfl ?_
  refine SWP_skip ?_
  refine nx ?_
  refine SWP_seq ?_
  have hda := tier_digits ha (by omega)
  have hdb := tier_digits hb (by omega)
  have hea := effM_cases g a
  have heb := effM_cases g b
  refine SWP_region ?_
  refine lw (v := .agg _) B3 0 rfl rfl rfl rfl ?_
  refine lw (v := .agg _) B4 0 rfl rfl rfl rfl ?_
  refine SL_pcall rfl rfl cb71 (modeR g a (by omega)) rfl ?_
  first | refine pI rfl rfl ?_ | refine pu rfl rfl ?_
  refine SL_nil ?_
  refine nx ?_
  refine SWP_seq ?_
  refine SWP_region ?_
  refine lw (v := .agg _) B3 0 rfl rfl rfl rfl ?_
  refine lw (v := .agg _) B5 0 rfl rfl rfl rfl ?_
  refine SL_pcall rfl rfl cb71 (modeR g b (by omega)) rfl ?_
  first | refine pI rfl rfl ?_ | refine pu rfl rfl ?_
  refine SL_nil ?_
  refine nx ?_
  refine SWP_seq ?_
  refine SWP_seq ?_
  refine SWP_region ?_
  first | refine pI rfl rfl ?_ | refine pu rfl rfl ?_
  refine pc rfl rfl (fun c38 => ?_) (fun c38 => ?_)
  · skip
    refine SL_nil ?_
    refine nx ?_
    refine SWP_ct rfl ?_
    refine SWP_seq ?_
    refine SWP_region ?_
    refine pB rfl rfl ?_
    refine SL_nil ?_
    refine nx ?_
    refine SWP_ret ?_
    refine nr ?_
    refine fin [_] ⟨rfl, trivial⟩ ?_
    refine congrArg Value.bool ?_
    first | exact (decide_eq_true (by unfold covP; omega)).symm | exact (decide_eq_false (by unfold covP; omega)).symm | exact decide_eq_decide.2 (by unfold covP; omega)
  refine SL_nil ?_
  refine nx ?_
  refine SWP_cf rfl ?_
  refine SWP_skip ?_
  refine nx ?_
  refine SWP_seq ?_
  refine SWP_region ?_
  first | refine pI rfl rfl ?_ | refine pu rfl rfl ?_
  first | refine pI rfl rfl ?_ | refine pu rfl rfl ?_
  refine pc rfl rfl (fun c41 => ?_) (fun c41 => ?_)
  · skip
    refine pB rfl rfl ?_
    refine SL_yes rfl ?_
    first | refine pI rfl rfl ?_ | refine pu rfl rfl ?_
    refine SL_yes rfl ?_
    refine pc rfl rfl (fun c44 => ?_) (fun c44 => ?_)
    · skip
      refine SL_yes rfl ?_
      refine pB rfl rfl ?_
      refine SL_no rfl rfl ?_
      refine SL_no rfl rfl ?_
      refine SL_no rfl rfl ?_
      refine SL_no rfl rfl ?_
      refine SL_no rfl rfl ?_
      refine SL_yes rfl ?_
      refine pB rfl rfl ?_
      refine pB rfl rfl ?_
      refine pB rfl rfl ?_
      refine SL_nil ?_
      refine nx ?_
      refine SWP_ret ?_
      refine fin [_] ⟨rfl, trivial⟩ ?_
      refine congrArg Value.bool ?_
      first | exact (decide_eq_true (by unfold covP; omega)).symm | exact (decide_eq_false (by unfold covP; omega)).symm | exact decide_eq_decide.2 (by unfold covP; omega)
    refine SL_yes rfl ?_
    refine pB rfl rfl ?_
    refine SL_yes rfl ?_
    refine pu rfl rfl ?_
    refine SL_yes rfl ?_
    refine lw (v := .int .i64 _) B4 0 rfl rfl rfl rfl ?_
    refine SL_yes rfl ?_
    refine pu rfl rfl ?_
    refine SL_yes rfl ?_
    refine lw (v := .int .i64 _) B5 0 rfl rfl rfl rfl ?_
    refine SL_yes rfl ?_
    refine pu rfl rfl ?_
    refine SL_yes rfl ?_
    refine pB rfl rfl ?_
    refine pB rfl rfl ?_
    refine pB rfl rfl ?_
    refine SL_nil ?_
    refine nx ?_
    refine SWP_ret ?_
    refine fin [_] ⟨rfl, trivial⟩ ?_
    refine congrArg Value.bool ?_
    first | exact (decide_eq_true (by unfold covP; omega)).symm | exact (decide_eq_false (by unfold covP; omega)).symm | exact decide_eq_decide.2 (by unfold covP; omega)
  refine pB rfl rfl ?_
  refine SL_no rfl rfl ?_
  refine SL_no rfl rfl ?_
  refine SL_no rfl rfl ?_
  refine SL_no rfl rfl ?_
  refine SL_no rfl rfl ?_
  refine SL_no rfl rfl ?_
  refine SL_no rfl rfl ?_
  refine SL_no rfl rfl ?_
  refine SL_no rfl rfl ?_
  refine pB rfl rfl ?_
  refine pB rfl rfl ?_
  refine SL_nil ?_
  refine nx ?_
  refine SWP_ret ?_
  refine fin [_] ⟨rfl, trivial⟩ ?_
  refine congrArg Value.bool ?_
  first | exact (decide_eq_true (by unfold covP; omega)).symm | exact (decide_eq_false (by unfold covP; omega)).symm | exact decide_eq_decide.2 (by unfold covP; omega)

end Go.Proofs.Ytkopdlglenejmaa

