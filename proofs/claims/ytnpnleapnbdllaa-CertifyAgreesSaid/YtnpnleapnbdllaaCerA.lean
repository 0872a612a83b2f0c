/- certify: lists that are the same, reports, who agrees and who dissents. -/
import Derived.Test.YtnpnleapnbdllaaMecX
import Derived.Test.YtnpnleapnbdllaaMech2
namespace Go.Proofs.Ytnpnleapnbdllaa
open Eng

theorem equalC {m : Mem} {v w : Value} {a b : List Int} (h : RL m intE 1 v a) (h' : RL m intE 1 w b) : PureCall Try.prog 29 [v, w] m (.bool (decide (a = b))) := by
  refine CallsS.pure ?_
  have hsm := h.small
  obtain ⟨pa, qc, rfl⟩ := h.len
  obtain ⟨pb, qd, rfl⟩ := h'.len
  refine enter Try.func29 Try.ntmps29 rfl rfl ?_
  refine SWP_seq ?_
  refine SWP_region ?_
  refine pB rfl rfl ?_
  refine SL_nil ?_
  refine nx ?_
  refine SWP_seq ?_
  refine SWP_seq ?_
  refine SWP_region ?_
  first | refine pL rfl rfl ?_ | refine pu rfl rfl ?_
  refine pu rfl rfl ?_
  first | refine pL rfl rfl ?_ | refine pu rfl rfl ?_
  refine pu rfl rfl ?_
  refine pc rfl rfl (fun c10 => ?_) (fun c10 => ?_)
  · skip
    refine SL_nil ?_
    refine nx ?_
    refine SWP_ct rfl ?_
    refine SWP_seq ?_
    refine SWP_region ?_
    refine pB rfl rfl ?_
    refine SL_nil ?_
    refine nx ?_
    refine SWP_ret ?_
    refine nr ?_
    refine fin [_] ⟨rfl, trivial⟩ ?_
    exact congrArg Value.bool (decide_eq_false fun e => by subst e; omega).symm
  refine SL_nil ?_
  refine nx ?_
  refine SWP_cf rfl ?_
  refine SWP_skip ?_
  refine nx ?_
  refine SWP_seq ?_
  refine SWP_seq ?_
  refine SWP_region ?_
  first | refine pL rfl rfl ?_ | refine pu rfl rfl ?_
  refine pu rfl rfl ?_
  refine pI rfl rfl ?_
  refine SL_nil ?_
  refine nx ?_
  refine SWP_block ?_
  refine SWP_loop [4, 5, 13, 14, 15, 16, 17, 18, 19, 20, 21, 22, 23, 24, 25] [13]
      (fun vs σ' m' => ∃ (i : Nat), vs = [.int .i64 (i : Nat)] ∧ i ≤ a.length ∧ (∀ j, j < i → a[j]? = b[j]?) ∧ σ' = [] ∧ m = m')
      (fun vs => a.length - nOf (vs.getD 0 undef)) rfl ?_ ?_
  · exact ⟨0, rfl, by omega, fun j hj => (by omega), rfl, rfl⟩
  intro u0 vs0 σ0 m0 hJ0 _
  obtain ⟨i, rfl, hi, hsame, rfl, rfl⟩ := hJ0
  refine SWP_seq ?_
  refine SWP_region ?_
  refine pc rfl rfl (fun c14 => ?_) (fun c14 => ?_)
  · skip
    refine SL_nil ?_
    refine nx ?_
    refine SWP_seq ?_
    refine SWP_ct rfl ?_
    refine SWP_skip ?_
    refine nx ?_
    refine SWP_seq ?_
    refine SWP_block ?_
    refine SWP_seq ?_
    refine SWP_region ?_
    first | refine pI rfl rfl ?_ | refine pu rfl rfl ?_
    first | refine pI rfl rfl ?_ | refine pu rfl rfl ?_
    refine SL_nil ?_
    refine nx ?_
    refine SWP_seq ?_
    obtain ⟨x, hx⟩ : ∃ x, a[i]? = some x := ⟨_, List.getElem?_eq_getElem (by omega)⟩
    obtain ⟨y, hy⟩ : ∃ y, b[i]? = some y := ⟨_, List.getElem?_eq_getElem (by omega)⟩
    obtain ⟨ad, e1, _, hat⟩ := h.atI hx
    cases e1
    obtain ⟨ad', e2, _, hat'⟩ := h'.atI hy
    cases e2
    refine SWP_draws (by kernel_rfl) (by kernel_rfl) ?_
    first | refine pL rfl rfl ?_ | refine pu rfl rfl ?_
    first | refine pI rfl rfl ?_ | refine pu rfl rfl ?_
    first | refine ia (es := 1) rfl rfl rfl (Nat.mul_one _) rfl rfl (by omega) rfl ?_ | refine iai (es := 1) rfl rfl rfl (Nat.mul_one _) rfl rfl (by omega) (by omega) rfl ?_
    refine ldA (v := .int .i64 _) rfl hat rfl rfl ?_
    first | refine pL rfl rfl ?_ | refine pu rfl rfl ?_
    first | refine pI rfl rfl ?_ | refine pu rfl rfl ?_
    first | refine ia (es := 1) rfl rfl rfl (Nat.mul_one _) rfl rfl (by omega) rfl ?_ | refine iai (es := 1) rfl rfl rfl (Nat.mul_one _) rfl rfl (by omega) (by omega) rfl ?_
    refine ldA (v := .int .i64 _) rfl hat' rfl rfl ?_
    refine pc rfl rfl (fun c24 => ?_) (fun c24 => ?_)
    · skip
      refine SL_nil ?_
      refine nx ?_
      refine SWP_ct rfl ?_
      refine SWP_seq ?_
      refine SWP_region ?_
      refine pB rfl rfl ?_
      refine SL_nil ?_
      refine nx ?_
      refine SWP_ret ?_
      refine br ?_
      refine nr ?_
      refine nr ?_
      refine br ?_
      refine nr ?_
      refine fin [_] ⟨rfl, trivial⟩ ?_
      exact congrArg Value.bool (decide_eq_false fun e => by subst e; rw [hx] at hy; cases hy; omega).symm
    refine SL_nil ?_
    refine nx ?_
    refine SWP_cf rfl ?_
    refine SWP_skip ?_
    refine nb ?_
    refine nx ?_
    refine SWP_region ?_
    first | refine pw rfl rfl (w64 (by omega) (by omega)) ?_ | refine pu rfl rfl ?_
    refine pI rfl rfl ?_
    refine SL_nil ?_
    refine nx ?_
    refine ⟨by repeat (first | exact Under.upds rfl (Under.hav _ _ _) | exact Under.hav _ _ _ | refine Under.upd rfl ?_), ?_, ?_⟩
    · refine ⟨i + 1, rfl, by omega, fun j hj => ?_, rfl, rfl⟩
      by_cases e : j = i
      · subst e
        rw [hx, hy, show x = y by omega]
      · exact hsame j (by omega)
    · simp only [L_vals, List.map, List.getD]; show a.length - (i + 1) < a.length - i; omega
  refine SL_nil ?_
  refine nx ?_
  refine SWP_seq ?_
  refine SWP_cf rfl ?_
  refine SWP_exit ?_
  refine ne ?_
  refine ne ?_
  refine be rfl ?_
  refine nx ?_
  refine SWP_seq ?_
  refine SWP_region ?_
  refine pB rfl rfl ?_
  refine SL_nil ?_
  refine nx ?_
  refine SWP_ret ?_
  refine fin [_] ⟨rfl, trivial⟩ ?_
  exact congrArg Value.bool (decide_eq_true (eq_of_get (by omega) fun j hj => hsame j (by omega))).symm

set_option maxRecDepth 100000 in
theorem sameC {m : Mem} {a b : Res} (ha : a.In m) (hb : b.In m) : PureCall Try.prog 14 [a.val, b.val] m (.bool (decide (sameR a b))) := by
  refine CallsS.pure ?_
  dsimp only [Res.val]
  refine enter Try.func14 Try.ntmps14 rfl rfl ?_
  refine SWP_seq ?_
  refine SWP_region ?_
  refine bx (v := .agg _) rfl rfl (fun B2 => ?_)
  refine bx (v := .agg _) rfl rfl (fun B3 => ?_)
  refine pB rfl rfl ?_
  refine SL_nil ?_
  refine nx ?_
  refine SWP_seq ?_
  refine SWP_region ?_
  refine pu rfl rfl ?_
  refine lw (v := .slice _ _ _) B2 0 rfl rfl rfl rfl ?_
  refine pu rfl rfl ?_
  refine lw (v := .slice _ _ _) B3 0 rfl rfl rfl rfl ?_
  refine SL_pcall rfl rfl cb29 (equalC ha.mn hb.mn) rfl ?_
  refine psp 9 rfl (fun c9 => ?_) (fun c9 => ?_)
  · skip
    first | refine pB rfl rfl ?_ | refine pu rfl rfl ?_
    refine SL_yes rfl ?_
    refine pu rfl rfl ?_
    refine SL_yes rfl ?_
    refine lw (v := .slice _ _ _) B2 1 rfl rfl rfl rfl ?_
    refine SL_yes rfl ?_
    refine pu rfl rfl ?_
    refine SL_yes rfl ?_
    refine lw (v := .slice _ _ _) B3 1 rfl rfl rfl rfl ?_
    refine SL_yes rfl ?_
    refine SL_pcall rfl rfl cb29 (equalC ha.bn hb.bn) rfl ?_
    refine psp 15 rfl (fun c15 => ?_) (fun c15 => ?_)
    · skip
      refine pB rfl rfl ?_
      refine pB rfl rfl ?_
      refine SL_yes rfl ?_
      refine pu rfl rfl ?_
      refine SL_yes rfl ?_
      refine lw (v := .slice _ _ _) B2 2 rfl rfl rfl rfl ?_
      refine SL_yes rfl ?_
      refine pu rfl rfl ?_
      refine SL_yes rfl ?_
      refine lw (v := .slice _ _ _) B3 2 rfl rfl rfl rfl ?_
      refine SL_yes rfl ?_
      refine SL_pcall rfl rfl cb29 (equalC ha.xn hb.xn) rfl ?_
      refine psp 22 rfl (fun c22 => ?_) (fun c22 => ?_)
      · skip
        refine pB rfl rfl ?_
        refine pB rfl rfl ?_
        refine SL_yes rfl ?_
        refine pu rfl rfl ?_
        refine SL_yes rfl ?_
        refine lw (v := .int .i64 _) B2 3 rfl rfl rfl rfl ?_
        refine SL_yes rfl ?_
        refine pu rfl rfl ?_
        refine SL_yes rfl ?_
        refine lw (v := .int .i64 _) B3 3 rfl rfl rfl rfl ?_
        refine SL_yes rfl ?_
        refine pc rfl rfl (fun c29 => ?_) (fun c29 => ?_)
        · skip
          refine pB rfl rfl ?_
          refine pB rfl rfl ?_
          refine SL_yes rfl ?_
          refine pu rfl rfl ?_
          refine SL_yes rfl ?_
          refine lw (v := .string _) B2 4 rfl rfl rfl rfl ?_
          refine SL_yes rfl ?_
          refine pu rfl rfl ?_
          refine SL_yes rfl ?_
          refine lw (v := .string _) B3 4 rfl rfl rfl rfl ?_
          refine SL_yes rfl ?_
          refine pu rfl rfl ?_
          refine pB rfl rfl ?_
          refine pB rfl rfl ?_
          refine SL_nil ?_
          refine nx ?_
          refine SWP_ret ?_
          refine fin [_] ⟨rfl, trivial⟩ ?_
          refine congrArg Value.bool ?_
          unfold sameR
          first | exact (decide_eq_true ⟨by assumption, by assumption, by assumption, by assumption, by assumption⟩).symm | exact (decide_eq_false fun h => by first | exact absurd h.1 (by assumption) | exact absurd h.2.1 (by assumption) | exact absurd h.2.2.1 (by assumption) | exact absurd h.2.2.2.1 (by assumption) | exact absurd h.2.2.2.2 (by assumption)).symm | exact decide_eq_decide.2 ⟨fun h => ⟨by assumption, by assumption, by assumption, by assumption, h⟩, fun h => h.2.2.2.2⟩
        refine pB rfl rfl ?_
        refine pB rfl rfl ?_
        refine SL_no rfl rfl ?_
        refine SL_no rfl rfl ?_
        refine SL_no rfl rfl ?_
        refine SL_no rfl rfl ?_
        refine SL_no rfl rfl ?_
        refine pB rfl rfl ?_
        refine pB rfl rfl ?_
        refine SL_nil ?_
        refine nx ?_
        refine SWP_ret ?_
        refine fin [_] ⟨rfl, trivial⟩ ?_
        refine congrArg Value.bool ?_
        unfold sameR
        first | exact (decide_eq_true ⟨by assumption, by assumption, by assumption, by assumption, by assumption⟩).symm | exact (decide_eq_false fun h => by first | exact absurd h.1 (by assumption) | exact absurd h.2.1 (by assumption) | exact absurd h.2.2.1 (by assumption) | exact absurd h.2.2.2.1 (by assumption) | exact absurd h.2.2.2.2 (by assumption)).symm | exact decide_eq_decide.2 ⟨fun h => ⟨by assumption, by assumption, by assumption, by assumption, h⟩, fun h => h.2.2.2.2⟩
      refine pB rfl rfl ?_
      refine pB rfl rfl ?_
      refine SL_no rfl rfl ?_
      refine SL_no rfl rfl ?_
      refine SL_no rfl rfl ?_
      refine SL_no rfl rfl ?_
      refine SL_no rfl rfl ?_
      refine pB rfl rfl ?_
      refine pB rfl rfl ?_
      refine SL_no rfl rfl ?_
      refine SL_no rfl rfl ?_
      refine SL_no rfl rfl ?_
      refine SL_no rfl rfl ?_
      refine SL_no rfl rfl ?_
      refine pB rfl rfl ?_
      refine pB rfl rfl ?_
      refine SL_nil ?_
      refine nx ?_
      refine SWP_ret ?_
      refine fin [_] ⟨rfl, trivial⟩ ?_
      refine congrArg Value.bool ?_
      unfold sameR
      first | exact (decide_eq_true ⟨by assumption, by assumption, by assumption, by assumption, by assumption⟩).symm | exact (decide_eq_false fun h => by first | exact absurd h.1 (by assumption) | exact absurd h.2.1 (by assumption) | exact absurd h.2.2.1 (by assumption) | exact absurd h.2.2.2.1 (by assumption) | exact absurd h.2.2.2.2 (by assumption)).symm | exact decide_eq_decide.2 ⟨fun h => ⟨by assumption, by assumption, by assumption, by assumption, h⟩, fun h => h.2.2.2.2⟩
    refine pB rfl rfl ?_
    refine pB rfl rfl ?_
    refine SL_no rfl rfl ?_
    refine SL_no rfl rfl ?_
    refine SL_no rfl rfl ?_
    refine SL_no rfl rfl ?_
    refine SL_no rfl rfl ?_
    refine pB rfl rfl ?_
    refine pB rfl rfl ?_
    refine SL_no rfl rfl ?_
    refine SL_no rfl rfl ?_
    refine SL_no rfl rfl ?_
    refine SL_no rfl rfl ?_
    refine SL_no rfl rfl ?_
    refine pB rfl rfl ?_
    refine pB rfl rfl ?_
    refine SL_no rfl rfl ?_
    refine SL_no rfl rfl ?_
    refine SL_no rfl rfl ?_
    refine SL_no rfl rfl ?_
    refine SL_no rfl rfl ?_
    refine pB rfl rfl ?_
    refine pB rfl rfl ?_
    refine SL_nil ?_
    refine nx ?_
    refine SWP_ret ?_
    refine fin [_] ⟨rfl, trivial⟩ ?_
    refine congrArg Value.bool ?_
    unfold sameR
    first | exact (decide_eq_true ⟨by assumption, by assumption, by assumption, by assumption, by assumption⟩).symm | exact (decide_eq_false fun h => by first | exact absurd h.1 (by assumption) | exact absurd h.2.1 (by assumption) | exact absurd h.2.2.1 (by assumption) | exact absurd h.2.2.2.1 (by assumption) | exact absurd h.2.2.2.2 (by assumption)).symm | exact decide_eq_decide.2 ⟨fun h => ⟨by assumption, by assumption, by assumption, by assumption, h⟩, fun h => h.2.2.2.2⟩
  first | refine pB rfl rfl ?_ | refine pu rfl rfl ?_
  refine SL_no rfl rfl ?_
  refine SL_no rfl rfl ?_
  refine SL_no rfl rfl ?_
  refine SL_no rfl rfl ?_
  refine SL_no rfl rfl ?_
  refine pB rfl rfl ?_
  refine pB rfl rfl ?_
  refine SL_no rfl rfl ?_
  refine SL_no rfl rfl ?_
  refine SL_no rfl rfl ?_
  refine SL_no rfl rfl ?_
  refine SL_no rfl rfl ?_
  refine pB rfl rfl ?_
  refine pB rfl rfl ?_
  refine SL_no rfl rfl ?_
  refine SL_no rfl rfl ?_
  refine SL_no rfl rfl ?_
  refine SL_no rfl rfl ?_
  refine SL_no rfl rfl ?_
  refine pB rfl rfl ?_
  refine pB rfl rfl ?_
  refine SL_no rfl rfl ?_
  refine SL_no rfl rfl ?_
  refine SL_no rfl rfl ?_
  refine SL_no rfl rfl ?_
  refine SL_no rfl rfl ?_
  refine pB rfl rfl ?_
  refine pB rfl rfl ?_
  refine SL_nil ?_
  refine nx ?_
  refine SWP_ret ?_
  refine fin [_] ⟨rfl, trivial⟩ ?_
  refine congrArg Value.bool ?_
  unfold sameR
  first | exact (decide_eq_true ⟨by assumption, by assumption, by assumption, by assumption, by assumption⟩).symm | exact (decide_eq_false fun h => by first | exact absurd h.1 (by assumption) | exact absurd h.2.1 (by assumption) | exact absurd h.2.2.1 (by assumption) | exact absurd h.2.2.2.1 (by assumption) | exact absurd h.2.2.2.2 (by assumption)).symm | exact decide_eq_decide.2 ⟨fun h => ⟨by assumption, by assumption, by assumption, by assumption, h⟩, fun h => h.2.2.2.2⟩

set_option maxRecDepth 100000 in
theorem same30 {m : Mem} {a b : Res} (ha : a.In m) (hb : b.In m) : PureCall Try.prog 12 [a.val, b.val] m (.bool (decide (sameR a b))) := by
  refine CallsS.pure ?_
  dsimp only [Res.val]
  refine enter Try.func12 Try.ntmps12 rfl rfl ?_
  refine SWP_seq ?_
  refine SWP_region ?_
  refine bx (v := .agg _) rfl rfl (fun B2 => ?_)
  refine bx (v := .agg _) rfl rfl (fun B3 => ?_)
  refine pB rfl rfl ?_
  refine SL_nil ?_
  refine nx ?_
  refine SWP_seq ?_
  refine SWP_region ?_
  refine pu rfl rfl ?_
  refine lw (v := .slice _ _ _) B2 0 rfl rfl rfl rfl ?_
  refine pu rfl rfl ?_
  refine lw (v := .slice _ _ _) B3 0 rfl rfl rfl rfl ?_
  refine SL_pcall rfl rfl cb13 (intsR ha.mn hb.mn) rfl ?_
  refine psp 9 rfl (fun c9 => ?_) (fun c9 => ?_)
  · skip
    first | refine pB rfl rfl ?_ | refine pu rfl rfl ?_
    refine SL_yes rfl ?_
    refine pu rfl rfl ?_
    refine SL_yes rfl ?_
    refine lw (v := .slice _ _ _) B2 1 rfl rfl rfl rfl ?_
    refine SL_yes rfl ?_
    refine pu rfl rfl ?_
    refine SL_yes rfl ?_
    refine lw (v := .slice _ _ _) B3 1 rfl rfl rfl rfl ?_
    refine SL_yes rfl ?_
    refine SL_pcall rfl rfl cb13 (intsR ha.bn hb.bn) rfl ?_
    refine psp 15 rfl (fun c15 => ?_) (fun c15 => ?_)
    · skip
      refine pB rfl rfl ?_
      refine pB rfl rfl ?_
      refine SL_yes rfl ?_
      refine pu rfl rfl ?_
      refine SL_yes rfl ?_
      refine lw (v := .slice _ _ _) B2 2 rfl rfl rfl rfl ?_
      refine SL_yes rfl ?_
      refine pu rfl rfl ?_
      refine SL_yes rfl ?_
      refine lw (v := .slice _ _ _) B3 2 rfl rfl rfl rfl ?_
      refine SL_yes rfl ?_
      refine SL_pcall rfl rfl cb13 (intsR ha.xn hb.xn) rfl ?_
      refine psp 22 rfl (fun c22 => ?_) (fun c22 => ?_)
      · skip
        refine pB rfl rfl ?_
        refine pB rfl rfl ?_
        refine SL_yes rfl ?_
        refine pu rfl rfl ?_
        refine SL_yes rfl ?_
        refine lw (v := .int .i64 _) B2 3 rfl rfl rfl rfl ?_
        refine SL_yes rfl ?_
        refine pu rfl rfl ?_
        refine SL_yes rfl ?_
        refine lw (v := .int .i64 _) B3 3 rfl rfl rfl rfl ?_
        refine SL_yes rfl ?_
        refine pc rfl rfl (fun c29 => ?_) (fun c29 => ?_)
        · skip
          refine pB rfl rfl ?_
          refine pB rfl rfl ?_
          refine SL_yes rfl ?_
          refine pu rfl rfl ?_
          refine SL_yes rfl ?_
          refine lw (v := .string _) B2 4 rfl rfl rfl rfl ?_
          refine SL_yes rfl ?_
          refine pu rfl rfl ?_
          refine SL_yes rfl ?_
          refine lw (v := .string _) B3 4 rfl rfl rfl rfl ?_
          refine SL_yes rfl ?_
          refine pu rfl rfl ?_
          refine pB rfl rfl ?_
          refine pB rfl rfl ?_
          refine SL_nil ?_
          refine nx ?_
          refine SWP_ret ?_
          refine fin [_] ⟨rfl, trivial⟩ ?_
          refine congrArg Value.bool ?_
          unfold sameR
          first | exact (decide_eq_true ⟨by assumption, by assumption, by assumption, by assumption, by assumption⟩).symm | exact (decide_eq_false fun h => by first | exact absurd h.1 (by assumption) | exact absurd h.2.1 (by assumption) | exact absurd h.2.2.1 (by assumption) | exact absurd h.2.2.2.1 (by assumption) | exact absurd h.2.2.2.2 (by assumption)).symm | exact decide_eq_decide.2 ⟨fun h => ⟨by assumption, by assumption, by assumption, by assumption, h⟩, fun h => h.2.2.2.2⟩
        refine pB rfl rfl ?_
        refine pB rfl rfl ?_
        refine SL_no rfl rfl ?_
        refine SL_no rfl rfl ?_
        refine SL_no rfl rfl ?_
        refine SL_no rfl rfl ?_
        refine SL_no rfl rfl ?_
        refine pB rfl rfl ?_
        refine pB rfl rfl ?_
        refine SL_nil ?_
        refine nx ?_
        refine SWP_ret ?_
        refine fin [_] ⟨rfl, trivial⟩ ?_
        refine congrArg Value.bool ?_
        unfold sameR
        first | exact (decide_eq_true ⟨by assumption, by assumption, by assumption, by assumption, by assumption⟩).symm | exact (decide_eq_false fun h => by first | exact absurd h.1 (by assumption) | exact absurd h.2.1 (by assumption) | exact absurd h.2.2.1 (by assumption) | exact absurd h.2.2.2.1 (by assumption) | exact absurd h.2.2.2.2 (by assumption)).symm | exact decide_eq_decide.2 ⟨fun h => ⟨by assumption, by assumption, by assumption, by assumption, h⟩, fun h => h.2.2.2.2⟩
      refine pB rfl rfl ?_
      refine pB rfl rfl ?_
      refine SL_no rfl rfl ?_
      refine SL_no rfl rfl ?_
      refine SL_no rfl rfl ?_
      refine SL_no rfl rfl ?_
      refine SL_no rfl rfl ?_
      refine pB rfl rfl ?_
      refine pB rfl rfl ?_
      refine SL_no rfl rfl ?_
      refine SL_no rfl rfl ?_
      refine SL_no rfl rfl ?_
      refine SL_no rfl rfl ?_
      refine SL_no rfl rfl ?_
      refine pB rfl rfl ?_
      refine pB rfl rfl ?_
      refine SL_nil ?_
      refine nx ?_
      refine SWP_ret ?_
      refine fin [_] ⟨rfl, trivial⟩ ?_
      refine congrArg Value.bool ?_
      unfold sameR
      first | exact (decide_eq_true ⟨by assumption, by assumption, by assumption, by assumption, by assumption⟩).symm | exact (decide_eq_false fun h => by first | exact absurd h.1 (by assumption) | exact absurd h.2.1 (by assumption) | exact absurd h.2.2.1 (by assumption) | exact absurd h.2.2.2.1 (by assumption) | exact absurd h.2.2.2.2 (by assumption)).symm | exact decide_eq_decide.2 ⟨fun h => ⟨by assumption, by assumption, by assumption, by assumption, h⟩, fun h => h.2.2.2.2⟩
    refine pB rfl rfl ?_
    refine pB rfl rfl ?_
    refine SL_no rfl rfl ?_
    refine SL_no rfl rfl ?_
    refine SL_no rfl rfl ?_
    refine SL_no rfl rfl ?_
    refine SL_no rfl rfl ?_
    refine pB rfl rfl ?_
    refine pB rfl rfl ?_
    refine SL_no rfl rfl ?_
    refine SL_no rfl rfl ?_
    refine SL_no rfl rfl ?_
    refine SL_no rfl rfl ?_
    refine SL_no rfl rfl ?_
    refine pB rfl rfl ?_
    refine pB rfl rfl ?_
    refine SL_no rfl rfl ?_
    refine SL_no rfl rfl ?_
    refine SL_no rfl rfl ?_
    refine SL_no rfl rfl ?_
    refine SL_no rfl rfl ?_
    refine pB rfl rfl ?_
    refine pB rfl rfl ?_
    refine SL_nil ?_
    refine nx ?_
    refine SWP_ret ?_
    refine fin [_] ⟨rfl, trivial⟩ ?_
    refine congrArg Value.bool ?_
    unfold sameR
    first | exact (decide_eq_true ⟨by assumption, by assumption, by assumption, by assumption, by assumption⟩).symm | exact (decide_eq_false fun h => by first | exact absurd h.1 (by assumption) | exact absurd h.2.1 (by assumption) | exact absurd h.2.2.1 (by assumption) | exact absurd h.2.2.2.1 (by assumption) | exact absurd h.2.2.2.2 (by assumption)).symm | exact decide_eq_decide.2 ⟨fun h => ⟨by assumption, by assumption, by assumption, by assumption, h⟩, fun h => h.2.2.2.2⟩
  first | refine pB rfl rfl ?_ | refine pu rfl rfl ?_
  refine SL_no rfl rfl ?_
  refine SL_no rfl rfl ?_
  refine SL_no rfl rfl ?_
  refine SL_no rfl rfl ?_
  refine SL_no rfl rfl ?_
  refine pB rfl rfl ?_
  refine pB rfl rfl ?_
  refine SL_no rfl rfl ?_
  refine SL_no rfl rfl ?_
  refine SL_no rfl rfl ?_
  refine SL_no rfl rfl ?_
  refine SL_no rfl rfl ?_
  refine pB rfl rfl ?_
  refine pB rfl rfl ?_
  refine SL_no rfl rfl ?_
  refine SL_no rfl rfl ?_
  refine SL_no rfl rfl ?_
  refine SL_no rfl rfl ?_
  refine SL_no rfl rfl ?_
  refine pB rfl rfl ?_
  refine pB rfl rfl ?_
  refine SL_no rfl rfl ?_
  refine SL_no rfl rfl ?_
  refine SL_no rfl rfl ?_
  refine SL_no rfl rfl ?_
  refine SL_no rfl rfl ?_
  refine pB rfl rfl ?_
  refine pB rfl rfl ?_
  refine SL_nil ?_
  refine nx ?_
  refine SWP_ret ?_
  refine fin [_] ⟨rfl, trivial⟩ ?_
  refine congrArg Value.bool ?_
  unfold sameR
  first | exact (decide_eq_true ⟨by assumption, by assumption, by assumption, by assumption, by assumption⟩).symm | exact (decide_eq_false fun h => by first | exact absurd h.1 (by assumption) | exact absurd h.2.1 (by assumption) | exact absurd h.2.2.1 (by assumption) | exact absurd h.2.2.2.1 (by assumption) | exact absurd h.2.2.2.2 (by assumption)).symm | exact decide_eq_decide.2 ⟨fun h => ⟨by assumption, by assumption, by assumption, by assumption, h⟩, fun h => h.2.2.2.2⟩

abbrev RK := List Int × List Int × List Int × Int × ByteArray
def Res.key (r : Res) : RK := (r.main, r.bonus, r.extra, r.factor, r.serial)
theorem sameR_key {a b : Res} : sameR a b ↔ a.key = b.key := by
  unfold sameR Res.key
  constructor
  · rintro ⟨h1, h2, h3, h4, h5⟩; rw [h1, h2, h3, h4, h5]
  · intro h
    simp only [Prod.mk.injEq] at h
    exact h
structure Rep where
  wt : Int
  rs : Res
  ok : Bool
def Rep.enc (r : Rep) : List Value := [.int .i64 r.wt, .slice r.rs.ma r.rs.main.length r.rs.mc, .slice r.rs.ba r.rs.bonus.length r.rs.bc, .slice r.rs.ea r.rs.extra.length r.rs.ec, .int .i64 r.rs.factor, .string r.rs.serial, .bool r.ok]
def Rep.val (r : Rep) : Value := .agg #[.int .i64 r.wt, .slice r.rs.ma r.rs.main.length r.rs.mc, .slice r.rs.ba r.rs.bonus.length r.rs.bc, .slice r.rs.ea r.rs.extra.length r.rs.ec, .int .i64 r.rs.factor, .string r.rs.serial, .bool r.ok]
theorem Rep.enc_len (r : Rep) : r.enc.length = 7 := rfl
abbrev PK := Int × Bool × RK
def Rep.key (r : Rep) : PK := (r.wt, r.ok, r.rs.key)
def outKey (o : List Int × List Int × List Int) : RK := (o.1, o.2.1, o.2.2, 0, ⟨#[]⟩)
noncomputable def keyOf (g : Game) (l : List Ball) (w : Int) : PK := (w, decide (mechE g (ofB l w) = 0), outKey (mechO g (ofB l w)))
theorem OutIs.key {x : Res} {o : List Int × List Int × List Int} (h : OutIs x o.1 o.2.1 o.2.2) : x.key = outKey o := by
  unfold Res.key outKey
  rw [h.mn, h.bn, h.xn, h.fc, h.sr]
def agreeB (k : RK) (x : PK) : Bool := x.2.1 && decide (k = x.2.2)
def agreeN (k : RK) (K : List PK) : Nat := (K.filter (agreeB k)).length
def dissB (k : RK) (x : PK) : Bool := !x.2.1 || !decide (x.2.2 = k)
def dissN (k : RK) (K : List PK) : List Int := (K.filter (dissB k)).map (·.1)
def winB (q : Int) (K : List PK) (x : PK) : Bool := x.2.1 && decide ((K.length : Int) < 2 * (agreeN x.2.2 K : Int) ∧ q ≤ (agreeN x.2.2 K : Int))
noncomputable def reps (g : Game) (l : List Ball) : List PK := (wits l).map (keyOf g l)
def zeroK : RK := ([], [], [], 0, ⟨#[]⟩)
def certK (q : Int) (K : List PK) : Int × RK × List Int := match K.find? (winB q K) with
  | none => (23, zeroK, [])
  | some x => (0, x.2.2, dissN x.2.2 K)
noncomputable def certF (g : Game) (l : List Ball) (q : Int) : Int × RK × List Int :=
  if gameErr g ≠ 0 then (gameErr g, zeroK, []) else if q < 1 ∨ 8 < q then (2, zeroK, []) else certK q (reps g l)
theorem zeroR_key : zeroR.key = zeroK := rfl
def CertOf (r : Value) (m : Mem) (o : Int × RK × List Int) : Prop := ∃ (x : Res) (v : Value), r = .tuple #[x.val, v, .int .i64 o.1] ∧ x.In m ∧ x.key = o.2.1 ∧ RL m intE 1 v o.2.2
theorem keys_snoc {X : List Rep} {K : List PK} {i : Nat} {x : Rep} {k : PK} (h : X.map Rep.key = K.take i) (hk : K[i]? = some k) (hx : x.key = k) : (X ++ [x]).map Rep.key = K.take (i + 1) := by
  rw [List.map_append, h, take_snocA hk, ← hx]; rfl
theorem agreeN_snoc {k : RK} {K : List PK} {i : Nat} {x : PK} (h : K[i]? = some x) : agreeN k (K.take (i + 1)) = agreeN k (K.take i) + if agreeB k x = true then 1 else 0 := by
  unfold agreeN
  rw [take_snocA h, List.filter_append, List.length_append]
  by_cases hb : agreeB k x = true
  · rw [if_pos hb, List.filter_cons_of_pos hb]; rfl
  · rw [if_neg hb, List.filter_cons_of_neg hb]; rfl
theorem agreeN_le (k : RK) (K : List PK) : agreeN k K ≤ K.length := List.length_filter_le _ _
theorem dissN_snoc {k : RK} {K : List PK} {i : Nat} {x : PK} (h : K[i]? = some x) : dissN k (K.take (i + 1)) = if dissB k x = true then dissN k (K.take i) ++ [x.1] else dissN k (K.take i) := by
  unfold dissN
  rw [take_snocA h, List.filter_append, List.map_append]
  by_cases hb : dissB k x = true
  · rw [if_pos hb, List.filter_cons_of_pos hb]; rfl
  · rw [if_neg hb, List.filter_cons_of_neg hb]; simp
theorem dissN_le (k : RK) (K : List PK) : (dissN k K).length ≤ K.length := by unfold dissN; rw [List.length_map]; exact List.length_filter_le _ _
theorem wits_len (l : List Ball) : (wits l).length ≤ 9 := by
  have := witsTo_len l 9
  rw [flatMap_len intE_len] at this
  unfold wits; omega
theorem reps_len (g : Game) (l : List Ball) : (reps g l).length ≤ 9 := by unfold reps; rw [List.length_map]; exact wits_len l
theorem reps_at {g : Game} {l : List Ball} {i : Nat} {w : Int} (h : (wits l)[i]? = some w) : (reps g l)[i]? = some (keyOf g l w) := by unfold reps; rw [List.getElem?_map, h]; rfl
theorem allErr_ne (lo hi : Int) (l : List Int) : allErr lo hi l ≠ 8 := by unfold allErr; split <;> decide
theorem addonErr_ne (a : Addon) : addonErr a ≠ 8 := by
  unfold addonErr
  repeat' split
  all_goals first | decide | exact allErr_ne _ _ _
theorem addonsFrom_ne : ∀ (l pre : List Addon), addonsFrom pre l ≠ 8
  | [], pre => by unfold addonsFrom; decide
  | a :: l, pre => by
    unfold addonsFrom
    split
    · exact addonErr_ne a
    · split
      · decide
      · exact addonsFrom_ne l _
theorem hitsErr_ne (k a b c : Int) (t : Tier) : hitsErr k a b c t ≠ 8 := by
  unfold hitsErr
  repeat' split
  all_goals decide
theorem tierErr_ne (g : Game) (t : Tier) : tierErr g t ≠ 8 := by
  unfold tierErr
  repeat' split
  all_goals first | decide | exact hitsErr_ne _ _ _ _ _
theorem tiersFrom_ne (g : Game) : ∀ (l pre : List Tier), tiersFrom g pre l ≠ 8
  | [], pre => by unfold tiersFrom; decide
  | a :: l, pre => by
    unfold tiersFrom
    split
    · exact tierErr_ne g a
    · split
      · decide
      · exact tiersFrom_ne g l _
theorem gameErr_ne (g : Game) : gameErr g ≠ 8 := by
  unfold gameErr okE addonsErr tiersErr
  repeat' split
  all_goals first | decide | exact addonsFrom_ne _ _ | exact tiersFrom_ne _ _ _
theorem mechE_nil (g : Game) : mechE g [] ≠ 8 ↔ gameErr g ≠ 0 := by
  unfold mechE
  by_cases h : gameErr g ≠ 0
  · rw [if_pos h]; exact ⟨fun _ => h, fun _ => gameErr_ne g⟩
  · rw [if_neg h]
    have hg := gameOk (Classical.not_not.1 h)
    have : ballsErr g [] = 8 := by
      unfold ballsErr
      rw [if_neg (fun hh => hh rfl), if_neg]
      rintro ⟨h1, _⟩
      have := hg.mx.h2
      have e : (cntD 1 [] : Int) = 0 := rfl
      omega
    rw [this]
    exact ⟨fun hh => absurd rfl hh, fun hh => absurd hh h⟩
theorem mechE_nil_eq {g : Game} (h : gameErr g ≠ 0) : mechE g [] = gameErr g := if_pos h

theorem agreeB_iff {x y : Rep} : agreeB x.rs.key y.key = true ↔ y.ok = true ∧ sameR x.rs y.rs := by
  show (y.ok && decide (x.rs.key = y.rs.key)) = true ↔ _
  rw [Bool.and_eq_true, decide_eq_true_eq, sameR_key]
theorem dissB_iff {r : Res} {y : Rep} : dissB r.key y.key = true ↔ y.ok = false ∨ ¬ sameR y.rs r := by
  show (!y.ok || !decide (y.rs.key = r.key)) = true ↔ _
  rw [Bool.or_eq_true, Bool.not_eq_true', Bool.not_eq_true', decide_eq_false_iff_not, sameR_key]
theorem find_at {α : Type} {p : α → Bool} : ∀ {K : List α} {i : Nat} {k : α}, (∀ j a, j < i → K[j]? = some a → p a = false) → K[i]? = some k → p k = true → K.find? p = some k
  | [], i, k, _, h, _ => by simp at h
  | a :: K, 0, k, _, h, hp => by
    simp only [List.getElem?_cons_zero, Option.some.injEq] at h
    subst h
    rw [List.find?_cons, hp]
  | a :: K, i + 1, k, hb, h, hp => by
    rw [List.find?_cons, hb 0 a (by omega) rfl]
    exact find_at (fun j b hj hb' => hb (j + 1) b (Nat.succ_lt_succ hj) (by simpa using hb')) (by simpa using h) hp
theorem find_nil {α : Type} {p : α → Bool} {K : List α} (h : ∀ j a, j < K.length → K[j]? = some a → p a = false) : K.find? p = none :=
  List.find?_eq_none.2 fun a ha => by
    obtain ⟨j, hj⟩ := List.getElem?_of_mem ha
    rw [h j a (List.getElem?_eq_some_iff.1 hj).1 hj]; exact Bool.noConfusion
theorem map_at {X : List Rep} {i : Nat} {y : Rep} (h : X[i]? = some y) : (X.map Rep.key)[i]? = some y.key := by rw [List.getElem?_map, h]; rfl
theorem keys_all (X : List Rep) : (X.map Rep.key).take X.length = X.map Rep.key := List.take_of_length_le (by rw [List.length_map]; exact Nat.le_refl _)
theorem ofB_small (l : List Ball) (x : Int) : (ofB l x).length ≤ l.length := List.length_filter_le _ _

set_option maxRecDepth 100000 in
theorem agreeI {m : Mem} {v : Value} {X : List Rep} (h : RL m Rep.enc 7 v X) (hX : ∀ y ∈ X, y.rs.In m) (hl : X.length ≤ 9) {B : Nat} {x : Rep} (hx : x.rs.In m) : CallsS Try.prog 22 [x.val, .pointer (some ⟨B, 0, none⟩)].toArray [(B, Cells 48 [v])] m fun u σ' m' => u = .int .i64 (agreeN x.rs.key (X.map Rep.key) : Nat) ∧ σ' = [(B, Cells 48 [v])] ∧ m' = m := by
  refine CallsS.ghost (R' := fun u σ' m' => u = .int .i64 (agreeN x.rs.key (X.map Rep.key) : Nat) ∧ (∃ τ, σ' = τ ++ [(B, Cells 48 [v])]) ∧ m' = m) ?_ ?h2
  case h2 =>
    rintro u σ' m' ⟨hu, ⟨τ, rfl⟩, rfl⟩ g0 W hC
    exact ⟨_, _, hC.sublist (List.sublist_append_right _ _), Le.refl _, hu, rfl, rfl⟩
  obtain ⟨pa, qc, rfl⟩ := h.len
  dsimp only [Rep.val]
  refine enter Try.func22 Try.ntmps22 rfl rfl ?_
  refine SWP_seq ?_
  refine SWP_region ?_
  refine bx (v := .agg _) rfl rfl (fun B2 => ?_)
  refine pI rfl rfl ?_
  refine SL_nil ?_
  refine nx ?_
  refine SWP_seq ?_
  refine SWP_region ?_
  refine pI rfl rfl ?_
  refine SL_nil ?_
  refine nx ?_
  refine SWP_seq ?_
  refine SWP_seq ?_
  refine SWP_region ?_
  refine lw (v := .slice _ _ _) B 0 rfl rfl rfl rfl ?_
  refine pu rfl rfl ?_
  refine pI rfl rfl ?_
  refine SL_nil ?_
  refine nx ?_
  refine SWP_block ?_
  refine SWP_loop [4, 6, 9, 10, 11, 12, 13, 14, 15, 16, 17, 18, 19, 20, 21, 22, 23, 24] [4, 9]
      (fun vs σ' m' => ∃ (i : Nat), vs = [.int .i64 (agreeN x.rs.key ((X.map Rep.key).take i) : Nat), .int .i64 (i : Nat)] ∧ i ≤ X.length ∧ σ' = [(B2, Cells 51 x.enc), (B, Cells 48 [.slice pa X.length qc])] ∧ m = m')
      (fun vs => X.length - nOf (vs.getD 1 undef)) rfl ?_ ?_
  · exact ⟨0, rfl, by omega, rfl, rfl⟩
  intro u0 vs0 σ0 m0 hJ0 _
  obtain ⟨i, rfl, hi, rfl, rfl⟩ := hJ0
  have hag := agreeN_le x.rs.key ((X.map Rep.key).take i)
  rw [List.length_take] at hag
  refine SWP_seq ?_
  refine SWP_region ?_
  refine pc rfl rfl (fun c10 => ?_) (fun c10 => ?_)
  · skip
    refine SL_nil ?_
    refine nx ?_
    refine SWP_seq ?_
    refine SWP_ct rfl ?_
    refine SWP_skip ?_
    refine nx ?_
    refine SWP_seq ?_
    refine SWP_block ?_
    refine SWP_seq ?_
    obtain ⟨y, hy⟩ : ∃ y, X[i]? = some y := ⟨_, List.getElem?_eq_getElem (by omega)⟩
    obtain ⟨ad, e1, _, hat⟩ := h.atA Rep.enc_len hy
    have hK := map_at hy
    have hyi := hX y (List.mem_of_getElem? hy)
    rw [e1]
    refine SWP_region ?_
    first | refine ia (es := 7) rfl rfl rfl rfl rfl rfl (by omega) rfl ?_ | refine iai (es := 7) rfl rfl rfl rfl rfl rfl (by omega) (by omega) rfl ?_
    refine ldA (v := .agg _) rfl (by assumption) rfl rfl ?_
    refine al rfl rfl (fun B6 => ?_)
    refine sw (v := .agg _) B6 0 rfl rfl rfl rfl rfl rfl rfl ?_
    refine SL_nil ?_
    refine nx ?_
    refine SWP_seq ?_
    rw [← e1]
    refine SWP_region ?_
    refine pu rfl rfl ?_
    refine lw (v := .bool _) B6 6 rfl rfl rfl rfl ?_
    refine bsp 14 rfl (fun b14 => ?_) (fun b14 => ?_)
    · skip
      refine pB rfl rfl ?_
      refine SL_yes rfl ?_
      refine pu rfl rfl ?_
      refine SL_yes rfl ?_
      refine lw (v := .agg _) B2 1 rfl rfl rfl rfl ?_
      refine SL_yes rfl ?_
      refine pu rfl rfl ?_
      refine SL_yes rfl ?_
      refine lw (v := .agg _) B6 1 rfl rfl rfl rfl ?_
      refine SL_yes rfl ?_
      refine SL_pcall rfl rfl cb14 (sameC (a := x.rs) (b := y.rs) hx hyi) rfl ?_
      refine psp 20 rfl (fun c20 => ?_) (fun c20 => ?_)
      · skip
        refine pB rfl rfl ?_
        refine SL_nil ?_
        refine nx ?_
        refine SWP_ct rfl ?_
        refine SWP_region ?_
        first | refine pI rfl rfl ?_ | refine pu rfl rfl ?_
        first | refine pw rfl rfl (w64 (by omega) (by omega)) ?_ | refine pu rfl rfl ?_
        refine pI rfl rfl ?_
        refine SL_nil ?_
        refine nb ?_
        refine nx ?_
        refine SWP_weak (List.sublist_cons_self _ _) ?_
        refine SWP_region ?_
        first | refine pw rfl rfl (w64 (by omega) (by omega)) ?_ | refine pu rfl rfl ?_
        refine pI rfl rfl ?_
        refine SL_nil ?_
        refine nx ?_
        refine ⟨by repeat (first | exact Under.upds rfl (Under.hav _ _ _) | exact Under.hav _ _ _ | refine Under.upd rfl ?_), ?_, ?_⟩
        · refine ⟨i + 1, ?_, by omega, rfl, rfl⟩
          first
            | (rw [agreeN_snoc hK, if_pos (agreeB_iff.2 ⟨by assumption, by assumption⟩)]; rfl)
            | (rw [agreeN_snoc hK, if_neg (fun h => absurd (agreeB_iff.1 h).2 (by assumption))]; rfl)
            | (rw [agreeN_snoc hK, if_neg (fun h => by have := (agreeB_iff.1 h).1; simp_all)]; rfl)
        · simp only [L_vals, List.map, List.getD]; show X.length - (i + 1) < X.length - i; omega
      refine pB rfl rfl ?_
      refine SL_nil ?_
      refine nx ?_
      refine SWP_cf rfl ?_
      refine SWP_skip ?_
      refine nb ?_
      refine nx ?_
      refine SWP_weak (List.sublist_cons_self _ _) ?_
      refine SWP_region ?_
      first | refine pw rfl rfl (w64 (by omega) (by omega)) ?_ | refine pu rfl rfl ?_
      refine pI rfl rfl ?_
      refine SL_nil ?_
      refine nx ?_
      refine ⟨by repeat (first | exact Under.upds rfl (Under.hav _ _ _) | exact Under.hav _ _ _ | refine Under.upd rfl ?_), ?_, ?_⟩
      · refine ⟨i + 1, ?_, by omega, rfl, rfl⟩
        first
          | (rw [agreeN_snoc hK, if_pos (agreeB_iff.2 ⟨by assumption, by assumption⟩)]; rfl)
          | (rw [agreeN_snoc hK, if_neg (fun h => absurd (agreeB_iff.1 h).2 (by assumption))]; rfl)
          | (rw [agreeN_snoc hK, if_neg (fun h => by have := (agreeB_iff.1 h).1; simp_all)]; rfl)
      · simp only [L_vals, List.map, List.getD]; show X.length - (i + 1) < X.length - i; omega
    refine pB rfl rfl ?_
    refine SL_no rfl rfl ?_
    refine SL_no rfl rfl ?_
    refine SL_no rfl rfl ?_
    refine SL_no rfl rfl ?_
    refine SL_no rfl rfl ?_
    refine pB rfl rfl ?_
    refine SL_nil ?_
    refine nx ?_
    refine SWP_cf rfl ?_
    refine SWP_skip ?_
    refine nb ?_
    refine nx ?_
    refine SWP_weak (List.sublist_cons_self _ _) ?_
    refine SWP_region ?_
    first | refine pw rfl rfl (w64 (by omega) (by omega)) ?_ | refine pu rfl rfl ?_
    refine pI rfl rfl ?_
    refine SL_nil ?_
    refine nx ?_
    refine ⟨by repeat (first | exact Under.upds rfl (Under.hav _ _ _) | exact Under.hav _ _ _ | refine Under.upd rfl ?_), ?_, ?_⟩
    · refine ⟨i + 1, ?_, by omega, rfl, rfl⟩
      first
        | (rw [agreeN_snoc hK, if_pos (agreeB_iff.2 ⟨by assumption, by assumption⟩)]; rfl)
        | (rw [agreeN_snoc hK, if_neg (fun h => absurd (agreeB_iff.1 h).2 (by assumption))]; rfl)
        | (rw [agreeN_snoc hK, if_neg (fun h => by have := (agreeB_iff.1 h).1; simp_all)]; rfl)
    · simp only [L_vals, List.map, List.getD]; show X.length - (i + 1) < X.length - i; omega
  refine SL_nil ?_
  refine nx ?_
  refine SWP_seq ?_
  refine SWP_cf rfl ?_
  refine SWP_exit ?_
  refine ne ?_
  refine ne ?_
  refine be rfl ?_
  refine nx ?_
  refine SWP_seq ?_
  refine SWP_region ?_
  first | refine pI rfl rfl ?_ | refine pu rfl rfl ?_
  first | refine pI rfl rfl ?_ | refine pu rfl rfl ?_
  refine SL_nil ?_
  refine nx ?_
  refine SWP_ret ?_
  refine fin [_] ⟨rfl, trivial⟩ ?_
  obtain rfl : i = X.length := by omega
  rw [keys_all]
  exact ⟨rfl, ⟨[_], rfl⟩, rfl⟩

set_option maxRecDepth 100000 in
theorem dissI {m : Mem} {v : Value} {X : List Rep} (h : RL m Rep.enc 7 v X) (hX : ∀ y ∈ X, y.rs.In m) (hl : X.length ≤ 9) {r : Res} (hr : r.In m) : CallsS Try.prog 23 [v, r.val].toArray [] m fun u σ' m' => σ' = [] ∧ RL m' intE 1 u (dissN r.key (X.map Rep.key)) := by
  refine CallsS.ghost (R' := fun u σ' m' => ∃ σe τ, σ' = σe ++ τ ∧ OwnS 3 1 u ((dissN r.key (X.map Rep.key)).flatMap intE) σe) ?_ ?h2
  case h2 =>
    rintro u σ' m' ⟨σe, τ, rfl, hR⟩ g0 W hC
    obtain ⟨m2, h1, h2, h3⟩ := hR.freezeL (by omega) intE_len hC
    exact ⟨[], m2, h2.sublist (List.nil_sublist _), h1, rfl, h3⟩
  obtain ⟨pa, qc, rfl⟩ := h.len
  dsimp only [Res.val]
  refine enter Try.func23 Try.ntmps23 rfl rfl ?_
  refine SWP_seq ?_
  refine SWP_region ?_
  refine bx (v := .agg _) rfl rfl (fun B3 => ?_)
  refine pL rfl rfl ?_
  refine SL_nil ?_
  refine nx ?_
  refine SWP_seq ?_
  refine SWP_region ?_
  refine pL rfl rfl ?_
  refine SL_nil ?_
  refine nx ?_
  refine SWP_seq ?_
  refine SWP_seq ?_
  refine SWP_region ?_
  first | refine pL rfl rfl ?_ | refine pu rfl rfl ?_
  refine pu rfl rfl ?_
  refine pI rfl rfl ?_
  refine SL_nil ?_
  refine nx ?_
  refine SWP_block ?_
  refine SWP_loop [5, 7, 10, 11, 12, 13, 14, 15, 16, 17, 18, 19, 20, 21, 22, 23, 24, 25, 26, 27, 28, 29] [5, 10]
      (fun vs σ' m' => ∃ (i : Nat) (w5 : Value) (σ1 : Sig), vs = [w5, .int .i64 (i : Nat)] ∧ i ≤ X.length ∧ OwnS 3 1 w5 ((dissN r.key ((X.map Rep.key).take i)).flatMap intE) σ1 ∧ σ' = σ1 ++ [(B3, Cells 30 r.enc)] ∧ m = m')
      (fun vs => X.length - nOf (vs.getD 1 undef)) rfl ?_ ?_
  · exact ⟨0, _, [], rfl, by omega, .nil, rfl, rfl⟩
  intro u0 vs0 σ0 m0 hJ0 _
  obtain ⟨i, w5, σ1, rfl, hi, hown, rfl, rfl⟩ := hJ0
  obtain ⟨wa, wk, rfl⟩ := hown.lenL (by omega) intE_len
  refine SWP_seq ?_
  refine SWP_region ?_
  refine pc rfl rfl (fun c11 => ?_) (fun c11 => ?_)
  · skip
    refine SL_nil ?_
    refine nx ?_
    refine SWP_seq ?_
    refine SWP_ct rfl ?_
    refine SWP_skip ?_
    refine nx ?_
    refine SWP_seq ?_
    refine SWP_block ?_
    refine SWP_seq ?_
    obtain ⟨y, hy⟩ : ∃ y, X[i]? = some y := ⟨_, List.getElem?_eq_getElem (by omega)⟩
    obtain ⟨ad, e1, _, hat⟩ := h.atA Rep.enc_len hy
    have hK := map_at hy
    have hyi := hX y (List.mem_of_getElem? hy)
    rw [e1]
    refine SWP_region ?_
    first | refine ia (es := 7) rfl rfl rfl rfl rfl rfl (by omega) rfl ?_ | refine iai (es := 7) rfl rfl rfl rfl rfl rfl (by omega) (by omega) rfl ?_
    refine ldA (v := .agg _) rfl (by assumption) rfl rfl ?_
    refine al rfl rfl (fun B7 => ?_)
    refine sw (v := .agg _) B7 0 rfl rfl rfl rfl rfl rfl rfl ?_
    refine SL_nil ?_
    refine nx ?_
    refine SWP_seq ?_
    rw [← e1]
    refine SWP_region ?_
    refine pu rfl rfl ?_
    refine lw (v := .bool _) B7 6 rfl rfl rfl rfl ?_
    refine bsp 15 rfl (fun b15 => ?_) (fun b15 => ?_)
    · skip
      refine pB rfl rfl ?_
      refine pB rfl rfl ?_
      refine SL_yes rfl ?_
      refine pu rfl rfl ?_
      refine SL_yes rfl ?_
      refine lw (v := .agg _) B7 1 rfl rfl rfl rfl ?_
      refine SL_yes rfl ?_
      refine lw (v := .agg _) B3 0 rfl rfl rfl rfl ?_
      refine SL_yes rfl ?_
      refine SL_pcall rfl rfl cb14 (sameC (a := y.rs) (b := r) hyi hr) rfl ?_
      refine psp 21 rfl (fun c21 => ?_) (fun c21 => ?_)
      · skip
        refine SL_yes rfl ?_
        refine pB rfl rfl ?_
        refine pB rfl rfl ?_
        refine SL_nil ?_
        refine nx ?_
        refine SWP_cf rfl ?_
        refine SWP_skip ?_
        refine nb ?_
        refine nx ?_
        refine SWP_weak (List.sublist_cons_self _ _) ?_
        refine SWP_region ?_
        first | refine pw rfl rfl (w64 (by omega) (by omega)) ?_ | refine pu rfl rfl ?_
        refine pI rfl rfl ?_
        refine SL_nil ?_
        refine nx ?_
        refine ⟨by repeat (first | exact Under.upds rfl (Under.hav _ _ _) | exact Under.hav _ _ _ | refine Under.upd rfl ?_), ?_, ?_⟩
        · first
            | refine ⟨i + 1, _, σw, rfl, by omega, ?_, rfl, rfl⟩
              rw [dissN_snoc hK]
              first
                | (rw [if_pos (dissB_iff.2 (.inr (by assumption)))]; exact hown9)
                | (rw [if_pos (dissB_iff.2 (.inl (by simp_all)))]; exact hown9)
            | refine ⟨i + 1, _, σ1, rfl, by omega, ?_, rfl, rfl⟩
              rw [dissN_snoc hK, if_neg (fun h => by rcases dissB_iff.1 h with h | h <;> simp_all)]
              exact hown
        · simp only [L_vals, List.map, List.getD]; show X.length - (i + 1) < X.length - i; omega
      refine SL_yes rfl ?_
      refine pB rfl rfl ?_
      refine pB rfl rfl ?_
      refine SL_nil ?_
      refine nx ?_
      refine SWP_ct rfl ?_
      refine SWP_region ?_
      first | refine pL rfl rfl ?_ | refine pu rfl rfl ?_
      refine pu rfl rfl ?_
      refine lw (v := .int .i64 _) B7 0 rfl rfl rfl rfl ?_
      refine bs rfl rfl rfl rfl rfl (fun B27 => ?_)
      refine ap (e := 3) (size := 1) (bytes := 8) rfl rfl rfl rfl rfl rfl rfl hown (permX [_, _] σ1 _) rfl (Rd.of_cells (.head _)) rfl rfl (by have h1 := dissN_le r.key ((X.map Rep.key).take i); rw [List.length_take] at h1; rw [flatMap_len intE_len]; omega) rfl rfl (fun w σw howw => ?_)
      have hown9 : OwnS 3 1 w ((dissN r.key ((X.map Rep.key).take i) ++ [y.wt]).flatMap intE) σw := by
        rw [List.flatMap_append]; exact howw
      refine SL_weak (List.Sublist.append_left (.cons _ (.cons _ (.refl _))) _) ?_
      first | refine pL rfl rfl ?_ | refine pu rfl rfl ?_
      refine SL_nil ?_
      refine nb ?_
      refine nx ?_
      refine SWP_region ?_
      first | refine pw rfl rfl (w64 (by omega) (by omega)) ?_ | refine pu rfl rfl ?_
      refine pI rfl rfl ?_
      refine SL_nil ?_
      refine nx ?_
      refine ⟨by repeat (first | exact Under.upds rfl (Under.hav _ _ _) | exact Under.hav _ _ _ | refine Under.upd rfl ?_), ?_, ?_⟩
      · first
          | refine ⟨i + 1, _, σw, rfl, by omega, ?_, rfl, rfl⟩
            rw [dissN_snoc hK]
            first
              | (rw [if_pos (dissB_iff.2 (.inr (by assumption)))]; exact hown9)
              | (rw [if_pos (dissB_iff.2 (.inl (by simp_all)))]; exact hown9)
          | refine ⟨i + 1, _, σ1, rfl, by omega, ?_, rfl, rfl⟩
            rw [dissN_snoc hK, if_neg (fun h => by rcases dissB_iff.1 h with h | h <;> simp_all)]
            exact hown
      · simp only [L_vals, List.map, List.getD]; show X.length - (i + 1) < X.length - i; omega
    refine pB rfl rfl ?_
    refine pB rfl rfl ?_
    refine SL_no rfl rfl ?_
    refine SL_no rfl rfl ?_
    refine SL_no rfl rfl ?_
    refine SL_no rfl rfl ?_
    refine SL_no rfl rfl ?_
    refine pB rfl rfl ?_
    refine SL_nil ?_
    refine nx ?_
    refine SWP_ct rfl ?_
    refine SWP_region ?_
    first | refine pL rfl rfl ?_ | refine pu rfl rfl ?_
    refine pu rfl rfl ?_
    refine lw (v := .int .i64 _) B7 0 rfl rfl rfl rfl ?_
    refine bs rfl rfl rfl rfl rfl (fun B27 => ?_)
    refine ap (e := 3) (size := 1) (bytes := 8) rfl rfl rfl rfl rfl rfl rfl hown (permX [_, _] σ1 _) rfl (Rd.of_cells (.head _)) rfl rfl (by have h1 := dissN_le r.key ((X.map Rep.key).take i); rw [List.length_take] at h1; rw [flatMap_len intE_len]; omega) rfl rfl (fun w σw howw => ?_)
    have hown9 : OwnS 3 1 w ((dissN r.key ((X.map Rep.key).take i) ++ [y.wt]).flatMap intE) σw := by
      rw [List.flatMap_append]; exact howw
    refine SL_weak (List.Sublist.append_left (.cons _ (.cons _ (.refl _))) _) ?_
    first | refine pL rfl rfl ?_ | refine pu rfl rfl ?_
    refine SL_nil ?_
    refine nb ?_
    refine nx ?_
    refine SWP_region ?_
    first | refine pw rfl rfl (w64 (by omega) (by omega)) ?_ | refine pu rfl rfl ?_
    refine pI rfl rfl ?_
    refine SL_nil ?_
    refine nx ?_
    refine ⟨by repeat (first | exact Under.upds rfl (Under.hav _ _ _) | exact Under.hav _ _ _ | refine Under.upd rfl ?_), ?_, ?_⟩
    · first
        | refine ⟨i + 1, _, σw, rfl, by omega, ?_, rfl, rfl⟩
          rw [dissN_snoc hK]
          first
            | (rw [if_pos (dissB_iff.2 (.inr (by assumption)))]; exact hown9)
            | (rw [if_pos (dissB_iff.2 (.inl (by simp_all)))]; exact hown9)
        | refine ⟨i + 1, _, σ1, rfl, by omega, ?_, rfl, rfl⟩
          rw [dissN_snoc hK, if_neg (fun h => by rcases dissB_iff.1 h with h | h <;> simp_all)]
          exact hown
    · simp only [L_vals, List.map, List.getD]; show X.length - (i + 1) < X.length - i; omega
  refine SL_nil ?_
  refine nx ?_
  refine SWP_seq ?_
  refine SWP_cf rfl ?_
  refine SWP_exit ?_
  refine ne ?_
  refine ne ?_
  refine be rfl ?_
  refine nx ?_
  refine SWP_seq ?_
  refine SWP_region ?_
  first | refine pL rfl rfl ?_ | refine pu rfl rfl ?_
  first | refine pL rfl rfl ?_ | refine pu rfl rfl ?_
  refine SL_nil ?_
  refine nx ?_
  refine SWP_ret ?_
  refine fin [_] ⟨rfl, trivial⟩ ?_
  obtain rfl : i = X.length := by omega
  refine ⟨σ1, _, rfl, ?_⟩
  show OwnS 3 1 (.slice wa (dissN r.key ((X.map Rep.key).take X.length)).length wk) ((dissN r.key (X.map Rep.key)).flatMap intE) σ1
  rw [keys_all] at hown ⊢
  exact hown

end Go.Proofs.Ytnpnleapnbdllaa

