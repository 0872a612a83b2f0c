/- lotteryref28.Check: the same error as drum.Check. -/
import Derived.Test.YtkopdlglenejmaaGamK
namespace Go.Proofs.Ytkopdlglenejmaa
open Eng

set_option maxRecDepth 100000 in
theorem orderR {m : Mem} {v : Value} {l : List Int} (h : RL m intE 1 v l) (lo hi : Int) (o : Bool) : PureCall Try.prog 55 [v, .int .i64 lo, .int .i64 hi, .bool o] m (.int .i64 (listErr lo hi o l)) := by
  refine CallsS.pure ?_
  have hsm := h.small
  obtain ⟨pa, pcap, rfl⟩ := h.len
  refine enter Try.func55 Try.ntmps55 rfl rfl ?_
  refine SWP_seq ?_
  refine SWP_region ?_
  refine pI rfl rfl ?_
  refine SL_nil ?_
  refine nx ?_
  refine SWP_seq ?_
  refine SWP_seq ?_
  refine SWP_region ?_
  refine pI rfl rfl ?_
  refine SL_nil ?_
  refine nx ?_
  refine SWP_block ?_
  refine SWP_loop [8, 9, 10, 11, 12, 13, 14, 15, 16, 17, 18, 19, 20, 21, 22, 23, 24, 25, 26, 27, 28, 29, 30, 31, 32, 33, 34, 35, 36, 37, 38, 39, 40, 41, 42, 43, 44, 45, 46] [9]
      (fun vs σ' m' => ∃ (i : Nat), vs = [.int .i64 (i : Nat)] ∧ i ≤ l.length ∧ (∀ j, j < i → leAt lo hi o l j = 0) ∧ σ' = [] ∧ m = m')
      (fun vs => l.length - nOf (vs.getD 0 undef)) rfl ?_ ?_
  · exact ⟨0, rfl, by omega, fun j hj => (by omega), rfl, rfl⟩
  intro u0 vs0 σ0 m0 hJ0 _
  obtain ⟨i, rfl, hi, hall, rfl, rfl⟩ := hJ0
  refine SWP_seq ?_
  refine SWP_seq ?_
  refine SWP_region ?_
  first | refine pI rfl rfl ?_ | refine pu rfl rfl ?_
  first | refine pL rfl rfl ?_ | refine pu rfl rfl ?_
  refine pu rfl rfl ?_
  refine pc rfl rfl (fun c13 => ?_) (fun c13 => ?_)
  · skip
    refine SL_nil ?_
    refine nx ?_
    refine SWP_ct rfl ?_
    refine SWP_skip ?_
    refine nx ?_
    refine SWP_seq ?_
    refine SWP_block ?_
    refine SWP_seq ?_
    refine SWP_seq ?_
    obtain ⟨x, hx⟩ : ∃ x, l[i]? = some x := ⟨_, List.getElem?_eq_getElem (by omega)⟩
    obtain ⟨ad, e0, _, hat⟩ := h.atI hx
    cases e0
    have gx := getD_at hx
    refine SWP_region ?_
    first | refine pL rfl rfl ?_ | refine pu rfl rfl ?_
    first | refine pI rfl rfl ?_ | refine pu rfl rfl ?_
    first | refine ia (es := 1) rfl rfl rfl (Nat.mul_one _) rfl rfl (by omega) rfl ?_ | refine iai (es := 1) rfl rfl rfl (Nat.mul_one _) rfl rfl (by omega) (by omega) rfl ?_
    refine ldA (v := .int .i64 _) rfl (by assumption) rfl rfl ?_
    first | refine pI rfl rfl ?_ | refine pu rfl rfl ?_
    refine pc rfl rfl (fun c21 => ?_) (fun c21 => ?_)
    · skip
      refine pB rfl rfl ?_
      refine SL_no rfl rfl ?_
      refine SL_no rfl rfl ?_
      refine SL_no rfl rfl ?_
      refine SL_no rfl rfl ?_
      refine SL_no rfl rfl ?_
      refine SL_no rfl rfl ?_
      refine pB rfl rfl ?_
      refine SL_nil ?_
      refine nx ?_
      refine SWP_ct rfl ?_
      refine SWP_seq ?_
      refine SWP_region ?_
      refine pI rfl rfl ?_
      refine SL_nil ?_
      refine nx ?_
      refine SWP_ret ?_
      refine nr ?_
      refine br ?_
      refine nr ?_
      refine nr ?_
      refine br ?_
      refine nr ?_
      refine fin [_] ⟨rfl, trivial⟩ ?_
      refine congrArg (Value.int .i64) (listErr_at (by omega) hall (by omega) ?_).symm
      unfold leAt
      rw [gx]
      exact if_pos (by omega)
    refine pB rfl rfl ?_
    refine SL_yes rfl ?_
    first | refine pL rfl rfl ?_ | refine pu rfl rfl ?_
    refine SL_yes rfl ?_
    first | refine pI rfl rfl ?_ | refine pu rfl rfl ?_
    refine SL_yes rfl ?_
    first | refine ia (es := 1) rfl rfl rfl (Nat.mul_one _) rfl rfl (by omega) rfl ?_ | refine iai (es := 1) rfl rfl rfl (Nat.mul_one _) rfl rfl (by omega) (by omega) rfl ?_
    refine SL_yes rfl ?_
    refine ldA (v := .int .i64 _) rfl (by assumption) rfl rfl ?_
    refine SL_yes rfl ?_
    first | refine pI rfl rfl ?_ | refine pu rfl rfl ?_
    refine SL_yes rfl ?_
    refine pc rfl rfl (fun c28 => ?_) (fun c28 => ?_)
    · skip
      refine pB rfl rfl ?_
      refine SL_nil ?_
      refine nx ?_
      refine SWP_ct rfl ?_
      refine SWP_seq ?_
      refine SWP_region ?_
      refine pI rfl rfl ?_
      refine SL_nil ?_
      refine nx ?_
      refine SWP_ret ?_
      refine nr ?_
      refine br ?_
      refine nr ?_
      refine nr ?_
      refine br ?_
      refine nr ?_
      refine fin [_] ⟨rfl, trivial⟩ ?_
      refine congrArg (Value.int .i64) (listErr_at (by omega) hall (by omega) ?_).symm
      unfold leAt
      rw [gx]
      exact if_pos (by omega)
    refine pB rfl rfl ?_
    refine SL_nil ?_
    refine nx ?_
    refine SWP_cf rfl ?_
    refine SWP_skip ?_
    refine nx ?_
    refine SWP_seq ?_
    refine SWP_draws (by kernel_rfl) (by kernel_rfl) ?_
    refine pu (v := .bool o) rfl rfl ?_
    refine bsp 30 rfl (fun b30 => ?_) (fun b30 => ?_)
    · skip
      first | refine pB rfl rfl ?_ | refine pu rfl rfl ?_
      refine SL_yes rfl ?_
      first | refine pI rfl rfl ?_ | refine pu rfl rfl ?_
      refine SL_yes rfl ?_
      refine pc rfl rfl (fun c33 => ?_) (fun c33 => ?_)
      · skip
        refine pB rfl rfl ?_
        refine pB rfl rfl ?_
        refine SL_yes rfl ?_
        first | refine pL rfl rfl ?_ | refine pu rfl rfl ?_
        refine SL_yes rfl ?_
        first | refine pI rfl rfl ?_ | refine pu rfl rfl ?_
        refine SL_yes rfl ?_
        first | refine ia (es := 1) rfl rfl rfl (Nat.mul_one _) rfl rfl (by omega) rfl ?_ | refine iai (es := 1) rfl rfl rfl (Nat.mul_one _) rfl rfl (by omega) (by omega) rfl ?_
        refine SL_yes rfl ?_
        refine ldA (v := .int .i64 _) rfl (by assumption) rfl rfl ?_
        refine SL_yes rfl ?_
        first | refine pL rfl rfl ?_ | refine pu rfl rfl ?_
        refine SL_yes rfl ?_
        first | refine pI rfl rfl ?_ | refine pu rfl rfl ?_
        refine SL_yes rfl ?_
        refine pw rfl rfl (w64 (by omega) (by omega)) ?_
        have h0i : 0 < i := by omega
        rw [show (i : Int) - 1 = ((i - 1 : Nat) : Int) by omega]
        obtain ⟨y, hy⟩ : ∃ y, l[i - 1]? = some y := ⟨_, List.getElem?_eq_getElem (by omega)⟩
        obtain ⟨ad2, e2, _, hat2⟩ := h.atI hy
        cases e2
        have gy := getD_at hy
        refine SL_yes rfl ?_
        first | refine ia (es := 1) rfl rfl rfl (Nat.mul_one _) rfl rfl (by omega) rfl ?_ | refine iai (es := 1) rfl rfl rfl (Nat.mul_one _) rfl rfl (by omega) (by omega) rfl ?_
        refine SL_yes rfl ?_
        refine ldA (v := .int .i64 _) rfl (by assumption) rfl rfl ?_
        refine SL_yes rfl ?_
        refine pc rfl rfl (fun c45 => ?_) (fun c45 => ?_)
        · skip
          refine pB rfl rfl ?_
          refine SL_nil ?_
          refine nx ?_
          refine SWP_ct rfl ?_
          refine SWP_seq ?_
          refine SWP_region ?_
          refine pI rfl rfl ?_
          refine SL_nil ?_
          refine nx ?_
          refine SWP_ret ?_
          refine br ?_
          refine nr ?_
          refine nr ?_
          refine br ?_
          refine nr ?_
          refine fin [_] ⟨rfl, trivial⟩ ?_
          refine congrArg (Value.int .i64) (listErr_at (by omega) hall (by omega) ?_).symm
          unfold leAt
          rw [gx, gy]
          exact (if_neg (by omega)).trans (if_pos ⟨b30, h0i, by omega⟩)
        refine pB rfl rfl ?_
        refine SL_nil ?_
        refine nx ?_
        refine SWP_cf rfl ?_
        refine SWP_skip ?_
        refine nb ?_
        refine nx ?_
        refine SWP_region ?_
        first | refine pI rfl rfl ?_ | refine pu rfl rfl ?_
        first | refine pw rfl rfl (w64 (by omega) (by omega)) ?_ | refine pu rfl rfl ?_
        refine pI rfl rfl ?_
        refine SL_nil ?_
        refine nx ?_
        refine ⟨by repeat (first | exact Under.upds rfl (Under.hav _ _ _) | exact Under.hav _ _ _ | refine Under.upd rfl ?_), ?_, ?_⟩
        · refine ⟨i + 1, rfl, by omega, fun j hj => ?_, rfl, rfl⟩
          by_cases e : j = i
          · subst e
            unfold leAt
            rw [gx]
            refine (if_neg (by omega)).trans (if_neg ?_)
            rintro ⟨h1, h2, h3⟩
            first
              | exact absurd (b30.symm.trans h1) (by decide)
              | omega
              | (rw [gy] at h3; omega)
          · exact hall j (by omega)
        · simp only [L_vals, List.map, List.getD]; show l.length - (i + 1) < l.length - i; omega
      refine pB rfl rfl ?_
      refine pB rfl rfl ?_
      refine SL_no rfl rfl ?_
      refine SL_no rfl rfl ?_
      refine SL_no rfl rfl ?_
      refine SL_no rfl rfl ?_
      refine SL_no rfl rfl ?_
      refine SL_no rfl rfl ?_
      refine SL_no rfl rfl ?_
      refine SL_no rfl rfl ?_
      refine SL_no rfl rfl ?_
      refine SL_no rfl rfl ?_
      refine pB rfl rfl ?_
      refine SL_nil ?_
      refine nx ?_
      refine SWP_cf rfl ?_
      refine SWP_skip ?_
      refine nb ?_
      refine nx ?_
      refine SWP_region ?_
      first | refine pI rfl rfl ?_ | refine pu rfl rfl ?_
      first | refine pw rfl rfl (w64 (by omega) (by omega)) ?_ | refine pu rfl rfl ?_
      refine pI rfl rfl ?_
      refine SL_nil ?_
      refine nx ?_
      refine ⟨by repeat (first | exact Under.upds rfl (Under.hav _ _ _) | exact Under.hav _ _ _ | refine Under.upd rfl ?_), ?_, ?_⟩
      · refine ⟨i + 1, rfl, by omega, fun j hj => ?_, rfl, rfl⟩
        by_cases e : j = i
        · subst e
          unfold leAt
          rw [gx]
          refine (if_neg (by omega)).trans (if_neg ?_)
          rintro ⟨h1, h2, h3⟩
          first
            | exact absurd (b30.symm.trans h1) (by decide)
            | omega
            | (rw [gy] at h3; omega)
        · exact hall j (by omega)
      · simp only [L_vals, List.map, List.getD]; show l.length - (i + 1) < l.length - i; omega
    first | refine pB rfl rfl ?_ | refine pu rfl rfl ?_
    refine SL_no rfl rfl ?_
    refine SL_no rfl rfl ?_
    refine pB rfl rfl ?_
    refine pB rfl rfl ?_
    refine SL_no rfl rfl ?_
    refine SL_no rfl rfl ?_
    refine SL_no rfl rfl ?_
    refine SL_no rfl rfl ?_
    refine SL_no rfl rfl ?_
    refine SL_no rfl rfl ?_
    refine SL_no rfl rfl ?_
    refine SL_no rfl rfl ?_
    refine SL_no rfl rfl ?_
    refine SL_no rfl rfl ?_
    refine pB rfl rfl ?_
    refine SL_nil ?_
    refine nx ?_
    refine SWP_cf rfl ?_
    refine SWP_skip ?_
    refine nb ?_
    refine nx ?_
    refine SWP_region ?_
    first | refine pI rfl rfl ?_ | refine pu rfl rfl ?_
    first | refine pw rfl rfl (w64 (by omega) (by omega)) ?_ | refine pu rfl rfl ?_
    refine pI rfl rfl ?_
    refine SL_nil ?_
    refine nx ?_
    refine ⟨by repeat (first | exact Under.upds rfl (Under.hav _ _ _) | exact Under.hav _ _ _ | refine Under.upd rfl ?_), ?_, ?_⟩
    · refine ⟨i + 1, rfl, by omega, fun j hj => ?_, rfl, rfl⟩
      by_cases e : j = i
      · subst e
        unfold leAt
        rw [gx]
        refine (if_neg (by omega)).trans (if_neg ?_)
        rintro ⟨h1, h2, h3⟩
        first
          | exact absurd (b30.symm.trans h1) (by decide)
          | omega
          | (rw [gy] at h3; omega)
      · exact hall j (by omega)
    · simp only [L_vals, List.map, List.getD]; show l.length - (i + 1) < l.length - i; omega
  refine SL_nil ?_
  refine nx ?_
  refine SWP_cf rfl ?_
  refine SWP_exit ?_
  refine ne ?_
  refine ne ?_
  refine be rfl ?_
  refine nx ?_
  refine SWP_seq ?_
  refine SWP_region ?_
  refine pI rfl rfl ?_
  refine SL_nil ?_
  refine nx ?_
  refine SWP_ret ?_
  refine fin [_] ⟨rfl, trivial⟩ ?_
  exact congrArg (Value.int .i64) (listErr_zero.2 fun j hj => hall j (by omega)).symm

theorem hasR {m : Mem} {v : Value} {l : List Int} (h : RL m intE 1 v l) (x : Int) : PureCall Try.prog 17 [v, .int .i64 x] m (.bool (decide (x ∈ l))) := by
  refine CallsS.pure ?_
  have hsm := h.small
  obtain ⟨pa, pcap, rfl⟩ := h.len
  refine enter Try.func17 Try.ntmps17 rfl rfl ?_
  refine SWP_seq ?_
  refine SWP_region ?_
  refine pB rfl rfl ?_
  refine SL_nil ?_
  refine nx ?_
  refine SWP_seq ?_
  refine SWP_seq ?_
  refine SWP_region ?_
  refine pI rfl rfl ?_
  refine SL_nil ?_
  refine nx ?_
  refine SWP_block ?_
  refine SWP_loop [4, 5, 6, 7, 8, 9, 10, 11, 12, 13, 14, 15, 16, 17] [5]
      (fun vs σ' m' => ∃ (i : Nat), vs = [.int .i64 (i : Nat)] ∧ i ≤ l.length ∧ x ∉ l.take i ∧ σ' = [] ∧ m = m')
      (fun vs => l.length - nOf (vs.getD 0 undef)) rfl ?_ ?_
  · exact ⟨0, rfl, by omega, by simp, rfl, rfl⟩
  intro u0 vs0 σ0 m0 hJ0 _
  obtain ⟨i, rfl, hi, hno, rfl, rfl⟩ := hJ0
  refine SWP_seq ?_
  refine SWP_seq ?_
  refine SWP_region ?_
  first | refine pI rfl rfl ?_ | refine pu rfl rfl ?_
  first | refine pL rfl rfl ?_ | refine pu rfl rfl ?_
  refine pu rfl rfl ?_
  refine pc rfl rfl (fun c9 => ?_) (fun c9 => ?_)
  · skip
    refine SL_nil ?_
    refine nx ?_
    refine SWP_ct rfl ?_
    refine SWP_skip ?_
    refine nx ?_
    refine SWP_seq ?_
    refine SWP_block ?_
    refine SWP_seq ?_
    obtain ⟨y, hy⟩ : ∃ y, l[i]? = some y := ⟨_, List.getElem?_eq_getElem (by omega)⟩
    obtain ⟨ad, e0, _, hat⟩ := h.atI hy
    cases e0
    refine SWP_region ?_
    first | refine pL rfl rfl ?_ | refine pu rfl rfl ?_
    first | refine pI rfl rfl ?_ | refine pu rfl rfl ?_
    first | refine ia (es := 1) rfl rfl rfl (Nat.mul_one _) rfl rfl (by omega) rfl ?_ | refine iai (es := 1) rfl rfl rfl (Nat.mul_one _) rfl rfl (by omega) (by omega) rfl ?_
    refine ldA (v := .int .i64 _) rfl (by assumption) rfl rfl ?_
    first | refine pI rfl rfl ?_ | refine pu rfl rfl ?_
    refine pc rfl rfl (fun c17 => ?_) (fun c17 => ?_)
    · skip
      refine SL_nil ?_
      refine nx ?_
      refine SWP_ct rfl ?_
      refine SWP_seq ?_
      refine SWP_region ?_
      refine pB rfl rfl ?_
      refine SL_nil ?_
      refine nx ?_
      refine SWP_ret ?_
      refine br ?_
      refine nr ?_
      refine nr ?_
      refine br ?_
      refine nr ?_
      refine fin [_] ⟨rfl, trivial⟩ ?_
      exact congrArg Value.bool (decide_eq_true (by rw [← c17]; exact List.mem_of_getElem? hy)).symm
    refine SL_nil ?_
    refine nx ?_
    refine SWP_cf rfl ?_
    refine SWP_skip ?_
    refine nb ?_
    refine nx ?_
    refine SWP_region ?_
    first | refine pI rfl rfl ?_ | refine pu rfl rfl ?_
    first | refine pw rfl rfl (w64 (by omega) (by omega)) ?_ | refine pu rfl rfl ?_
    refine pI rfl rfl ?_
    refine SL_nil ?_
    refine nx ?_
    refine ⟨by repeat (first | exact Under.upds rfl (Under.hav _ _ _) | exact Under.hav _ _ _ | refine Under.upd rfl ?_), ?_, ?_⟩
    · refine ⟨i + 1, rfl, by omega, fun hm => ?_, rfl, rfl⟩
      rw [take_snocA hy] at hm
      rcases List.mem_append.1 hm with hm | hm
      · exact hno hm
      · rw [List.mem_singleton] at hm; exact c17 hm.symm
    · simp only [L_vals, List.map, List.getD]; show l.length - (i + 1) < l.length - i; omega
  refine SL_nil ?_
  refine nx ?_
  refine SWP_cf rfl ?_
  refine SWP_exit ?_
  refine ne ?_
  refine ne ?_
  refine be rfl ?_
  refine nx ?_
  refine SWP_seq ?_
  refine SWP_region ?_
  refine pB rfl rfl ?_
  refine SL_nil ?_
  refine nx ?_
  refine SWP_ret ?_
  refine fin [_] ⟨rfl, trivial⟩ ?_
  rw [List.take_of_length_le (by omega)] at hno
  exact congrArg Value.bool (decide_eq_false hno).symm

set_option maxRecDepth 100000 in
theorem addonX {m : Mem} {g : Game} (hin : g.In m) (k : Int) : CallsS Try.prog 56 [g.val, .int .i64 k].toArray [] m fun r σ' m' => σ' = [] ∧ m' = m ∧ ∃ n : Int, r = .int .i64 n ∧ ((n < 0 ∧ findA k g.addons = none) ∨ ∃ (i : Nat) (a : Addon), n = i ∧ g.addons[i]? = some a ∧ findA k g.addons = some a) := by
  refine CallsS.forget (R := fun r => ∃ n : Int, r = .int .i64 n ∧ ((n < 0 ∧ findA k g.addons = none) ∨ ∃ (i : Nat) (a : Addon), n = i ∧ g.addons[i]? = some a ∧ findA k g.addons = some a)) ?_
  dsimp only [Game.val]
  have hsm := hin.ads.small
  refine enter Try.func56 Try.ntmps56 rfl rfl ?_
  refine SWP_seq ?_
  refine SWP_region ?_
  refine bx (v := .agg _) rfl rfl (fun B2 => ?_)
  refine pI rfl rfl ?_
  refine SL_nil ?_
  refine nx ?_
  refine SWP_seq ?_
  refine SWP_seq ?_
  refine SWP_region ?_
  refine pI rfl rfl ?_
  refine SL_nil ?_
  refine nx ?_
  refine SWP_block ?_
  refine SWP_loop [4, 5, 6, 7, 8, 9, 10, 11, 12, 13, 14, 15, 16, 17, 18, 19, 20, 21] [5]
      (fun vs σ' m' => ∃ (i : Nat), vs = [.int .i64 (i : Nat)] ∧ i ≤ g.addons.length ∧ (∀ b ∈ g.addons.take i, b.kind ≠ k) ∧ σ' = [(B2, Cells 25 g.enc)] ∧ m = m')
      (fun vs => g.addons.length - nOf (vs.getD 0 undef)) rfl ?_ ?_
  · exact ⟨0, rfl, by omega, by simp, rfl, rfl⟩
  intro u0 vs0 σ0 m0 hJ0 _
  obtain ⟨i, rfl, hi, hno, rfl, rfl⟩ := hJ0
  dsimp only [Game.enc]
  refine SWP_seq ?_
  refine SWP_seq ?_
  refine SWP_region ?_
  first | refine pI rfl rfl ?_ | refine pu rfl rfl ?_
  refine pu rfl rfl ?_
  refine lw (v := .slice _ _ _) B2 20 rfl rfl rfl rfl ?_
  refine pu rfl rfl ?_
  refine pc rfl rfl (fun c10 => ?_) (fun c10 => ?_)
  · skip
    refine SL_nil ?_
    refine nx ?_
    refine SWP_ct rfl ?_
    refine SWP_skip ?_
    refine nx ?_
    refine SWP_seq ?_
    refine SWP_block ?_
    refine SWP_seq ?_
    refine SWP_region ?_
    refine pu rfl rfl ?_
    refine lw (v := .slice _ _ _) B2 20 rfl rfl rfl rfl ?_
    first | refine pI rfl rfl ?_ | refine pu rfl rfl ?_
    obtain ⟨a, ha⟩ : ∃ a, g.addons[i]? = some a := ⟨_, List.getElem?_eq_getElem (by omega)⟩
    obtain ⟨ad, e0, _, hat⟩ := hin.ads.atA Addon.enc_len ha
    rw [e0]
    first | refine ia (es := 6) rfl rfl rfl rfl rfl rfl (by omega) rfl ?_ | refine iai (es := 6) rfl rfl rfl rfl rfl rfl (by omega) (by omega) rfl ?_
    rw [← e0]
    refine pu rfl rfl ?_
    refine ldF (v := .int .i64 _) rfl rfl (by assumption) rfl rfl ?_
    first | refine pI rfl rfl ?_ | refine pu rfl rfl ?_
    refine pc rfl rfl (fun c20 => ?_) (fun c20 => ?_)
    · skip
      refine SL_nil ?_
      refine nx ?_
      refine SWP_ct rfl ?_
      refine SWP_seq ?_
      refine SWP_region ?_
      first | refine pI rfl rfl ?_ | refine pu rfl rfl ?_
      first | refine pI rfl rfl ?_ | refine pu rfl rfl ?_
      refine SL_nil ?_
      refine nx ?_
      refine SWP_ret ?_
      refine br ?_
      refine nr ?_
      refine nr ?_
      refine br ?_
      refine nr ?_
      refine fin [_] ⟨rfl, trivial⟩ ?_
      exact ⟨_, rfl, .inr ⟨i, a, rfl, ha, findA_at hno ha c20⟩⟩
    refine SL_nil ?_
    refine nx ?_
    refine SWP_cf rfl ?_
    refine SWP_skip ?_
    refine nb ?_
    refine nx ?_
    refine SWP_region ?_
    first | refine pI rfl rfl ?_ | refine pu rfl rfl ?_
    first | refine pw rfl rfl (w64 (by omega) (by omega)) ?_ | refine pu rfl rfl ?_
    refine pI rfl rfl ?_
    refine SL_nil ?_
    refine nx ?_
    refine ⟨by repeat (first | exact Under.upds rfl (Under.hav _ _ _) | exact Under.hav _ _ _ | refine Under.upd rfl ?_), ?_, ?_⟩
    · refine ⟨i + 1, rfl, by omega, fun b hb => ?_, rfl, rfl⟩
      rw [take_snocA ha] at hb
      rcases List.mem_append.1 hb with hb | hb
      · exact hno b hb
      · rw [List.mem_singleton.1 hb]; exact c20
    · simp only [L_vals, List.map, List.getD]; show g.addons.length - (i + 1) < g.addons.length - i; omega
  refine SL_nil ?_
  refine nx ?_
  refine SWP_cf rfl ?_
  refine SWP_exit ?_
  refine ne ?_
  refine ne ?_
  refine be rfl ?_
  refine nx ?_
  refine SWP_seq ?_
  refine SWP_region ?_
  refine pI rfl rfl ?_
  refine SL_nil ?_
  refine nx ?_
  refine SWP_ret ?_
  refine fin [_] ⟨rfl, trivial⟩ ?_
  exact ⟨_, rfl, .inl ⟨by omega, findA_none (fun a ha => hno a (by rw [List.take_of_length_le (by omega)]; exact ha))⟩⟩

set_option maxRecDepth 100000 in
theorem numsR {m : Mem} {g : Game} {r : Res} (hr : r.In m) (hok : GameOk g) : PureCall Try.prog 32 [g.val, r.val] m (.int .i64 (numsErr g r)) := by
  refine CallsS.pure ?_
  dsimp only [Game.val, Res.val]
  refine enter Try.func32 Try.ntmps32 rfl rfl ?_
  refine SWP_seq ?_
  refine SWP_region ?_
  refine bx (v := .agg _) rfl rfl (fun B2 => ?_)
  refine bx (v := .agg _) rfl rfl (fun B3 => ?_)
  refine pI rfl rfl ?_
  refine SL_nil ?_
  refine nx ?_
  refine SWP_merge1 [4, 7, 8, 9, 10, 11, 12, 13, 14, 15, 16, 17, 18, 19, 20, 21, 22, 23, 24, 25, 26, 27, 28] []
      (fun vs σ' m' => vs = [] ∧ ((r.main.length : Int) = g.main ∧ (r.bonus.length : Int) = g.bonus ∧ (r.extra.length : Int) = g.extra) ∧ σ' = [(B3, Cells 31 r.enc), (B2, Cells 25 g.enc)] ∧ m = m')
      rfl ?_ ?_
  · skip
    refine SWP_seq ?_
    refine SWP_region ?_
    refine pu rfl rfl ?_
    refine lw (v := .slice _ _ _) B3 0 rfl rfl rfl rfl ?_
    refine pu rfl rfl ?_
    refine pu rfl rfl ?_
    refine lw (v := .int .i64 _) B2 3 rfl rfl rfl rfl ?_
    refine pc rfl rfl (fun c12 => ?_) (fun c12 => ?_)
    · skip
      refine pB rfl rfl ?_
      refine SL_no rfl rfl ?_
      refine SL_no rfl rfl ?_
      refine SL_no rfl rfl ?_
      refine SL_no rfl rfl ?_
      refine SL_no rfl rfl ?_
      refine SL_no rfl rfl ?_
      refine pB rfl rfl ?_
      refine pB rfl rfl ?_
      refine SL_no rfl rfl ?_
      refine SL_no rfl rfl ?_
      refine SL_no rfl rfl ?_
      refine SL_no rfl rfl ?_
      refine SL_no rfl rfl ?_
      refine SL_no rfl rfl ?_
      refine pB rfl rfl ?_
      refine SL_nil ?_
      refine nx ?_
      refine SWP_ct rfl ?_
      refine SWP_seq ?_
      refine SWP_region ?_
      refine pI rfl rfl ?_
      refine SL_nil ?_
      refine nx ?_
      refine SWP_ret ?_
      refine nr ?_
      refine fin [_] ⟨rfl, trivial⟩ ?_
      refine congrArg (Value.int .i64) ?_
      unfold numsErr
      exact (if_pos (by omega)).symm
    refine pB rfl rfl ?_
    refine SL_yes rfl ?_
    refine pu rfl rfl ?_
    refine SL_yes rfl ?_
    refine lw (v := .slice _ _ _) B3 1 rfl rfl rfl rfl ?_
    refine SL_yes rfl ?_
    refine pu rfl rfl ?_
    refine SL_yes rfl ?_
    refine pu rfl rfl ?_
    refine SL_yes rfl ?_
    refine lw (v := .int .i64 _) B2 5 rfl rfl rfl rfl ?_
    refine SL_yes rfl ?_
    refine pc rfl rfl (fun c19 => ?_) (fun c19 => ?_)
    · skip
      refine pB rfl rfl ?_
      refine pB rfl rfl ?_
      refine SL_no rfl rfl ?_
      refine SL_no rfl rfl ?_
      refine SL_no rfl rfl ?_
      refine SL_no rfl rfl ?_
      refine SL_no rfl rfl ?_
      refine SL_no rfl rfl ?_
      refine pB rfl rfl ?_
      refine SL_nil ?_
      refine nx ?_
      refine SWP_ct rfl ?_
      refine SWP_seq ?_
      refine SWP_region ?_
      refine pI rfl rfl ?_
      refine SL_nil ?_
      refine nx ?_
      refine SWP_ret ?_
      refine nr ?_
      refine fin [_] ⟨rfl, trivial⟩ ?_
      refine congrArg (Value.int .i64) ?_
      unfold numsErr
      exact (if_pos (by omega)).symm
    refine pB rfl rfl ?_
    refine pB rfl rfl ?_
    refine SL_yes rfl ?_
    refine pu rfl rfl ?_
    refine SL_yes rfl ?_
    refine lw (v := .slice _ _ _) B3 2 rfl rfl rfl rfl ?_
    refine SL_yes rfl ?_
    refine pu rfl rfl ?_
    refine SL_yes rfl ?_
    refine pu rfl rfl ?_
    refine SL_yes rfl ?_
    refine lw (v := .int .i64 _) B2 7 rfl rfl rfl rfl ?_
    refine SL_yes rfl ?_
    refine pc rfl rfl (fun c27 => ?_) (fun c27 => ?_)
    · skip
      refine pB rfl rfl ?_
      refine SL_nil ?_
      refine nx ?_
      refine SWP_ct rfl ?_
      refine SWP_seq ?_
      refine SWP_region ?_
      refine pI rfl rfl ?_
      refine SL_nil ?_
      refine nx ?_
      refine SWP_ret ?_
      refine nr ?_
      refine fin [_] ⟨rfl, trivial⟩ ?_
      refine congrArg (Value.int .i64) ?_
      unfold numsErr
      exact (if_pos (by omega)).symm
    refine pB rfl rfl ?_
    refine SL_nil ?_
    refine nx ?_
    refine SWP_cf rfl ?_
    refine SWP_skip ?_
    refine nx ?_
    refine ⟨by repeat (first | with_reducible exact Under.refl _ _ | exact Under.upds rfl (Under.hav _ _ _) | exact Under.hav _ _ _ | refine Under.upd rfl ?_ | refine Under.upds rfl ?_ | refine Under.hav2 rfl ?_), ?_⟩
    exact ⟨rfl, ⟨by omega, by omega, by omega⟩, rfl, rfl⟩
  intro uM0 vM0 σM0 mM0 hM0 _
  obtain ⟨rfl, ⟨hm1, hm2, hm3⟩, rfl, rfl⟩ := hM0
  have hmx := hok.mx.h2
  dsimp only [Res.enc, Game.enc]
  refine SWP_seq ?_
  refine SWP_seq ?_
  refine SWP_region ?_
  refine pu rfl rfl ?_
  refine lw (v := .int .i64 _) B2 1 rfl rfl rfl rfl ?_
  refine pc rfl rfl (fun c31 => ?_) (fun c31 => ?_)
  · skip
    refine SL_nil ?_
    refine nx ?_
    refine SWP_ct rfl ?_
    refine SWP_seq ?_
    refine SWP_region ?_
    refine pu rfl rfl ?_
    refine lw (v := .slice _ _ _) B3 0 rfl rfl rfl rfl ?_
    refine pu rfl rfl ?_
    refine lw (v := .int .i64 _) B2 4 rfl rfl rfl rfl ?_
    refine pw rfl rfl (w64 (by have := hok.mx.h3; have := hok.mx.h4; omega) (by have := hok.mx.h3; have := hok.mx.h4; omega)) ?_
    refine SL_pcall rfl rfl cb55 (orderR hr.mn 0 (g.of - 1) false) rfl ?_
    first | refine pI rfl rfl ?_ | refine pu rfl rfl ?_
    refine SL_nil ?_
    refine nx ?_
    refine SWP_ret ?_
    refine nr ?_
    refine fin [_] ⟨rfl, trivial⟩ ?_
    refine congrArg (Value.int .i64) ?_
    unfold numsErr
    exact ((if_neg (by omega)).trans (if_pos (by assumption))).symm
  refine SL_nil ?_
  refine nx ?_
  refine SWP_cf rfl ?_
  refine SWP_skip ?_
  refine nx ?_
  refine SWP_seq ?_
  refine SWP_region ?_
  refine pu rfl rfl ?_
  refine lw (v := .slice _ _ _) B3 0 rfl rfl rfl rfl ?_
  refine pu rfl rfl ?_
  refine lw (v := .int .i64 _) B2 4 rfl rfl rfl rfl ?_
  refine SL_pcall rfl rfl cb55 (orderR hr.mn 1 g.of true) rfl ?_
  first | refine pI rfl rfl ?_ | refine pu rfl rfl ?_
  refine SL_nil ?_
  refine nx ?_
  refine SWP_merge1 [5, 43, 44, 45, 46, 47, 48, 49] [5]
      (fun vs σ' m' => ∃ e : Int, vs = [.int .i64 e] ∧ (e = if listErr 1 g.of true r.main ≠ 0 then listErr 1 g.of true r.main else listErr 1 g.bonusOf true r.bonus) ∧ σ' = [(B3, Cells 31 r.enc), (B2, Cells 25 g.enc)] ∧ m = m')
      rfl ?_ ?_
  · skip
    refine SWP_seq ?_
    refine SWP_region ?_
    first | refine pI rfl rfl ?_ | refine pu rfl rfl ?_
    refine pc rfl rfl (fun c44 => ?_) (fun c44 => ?_)
    · skip
      refine SL_nil ?_
      refine nx ?_
      refine SWP_ct rfl ?_
      refine SWP_region ?_
      refine pu rfl rfl ?_
      refine lw (v := .slice _ _ _) B3 1 rfl rfl rfl rfl ?_
      refine pu rfl rfl ?_
      refine lw (v := .int .i64 _) B2 6 rfl rfl rfl rfl ?_
      refine SL_pcall rfl rfl cb55 (orderR hr.bn 1 g.bonusOf true) rfl ?_
      first | refine pI rfl rfl ?_ | refine pu rfl rfl ?_
      refine SL_nil ?_
      refine nx ?_
      refine ⟨by repeat (first | with_reducible exact Under.refl _ _ | exact Under.upds rfl (Under.hav _ _ _) | exact Under.hav _ _ _ | refine Under.upd rfl ?_ | refine Under.upds rfl ?_ | refine Under.hav2 rfl ?_), ?_⟩
      refine ⟨_, rfl, ?_, rfl, rfl⟩
      first | exact (if_neg (Classical.not_not.2 (by assumption))).symm | exact (if_pos (by assumption)).symm
    refine SL_nil ?_
    refine nx ?_
    refine SWP_cf rfl ?_
    refine SWP_skip ?_
    refine nx ?_
    refine ⟨by repeat (first | with_reducible exact Under.refl _ _ | exact Under.upds rfl (Under.hav _ _ _) | exact Under.hav _ _ _ | refine Under.upd rfl ?_ | refine Under.upds rfl ?_ | refine Under.hav2 rfl ?_), ?_⟩
    refine ⟨_, rfl, ?_, rfl, rfl⟩
    first | exact (if_neg (Classical.not_not.2 (by assumption))).symm | exact (if_pos (by assumption)).symm
  intro uM1 vM1 σM1 mM1 hM1 _
  obtain ⟨e1, rfl, he1, rfl, rfl⟩ := hM1
  dsimp only [Res.enc, Game.enc]
  refine SWP_merge1 [5, 50, 51, 52, 53, 54, 55, 56] [5]
      (fun vs σ' m' => ∃ e : Int, vs = [.int .i64 e] ∧ (e = if e1 ≠ 0 then e1 else listErr 1 g.of true r.extra) ∧ σ' = [(B3, Cells 31 r.enc), (B2, Cells 25 g.enc)] ∧ m = m')
      rfl ?_ ?_
  · skip
    refine SWP_seq ?_
    refine SWP_region ?_
    first | refine pI rfl rfl ?_ | refine pu rfl rfl ?_
    refine pc rfl rfl (fun c51 => ?_) (fun c51 => ?_)
    · skip
      refine SL_nil ?_
      refine nx ?_
      refine SWP_ct rfl ?_
      refine SWP_region ?_
      refine pu rfl rfl ?_
      refine lw (v := .slice _ _ _) B3 2 rfl rfl rfl rfl ?_
      refine pu rfl rfl ?_
      refine lw (v := .int .i64 _) B2 4 rfl rfl rfl rfl ?_
      refine SL_pcall rfl rfl cb55 (orderR hr.xn 1 g.of true) rfl ?_
      first | refine pI rfl rfl ?_ | refine pu rfl rfl ?_
      refine SL_nil ?_
      refine nx ?_
      refine ⟨by repeat (first | with_reducible exact Under.refl _ _ | exact Under.upds rfl (Under.hav _ _ _) | exact Under.hav _ _ _ | refine Under.upd rfl ?_ | refine Under.upds rfl ?_ | refine Under.hav2 rfl ?_), ?_⟩
      refine ⟨_, rfl, ?_, rfl, rfl⟩
      first | exact (if_neg (Classical.not_not.2 (by assumption))).symm | exact (if_pos (by assumption)).symm
    refine SL_nil ?_
    refine nx ?_
    refine SWP_cf rfl ?_
    refine SWP_skip ?_
    refine nx ?_
    refine ⟨by repeat (first | with_reducible exact Under.refl _ _ | exact Under.upds rfl (Under.hav _ _ _) | exact Under.hav _ _ _ | refine Under.upd rfl ?_ | refine Under.upds rfl ?_ | refine Under.hav2 rfl ?_), ?_⟩
    refine ⟨_, rfl, ?_, rfl, rfl⟩
    first | exact (if_neg (Classical.not_not.2 (by assumption))).symm | exact (if_pos (by assumption)).symm
  intro uM2 vM2 σM2 mM2 hM2 _
  obtain ⟨e2, rfl, he2, rfl, rfl⟩ := hM2
  dsimp only [Res.enc, Game.enc]
  refine SWP_seq ?_
  refine SWP_seq ?_
  refine SWP_region ?_
  first | refine pI rfl rfl ?_ | refine pu rfl rfl ?_
  refine pc rfl rfl (fun c58 => ?_) (fun c58 => ?_)
  · skip
    refine SL_nil ?_
    refine nx ?_
    refine SWP_ct rfl ?_
    refine SWP_seq ?_
    refine SWP_region ?_
    first | refine pI rfl rfl ?_ | refine pu rfl rfl ?_
    first | refine pI rfl rfl ?_ | refine pu rfl rfl ?_
    refine SL_nil ?_
    refine nx ?_
    refine SWP_ret ?_
    refine nr ?_
    refine fin [_] ⟨rfl, trivial⟩ ?_
    refine congrArg (Value.int .i64) ?_
    unfold numsErr
    rw [if_neg (by omega), if_neg (by assumption)]
    by_cases h1 : listErr 1 g.of true r.main = 0
    · rw [if_neg (by omega)] at he1
      rw [if_neg (by omega)]
      by_cases h2 : e1 = 0
      · rw [if_neg (by omega)] at he2
        rw [if_neg (by omega), if_pos (by omega)]; omega
      · rw [if_pos h2] at he2
        rw [if_pos (by omega)]; omega
    · rw [if_pos h1] at he1
      rw [if_pos (by omega)] at he2
      rw [if_pos h1]; omega
  refine SL_nil ?_
  refine nx ?_
  refine SWP_cf rfl ?_
  refine SWP_skip ?_
  refine nx ?_
  refine SWP_seq ?_
  refine SWP_seq ?_
  have hz1 : listErr 1 g.of true r.main = 0 ∧ listErr 1 g.bonusOf true r.bonus = 0 ∧ listErr 1 g.of true r.extra = 0 := by
    by_cases h1 : listErr 1 g.of true r.main = 0
    · rw [if_neg (by omega)] at he1
      by_cases h2 : e1 = 0
      · rw [if_neg (by omega)] at he2
        exact ⟨h1, by omega, by omega⟩
      · rw [if_pos h2] at he2; omega
    · rw [if_pos h1] at he1
      rw [if_pos (by omega)] at he2; omega
  have hxl := hok.mx.h12 c31
  refine SWP_region ?_
  refine pI rfl rfl ?_
  refine SL_nil ?_
  refine nx ?_
  refine SWP_block ?_
  refine SWP_loop [4, 6, 60, 61, 62, 63, 64, 65, 66, 67, 68, 69, 70, 71, 72, 73, 74] [6]
      (fun vs σ' m' => ∃ (i : Nat), vs = [.int .i64 (i : Nat)] ∧ i ≤ r.extra.length ∧ (∀ x ∈ r.extra.take i, x ∉ r.main) ∧ σ' = [(B3, Cells 31 r.enc), (B2, Cells 25 g.enc)] ∧ m = m')
      (fun vs => r.extra.length - nOf (vs.getD 0 undef)) rfl ?_ ?_
  · exact ⟨0, rfl, by omega, by simp, rfl, rfl⟩
  intro u0 vs0 σ0 m0 hJ0 _
  obtain ⟨i, rfl, hi, hno, rfl, rfl⟩ := hJ0
  dsimp only [Res.enc, Game.enc]
  refine SWP_seq ?_
  refine SWP_seq ?_
  refine SWP_region ?_
  first | refine pI rfl rfl ?_ | refine pu rfl rfl ?_
  refine pu rfl rfl ?_
  refine lw (v := .slice _ _ _) B3 2 rfl rfl rfl rfl ?_
  refine pu rfl rfl ?_
  refine pc rfl rfl (fun c64 => ?_) (fun c64 => ?_)
  · skip
    refine SL_nil ?_
    refine nx ?_
    refine SWP_ct rfl ?_
    refine SWP_skip ?_
    refine nx ?_
    refine SWP_seq ?_
    refine SWP_block ?_
    refine SWP_seq ?_
    refine SWP_draws (by kernel_rfl) (by kernel_rfl) ?_
    refine pu rfl rfl ?_
    refine lw (v := .slice _ _ _) B3 0 rfl rfl rfl rfl ?_
    refine pu rfl rfl ?_
    refine lw (v := .slice _ _ _) B3 2 rfl rfl rfl rfl ?_
    first | refine pI rfl rfl ?_ | refine pu rfl rfl ?_
    obtain ⟨x, hx⟩ : ∃ x, r.extra[i]? = some x := ⟨_, List.getElem?_eq_getElem (by omega)⟩
    obtain ⟨ad, e0, _, hat⟩ := hr.xn.atI hx
    rw [e0]
    first | refine ia (es := 1) rfl rfl rfl (Nat.mul_one _) rfl rfl (by omega) rfl ?_ | refine iai (es := 1) rfl rfl rfl (Nat.mul_one _) rfl rfl (by omega) (by omega) rfl ?_
    rw [← e0]
    refine ldA (v := .int .i64 _) rfl (by assumption) rfl rfl ?_
    refine SL_pcall rfl rfl cb17 (hasR hr.mn x) rfl ?_
    refine psp 74 rfl (fun c74 => ?_) (fun c74 => ?_)
    · skip
      refine SL_nil ?_
      refine nx ?_
      refine SWP_ct rfl ?_
      refine SWP_seq ?_
      refine SWP_region ?_
      refine pI rfl rfl ?_
      refine SL_nil ?_
      refine nx ?_
      refine SWP_ret ?_
      refine br ?_
      refine nr ?_
      refine nr ?_
      refine br ?_
      refine nr ?_
      refine fin [_] ⟨rfl, trivial⟩ ?_
      refine congrArg (Value.int .i64) ?_
      unfold numsErr
      exact ((if_neg (by omega)).trans ((if_neg (by assumption)).trans ((if_neg (by omega)).trans ((if_neg (by omega)).trans ((if_neg (by omega)).trans (if_pos ⟨x, List.mem_of_getElem? hx, by assumption⟩)))))).symm
    refine SL_nil ?_
    refine nx ?_
    refine SWP_cf rfl ?_
    refine SWP_skip ?_
    refine nb ?_
    refine nx ?_
    refine SWP_region ?_
    first | refine pI rfl rfl ?_ | refine pu rfl rfl ?_
    first | refine pw rfl rfl (w64 (by omega) (by omega)) ?_ | refine pu rfl rfl ?_
    refine pI rfl rfl ?_
    refine SL_nil ?_
    refine nx ?_
    refine ⟨by repeat (first | exact Under.upds rfl (Under.hav _ _ _) | exact Under.hav _ _ _ | refine Under.upd rfl ?_ | refine Under.upds rfl ?_ | refine Under.hav2 rfl ?_), ?_, ?_⟩
    · refine ⟨i + 1, rfl, by omega, fun y hy => ?_, rfl, rfl⟩
      rw [take_snocA hx] at hy
      rcases List.mem_append.1 hy with hy | hy
      · exact hno y hy
      · rw [List.mem_singleton.1 hy]; assumption
    · simp only [L_vals, List.map, List.getD]; show r.extra.length - (i + 1) < r.extra.length - i; omega
  refine SL_nil ?_
  refine nx ?_
  refine SWP_cf rfl ?_
  refine SWP_exit ?_
  refine ne ?_
  refine ne ?_
  refine be rfl ?_
  refine nx ?_
  refine SWP_seq ?_
  refine SWP_region ?_
  refine pI rfl rfl ?_
  refine SL_nil ?_
  refine nx ?_
  refine SWP_ret ?_
  refine fin [_] ⟨rfl, trivial⟩ ?_
  refine congrArg (Value.int .i64) ?_
  unfold numsErr
  exact ((if_neg (by omega)).trans ((if_neg (by assumption)).trans ((if_neg (by omega)).trans ((if_neg (by omega)).trans ((if_neg (by omega)).trans (if_neg (fun ⟨x, h1, h2⟩ => hno x (by rw [List.take_of_length_le (by omega)]; exact h1) h2))))))).symm

set_option maxRecDepth 100000 in
theorem extrasR {m : Mem} {g : Game} {r : Res} (hin : g.In m) (hr : r.In m) (hs : r.serial.size ≤ 9223372036854775807) : PureCall Try.prog 33 [g.val, r.val] m (.int .i64 (xtraErr g r)) := by
  refine CallsS.pure ?_
  dsimp only [Game.val, Res.val]
  refine enter Try.func33 Try.ntmps33 rfl rfl ?_
  refine SWP_seq ?_
  refine SWP_region ?_
  refine bx (v := .agg _) rfl rfl (fun B2 => ?_)
  refine bx (v := .agg _) rfl rfl (fun B3 => ?_)
  refine pI rfl rfl ?_
  refine SL_nil ?_
  refine nx ?_
  refine SWP_seq ?_
  refine SWP_region ?_
  refine lw (v := .agg _) B2 0 rfl rfl rfl rfl ?_
  refine SL_call rfl rfl cb56 (CallsS.frame0 (addonX hin 1)) rfl (fun v1_1 σ1_1 m1_1 hl1_1 hR1_1 => ?_)
  obtain ⟨σa, rfl, rfl, hm1_1, n1, rfl, hk1⟩ := hR1_1
  have hn1_1 := hm1_1.symm
  subst hn1_1
  first | refine pI rfl rfl ?_ | refine pu rfl rfl ?_
  refine SL_nil ?_
  refine nx ?_
  refine SWP_merge1 [4, 10, 11, 12, 13, 14, 15, 16, 17, 18, 19, 20, 21, 22, 23, 24, 25, 26, 27, 28] []
      (fun vs σ' m' => vs = [] ∧ ¬ (r.factor ≠ 0 ∧ ¬ (∃ a, findA 1 g.addons = some a ∧ r.factor ∈ a.factors)) ∧ σ' = [(B3, Cells 31 r.enc), (B2, Cells 25 g.enc)] ∧ m = m')
      rfl ?_ ?_
  · skip
    refine SWP_seq ?_
    refine SWP_draws (by kernel_rfl) (by kernel_rfl) ?_
    refine pu rfl rfl ?_
    refine lw (v := .int .i64 _) B3 3 rfl rfl rfl rfl ?_
    refine pc rfl rfl (fun c12 => ?_) (fun c12 => ?_)
    · skip
      refine pB rfl rfl ?_
      refine SL_yes rfl ?_
      first | refine pI rfl rfl ?_ | refine pu rfl rfl ?_
      refine SL_yes rfl ?_
      refine pc rfl rfl (fun c15 => ?_) (fun c15 => ?_)
      · skip
        refine SL_yes rfl ?_
        refine pB rfl rfl ?_
        refine SL_no rfl rfl ?_
        refine SL_no rfl rfl ?_
        refine SL_no rfl rfl ?_
        refine SL_no rfl rfl ?_
        refine SL_no rfl rfl ?_
        refine SL_no rfl rfl ?_
        refine SL_no rfl rfl ?_
        refine SL_no rfl rfl ?_
        refine SL_no rfl rfl ?_
        refine SL_no rfl rfl ?_
        refine SL_yes rfl ?_
        refine pB rfl rfl ?_
        refine pB rfl rfl ?_
        refine SL_nil ?_
        refine nx ?_
        refine SWP_ct rfl ?_
        refine SWP_seq ?_
        refine SWP_region ?_
        refine pI rfl rfl ?_
        refine SL_nil ?_
        refine nx ?_
        refine SWP_ret ?_
        refine nr ?_
        refine fin [_] ⟨rfl, trivial⟩ ?_
        refine congrArg (Value.int .i64) ?_
        unfold xtraErr
        refine Eq.symm ?_
        rcases hk1 with ⟨_, h2⟩ | ⟨i, a, e, _, _⟩
        · exact if_pos ⟨by assumption, fun ⟨a, h3, _⟩ => by rw [h2] at h3; cases h3⟩
        · omega
      refine SL_yes rfl ?_
      refine pB rfl rfl ?_
      refine SL_yes rfl ?_
      refine pu rfl rfl ?_
      refine SL_yes rfl ?_
      refine lw (v := .slice _ _ _) B2 20 rfl rfl rfl rfl ?_
      refine SL_yes rfl ?_
      first | refine pI rfl rfl ?_ | refine pu rfl rfl ?_
      refine SL_yes rfl ?_
      rcases hk1 with ⟨h1, _⟩ | ⟨i, a, rfl, hai, hfa⟩
      · omega
      obtain ⟨ad, e0, _, hat⟩ := hin.ads.atA Addon.enc_len hai
      have hAin := hin.each a (List.mem_of_getElem? hai)
      have hilt := (List.getElem?_eq_some_iff.1 hai).1
      rw [e0]
      first | refine ia (es := 6) rfl rfl rfl rfl rfl rfl (by omega) rfl ?_ | refine iai (es := 6) rfl rfl rfl rfl rfl rfl (by omega) (by omega) rfl ?_
      rw [← e0]
      refine SL_yes rfl ?_
      refine pu rfl rfl ?_
      refine SL_yes rfl ?_
      refine ldF (v := .slice _ _ _) rfl rfl (by assumption) rfl rfl ?_
      refine SL_yes rfl ?_
      refine pu rfl rfl ?_
      refine SL_yes rfl ?_
      refine lw (v := .int .i64 _) B3 3 rfl rfl rfl rfl ?_
      refine SL_yes rfl ?_
      refine SL_pcall rfl rfl cb17 (hasR hAin.1 r.factor) rfl ?_
      refine psp 25 rfl (fun c25 => ?_) (fun c25 => ?_)
      · skip
        refine SL_yes rfl ?_
        refine pB rfl rfl ?_
        refine SL_yes rfl ?_
        refine pB rfl rfl ?_
        refine pB rfl rfl ?_
        refine SL_nil ?_
        refine nx ?_
        refine SWP_cf rfl ?_
        refine SWP_skip ?_
        refine nx ?_
        refine ⟨by repeat (first | with_reducible exact Under.refl _ _ | exact Under.upds rfl (Under.hav _ _ _) | exact Under.hav _ _ _ | refine Under.upd rfl ?_ | refine Under.upds rfl ?_ | refine Under.hav2 rfl ?_), ?_⟩
        first
        | exact ⟨rfl, fun h => h.2 ⟨a, hfa, by assumption⟩, rfl, rfl⟩
        | exact ⟨rfl, fun h => by omega, rfl, rfl⟩
      refine SL_yes rfl ?_
      refine pB rfl rfl ?_
      refine SL_yes rfl ?_
      refine pB rfl rfl ?_
      refine pB rfl rfl ?_
      refine SL_nil ?_
      refine nx ?_
      refine SWP_ct rfl ?_
      refine SWP_seq ?_
      refine SWP_region ?_
      refine pI rfl rfl ?_
      refine SL_nil ?_
      refine nx ?_
      refine SWP_ret ?_
      refine nr ?_
      refine fin [_] ⟨rfl, trivial⟩ ?_
      refine congrArg (Value.int .i64) ?_
      unfold xtraErr
      refine Eq.symm ?_
      exact if_pos ⟨by assumption, fun ⟨a2, h3, h4⟩ => by rw [hfa] at h3; cases h3; exact absurd h4 (by assumption)⟩
    refine pB rfl rfl ?_
    refine SL_no rfl rfl ?_
    refine SL_no rfl rfl ?_
    refine SL_no rfl rfl ?_
    refine SL_no rfl rfl ?_
    refine SL_no rfl rfl ?_
    refine SL_no rfl rfl ?_
    refine SL_no rfl rfl ?_
    refine SL_no rfl rfl ?_
    refine SL_no rfl rfl ?_
    refine SL_no rfl rfl ?_
    refine SL_no rfl rfl ?_
    refine SL_no rfl rfl ?_
    refine SL_no rfl rfl ?_
    refine SL_no rfl rfl ?_
    refine pB rfl rfl ?_
    refine SL_nil ?_
    refine nx ?_
    refine SWP_cf rfl ?_
    refine SWP_skip ?_
    refine nx ?_
    refine ⟨by repeat (first | with_reducible exact Under.refl _ _ | exact Under.upds rfl (Under.hav _ _ _) | exact Under.hav _ _ _ | refine Under.upd rfl ?_ | refine Under.upds rfl ?_ | refine Under.hav2 rfl ?_), ?_⟩
    first
    | exact ⟨rfl, fun h => h.2 ⟨a, hfa, by assumption⟩, rfl, rfl⟩
    | exact ⟨rfl, fun h => by omega, rfl, rfl⟩
  intro uM0 vM0 σM0 mM0 hM0 _
  obtain ⟨rfl, hfx, rfl, rfl⟩ := hM0
  dsimp only [Res.enc, Game.enc]
  refine SWP_seq ?_
  refine SWP_seq ?_
  refine SWP_region ?_
  refine pu rfl rfl ?_
  refine lw (v := .string _) B3 4 rfl rfl rfl rfl ?_
  refine pc rfl rfl (fun c31 => ?_) (fun c31 => ?_)
  · skip
    refine SL_nil ?_
    refine nx ?_
    refine SWP_ct rfl ?_
    refine SWP_seq ?_
    refine SWP_region ?_
    refine pI rfl rfl ?_
    refine SL_nil ?_
    refine nx ?_
    refine SWP_ret ?_
    refine nr ?_
    refine fin [_] ⟨rfl, trivial⟩ ?_
    refine congrArg (Value.int .i64) ?_
    unfold xtraErr
    refine Eq.symm ?_
    exact (if_neg hfx).trans (if_pos (by assumption))
  refine SL_nil ?_
  refine nx ?_
  refine SWP_cf rfl ?_
  refine SWP_skip ?_
  refine nx ?_
  refine SWP_seq ?_
  refine SWP_region ?_
  refine lw (v := .agg _) B2 0 rfl rfl rfl rfl ?_
  refine SL_call rfl rfl cb56 (CallsS.frame0 (addonX hin 2)) rfl (fun v6_1 σ6_1 m6_1 hl6_1 hR6_1 => ?_)
  obtain ⟨σa, rfl, rfl, hm6_1, n2, rfl, hk2⟩ := hR6_1
  have hn6_1 := hm6_1.symm
  subst hn6_1
  first | refine pI rfl rfl ?_ | refine pu rfl rfl ?_
  refine SL_nil ?_
  refine nx ?_
  refine SWP_merge1 [4, 34, 35, 36, 37, 38, 39, 40, 41, 42, 43, 44, 45, 46, 47] []
      (fun vs σ' m' => vs = [] ∧ (∃ a, findA 2 g.addons = some a ∧ (r.serial.size : Int) = a.digits) ∧ σ' = [(B3, Cells 31 r.enc), (B2, Cells 25 g.enc)] ∧ m = m')
      rfl ?_ ?_
  · skip
    refine SWP_seq ?_
    refine SWP_draws (by kernel_rfl) (by kernel_rfl) ?_
    first | refine pI rfl rfl ?_ | refine pu rfl rfl ?_
    refine pc rfl rfl (fun c35 => ?_) (fun c35 => ?_)
    · skip
      refine pB rfl rfl ?_
      refine SL_no rfl rfl ?_
      refine SL_no rfl rfl ?_
      refine SL_no rfl rfl ?_
      refine SL_no rfl rfl ?_
      refine SL_no rfl rfl ?_
      refine SL_no rfl rfl ?_
      refine SL_no rfl rfl ?_
      refine SL_no rfl rfl ?_
      refine SL_no rfl rfl ?_
      refine SL_no rfl rfl ?_
      refine pB rfl rfl ?_
      refine SL_nil ?_
      refine nx ?_
      refine SWP_ct rfl ?_
      refine SWP_seq ?_
      refine SWP_region ?_
      refine pI rfl rfl ?_
      refine SL_nil ?_
      refine nx ?_
      refine SWP_ret ?_
      refine nr ?_
      refine fin [_] ⟨rfl, trivial⟩ ?_
      refine congrArg (Value.int .i64) ?_
      unfold xtraErr
      refine Eq.symm ?_
      refine (if_neg hfx).trans ((if_neg (by assumption)).trans ?_)
      unfold serErr
      rcases hk2 with ⟨_, h2⟩ | ⟨i, a, e, _, _⟩
      · rw [h2]
      · omega
    refine pB rfl rfl ?_
    refine SL_yes rfl ?_
    refine pu rfl rfl ?_
    refine SL_yes rfl ?_
    refine lw (v := .string _) B3 4 rfl rfl rfl rfl ?_
    refine SL_yes rfl ?_
    refine pu rfl rfl ?_
    refine SL_yes rfl ?_
    refine pu rfl rfl ?_
    refine SL_yes rfl ?_
    refine lw (v := .slice _ _ _) B2 20 rfl rfl rfl rfl ?_
    refine SL_yes rfl ?_
    first | refine pI rfl rfl ?_ | refine pu rfl rfl ?_
    refine SL_yes rfl ?_
    rcases hk2 with ⟨h1, _⟩ | ⟨i, a, rfl, hai, hfa⟩
    · omega
    obtain ⟨ad, e0, _, hat⟩ := hin.ads.atA Addon.enc_len hai
    have hAin := hin.each a (List.mem_of_getElem? hai)
    have hilt := (List.getElem?_eq_some_iff.1 hai).1
    rw [e0]
    first | refine ia (es := 6) rfl rfl rfl rfl rfl rfl (by omega) rfl ?_ | refine iai (es := 6) rfl rfl rfl rfl rfl rfl (by omega) (by omega) rfl ?_
    rw [← e0]
    refine SL_yes rfl ?_
    refine pu rfl rfl ?_
    refine SL_yes rfl ?_
    refine ldF (v := .int .i64 _) rfl rfl (by assumption) rfl rfl ?_
    refine SL_yes rfl ?_
    refine pc rfl rfl (fun c46 => ?_) (fun c46 => ?_)
    · skip
      refine pB rfl rfl ?_
      refine SL_nil ?_
      refine nx ?_
      refine SWP_ct rfl ?_
      refine SWP_seq ?_
      refine SWP_region ?_
      refine pI rfl rfl ?_
      refine SL_nil ?_
      refine nx ?_
      refine SWP_ret ?_
      refine nr ?_
      refine fin [_] ⟨rfl, trivial⟩ ?_
      refine congrArg (Value.int .i64) ?_
      unfold xtraErr
      refine Eq.symm ?_
      refine (if_neg hfx).trans ((if_neg (by assumption)).trans ?_)
      unfold serErr
      rw [hfa]
      exact if_pos (by omega)
    refine pB rfl rfl ?_
    refine SL_nil ?_
    refine nx ?_
    refine SWP_cf rfl ?_
    refine SWP_skip ?_
    refine nx ?_
    refine ⟨by repeat (first | with_reducible exact Under.refl _ _ | exact Under.upds rfl (Under.hav _ _ _) | exact Under.hav _ _ _ | refine Under.upd rfl ?_ | refine Under.upds rfl ?_ | refine Under.hav2 rfl ?_), ?_⟩
    exact ⟨rfl, ⟨a, hfa, by omega⟩, rfl, rfl⟩
  intro uM1 vM1 σM1 mM1 hM1 _
  obtain ⟨rfl, ⟨a, hfa, hsz⟩, rfl, rfl⟩ := hM1
  dsimp only [Res.enc, Game.enc]
  refine SWP_seq ?_
  refine SWP_seq ?_
  refine SWP_region ?_
  refine pI rfl rfl ?_
  refine SL_nil ?_
  refine nx ?_
  refine SWP_block ?_
  refine SWP_loop [4, 7, 48, 49, 50, 51, 52, 53, 54, 55, 56, 57, 58, 59, 60, 61, 62, 63, 64, 65, 66] [7]
      (fun vs σ' m' => ∃ (i : Nat), vs = [.int .i64 (i : Nat)] ∧ i ≤ r.serial.size ∧ (r.serial.data.toList.take i).all digB = true ∧ σ' = [(B3, Cells 31 r.enc), (B2, Cells 25 g.enc)] ∧ m = m')
      (fun vs => r.serial.size - nOf (vs.getD 0 undef)) rfl ?_ ?_
  · exact ⟨0, rfl, by omega, by simp, rfl, rfl⟩
  intro u0 vs0 σ0 m0 hJ0 _
  obtain ⟨i, rfl, hi, hall, rfl, rfl⟩ := hJ0
  dsimp only [Res.enc, Game.enc]
  refine SWP_seq ?_
  refine SWP_seq ?_
  refine SWP_region ?_
  first | refine pI rfl rfl ?_ | refine pu rfl rfl ?_
  refine pu rfl rfl ?_
  refine lw (v := .string _) B3 4 rfl rfl rfl rfl ?_
  refine pu rfl rfl ?_
  refine pc rfl rfl (fun c52 => ?_) (fun c52 => ?_)
  · skip
    refine SL_nil ?_
    refine nx ?_
    refine SWP_ct rfl ?_
    refine SWP_skip ?_
    refine nx ?_
    refine SWP_seq ?_
    refine SWP_block ?_
    refine SWP_seq ?_
    refine SWP_region ?_
    refine pu rfl rfl ?_
    refine lw (v := .string _) B3 4 rfl rfl rfl rfl ?_
    first | refine pI rfl rfl ?_ | refine pu rfl rfl ?_
    obtain ⟨b, hb⟩ := bytes_at r.serial i (by omega)
    refine ixs (k := i) rfl rfl rfl hb rfl ?_
    refine pc rfl rfl (fun c59 => ?_) (fun c59 => ?_)
    · skip
      refine pB rfl rfl ?_
      refine SL_no rfl rfl ?_
      refine SL_no rfl rfl ?_
      refine SL_no rfl rfl ?_
      refine SL_no rfl rfl ?_
      refine SL_no rfl rfl ?_
      refine pB rfl rfl ?_
      refine SL_nil ?_
      refine nx ?_
      refine SWP_ct rfl ?_
      refine SWP_seq ?_
      refine SWP_region ?_
      refine pI rfl rfl ?_
      refine SL_nil ?_
      refine nx ?_
      refine SWP_ret ?_
      refine br ?_
      refine nr ?_
      refine nr ?_
      refine br ?_
      refine nr ?_
      refine fin [_] ⟨rfl, trivial⟩ ?_
      refine congrArg (Value.int .i64) ?_
      unfold xtraErr
      refine Eq.symm ?_
      refine (if_neg hfx).trans ((if_neg (by assumption)).trans ?_)
      unfold serErr
      rw [hfa]
      exact (if_neg (by omega)).trans (if_neg (by rw [all_no hb (decide_eq_false (by omega))]; exact Bool.noConfusion))
    refine pB rfl rfl ?_
    refine SL_yes rfl ?_
    refine pu rfl rfl ?_
    refine SL_yes rfl ?_
    refine lw (v := .string _) B3 4 rfl rfl rfl rfl ?_
    refine SL_yes rfl ?_
    first | refine pI rfl rfl ?_ | refine pu rfl rfl ?_
    refine SL_yes rfl ?_
    refine ixs (k := i) rfl rfl rfl hb rfl ?_
    refine SL_yes rfl ?_
    refine pc rfl rfl (fun c65 => ?_) (fun c65 => ?_)
    · skip
      refine pB rfl rfl ?_
      refine SL_nil ?_
      refine nx ?_
      refine SWP_ct rfl ?_
      refine SWP_seq ?_
      refine SWP_region ?_
      refine pI rfl rfl ?_
      refine SL_nil ?_
      refine nx ?_
      refine SWP_ret ?_
      refine br ?_
      refine nr ?_
      refine nr ?_
      refine br ?_
      refine nr ?_
      refine fin [_] ⟨rfl, trivial⟩ ?_
      refine congrArg (Value.int .i64) ?_
      unfold xtraErr
      refine Eq.symm ?_
      refine (if_neg hfx).trans ((if_neg (by assumption)).trans ?_)
      unfold serErr
      rw [hfa]
      exact (if_neg (by omega)).trans (if_neg (by rw [all_no hb (decide_eq_false (by omega))]; exact Bool.noConfusion))
    refine pB rfl rfl ?_
    refine SL_nil ?_
    refine nx ?_
    refine SWP_cf rfl ?_
    refine SWP_skip ?_
    refine nb ?_
    refine nx ?_
    refine SWP_region ?_
    first | refine pI rfl rfl ?_ | refine pu rfl rfl ?_
    first | refine pw rfl rfl (w64 (by omega) (by omega)) ?_ | refine pu rfl rfl ?_
    refine pI rfl rfl ?_
    refine SL_nil ?_
    refine nx ?_
    refine ⟨by repeat (first | exact Under.upds rfl (Under.hav _ _ _) | exact Under.hav _ _ _ | refine Under.upd rfl ?_ | refine Under.upds rfl ?_ | refine Under.hav2 rfl ?_), ?_, ?_⟩
    · refine ⟨i + 1, rfl, by omega, ?_, rfl, rfl⟩
      rw [all_snoc hb, hall]
      exact decide_eq_true (by omega)
    · simp only [L_vals, List.map, List.getD]; show r.serial.size - (i + 1) < r.serial.size - i; omega
  refine SL_nil ?_
  refine nx ?_
  refine SWP_cf rfl ?_
  refine SWP_exit ?_
  refine ne ?_
  refine ne ?_
  refine be rfl ?_
  refine nx ?_
  refine SWP_seq ?_
  refine SWP_region ?_
  refine pI rfl rfl ?_
  refine SL_nil ?_
  refine nx ?_
  refine SWP_ret ?_
  refine fin [_] ⟨rfl, trivial⟩ ?_
  refine congrArg (Value.int .i64) ?_
  unfold xtraErr
  refine Eq.symm ?_
  refine (if_neg hfx).trans ((if_neg (by assumption)).trans ?_)
  unfold serErr
  rw [hfa]
  rw [List.take_of_length_le (by rw [size_list]; omega)] at hall
  exact (if_neg (by omega)).trans (if_pos hall)

set_option maxRecDepth 100000 in
theorem resR {m : Mem} {g : Game} {r : Res} (hin : g.In m) (hr : r.In m) (hs : r.serial.size ≤ 9223372036854775807) : PureCall Try.prog 15 [g.val, r.val] m (.int .i64 (resErr g r)) := by
  refine CallsS.pure ?_
  dsimp only [Game.val, Res.val]
  refine enter Try.func15 Try.ntmps15 rfl rfl ?_
  refine SWP_seq ?_
  refine SWP_region ?_
  refine bx (v := .agg _) rfl rfl (fun B2 => ?_)
  refine bx (v := .agg _) rfl rfl (fun B3 => ?_)
  refine pI rfl rfl ?_
  refine SL_nil ?_
  refine nx ?_
  refine SWP_seq ?_
  refine SWP_region ?_
  refine lw (v := .agg _) B2 0 rfl rfl rfl rfl ?_
  refine SL_call rfl rfl cb16 (CallsS.frame0 (checkR hin)) rfl (fun v1_1 σ1_1 m1_1 hl1_1 hR1_1 => ?_)
  obtain ⟨σc, rfl, rfl, hm1_1, s, rfl⟩ := hR1_1
  have hn1_1 := hm1_1.symm
  subst hn1_1
  refine pu rfl rfl ?_
  first | refine pI rfl rfl ?_ | refine pu rfl rfl ?_
  first | refine pS rfl rfl ?_ | refine pu rfl rfl ?_
  first | refine pI rfl rfl ?_ | refine pu rfl rfl ?_
  first | refine pS rfl rfl ?_ | refine pu rfl rfl ?_
  refine SL_nil ?_
  refine nx ?_
  refine SWP_merge1 [5, 12, 13, 14, 15, 16] [5]
      (fun vs σ' m' => ∃ e : Int, vs = [.int .i64 e] ∧ (e = if gameErr g ≠ 0 then gameErr g else numsErr g r) ∧ σ' = [(B3, Cells 31 r.enc), (B2, Cells 25 g.enc)] ∧ m = m')
      rfl ?_ ?_
  · skip
    refine SWP_seq ?_
    refine SWP_region ?_
    first | refine pI rfl rfl ?_ | refine pu rfl rfl ?_
    refine pc rfl rfl (fun c13 => ?_) (fun c13 => ?_)
    · skip
      refine SL_nil ?_
      refine nx ?_
      refine SWP_ct rfl ?_
      refine SWP_region ?_
      refine lw (v := .agg _) B2 0 rfl rfl rfl rfl ?_
      refine lw (v := .agg _) B3 0 rfl rfl rfl rfl ?_
      refine SL_pcall rfl rfl cb32 (numsR hr (gameOk (by assumption))) rfl ?_
      first | refine pI rfl rfl ?_ | refine pu rfl rfl ?_
      refine SL_nil ?_
      refine nx ?_
      refine ⟨by repeat (first | with_reducible exact Under.refl _ _ | exact Under.upds rfl (Under.hav _ _ _) | exact Under.hav _ _ _ | refine Under.upd rfl ?_ | refine Under.upds rfl ?_ | refine Under.hav2 rfl ?_), ?_⟩
      refine ⟨_, rfl, ?_, rfl, rfl⟩
      first | exact (if_neg (Classical.not_not.2 (by assumption))).symm | exact (if_pos (by assumption)).symm
    refine SL_nil ?_
    refine nx ?_
    refine SWP_cf rfl ?_
    refine SWP_skip ?_
    refine nx ?_
    refine ⟨by repeat (first | with_reducible exact Under.refl _ _ | exact Under.upds rfl (Under.hav _ _ _) | exact Under.hav _ _ _ | refine Under.upd rfl ?_ | refine Under.upds rfl ?_ | refine Under.hav2 rfl ?_), ?_⟩
    refine ⟨_, rfl, ?_, rfl, rfl⟩
    first | exact (if_neg (Classical.not_not.2 (by assumption))).symm | exact (if_pos (by assumption)).symm
  intro uM0 vM0 σM0 mM0 hM0 _
  obtain ⟨e1, rfl, he1, rfl, rfl⟩ := hM0
  dsimp only [Res.enc, Game.enc]
  refine SWP_seq ?_
  refine SWP_seq ?_
  refine SWP_region ?_
  first | refine pI rfl rfl ?_ | refine pu rfl rfl ?_
  refine pc rfl rfl (fun c18 => ?_) (fun c18 => ?_)
  · skip
    refine SL_nil ?_
    refine nx ?_
    refine SWP_ct rfl ?_
    refine SWP_region ?_
    refine lw (v := .agg _) B2 0 rfl rfl rfl rfl ?_
    refine lw (v := .agg _) B3 0 rfl rfl rfl rfl ?_
    refine SL_pcall rfl rfl cb33 (extrasR hin hr hs) rfl ?_
    first | refine pI rfl rfl ?_ | refine pu rfl rfl ?_
    refine SL_nil ?_
    refine nx ?_
    refine SWP_seq ?_
    refine SWP_region ?_
    first | refine pI rfl rfl ?_ | refine pu rfl rfl ?_
    first | refine pI rfl rfl ?_ | refine pu rfl rfl ?_
    refine SL_nil ?_
    refine nx ?_
    refine SWP_ret ?_
    refine fin [_] ⟨rfl, trivial⟩ ?_
    refine congrArg (Value.int .i64) ?_
    unfold resErr
    by_cases h1 : gameErr g = 0
    · rw [if_neg (by omega)] at he1
      rw [if_neg (by omega)]
      first | rw [if_neg (by omega)] | (rw [if_pos (by omega)]; omega)
    · rw [if_pos h1] at he1
      first | omega | (rw [if_pos h1]; omega)
  refine SL_nil ?_
  refine nx ?_
  refine SWP_cf rfl ?_
  refine SWP_skip ?_
  refine nx ?_
  refine SWP_seq ?_
  refine SWP_region ?_
  first | refine pI rfl rfl ?_ | refine pu rfl rfl ?_
  first | refine pI rfl rfl ?_ | refine pu rfl rfl ?_
  refine SL_nil ?_
  refine nx ?_
  refine SWP_ret ?_
  refine fin [_] ⟨rfl, trivial⟩ ?_
  refine congrArg (Value.int .i64) ?_
  unfold resErr
  by_cases h1 : gameErr g = 0
  · rw [if_neg (by omega)] at he1
    rw [if_neg (by omega)]
    first | rw [if_neg (by omega)] | (rw [if_pos (by omega)]; omega)
  · rw [if_pos h1] at he1
    first | omega | (rw [if_pos h1]; omega)

end Go.Proofs.Ytkopdlglenejmaa

