/- mechanical.Witnesses and lotteryref29.Witnesses: the witnesses of balls. -/
import Derived.Test.YtnpnleapnbdllaaMech1
namespace Go.Proofs.Ytnpnleapnbdllaa
open Eng

/-- Is w one of 1 to 8, and a witness of a ball of l? -/
def seenW (l : List Ball) (w : Nat) : Bool := decide (1 ≤ w) && l.any fun b => decide (b.wit = (w : Int))
def witsTo (l : List Ball) (n : Nat) : List Int := ((List.range n).filter fun w => seenW l w).map fun (w : Nat) => (w : Int)
def wits (l : List Ball) : List Int := witsTo l 9
theorem witsTo_succ (l : List Ball) (n : Nat) : witsTo l (n + 1) = if seenW l n = true then witsTo l n ++ [(n : Int)] else witsTo l n := by
  unfold witsTo
  rw [List.range_succ, List.filter_append]
  by_cases h : seenW l n = true <;> simp [h]
theorem witsTo_len (l : List Ball) (n : Nat) : ((witsTo l n).flatMap intE).length ≤ n := by
  rw [flatMap_len intE_len]
  unfold witsTo
  have := List.length_filter_le (fun w => seenW l w) (List.range n)
  simp at this ⊢
  omega
def bools (l : List Ball) (k : Nat) : List Bool := (List.range 9).map fun w => seenW (l.take k) w
theorem bools_len (l : List Ball) (k : Nat) : (bools l k).length = 9 := by simp [bools]
theorem bools_get (l : List Ball) (k w : Nat) (h : w < 9) : (bools l k)[w]? = some (seenW (l.take k) w) := by simp [bools, h]
theorem seenW_snoc (l : List Ball) (k w : Nat) (b : Ball) (h : l[k]? = some b) : seenW (l.take (k + 1)) w = (seenW (l.take k) w || (decide (1 ≤ w) && decide (b.wit = (w : Int)))) := by
  have hk := (List.getElem?_eq_some_iff.1 h)
  rw [List.take_succ_eq_append_getElem hk.1, hk.2]
  unfold seenW
  rw [List.any_append]
  cases decide (1 ≤ w) <;> simp
theorem bools_skip (l : List Ball) (k : Nat) (b : Ball) (h : l[k]? = some b) (hb : ¬ (1 ≤ b.wit ∧ b.wit ≤ 8)) : bools l (k + 1) = bools l k := by
  unfold bools
  refine List.map_congr_left fun w hw => ?_
  have hw9 := List.mem_range.1 hw
  rw [seenW_snoc l k w b h]
  have : (decide (1 ≤ w) && decide (b.wit = (w : Int))) = false := by
    cases hd : (decide (1 ≤ w) && decide (b.wit = (w : Int))) with
    | false => rfl
    | true =>
      simp only [Bool.and_eq_true, decide_eq_true_eq] at hd
      exfalso; omega
  rw [this, Bool.or_false]
theorem bools_set (l : List Ball) (k : Nat) (b : Ball) (h : l[k]? = some b) (h1 : 1 ≤ b.wit) (h8 : b.wit ≤ 8) : bools l (k + 1) = (bools l k).set b.wit.toNat true := by
  apply List.ext_getElem?
  intro w
  rw [List.getElem?_set]
  by_cases hw : w < 9
  · rw [bools_get l (k + 1) w hw, seenW_snoc l k w b h]
    by_cases e : b.wit.toNat = w
    · rw [if_pos e, if_pos (by rw [bools_len]; omega)]
      have e1 : b.wit = (w : Int) := by omega
      have e2 : 1 ≤ w := by omega
      simp [e1, e2]
    · rw [if_neg e, bools_get l k w hw]
      have e1 : ¬ b.wit = (w : Int) := by omega
      simp [e1]
  · have h1 := bools_len l (k + 1)
    have h2 := bools_len l k
    rw [List.getElem?_eq_none (by omega)]
    split
    · split
      · omega
      · rfl
    · rw [List.getElem?_eq_none (by omega)]
theorem bools_cells (l : List Ball) (k : Nat) : ((bools l k).map Value.bool).length = 9 := by simp [bools_len]
theorem seen_of_of (l : List Ball) (w : Nat) (h : 1 ≤ w) : (decide (0 < (ofB l (w : Int)).length)) = seenW l w := by
  unfold seenW ofB
  simp only [h, decide_true, Bool.true_and]
  rw [Bool.eq_iff_iff]
  simp only [decide_eq_true_eq, List.any_eq_true]
  rw [List.length_filter_pos_iff]
  simp

theorem mechWits {m : Mem} {v : Value} {l : List Ball} (h : RL m Ball.enc 3 v l) (hl : l.length ≤ 4000000) :
    CallsS Try.prog 15 [v].toArray [] m fun r σ' m' => σ' = [] ∧ RL m' intE 1 r (wits l) := by
  refine CallsS.ghost (R' := fun r σ' _ => ∃ σe τ, σ' = τ ++ σe ∧ OwnS 3 1 r ((wits l).flatMap intE) σe) ?_ ?h2
  case h2 =>
    rintro r σ' m' ⟨σe, τ, rfl, hR⟩ g W hC
    obtain ⟨m2, h1, h2, h3⟩ := hR.freezeL (τ := []) (by omega) intE_len (by simpa using hC.sublist (List.sublist_append_right τ σe))
    exact ⟨[], m2, h2, h1, rfl, h3⟩
  obtain ⟨a, cap, rfl⟩ := h.len
  refine enter Try.func15 Try.ntmps15 rfl rfl ?_
  refine SWP_seq ?_
  refine SWP_region ?_
  refine pL rfl rfl ?_
  refine SL_nil ?_
  refine nx ?_
  refine SWP_seq ?_
  refine SWP_region ?_
  refine al rfl rfl (fun B3 => ?_)
  refine SL_nil ?_
  refine nx ?_
  refine SWP_seq ?_
  refine SWP_seq ?_
  refine SWP_region ?_
  first | refine pL rfl rfl ?_ | refine pu rfl rfl ?_
  refine pu rfl rfl ?_
  refine pI rfl rfl ?_
  refine SL_nil ?_
  refine nx ?_
  refine SWP_block ?_
  refine SWP_loop [5, 11, 12, 13, 14, 15, 16, 17, 18, 19, 20, 21, 22, 23, 24, 25, 26] [11]
      (fun vs σ' m' => ∃ k : Nat, k ≤ l.length ∧ vs = [.int .i64 (k : Nat)] ∧ σ' = [(B3, Cells 57 ((bools l k).map Value.bool))] ∧ m = m')
      (fun vs => l.length - nOf (vs.getD 0 undef)) rfl ?_ ?_
  · exact ⟨0, by omega, rfl, rfl, rfl⟩
  intro u0 vs0 σ0 m0 hJ0 _
  obtain ⟨k, hk, rfl, rfl, rfl⟩ := hJ0
  refine SWP_seq ?_
  refine SWP_region ?_
  refine pc rfl rfl (fun c12 => ?_) (fun c12 => ?_)
  · skip
    refine SL_nil ?_
    refine nx ?_
    refine SWP_seq ?_
    refine SWP_ct rfl ?_
    refine SWP_skip ?_
    refine nx ?_
    refine SWP_seq ?_
    refine SWP_block ?_
    refine SWP_seq ?_
    obtain ⟨b, hb⟩ : ∃ b, l[k]? = some b := ⟨_, List.getElem?_eq_getElem (by omega)⟩
    obtain ⟨ad, cap', e1, hat⟩ := RL.at_ Ball.enc_len h hb
    cases e1
    refine SWP_region ?_
    first | refine ia (es := 3) rfl rfl rfl rfl rfl rfl (by omega) rfl ?_ | refine iai (es := 3) rfl rfl rfl rfl rfl rfl (by omega) (by omega) rfl ?_
    refine ldA (v := .agg _) rfl (by assumption) rfl rfl ?_
    refine al rfl rfl (fun B5 => ?_)
    refine sw (v := .agg _) B5 0 rfl rfl rfl rfl rfl rfl rfl ?_
    refine SL_nil ?_
    refine nx ?_
    refine SWP_seq ?_
    refine SWP_region ?_
    refine pu rfl rfl ?_
    refine lw (v := .int .i64 _) B5 0 rfl rfl rfl rfl ?_
    refine pc rfl rfl (fun c17 => ?_) (fun c17 => ?_)
    · skip
      refine pB rfl rfl ?_
      refine SL_yes rfl ?_
      refine pu rfl rfl ?_
      refine SL_yes rfl ?_
      refine lw (v := .int .i64 _) B5 0 rfl rfl rfl rfl ?_
      refine SL_yes rfl ?_
      refine pc rfl rfl (fun c21 => ?_) (fun c21 => ?_)
      · skip
        refine pB rfl rfl ?_
        refine SL_nil ?_
        refine nx ?_
        refine SWP_ct rfl ?_
        refine SWP_region ?_
        refine pu rfl rfl ?_
        refine lw (v := .int .i64 _) B5 0 rfl rfl rfl rfl ?_
        first | refine iar (es := 1) rfl rfl rfl (Nat.mul_one _) rfl rfl (by omega) rfl ?_ | refine iari (es := 1) rfl rfl rfl (Nat.mul_one _) rfl rfl (by omega) (by omega) rfl ?_
        refine st1 (σ₁ := [_]) rfl rfl rfl rfl rfl rfl rfl (by rw [bools_cells]; omega) rfl ?_
        refine SL_nil ?_
        refine nb ?_
        refine nx ?_
        refine SWP_weak (List.sublist_cons_self _ _) ?_
        refine SWP_region ?_
        first | refine pw rfl rfl (w64 (by omega) (by omega)) ?_ | refine pu rfl rfl ?_
        refine pI rfl rfl ?_
        refine SL_nil ?_
        refine nx ?_
        refine ⟨by repeat (first | exact Under.upds rfl (Under.hav _ _ _) | exact Under.hav _ _ _ | refine Under.upd rfl ?_ | refine Under.upds rfl ?_ | refine Under.hav2 rfl ?_), ?_, ?_⟩
        · refine ⟨k + 1, by omega, rfl, ?_, rfl⟩
          rw [bools_set l k b hb c17 c21, List.map_set]
          rfl
        · simp only [L_vals, List.map, List.getD]; show l.length - (k + 1) < l.length - k; omega
      refine pB rfl rfl ?_
      refine SL_nil ?_
      refine nx ?_
      refine SWP_cf rfl ?_
      refine SWP_skip ?_
      refine nb ?_
      refine nx ?_
      refine SWP_weak (List.sublist_cons_self _ _) ?_
      refine SWP_region ?_
      first | refine pw rfl rfl (w64 (by omega) (by omega)) ?_ | refine pu rfl rfl ?_
      refine pI rfl rfl ?_
      refine SL_nil ?_
      refine nx ?_
      refine ⟨by repeat (first | exact Under.upds rfl (Under.hav _ _ _) | exact Under.hav _ _ _ | refine Under.upd rfl ?_ | refine Under.upds rfl ?_ | refine Under.hav2 rfl ?_), ?_, ?_⟩
      · exact ⟨k + 1, by omega, rfl, by rw [bools_skip l k b hb (by omega)], rfl⟩
      · simp only [L_vals, List.map, List.getD]; show l.length - (k + 1) < l.length - k; omega
    refine pB rfl rfl ?_
    refine SL_no rfl rfl ?_
    refine SL_no rfl rfl ?_
    refine SL_no rfl rfl ?_
    refine pB rfl rfl ?_
    refine SL_nil ?_
    refine nx ?_
    refine SWP_cf rfl ?_
    refine SWP_skip ?_
    refine nb ?_
    refine nx ?_
    refine SWP_weak (List.sublist_cons_self _ _) ?_
    refine SWP_region ?_
    first | refine pw rfl rfl (w64 (by omega) (by omega)) ?_ | refine pu rfl rfl ?_
    refine pI rfl rfl ?_
    refine SL_nil ?_
    refine nx ?_
    refine ⟨by repeat (first | exact Under.upds rfl (Under.hav _ _ _) | exact Under.hav _ _ _ | refine Under.upd rfl ?_ | refine Under.upds rfl ?_ | refine Under.hav2 rfl ?_), ?_, ?_⟩
    · exact ⟨k + 1, by omega, rfl, by rw [bools_skip l k b hb (by omega)], rfl⟩
    · simp only [L_vals, List.map, List.getD]; show l.length - (k + 1) < l.length - k; omega
  refine SL_nil ?_
  refine nx ?_
  refine SWP_seq ?_
  refine SWP_cf rfl ?_
  refine SWP_exit ?_
  refine ne ?_
  refine ne ?_
  refine be rfl ?_
  refine nx ?_
  refine SWP_seq ?_
  refine SWP_region ?_
  first | refine pL rfl rfl ?_ | refine pu rfl rfl ?_
  refine SL_nil ?_
  refine nx ?_
  refine SWP_seq ?_
  refine SWP_seq ?_
  obtain rfl : k = l.length := by omega
  refine SWP_region ?_
  refine ld (off := 0) (v := .agg ((bools l l.length).map Value.bool).toArray) (Rd.of_cells (.head _)) rfl rfl (by rfl) rfl ?_
  first | refine pI rfl rfl ?_ | refine pu rfl rfl ?_
  refine SL_nil ?_
  refine nx ?_
  refine SWP_block ?_
  refine SWP_loop [6, 7, 8, 28, 29, 30, 31, 32, 33, 34, 35, 36, 37] [6, 28]
      (fun vs σ' m' => ∃ (j : Nat) (v6 : Value) (σe : Sig), j ≤ 9 ∧ vs = [v6, .int .i64 (j : Nat)] ∧ σ' = [(B3, Cells 57 ((bools l l.length).map Value.bool))] ++ σe ∧ OwnS 3 1 v6 ((witsTo l j).flatMap intE) σe ∧ m = m')
      (fun vs => 9 - nOf (vs.getD 1 undef)) rfl ?_ ?_
  · exact ⟨0, _, [], by omega, rfl, rfl, .nil, rfl⟩
  intro u1 vs1 σ1 m1 hJ1 _
  obtain ⟨j, v6, σe, hj, rfl, rfl, hown, rfl⟩ := hJ1
  refine SWP_seq ?_
  refine SWP_region ?_
  refine pc rfl rfl (fun c29 => ?_) (fun c29 => ?_)
  · skip
    refine SL_nil ?_
    refine nx ?_
    refine SWP_seq ?_
    refine SWP_ct rfl ?_
    refine SWP_skip ?_
    refine nx ?_
    refine SWP_seq ?_
    refine SWP_block ?_
    refine SWP_seq ?_
    refine SWP_region ?_
    first | refine pI rfl rfl ?_ | refine pu rfl rfl ?_
    refine ix (es := 1) (v := .bool (seenW l j)) rfl rfl rfl (Nat.mul_one _) rfl rfl (by omega) (by show (List.map Value.bool (bools l l.length))[j]? = _; have := bools_get l l.length j (by omega); rw [List.take_length] at this; rw [List.getElem?_map, this]; rfl) rfl ?_
    first | refine pI rfl rfl ?_ | refine pu rfl rfl ?_
    first | refine pB rfl rfl ?_ | refine pu rfl rfl ?_
    refine SL_nil ?_
    refine nx ?_
    refine SWP_seq ?_
    refine SWP_region ?_
    refine pu rfl rfl ?_
    refine bsp 32 rfl (fun hsw => ?_) (fun hsw => ?_)
    · skip
      refine SL_nil ?_
      refine nx ?_
      refine SWP_ct rfl ?_
      have hlen := witsTo_len l j
      refine SWP_region ?_
      first | refine pL rfl rfl ?_ | refine pu rfl rfl ?_
      first | refine pI rfl rfl ?_ | refine pu rfl rfl ?_
      refine bs rfl rfl rfl rfl rfl (fun B35 => ?_)
      refine ap (e := 3) (size := 1) (bytes := 8) rfl rfl rfl rfl rfl rfl rfl hown (List.perm_append_comm (l₁ := [_, _])) rfl (Rd.of_cells (.head _)) rfl rfl (by omega) rfl rfl (fun v7 σ7 hown7 => ?_)
      refine SL_weak (σ' := σ7 ++ [_]) (List.Sublist.append_left (List.sublist_cons_self _ _) _) ?_
      refine SL_perm List.perm_append_comm ?_
      first | refine pL rfl rfl ?_ | refine pu rfl rfl ?_
      refine SL_nil ?_
      refine nb ?_
      refine nx ?_
      refine SWP_region ?_
      first | refine pw rfl rfl (w64 (by omega) (by omega)) ?_ | refine pu rfl rfl ?_
      refine pI rfl rfl ?_
      refine SL_nil ?_
      refine nx ?_
      refine ⟨by repeat (first | exact Under.upds rfl (Under.hav _ _ _) | exact Under.hav _ _ _ | refine Under.upd rfl ?_ | refine Under.upds rfl ?_ | refine Under.hav2 rfl ?_), ?_, ?_⟩
      · refine ⟨j + 1, v7, σ7, by omega, rfl, rfl, ?_, rfl⟩
        rw [witsTo_succ, if_pos hsw, List.flatMap_append]
        exact hown7
      · simp only [L_vals, List.map, List.getD]; show 9 - (j + 1) < 9 - j; omega
    · skip
      refine SL_nil ?_
      refine nx ?_
      refine SWP_cf rfl ?_
      refine SWP_skip ?_
      refine nb ?_
      refine nx ?_
      refine SWP_region ?_
      first | refine pw rfl rfl (w64 (by omega) (by omega)) ?_ | refine pu rfl rfl ?_
      refine pI rfl rfl ?_
      refine SL_nil ?_
      refine nx ?_
      refine ⟨by repeat (first | exact Under.upds rfl (Under.hav _ _ _) | exact Under.hav _ _ _ | refine Under.upd rfl ?_ | refine Under.upds rfl ?_ | refine Under.hav2 rfl ?_), ?_, ?_⟩
      · refine ⟨j + 1, v6, σe, by omega, rfl, rfl, ?_, rfl⟩
        rw [witsTo_succ, if_neg (by simp [hsw])]
        exact hown
      · simp only [L_vals, List.map, List.getD]; show 9 - (j + 1) < 9 - j; omega
  refine SL_nil ?_
  refine nx ?_
  refine SWP_seq ?_
  refine SWP_cf rfl ?_
  refine SWP_exit ?_
  refine ne ?_
  refine ne ?_
  refine be rfl ?_
  refine nx ?_
  refine SWP_seq ?_
  refine SWP_region ?_
  first | refine pL rfl rfl ?_ | refine pu rfl rfl ?_
  first | refine pL rfl rfl ?_ | refine pu rfl rfl ?_
  refine SL_nil ?_
  refine nx ?_
  refine SWP_ret ?_
  refine fin [_] ⟨rfl, trivial⟩ ?_
  obtain rfl : j = 9 := by omega
  exact ⟨σe, [_], rfl, hown⟩

theorem refWits {m : Mem} {v : Value} {l : List Ball} (h : RL m Ball.enc 3 v l) (hl : l.length ≤ 4000000) :
    CallsS Try.prog 25 [v].toArray [] m fun r σ' m' => σ' = [] ∧ RL m' intE 1 r (wits l) := by
  refine CallsS.ghost (R' := fun r σ' _ => OwnS 3 1 r ((wits l).flatMap intE) σ') ?_ ?h2
  case h2 =>
    intro r σ' m' hR g W hC
    obtain ⟨m2, h1, h2, h3⟩ := hR.freezeL (τ := []) (by omega) intE_len (by simpa using hC)
    exact ⟨[], m2, h2, h1, rfl, h3⟩
  refine enter Try.func25 Try.ntmps25 rfl rfl ?_
  refine SWP_seq ?_
  refine SWP_region ?_
  refine pL rfl rfl ?_
  refine SL_nil ?_
  refine nx ?_
  refine SWP_seq ?_
  refine SWP_region ?_
  refine pL rfl rfl ?_
  refine SL_nil ?_
  refine nx ?_
  refine SWP_seq ?_
  refine SWP_seq ?_
  refine SWP_region ?_
  refine pI rfl rfl ?_
  refine SL_nil ?_
  refine nx ?_
  refine SWP_block ?_
  refine SWP_loop [3, 4, 5, 6, 7, 8, 9, 10, 11, 12, 13, 14, 15, 16, 17] [3, 4]
      (fun vs σ' m' => ∃ (j : Nat) (v3 : Value), 1 ≤ j ∧ j ≤ 9 ∧ vs = [v3, .int .i64 (j : Nat)] ∧ OwnS 3 1 v3 ((witsTo l j).flatMap intE) σ' ∧ Le m m')
      (fun vs => 9 - nOf (vs.getD 1 undef)) rfl ?_ ?_
  · exact ⟨1, _, by omega, by omega, rfl, .nil, Le.refl _⟩
  intro u0 vs0 σ0 m0 hJ0 _
  obtain ⟨j, v3, hj1, hj, rfl, hown, hle⟩ := hJ0
  refine SWP_seq ?_
  refine SWP_seq ?_
  refine SWP_region ?_
  first | refine pI rfl rfl ?_ | refine pu rfl rfl ?_
  refine pc rfl rfl (fun c6 => ?_) (fun c6 => ?_)
  · skip
    refine SL_nil ?_
    refine nx ?_
    refine SWP_ct rfl ?_
    refine SWP_skip ?_
    refine nx ?_
    refine SWP_seq ?_
    refine SWP_block ?_
    refine SWP_seq ?_
    refine SWP_region ?_
    first | refine pL rfl rfl ?_ | refine pu rfl rfl ?_
    first | refine pI rfl rfl ?_ | refine pu rfl rfl ?_
    refine SL_call rfl rfl cb27 ((refOf (j : Nat) (h.mono hle) hl).frame0) rfl (fun v5_2 σ5_2 m5_2 hl5_2 hR5_2 => ?_)
    obtain ⟨_, rfl, rfl, hr⟩ := hR5_2
    obtain ⟨a2, cap2, rfl⟩ := hr.len
    refine pu rfl rfl ?_
    refine pc rfl rfl (fun c13 => ?_) (fun c13 => ?_)
    · skip
      refine SL_nil ?_
      refine nx ?_
      refine SWP_ct rfl ?_
      have hlen := witsTo_len l j
      refine SWP_region ?_
      first | refine pL rfl rfl ?_ | refine pu rfl rfl ?_
      first | refine pI rfl rfl ?_ | refine pu rfl rfl ?_
      refine bs rfl rfl rfl rfl rfl (fun B16 => ?_)
      refine ap (e := 3) (size := 1) (bytes := 8) rfl rfl rfl rfl rfl rfl rfl hown (List.perm_append_comm (l₁ := [_])) rfl (Rd.of_cells (.head _)) rfl rfl (by omega) rfl rfl (fun v7 σ7 hown7 => ?_)
      refine SL_weak (List.sublist_append_left _ _) ?_
      first | refine pL rfl rfl ?_ | refine pu rfl rfl ?_
      refine SL_nil ?_
      refine nb ?_
      refine nx ?_
      refine SWP_region ?_
      first | refine pI rfl rfl ?_ | refine pu rfl rfl ?_
      first | refine pw rfl rfl (w64 (by omega) (by omega)) ?_ | refine pu rfl rfl ?_
      refine pI rfl rfl ?_
      refine SL_nil ?_
      refine nx ?_
      refine ⟨by repeat (first | exact Under.upds rfl (Under.hav _ _ _) | exact Under.hav _ _ _ | refine Under.upd rfl ?_), ?_, ?_⟩
      · refine ⟨j + 1, v7, by omega, by omega, rfl, ?_, hle.trans hl5_2⟩
        rw [witsTo_succ, if_pos (by rw [← seen_of_of l j hj1]; simpa using c13), List.flatMap_append]
        exact hown7
      · simp only [L_vals, List.map, List.getD]; show 9 - (j + 1) < 9 - j; omega
    refine SL_nil ?_
    refine nx ?_
    refine SWP_cf rfl ?_
    refine SWP_skip ?_
    refine nb ?_
    refine nx ?_
    refine SWP_region ?_
    first | refine pI rfl rfl ?_ | refine pu rfl rfl ?_
    first | refine pw rfl rfl (w64 (by omega) (by omega)) ?_ | refine pu rfl rfl ?_
    refine pI rfl rfl ?_
    refine SL_nil ?_
    refine nx ?_
    refine ⟨by repeat (first | exact Under.upds rfl (Under.hav _ _ _) | exact Under.hav _ _ _ | refine Under.upd rfl ?_), ?_, ?_⟩
    · refine ⟨j + 1, v3, by omega, by omega, rfl, ?_, hle.trans hl5_2⟩
      rw [witsTo_succ, if_neg (by rw [← seen_of_of l j hj1]; simpa using c13)]
      exact hown
    · simp only [L_vals, List.map, List.getD]; show 9 - (j + 1) < 9 - j; omega
  refine SL_nil ?_
  refine nx ?_
  refine SWP_cf rfl ?_
  refine SWP_exit ?_
  refine ne ?_
  refine ne ?_
  refine be rfl ?_
  refine nx ?_
  refine SWP_seq ?_
  refine SWP_region ?_
  first | refine pL rfl rfl ?_ | refine pu rfl rfl ?_
  first | refine pL rfl rfl ?_ | refine pu rfl rfl ?_
  refine SL_nil ?_
  refine nx ?_
  refine SWP_ret ?_
  refine fin [_] ⟨rfl, trivial⟩ ?_
  obtain rfl : j = 9 := by omega
  exact hown

end Go.Proofs.Ytnpnleapnbdllaa

