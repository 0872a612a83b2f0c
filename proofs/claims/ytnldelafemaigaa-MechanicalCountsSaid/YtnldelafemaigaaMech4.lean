/- The law MechanicalCounts. -/
import Derived.Test.YtnldelafemaigaaMech3
namespace Go.Proofs.Ytnldelafemaigaa
open Eng

def isW (b : Ball) : Bool := decide (1 ≤ b.wit ∧ b.wit ≤ 8)
def cntB (l : List Ball) : Nat := (l.filter isW).length
theorem cntB_snoc {l : List Ball} {k : Nat} {b : Ball} (h : l[k]? = some b) : cntB (l.take (k + 1)) = cntB (l.take k) + if 1 ≤ b.wit ∧ b.wit ≤ 8 then 1 else 0 := by
  unfold cntB
  rw [take_snoc h, List.filter_append, List.length_append]
  by_cases hb : 1 ≤ b.wit ∧ b.wit ≤ 8 <;> simp [isW, hb]
theorem cntB_le (l : List Ball) (k : Nat) : cntB (l.take k) ≤ l.length := by
  unfold cntB
  have := List.length_filter_le isW (l.take k)
  simp at this
  omega
def sumW (l : List Ball) (j : Nat) : Nat := (((wits l).take j).map fun w => (ofB l w).length).sum
theorem sumW_succ {l : List Ball} {j : Nat} {w : Int} (h : (wits l)[j]? = some w) : sumW l (j + 1) = sumW l j + (ofB l w).length := by
  unfold sumW
  rw [take_snoc h]
  simp
theorem sumW_le (l : List Ball) : ∀ j, sumW l j ≤ j * l.length := by
  intro j
  induction j with
  | zero => simp [sumW]
  | succ j ih =>
    cases h : (wits l)[j]? with
    | some w =>
      rw [sumW_succ h, Nat.succ_mul]
      have := ofB_le l w
      omega
    | none =>
      have hlen := List.getElem?_eq_none_iff.1 h
      have e : sumW l (j + 1) = sumW l j := by
        unfold sumW
        rw [List.take_of_length_le (by omega), List.take_of_length_le hlen]
      rw [e, Nat.succ_mul]
      omega
theorem wits_len (l : List Ball) : (wits l).length ≤ 9 := by
  have := witsTo_len l 9
  rw [flatMap_len intE_len] at this
  unfold wits
  omega
theorem wits_seen {l : List Ball} {w : Int} (h : w ∈ wits l) : 0 < (ofB l w).length := by
  unfold wits witsTo at h
  obtain ⟨n, hn, rfl⟩ := List.mem_map.1 h
  have hs := (List.mem_filter.1 hn).2
  have h1 : 1 ≤ n := by
    unfold seenW at hs
    simp only [Bool.and_eq_true, decide_eq_true_eq] at hs
    exact hs.1
  rw [← seen_of_of l n h1] at hs
  exact of_decide_eq_true hs
theorem wits_mono (l : List Ball) {j : Nat} {a b : Int} (ha : (wits l)[j]? = some a) (hb : (wits l)[j + 1]? = some b) : a < b := by
  have hp : (wits l).Pairwise (· < ·) := by
    unfold wits witsTo
    rw [List.pairwise_map]
    have := (List.pairwise_lt_range (n := 9)).filter (fun w => seenW l w)
    exact this.imp (fun h => by omega)
  rw [List.pairwise_iff_getElem] at hp
  have h1 := List.getElem?_eq_some_iff.1 ha
  have h2 := List.getElem?_eq_some_iff.1 hb
  have := hp j (j + 1) h1.1 h2.1 (by omega)
  rw [h1.2, h2.2] at this
  exact this
theorem sum_filter (f : Nat → Nat) (p : Nat → Bool) : ∀ r : List Nat, ((r.filter p).map f).sum = (r.map fun w => if p w = true then f w else 0).sum
  | [] => rfl
  | x :: r => by
    have ih := sum_filter f p r
    by_cases h : p x = true <;> simp [h, ih]
theorem ofB_cons (b : Ball) (l : List Ball) (w : Int) : (ofB (b :: l) w).length = (if b.wit = w then 1 else 0) + (ofB l w).length := by
  unfold ofB
  by_cases h : b.wit = w
  · simp [h]; omega
  · simp [h]
theorem sums_all (l : List Ball) : ((List.range 9).map fun (w : Nat) => if 1 ≤ w then (ofB l (w : Int)).length else 0).sum = cntB l := by
  induction l with
  | nil => simp [ofB, cntB]; decide
  | cons b l ih =>
    have e : cntB (b :: l) = cntB l + if 1 ≤ b.wit ∧ b.wit ≤ 8 then 1 else 0 := by
      unfold cntB
      by_cases hb : 1 ≤ b.wit ∧ b.wit ≤ 8 <;> simp [isW, hb]
    rw [e, ← ih]
    simp only [ofB_cons]
    simp only [show List.range 9 = [0, 1, 2, 3, 4, 5, 6, 7, 8] from rfl, List.map_cons, List.map_nil, List.sum_cons, List.sum_nil]
    simp only [show ¬ (1 ≤ 0) from by omega, show (1 ≤ 1) from by omega, show (1 ≤ 2) from by omega, show (1 ≤ 3) from by omega, show (1 ≤ 4) from by omega, show (1 ≤ 5) from by omega, show (1 ≤ 6) from by omega, show (1 ≤ 7) from by omega, show (1 ≤ 8) from by omega, if_true, if_false]
    by_cases hb : 1 ≤ b.wit ∧ b.wit ≤ 8
    · rw [if_pos hb]
      rcases (show b.wit = 1 ∨ b.wit = 2 ∨ b.wit = 3 ∨ b.wit = 4 ∨ b.wit = 5 ∨ b.wit = 6 ∨ b.wit = 7 ∨ b.wit = 8 by omega) with h | h | h | h | h | h | h | h <;> simp [h] <;> omega
    · rw [if_neg hb]
      have h1 : ¬ b.wit = 1 := by omega
      have h2 : ¬ b.wit = 2 := by omega
      have h3 : ¬ b.wit = 3 := by omega
      have h4 : ¬ b.wit = 4 := by omega
      have h5 : ¬ b.wit = 5 := by omega
      have h6 : ¬ b.wit = 6 := by omega
      have h7 : ¬ b.wit = 7 := by omega
      have h8 : ¬ b.wit = 8 := by omega
      simp [h1, h2, h3, h4, h5, h6, h7, h8]
theorem sumW_all (l : List Ball) : sumW l (wits l).length = cntB l := by
  unfold sumW
  rw [List.take_length, ← sums_all]
  unfold wits witsTo
  rw [List.map_map, sum_filter]
  congr 1
  refine List.map_congr_left fun w _ => ?_
  show (if seenW l w = true then (ofB l (w : Int)).length else 0) = _
  by_cases h1 : 1 ≤ w
  · rw [if_pos h1, ← seen_of_of l w h1]
    split
    · rfl
    · rename_i h
      simp only [decide_eq_true_eq] at h
      omega
  · rw [if_neg h1, if_neg]
    unfold seenW
    simp [h1]

theorem lawMechCounts {m : Mem} {v : Value} {l : List Ball} (h : RL m Ball.enc 3 v l) :
    CallsS Try.prog 4 [v].toArray [] m fun r _ _ => r = .bool true := by
  obtain ⟨a, cap, rfl⟩ := h.len
  refine enter Try.func4 Try.ntmps4 rfl rfl ?_
  refine SWP_seq ?_
  refine SWP_region ?_
  first | refine pu (v := .bool _) rfl rfl ?_ | refine pu rfl rfl ?_
  refine SL_nil ?_
  refine nx ?_
  refine SWP_seq ?_
  refine SWP_seq ?_
  refine SWP_region ?_
  first | refine pu (v := .slice _ _ _) rfl rfl ?_ | refine pu rfl rfl ?_
  refine pu rfl rfl ?_
  refine pc rfl rfl (fun c11 => ?_) (fun c11 => ?_)
  · skip
    refine SL_nil ?_
    refine nx ?_
    refine SWP_ct rfl ?_
    refine SWP_seq ?_
    refine SWP_region ?_
    refine SL_pcall rfl rfl cb9 (told29 _) rfl ?_
    first | refine pu (v := .bool _) rfl rfl ?_ | refine pu rfl rfl ?_
    refine SL_nil ?_
    refine nx ?_
    refine SWP_ret ?_
    refine nr ?_
    refine fin [_] ⟨rfl, trivial⟩ ?_
    rfl
  · skip
    refine SL_nil ?_
    refine nx ?_
    refine SWP_cf rfl ?_
    refine SWP_skip ?_
    refine nx ?_
    refine SWP_seq ?_
    refine SWP_region ?_
    first | refine pu (v := .int .i64 _) rfl rfl ?_ | refine pu rfl rfl ?_
    refine SL_nil ?_
    refine nx ?_
    refine SWP_seq ?_
    refine SWP_seq ?_
    refine SWP_region ?_
    first | refine pu (v := .int .i64 _) rfl rfl ?_ | refine pu rfl rfl ?_
    refine SL_nil ?_
    refine nx ?_
    refine SWP_block ?_
    refine SWP_loop [3, 4, 13, 14, 15, 16, 17, 18, 19, 20, 21, 22, 23, 24, 25, 26, 27, 28, 29, 30, 31, 32, 33, 34] [3, 4]
        (fun vs σ' m' => ∃ k : Nat, k ≤ l.length ∧ vs = [.int .i64 (cntB (l.take k) : Nat), .int .i64 (k : Nat)] ∧ σ' = [] ∧ m = m')
        (fun vs => l.length - nOf (vs.getD 1 undef)) rfl ?_ ?_
    · exact ⟨0, by omega, rfl, rfl, rfl⟩
    · intro u0 vs0 σ0 m0 hJ0 _
      obtain ⟨k, hk, rfl, rfl, rfl⟩ := hJ0
      have hcl := cntB_le l k
      refine SWP_seq ?_
      refine SWP_seq ?_
      refine SWP_region ?_
      first | refine pu (v := .int .i64 _) rfl rfl ?_ | refine pu rfl rfl ?_
      first | refine pu (v := .slice _ _ _) rfl rfl ?_ | refine pu rfl rfl ?_
      refine pu rfl rfl ?_
      refine pc rfl rfl (fun c16 => ?_) (fun c16 => ?_)
      · skip
        refine SL_nil ?_
        refine nx ?_
        refine SWP_ct rfl ?_
        refine SWP_skip ?_
        refine nx ?_
        refine SWP_seq ?_
        refine SWP_block ?_
        refine SWP_seq ?_
        obtain ⟨b, hb⟩ : ∃ b, l[k]? = some b := ⟨_, List.getElem?_eq_getElem (by omega)⟩
        obtain ⟨ad, cap', e1, hat⟩ := RL.at_ Ball.enc_len h hb
        cases e1
        refine SWP_region ?_
        first | refine pu (v := .slice _ _ _) rfl rfl ?_ | refine pu rfl rfl ?_
        first | refine pu (v := .int .i64 _) rfl rfl ?_ | refine pu rfl rfl ?_
        first | refine ia (es := 3) rfl rfl rfl rfl rfl rfl (by omega) rfl ?_ | refine iai (es := 3) rfl rfl rfl rfl rfl rfl (by omega) (by omega) rfl ?_
        refine pu rfl rfl ?_
        refine ldF (v := .int .i64 _) rfl rfl (by assumption) rfl rfl ?_
        refine pc rfl rfl (fun c24 => ?_) (fun c24 => ?_)
        · skip
          first | refine pu (v := .bool _) rfl rfl ?_ | refine pu rfl rfl ?_
          refine SL_yes rfl ?_
          first | refine pu (v := .slice _ _ _) rfl rfl ?_ | refine pu rfl rfl ?_
          refine SL_yes rfl ?_
          first | refine pu (v := .int .i64 _) rfl rfl ?_ | refine pu rfl rfl ?_
          refine SL_yes rfl ?_
          first | refine ia (es := 3) rfl rfl rfl rfl rfl rfl (by omega) rfl ?_ | refine iai (es := 3) rfl rfl rfl rfl rfl rfl (by omega) (by omega) rfl ?_
          refine SL_yes rfl ?_
          refine pu rfl rfl ?_
          refine SL_yes rfl ?_
          refine ldF (v := .int .i64 _) rfl rfl (by assumption) rfl rfl ?_
          refine SL_yes rfl ?_
          refine pc rfl rfl (fun c31 => ?_) (fun c31 => ?_)
          · skip
            first | refine pu (v := .bool _) rfl rfl ?_ | refine pu rfl rfl ?_
            refine SL_nil ?_
            refine nx ?_
            refine SWP_ct rfl ?_
            refine SWP_region ?_
            first | refine pu (v := .int .i64 _) rfl rfl ?_ | refine pu rfl rfl ?_
            first | refine pw rfl rfl (w64 (by omega) (by omega)) ?_ | refine pu rfl rfl ?_
            first | refine pu (v := .int .i64 _) rfl rfl ?_ | refine pu rfl rfl ?_
            refine SL_nil ?_
            refine nb ?_
            refine nx ?_
            refine SWP_region ?_
            first | refine pu (v := .int .i64 _) rfl rfl ?_ | refine pu rfl rfl ?_
            first | refine pw rfl rfl (w64 (by omega) (by omega)) ?_ | refine pu rfl rfl ?_
            first | refine pu (v := .int .i64 _) rfl rfl ?_ | refine pu rfl rfl ?_
            refine SL_nil ?_
            refine nx ?_
            refine ⟨by repeat (first | exact Under.upds rfl (Under.hav _ _ _) | exact Under.hav _ _ _ | refine Under.upd rfl ?_), ?_, ?_⟩
            · exact ⟨k + 1, by omega, by rw [cntB_snoc hb, if_pos ⟨c24, c31⟩]; rfl, rfl, rfl⟩
            · simp only [L_vals, List.map, List.getD]; show l.length - (k + 1) < l.length - k; omega
          · skip
            first | refine pu (v := .bool _) rfl rfl ?_ | refine pu rfl rfl ?_
            refine SL_nil ?_
            refine nx ?_
            refine SWP_cf rfl ?_
            refine SWP_skip ?_
            refine nb ?_
            refine nx ?_
            refine SWP_region ?_
            first | refine pu (v := .int .i64 _) rfl rfl ?_ | refine pu rfl rfl ?_
            first | refine pw rfl rfl (w64 (by omega) (by omega)) ?_ | refine pu rfl rfl ?_
            first | refine pu (v := .int .i64 _) rfl rfl ?_ | refine pu rfl rfl ?_
            refine SL_nil ?_
            refine nx ?_
            refine ⟨by repeat (first | exact Under.upds rfl (Under.hav _ _ _) | exact Under.hav _ _ _ | refine Under.upd rfl ?_), ?_, ?_⟩
            · exact ⟨k + 1, by omega, by rw [cntB_snoc hb, if_neg (by omega)]; rfl, rfl, rfl⟩
            · simp only [L_vals, List.map, List.getD]; show l.length - (k + 1) < l.length - k; omega
        · skip
          first | refine pu (v := .bool _) rfl rfl ?_ | refine pu rfl rfl ?_
          refine SL_no rfl rfl ?_
          refine SL_no rfl rfl ?_
          refine SL_no rfl rfl ?_
          refine SL_no rfl rfl ?_
          refine SL_no rfl rfl ?_
          refine SL_no rfl rfl ?_
          first | refine pu (v := .bool _) rfl rfl ?_ | refine pu rfl rfl ?_
          refine SL_nil ?_
          refine nx ?_
          refine SWP_cf rfl ?_
          refine SWP_skip ?_
          refine nb ?_
          refine nx ?_
          refine SWP_region ?_
          first | refine pu (v := .int .i64 _) rfl rfl ?_ | refine pu rfl rfl ?_
          first | refine pw rfl rfl (w64 (by omega) (by omega)) ?_ | refine pu rfl rfl ?_
          first | refine pu (v := .int .i64 _) rfl rfl ?_ | refine pu rfl rfl ?_
          refine SL_nil ?_
          refine nx ?_
          refine ⟨by repeat (first | exact Under.upds rfl (Under.hav _ _ _) | exact Under.hav _ _ _ | refine Under.upd rfl ?_), ?_, ?_⟩
          · exact ⟨k + 1, by omega, by rw [cntB_snoc hb, if_neg (by omega)]; rfl, rfl, rfl⟩
          · simp only [L_vals, List.map, List.getD]; show l.length - (k + 1) < l.length - k; omega
      · skip
        refine SL_nil ?_
        refine nx ?_
        refine SWP_cf rfl ?_
        refine SWP_exit ?_
        refine ne ?_
        refine ne ?_
        refine be rfl ?_
        refine nx ?_
        refine SWP_seq ?_
        obtain rfl : k = l.length := by omega
        rw [List.take_length] at hcl
        refine SWP_region ?_
        first | refine pu (v := .slice _ _ _) rfl rfl ?_ | refine pu rfl rfl ?_
        refine SL_call rfl rfl cb10 ((mechWits h (by omega))) rfl (fun v9_1 σ9_1 m9_1 hl9_1 hR9_1 => ?_)
        obtain ⟨rfl, hr⟩ := hR9_1
        obtain ⟨a2, cap2, rfl⟩ := hr.len
        have h := h.mono hl9_1
        have hw9 := wits_len l
        first | refine pu (v := .slice _ _ _) rfl rfl ?_ | refine pu rfl rfl ?_
        refine SL_nil ?_
        refine nx ?_
        refine SWP_seq ?_
        refine SWP_region ?_
        first | refine pu (v := .int .i64 _) rfl rfl ?_ | refine pu rfl rfl ?_
        refine SL_nil ?_
        refine nx ?_
        refine SWP_seq ?_
        refine SWP_seq ?_
        refine SWP_region ?_
        first | refine pu (v := .int .i64 _) rfl rfl ?_ | refine pu rfl rfl ?_
        refine SL_nil ?_
        refine nx ?_
        refine SWP_block ?_
        refine SWP_loop [2, 6, 7, 8, 37, 38, 39, 40, 41, 42, 43, 44, 45, 46, 47, 48, 49, 50, 51, 52, 53, 54, 55, 56, 57, 58, 59, 60, 61, 62, 63, 64, 65, 66, 67, 68, 69, 70] [6, 7]
            (fun vs σ' m' => ∃ j : Nat, j ≤ (wits l).length ∧ vs = [.int .i64 (sumW l j : Nat), .int .i64 (j : Nat)] ∧ σ' = [] ∧ Le m9_1 m')
            (fun vs => (wits l).length - nOf (vs.getD 1 undef)) rfl ?_ ?_
        · exact ⟨0, by omega, rfl, rfl, Le.refl _⟩
        · intro u1 vs1 σ1 m1 hJ1 _
          obtain ⟨j, hj, rfl, rfl, hle⟩ := hJ1
          refine SWP_seq ?_
          refine SWP_seq ?_
          refine SWP_region ?_
          first | refine pu (v := .int .i64 _) rfl rfl ?_ | refine pu rfl rfl ?_
          first | refine pu (v := .slice _ _ _) rfl rfl ?_ | refine pu rfl rfl ?_
          refine pu rfl rfl ?_
          refine pc rfl rfl (fun c40 => ?_) (fun c40 => ?_)
          · skip
            refine SL_nil ?_
            refine nx ?_
            refine SWP_ct rfl ?_
            refine SWP_skip ?_
            refine nx ?_
            refine SWP_seq ?_
            refine SWP_block ?_
            refine SWP_seq ?_
            obtain ⟨w, hw⟩ : ∃ x, (wits l)[j]? = some x := ⟨_, List.getElem?_eq_getElem (by omega)⟩
            obtain ⟨ad, cap', e1, hat⟩ := RL.at1 intE_len (hr.mono hle) hw
            cases e1
            refine SWP_region ?_
            first | refine pu (v := .slice _ _ _) rfl rfl ?_ | refine pu rfl rfl ?_
            first | refine pu (v := .slice _ _ _) rfl rfl ?_ | refine pu rfl rfl ?_
            first | refine pu (v := .int .i64 _) rfl rfl ?_ | refine pu rfl rfl ?_
            first | refine ia (es := 1) rfl rfl rfl (Nat.mul_one _) rfl rfl (by omega) rfl ?_ | refine iai (es := 1) rfl rfl rfl (Nat.mul_one _) rfl rfl (by omega) (by omega) rfl ?_
            refine ldA (v := .int .i64 _) rfl (by assumption) rfl rfl ?_
            refine SL_call rfl rfl cb13 ((mechOf w (h.mono hle) (by omega))) rfl (fun v14_5 σ14_5 m14_5 hl14_5 hR14_5 => ?_)
            obtain ⟨rfl, ho⟩ := hR14_5
            obtain ⟨a4, cap4, rfl⟩ := ho.len
            have hlw := ofB_le l w
            have hpos := wits_seen (List.mem_of_getElem? hw)
            have hs9 := sumW_le l j
            have hs8 : j * l.length ≤ 9 * 400 := Nat.mul_le_mul (by omega) (by omega)
            refine pu rfl rfl ?_
            first | refine pu (v := .int .i64 _) rfl rfl ?_ | refine pu rfl rfl ?_
            refine SL_nil ?_
            refine nx ?_
            refine SWP_seq ?_
            refine SWP_seq ?_
            have hat := hat.mono hl14_5
            have hprev : ∀ w', 0 < j → (wits l)[j - 1]? = some w' → w' < w := fun w' h0 h' => wits_mono l h' (by rw [show j - 1 + 1 = j by omega]; exact hw)
            refine SWP_draws (by kernel_rfl) (by kernel_rfl) ?_
            first | refine pu (v := .int .i64 _) rfl rfl ?_ | refine pu rfl rfl ?_
            refine pn rfl rfl (by omega) ?_
            first | refine pu (v := .bool _) rfl rfl ?_ | refine pu rfl rfl ?_
            refine SL_yes rfl ?_
            first | refine pu (v := .int .i64 _) rfl rfl ?_ | refine pu rfl rfl ?_
            refine SL_yes rfl ?_
            refine pc rfl rfl (fun c54 => ?_) (fun c54 => ?_)
            · skip
              refine SL_yes rfl ?_
              first | refine pu (v := .bool _) rfl rfl ?_ | refine pu rfl rfl ?_
              refine SL_yes rfl ?_
              first | refine pu (v := .slice _ _ _) rfl rfl ?_ | refine pu rfl rfl ?_
              refine SL_yes rfl ?_
              first | refine pu (v := .int .i64 _) rfl rfl ?_ | refine pu rfl rfl ?_
              refine SL_yes rfl ?_
              first | refine ia (es := 1) rfl rfl rfl (Nat.mul_one _) rfl rfl (by omega) rfl ?_ | refine iai (es := 1) rfl rfl rfl (Nat.mul_one _) rfl rfl (by omega) (by omega) rfl ?_
              refine SL_yes rfl ?_
              refine ldA (v := .int .i64 _) rfl (by assumption) rfl rfl ?_
              refine SL_yes rfl ?_
              first | refine pu (v := .slice _ _ _) rfl rfl ?_ | refine pu rfl rfl ?_
              refine SL_yes rfl ?_
              first | refine pu (v := .int .i64 _) rfl rfl ?_ | refine pu rfl rfl ?_
              refine SL_yes rfl ?_
              obtain ⟨w', hw'⟩ : ∃ x, (wits l)[j - 1]? = some x := ⟨_, List.getElem?_eq_getElem (by omega)⟩
              obtain ⟨ad5, cap5, e5, hat5⟩ := RL.at1 intE_len (hr.mono (hle.trans hl14_5)) hw'
              cases e5
              rw [show j - 1 = ((j : Int) - 1).toNat by omega] at hat5
              have hlt := hprev w' (by omega) hw'
              refine pw rfl rfl (w64 (by omega) (by omega)) ?_
              refine SL_yes rfl ?_
              first | refine ia (es := 1) rfl rfl rfl (Nat.mul_one _) rfl rfl (by omega) rfl ?_ | refine iai (es := 1) rfl rfl rfl (Nat.mul_one _) rfl rfl (by omega) (by omega) rfl ?_
              refine SL_yes rfl ?_
              refine ldA (v := .int .i64 _) rfl (by assumption) rfl rfl ?_
              refine SL_yes rfl ?_
              refine pn rfl rfl (by omega) ?_
              refine SL_yes rfl ?_
              first | refine pu (v := .bool _) rfl rfl ?_ | refine pu rfl rfl ?_
              first | refine pu (v := .bool _) rfl rfl ?_ | refine pu rfl rfl ?_
              refine SL_nil ?_
              refine nx ?_
              refine SWP_cf rfl ?_
              refine SWP_skip ?_
              refine nx ?_
              refine SWP_region ?_
              first | refine pu (v := .int .i64 _) rfl rfl ?_ | refine pu rfl rfl ?_
              first | refine pu (v := .int .i64 _) rfl rfl ?_ | refine pu rfl rfl ?_
              first | refine pw rfl rfl (w64 (by omega) (by omega)) ?_ | refine pu rfl rfl ?_
              first | refine pu (v := .int .i64 _) rfl rfl ?_ | refine pu rfl rfl ?_
              refine SL_nil ?_
              refine nb ?_
              refine nx ?_
              refine SWP_region ?_
              first | refine pu (v := .int .i64 _) rfl rfl ?_ | refine pu rfl rfl ?_
              first | refine pw rfl rfl (w64 (by omega) (by omega)) ?_ | refine pu rfl rfl ?_
              first | refine pu (v := .int .i64 _) rfl rfl ?_ | refine pu rfl rfl ?_
              refine SL_nil ?_
              refine nx ?_
              refine ⟨by repeat (first | exact Under.upds rfl (Under.hav _ _ _) | exact Under.hav _ _ _ | refine Under.upd rfl ?_), ?_, ?_⟩
              · exact ⟨j + 1, by omega, by rw [sumW_succ hw]; rfl, rfl, hle.trans hl14_5⟩
              · simp only [L_vals, List.map, List.getD]; show (wits l).length - (j + 1) < (wits l).length - j; omega
            · skip
              refine SL_yes rfl ?_
              first | refine pu (v := .bool _) rfl rfl ?_ | refine pu rfl rfl ?_
              refine SL_no rfl rfl ?_
              refine SL_no rfl rfl ?_
              refine SL_no rfl rfl ?_
              refine SL_no rfl rfl ?_
              refine SL_no rfl rfl ?_
              refine SL_no rfl rfl ?_
              refine SL_no rfl rfl ?_
              refine SL_no rfl rfl ?_
              refine SL_no rfl rfl ?_
              refine SL_no rfl rfl ?_
              refine SL_yes rfl ?_
              first | refine pu (v := .bool _) rfl rfl ?_ | refine pu rfl rfl ?_
              first | refine pu (v := .bool _) rfl rfl ?_ | refine pu rfl rfl ?_
              refine SL_nil ?_
              refine nx ?_
              refine SWP_cf rfl ?_
              refine SWP_skip ?_
              refine nx ?_
              refine SWP_region ?_
              first | refine pu (v := .int .i64 _) rfl rfl ?_ | refine pu rfl rfl ?_
              first | refine pu (v := .int .i64 _) rfl rfl ?_ | refine pu rfl rfl ?_
              first | refine pw rfl rfl (w64 (by omega) (by omega)) ?_ | refine pu rfl rfl ?_
              first | refine pu (v := .int .i64 _) rfl rfl ?_ | refine pu rfl rfl ?_
              refine SL_nil ?_
              refine nb ?_
              refine nx ?_
              refine SWP_region ?_
              first | refine pu (v := .int .i64 _) rfl rfl ?_ | refine pu rfl rfl ?_
              first | refine pw rfl rfl (w64 (by omega) (by omega)) ?_ | refine pu rfl rfl ?_
              first | refine pu (v := .int .i64 _) rfl rfl ?_ | refine pu rfl rfl ?_
              refine SL_nil ?_
              refine nx ?_
              refine ⟨by repeat (first | exact Under.upds rfl (Under.hav _ _ _) | exact Under.hav _ _ _ | refine Under.upd rfl ?_), ?_, ?_⟩
              · exact ⟨j + 1, by omega, by rw [sumW_succ hw]; rfl, rfl, hle.trans hl14_5⟩
              · simp only [L_vals, List.map, List.getD]; show (wits l).length - (j + 1) < (wits l).length - j; omega
          · skip
            refine SL_nil ?_
            refine nx ?_
            refine SWP_cf rfl ?_
            refine SWP_exit ?_
            refine ne ?_
            refine ne ?_
            refine be rfl ?_
            refine nx ?_
            refine SWP_seq ?_
            obtain rfl : j = (wits l).length := by omega
            refine SWP_region ?_
            first | refine pu (v := .int .i64 _) rfl rfl ?_ | refine pu rfl rfl ?_
            first | refine pu (v := .int .i64 _) rfl rfl ?_ | refine pu rfl rfl ?_
            refine pt rfl rfl (by rw [List.take_length, sumW_all]) ?_
            first | refine pu (v := .bool _) rfl rfl ?_ | refine pu rfl rfl ?_
            refine SL_yes rfl ?_
            refine SL_pcall rfl rfl cb9 (told29 _) rfl ?_
            first | refine pu (v := .bool _) rfl rfl ?_ | refine pu rfl rfl ?_
            first | refine pu (v := .bool _) rfl rfl ?_ | refine pu rfl rfl ?_
            refine SL_nil ?_
            refine nx ?_
            refine SWP_ret ?_
            refine fin [_] ⟨rfl, trivial⟩ ?_
            rfl

end Go.Proofs.Ytnldelafemaigaa

