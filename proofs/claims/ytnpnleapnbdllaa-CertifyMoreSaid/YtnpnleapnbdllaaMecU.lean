/- lotteryref29: lists in order. -/
import Derived.Test.YtnpnleapnbdllaaMecS
namespace Go.Proofs.Ytnpnleapnbdllaa
open Eng

def srtTo (X : List Int) (i : Nat) : Prop := ∀ a b, a < b → b < i → b < X.length → X.getD a 0 ≤ X.getD b 0
def insTo (X : List Int) (i k : Nat) : Prop := (∀ a b, a < b → b ≤ i → a ≠ k → b ≠ k → X.getD a 0 ≤ X.getD b 0) ∧ (∀ b, k < b → b ≤ i → X.getD k 0 ≤ X.getD b 0)
theorem ins_start {X : List Int} {i : Nat} (h : srtTo X i) (hi : i < X.length) : insTo X i i :=
  ⟨fun a b h1 h2 _ h4 => h a b h1 (by omega) (by omega), fun b h1 h2 => by omega⟩
theorem ins_end {X : List Int} {i k : Nat} (h : insTo X i k) (hk : k = 0 ∨ X.getD (k - 1) 0 ≤ X.getD k 0) : srtTo X (i + 1) := fun a b h1 h2 h3 => by
  by_cases ha : a = k
  · subst ha; exact h.2 b h1 (by omega)
  · by_cases hb : b = k
    · subst hb
      rcases hk with hk | hk
      · omega
      · by_cases h4 : a = b - 1
        · rw [h4]; exact hk
        · exact Int.le_trans (h.1 a (b - 1) (by omega) (by omega) (by omega) (by omega)) hk
    · exact h.1 a b h1 (by omega) ha hb
theorem getD_set {X : List Int} {k : Nat} (hk : k < X.length) (v : Int) (j : Nat) : (X.set k v).getD j 0 = if j = k then v else X.getD j 0 := by
  rw [List.getD_eq_getElem?_getD, List.getD_eq_getElem?_getD, List.getElem?_set]
  by_cases h : k = j
  · rw [if_pos h, if_pos h.symm, if_pos (by omega)]; rfl
  · rw [if_neg h, if_neg (fun e => h e.symm)]
theorem ins_step {X : List Int} {i k : Nat} {x y : Int} (h : insTo X i k) (h0 : 0 < k) (hl : k < X.length) (hx : X[k]? = some x) (hy : X[k - 1]? = some y) (hlt : x < y) : insTo ((X.set k y).set (k - 1) x) i (k - 1) := by
  have gx : X.getD k 0 = x := getD_at hx
  have gy : X.getD (k - 1) 0 = y := getD_at hy
  have hg : ∀ j, ((X.set k y).set (k - 1) x).getD j 0 = if j = k - 1 then x else if j = k then y else X.getD j 0 := fun j => by
    rw [getD_set (by rw [List.length_set]; omega), getD_set hl]
  refine ⟨fun a b h1 h2 h3 h4 => ?_, fun b h1 h2 => ?_⟩
  · rw [hg, hg, if_neg h3, if_neg h4]
    by_cases ha : a = k
    · rw [if_pos ha, if_neg (by omega), ← gy]
      exact h.1 _ _ (by omega) h2 (by omega) (by omega)
    · rw [if_neg ha]
      by_cases hb : b = k
      · rw [if_pos hb, ← gy]
        exact h.1 _ _ (by omega) (by omega) ha (by omega)
      · rw [if_neg hb]
        exact h.1 _ _ h1 h2 ha hb
  · rw [hg, hg, if_pos rfl, if_neg (by omega)]
    by_cases hb : b = k
    · rw [if_pos hb]; omega
    · rw [if_neg hb, ← gx]
      exact h.2 b (by omega) h2
theorem swap_perm {X : List Int} {k : Nat} {x y : Int} (hx : X[k]? = some x) (hy : X[k - 1]? = some y) : ((X.set k y).set (k - 1) x).Perm X := by
  obtain ⟨h1, rfl⟩ := List.getElem?_eq_some_iff.1 hx
  obtain ⟨h2, rfl⟩ := List.getElem?_eq_some_iff.1 hy
  exact List.set_set_perm h1 h2
theorem srt_pairwise {X : List Int} {i : Nat} (h : srtTo X i) (hi : X.length ≤ i) : X.Pairwise (fun a b => a ≤ b) := by
  rw [List.pairwise_iff_getElem]
  intro a b ha hb hab
  have := h a b hab (by omega) hb
  rwa [List.getD_eq_getElem?_getD, List.getD_eq_getElem?_getD, List.getElem?_eq_getElem ha, List.getElem?_eq_getElem hb] at this
theorem srt_eq {X l : List Int} {i : Nat} (h : srtTo X i) (hi : X.length ≤ i) (hp : X.Perm l) : X = l.mergeSort leI := by
  rw [← mergeSort_of_perm_i hp]
  refine (List.mergeSort_of_pairwise ?_).symm
  exact (srt_pairwise h hi).imp fun {a b} hab => by simp only [leI, decide_eq_true_eq]; exact hab

set_option maxRecDepth 100000 in
theorem sortedR {m : Mem} {v : Value} {l : List Int} (h : RL m intE 1 v l) (hl : l.length ≤ 4000000) : CallsS Try.prog 43 [v].toArray [] m fun r σ' m' => σ' = [] ∧ RL m' intE 1 r (l.mergeSort leI) := by
  refine CallsS.ghost (R' := fun r σ' m' => OwnS 3 1 r ((l.mergeSort leI).flatMap intE) σ') ?_ ?h2
  case h2 =>
    intro r σ' m' hR g W hC
    obtain ⟨m2, h1, h2, h3⟩ := hR.freezeL (τ := []) (by omega) intE_len (by simpa using hC)
    exact ⟨[], m2, h2, h1, rfl, h3⟩
  refine enter Try.func43 Try.ntmps43 rfl rfl ?_
  refine SWP_seq ?_
  refine SWP_region ?_
  refine pL rfl rfl ?_
  refine SL_nil ?_
  refine nx ?_
  refine SWP_seq ?_
  refine SWP_region ?_
  refine bs rfl rfl rfl rfl rfl (fun B7 => ?_)
  refine SL_imp (row_nil _ 1) ?_
  first | refine pL rfl rfl ?_ | refine pu rfl rfl ?_
  refine apR (e := 3) (size := 1) (bytes := 8) rfl rfl rfl rfl rfl rfl rfl (.row B7 0 0 [] rfl (Nat.le_refl _) (Nat.zero_le _)) (.refl _) rfl h (all_intE l) (by simp; omega) rfl rfl (fun v9 σ9 hown9 => ?_)
  rw [List.nil_append] at hown9
  rw [List.append_nil]
  obtain ⟨a9, k9, rfl⟩ := hown9.lenL (by omega) intE_len
  first | refine pL rfl rfl ?_ | refine pu rfl rfl ?_
  refine SL_nil ?_
  refine nx ?_
  refine SWP_seq ?_
  refine SWP_seq ?_
  refine SWP_region ?_
  refine pI rfl rfl ?_
  refine SL_nil ?_
  refine nx ?_
  refine SWP_block ?_
  refine SWP_loop [4, 5, 6, 10, 11, 12, 13, 14, 15, 16, 17, 18, 19, 20, 21, 22, 23, 24, 25, 26, 27, 28, 29, 30, 31, 32, 33, 34, 35, 36, 37, 38, 39, 40, 41, 42, 43, 44, 45, 46, 47, 48, 49] [4]
      (fun vs σ' m' => ∃ (i : Nat) (X : List Int), vs = [.int .i64 (i : Nat)] ∧ X.Perm l ∧ srtTo X i ∧ 1 ≤ i ∧ i ≤ l.length + 1 ∧ OwnS 3 1 (.slice a9 l.length k9) (X.flatMap intE) σ' ∧ m = m')
      (fun vs => l.length + 1 - nOf (vs.getD 0 undef)) rfl ?_ ?_
  · exact ⟨1, l, rfl, .refl _, fun a b h1 h2 => (by omega), by omega, by omega, hown9, rfl⟩
  intro u0 vs0 σ0 m0 hJ0 _
  obtain ⟨i, X, rfl, hp, hsr, h1i, hi, hown, rfl⟩ := hJ0
  have hXl := hp.length_eq
  refine SWP_seq ?_
  refine SWP_seq ?_
  refine SWP_region ?_
  first | refine pI rfl rfl ?_ | refine pu rfl rfl ?_
  first | refine pL rfl rfl ?_ | refine pu rfl rfl ?_
  refine pu rfl rfl ?_
  refine pc rfl rfl (fun c13 => ?_) (fun c13 => ?_)
  · skip
    refine SL_nil ?_
    refine nx ?_
    refine SWP_ct rfl ?_
    refine SWP_skip ?_
    refine nx ?_
    refine SWP_seq ?_
    refine SWP_block ?_
    refine SWP_seq ?_
    refine SWP_region ?_
    first | refine pI rfl rfl ?_ | refine pu rfl rfl ?_
    first | refine pI rfl rfl ?_ | refine pu rfl rfl ?_
    refine SL_nil ?_
    refine nx ?_
    refine SWP_block ?_
    refine SWP_loop [5, 6, 17, 18, 19, 20, 21, 22, 23, 24, 25, 26, 27, 28, 29, 30, 31, 32, 33, 34, 35, 36, 37, 38, 39, 40, 41, 42, 43, 44, 45, 46, 47, 48, 49] [5]
        (fun vs σ' m' => ∃ (k : Nat) (X : List Int), vs = [.int .i64 (k : Nat)] ∧ X.Perm l ∧ insTo X i k ∧ k ≤ i ∧ OwnS 3 1 (.slice a9 l.length k9) (X.flatMap intE) σ' ∧ m = m')
        (fun vs => nOf (vs.getD 0 undef)) rfl ?_ ?_
    · exact ⟨i, X, rfl, hp, ins_start hsr (by omega), by omega, hown, rfl⟩
    intro u1 vs1 σ1 m1 hJ1 _
    obtain ⟨k, X, rfl, hp, hin, hk, hown, rfl⟩ := hJ1
    have hXl := hp.length_eq
    refine SWP_seq ?_
    refine SWP_seq ?_
    refine SWP_draws (by kernel_rfl) (by kernel_rfl) ?_
    first | refine pI rfl rfl ?_ | refine pu rfl rfl ?_
    refine pc rfl rfl (fun c18 => ?_) (fun c18 => ?_)
    · skip
      refine pB rfl rfl ?_
      refine SL_yes rfl ?_
      first | refine pL rfl rfl ?_ | refine pu rfl rfl ?_
      refine SL_yes rfl ?_
      first | refine pI rfl rfl ?_ | refine pu rfl rfl ?_
      refine SL_yes rfl ?_
      obtain ⟨x, hx⟩ : ∃ x, X[k]? = some x := ⟨_, List.getElem?_eq_getElem (by omega)⟩
      obtain ⟨ad, e1, _, _, hrd⟩ := hown.atN (by omega) intE_len hx
      subst e1
      refine ia (es := 1) rfl rfl rfl (Nat.mul_one _) rfl rfl (by omega) rfl ?_
      refine SL_yes rfl ?_
      refine ldO (off := 0) (hrd _ _ (fun c hc => hc)) rfl (q1 _ _) rfl rfl ?_
      refine SL_yes rfl ?_
      first | refine pL rfl rfl ?_ | refine pu rfl rfl ?_
      refine SL_yes rfl ?_
      first | refine pI rfl rfl ?_ | refine pu rfl rfl ?_
      refine SL_yes rfl ?_
      refine pw rfl rfl (w64 (by omega) (by omega)) ?_
      rw [show (k : Int) - 1 = ((k - 1 : Nat) : Int) by omega]
      obtain ⟨y, hy⟩ : ∃ y, X[k - 1]? = some y := ⟨_, List.getElem?_eq_getElem (by omega)⟩
      obtain ⟨ad2, e2, _, _, hrd2⟩ := hown.atN (by omega) intE_len hy
      cases e2
      refine SL_yes rfl ?_
      first | refine ia (es := 1) rfl rfl rfl (Nat.mul_one _) rfl rfl (by omega) rfl ?_ | refine iai (es := 1) rfl rfl rfl (Nat.mul_one _) rfl rfl (by omega) (by omega) rfl ?_
      refine SL_yes rfl ?_
      refine ldO (off := 0) (hrd2 _ _ (fun c hc => hc)) rfl (q1 _ _) rfl rfl ?_
      refine SL_yes rfl ?_
      refine pc rfl rfl (fun c29 => ?_) (fun c29 => ?_)
      · skip
        refine pB rfl rfl ?_
        refine SL_nil ?_
        refine nx ?_
        refine SWP_ct rfl ?_
        refine SWP_skip ?_
        refine nx ?_
        refine SWP_seq ?_
        refine SWP_block ?_
        refine SWP_seq ?_
        refine SWP_region ?_
        first | refine pL rfl rfl ?_ | refine pu rfl rfl ?_
        first | refine pI rfl rfl ?_ | refine pu rfl rfl ?_
        first | refine ia (es := 1) rfl rfl rfl (Nat.mul_one _) rfl rfl (by omega) rfl ?_ | refine iai (es := 1) rfl rfl rfl (Nat.mul_one _) rfl rfl (by omega) (by omega) rfl ?_
        refine ldO (off := 0) (hrd _ _ (fun c hc => hc)) rfl (q1 _ _) rfl rfl ?_
        first | refine pI rfl rfl ?_ | refine pu rfl rfl ?_
        refine SL_nil ?_
        refine nx ?_
        refine SWP_seq ?_
        refine SWP_region ?_
        first | refine pL rfl rfl ?_ | refine pu rfl rfl ?_
        first | refine pI rfl rfl ?_ | refine pu rfl rfl ?_
        first | refine pL rfl rfl ?_ | refine pu rfl rfl ?_
        first | refine pI rfl rfl ?_ | refine pu rfl rfl ?_
        refine pw rfl rfl (w64 (by omega) (by omega)) ?_
        rw [show (k : Int) - 1 = ((k - 1 : Nat) : Int) by omega]
        first | refine ia (es := 1) rfl rfl rfl (Nat.mul_one _) rfl rfl (by omega) rfl ?_ | refine iai (es := 1) rfl rfl rfl (Nat.mul_one _) rfl rfl (by omega) (by omega) rfl ?_
        refine ldO (off := 0) (hrd2 _ _ (fun c hc => hc)) rfl (q1 _ _) rfl rfl ?_
        first | refine ia (es := 1) rfl rfl rfl (Nat.mul_one _) rfl rfl (by omega) rfl ?_ | refine iai (es := 1) rfl rfl rfl (Nat.mul_one _) rfl rfl (by omega) (by omega) rfl ?_
        refine stL (σe := σ1) (τ := []) (k := k) (b := x) (b' := y) (off := 0) intE_len rfl hown (by simp) hx rfl (q1 _ _) rfl rfl (by show 0 + 1 ≤ 1; omega) rfl rfl (fun σ2 hown2 => ?_)
        rw [List.append_nil]
        have hy2 : (X.set k y)[k - 1]? = some y := by rw [List.getElem?_set_ne (by omega)]; exact hy
        refine SL_nil ?_
        refine nx ?_
        refine SWP_region ?_
        first | refine pL rfl rfl ?_ | refine pu rfl rfl ?_
        first | refine pI rfl rfl ?_ | refine pu rfl rfl ?_
        refine pw rfl rfl (w64 (by omega) (by omega)) ?_
        rw [show (k : Int) - 1 = ((k - 1 : Nat) : Int) by omega]
        first | refine pI rfl rfl ?_ | refine pu rfl rfl ?_
        first | refine ia (es := 1) rfl rfl rfl (Nat.mul_one _) rfl rfl (by omega) rfl ?_ | refine iai (es := 1) rfl rfl rfl (Nat.mul_one _) rfl rfl (by omega) (by omega) rfl ?_
        refine stL (σe := σ2) (τ := []) (k := k - 1) (b := y) (b' := x) (off := 0) intE_len rfl hown2 (by simp) hy2 rfl (q1 _ _) rfl rfl (by show 0 + 1 ≤ 1; omega) rfl rfl (fun σ3 hown3 => ?_)
        rw [List.append_nil]
        refine SL_nil ?_
        refine nb ?_
        refine nx ?_
        refine SWP_region ?_
        first | refine pI rfl rfl ?_ | refine pu rfl rfl ?_
        refine pw rfl rfl (w64 (by omega) (by omega)) ?_
        rw [show (k : Int) - 1 = ((k - 1 : Nat) : Int) by omega]
        first | refine pI rfl rfl ?_ | refine pu rfl rfl ?_
        refine SL_nil ?_
        refine nx ?_
        refine ⟨by repeat (first | exact Under.upds rfl (Under.hav _ _ _) | exact Under.hav _ _ _ | refine Under.upd rfl ?_ | refine Under.upds rfl ?_ | refine Under.hav2 rfl ?_), ?_, ?_⟩
        · exact ⟨k - 1, _, rfl, (swap_perm hx hy).trans hp, ins_step hin (by omega) (by omega) hx hy (by omega), by omega, hown3, rfl⟩
        · simp only [L_vals, List.map, List.getD]; show k - 1 < k; omega
      refine pB rfl rfl ?_
      refine SL_nil ?_
      refine nx ?_
      refine SWP_cf rfl ?_
      refine SWP_exit ?_
      refine ne ?_
      refine ne ?_
      refine be rfl ?_
      refine nb ?_
      refine nx ?_
      refine SWP_region ?_
      first | refine pI rfl rfl ?_ | refine pu rfl rfl ?_
      first | refine pw rfl rfl (w64 (by omega) (by omega)) ?_ | refine pu rfl rfl ?_
      refine pI rfl rfl ?_
      refine SL_nil ?_
      refine nx ?_
      refine ⟨by repeat (first | exact Under.upds rfl (Under.hav _ _ _) | exact Under.hav _ _ _ | refine Under.upd rfl ?_ | refine Under.upds rfl ?_ | refine Under.hav2 rfl ?_), ?_, ?_⟩
      · exact ⟨i + 1, X, rfl, hp, ins_end hin (by first | exact .inl (by omega) | exact .inr (by rw [getD_at hx, getD_at hy]; omega)), by omega, by omega, hown, rfl⟩
      · simp only [L_vals, List.map, List.getD]; show l.length + 1 - (i + 1) < l.length + 1 - i; omega
    refine pB rfl rfl ?_
    refine SL_no rfl rfl ?_
    refine SL_no rfl rfl ?_
    refine SL_no rfl rfl ?_
    refine SL_no rfl rfl ?_
    refine SL_no rfl rfl ?_
    refine SL_no rfl rfl ?_
    refine SL_no rfl rfl ?_
    refine SL_no rfl rfl ?_
    refine SL_no rfl rfl ?_
    refine SL_no rfl rfl ?_
    refine pB rfl rfl ?_
    refine SL_nil ?_
    refine nx ?_
    refine SWP_cf rfl ?_
    refine SWP_exit ?_
    refine ne ?_
    refine ne ?_
    refine be rfl ?_
    refine nb ?_
    refine nx ?_
    refine SWP_region ?_
    first | refine pI rfl rfl ?_ | refine pu rfl rfl ?_
    first | refine pw rfl rfl (w64 (by omega) (by omega)) ?_ | refine pu rfl rfl ?_
    refine pI rfl rfl ?_
    refine SL_nil ?_
    refine nx ?_
    refine ⟨by repeat (first | exact Under.upds rfl (Under.hav _ _ _) | exact Under.hav _ _ _ | refine Under.upd rfl ?_ | refine Under.upds rfl ?_ | refine Under.hav2 rfl ?_), ?_, ?_⟩
    · exact ⟨i + 1, X, rfl, hp, ins_end hin (by first | exact .inl (by omega) | exact .inr (by rw [getD_at hx, getD_at hy]; omega)), by omega, by omega, hown, rfl⟩
    · simp only [L_vals, List.map, List.getD]; show l.length + 1 - (i + 1) < l.length + 1 - i; omega
  refine SL_nil ?_
  refine nx ?_
  refine SWP_cf rfl ?_
  refine SWP_exit ?_
  refine ne ?_
  refine ne ?_
  refine be rfl ?_
  refine nx ?_
  refine SWP_seq ?_
  refine SWP_region ?_
  first | refine pL rfl rfl ?_ | refine pu rfl rfl ?_
  first | refine pL rfl rfl ?_ | refine pu rfl rfl ?_
  refine SL_nil ?_
  refine nx ?_
  refine SWP_ret ?_
  refine fin [_] ⟨rfl, trivial⟩ ?_
  rw [← srt_eq hsr (by omega) hp]
  exact hown

end Go.Proofs.Ytnpnleapnbdllaa

