/- drum.Draw, from its parts; lists in order, by the reference. -/
import Derived.Test.YtkopdlglenejmaaDruF
namespace Go.Proofs.Ytkopdlglenejmaa
open Eng

theorem permW {α : Type} (a b c d e x : List α) : ((a ++ (b ++ (c ++ (d ++ e)))) ++ x).Perm (a ++ (b ++ (c ++ (d ++ (e ++ x))))) := by simp

set_option maxRecDepth 100000 in
theorem drawG {m : Mem} {g : Game} (hin : g.In m) (s : Int) : CallsS Try.prog 11 [g.val, .int .u64 s].toArray [] m fun r σ' _ => OwnR r σ' (drawF g s).1 (drawF g s).2 := by
  dsimp only [Game.val]
  refine enter Try.func11 Try.ntmps11 rfl rfl ?_
  refine SWP_seq ?_
  refine SWP_region ?_
  refine bx (v := .agg _) rfl rfl (fun B2 => ?_)
  refine al rfl rfl (fun B4 => ?_)
  refine pI rfl rfl ?_
  refine SL_nil ?_
  refine nx ?_
  refine SWP_seq ?_
  refine SWP_seq ?_
  refine SWP_region ?_
  refine lw (v := .agg _) B2 0 rfl rfl rfl rfl ?_
  refine SL_call rfl rfl cb20 (CallsS.frame0 (checkI hin)) rfl (fun v1_1 σ1_1 m1_1 hl1_1 hR1_1 => ?_)
  obtain ⟨σc, rfl, rfl, hm1_1, s0, rfl⟩ := hR1_1
  have hn1_1 := hm1_1.symm
  subst hn1_1
  refine pu rfl rfl ?_
  first | refine pI rfl rfl ?_ | refine pu rfl rfl ?_
  first | refine pS rfl rfl ?_ | refine pu rfl rfl ?_
  first | refine pI rfl rfl ?_ | refine pu rfl rfl ?_
  first | refine pS rfl rfl ?_ | refine pu rfl rfl ?_
  refine SL_nil ?_
  refine nx ?_
  refine SWP_seq ?_
  refine SWP_region ?_
  first | refine pI rfl rfl ?_ | refine pu rfl rfl ?_
  refine pc rfl rfl (fun c15 => ?_) (fun c15 => ?_)
  · skip
    refine SL_nil ?_
    refine nx ?_
    refine SWP_ct rfl ?_
    refine SWP_seq ?_
    refine SWP_region ?_
    refine pA rfl rfl ?_
    first | refine pI rfl rfl ?_ | refine pu rfl rfl ?_
    refine sw (v := .agg _) B4 0 rfl rfl rfl rfl rfl rfl rfl ?_
    first | refine pI rfl rfl ?_ | refine pu rfl rfl ?_
    refine SL_nil ?_
    refine nx ?_
    refine SWP_ret ?_
    refine nr ?_
    refine fin [_, _] ⟨⟨_, _, rfl, Rd.of_cells (MemO.mem (B := B4)), rfl⟩, rfl, trivial⟩ ?_
    have e : drawF g s = (gameErr g, ([], [], [])) := if_pos (by assumption)
    rw [e]
    exact OwnR.zero _ _
  refine SL_nil ?_
  refine nx ?_
  refine SWP_cf rfl ?_
  refine SWP_skip ?_
  refine nx ?_
  refine SWP_seq ?_
  have hz : gameErr g = 0 := Classical.not_not.1 (by assumption)
  have hg := gameOk hz
  have hg2 := hg.mx.h2
  have hg10 := hg.mx.h10
  have hg11 := hg.mx.h11
  have hg12 := hg.mx.h12
  refine SWP_region ?_
  first | refine pI rfl rfl ?_ | refine pu rfl rfl ?_
  refine SL_call rfl rfl cb21 (CallsS.frame0 (newG s)) rfl (fun v4_1 σ4_1 m4_1 hl4_1 hR4_1 => ?_)
  obtain ⟨σn, rfl, B, rfl, rfl, hm4_1⟩ := hR4_1
  have hn4_1 := hm4_1.symm
  subst hn4_1
  first | refine pP rfl rfl ?_ | refine pu rfl rfl ?_
  refine SL_nil ?_
  refine nx ?_
  refine SWP_seq ?_
  refine SWP_seq ?_
  refine SWP_region ?_
  refine pu rfl rfl ?_
  refine lw (v := .int .i64 _) B2 1 rfl rfl rfl rfl ?_
  refine pc rfl rfl (fun c22 => ?_) (fun c22 => ?_)
  · skip
    refine SL_nil ?_
    refine nx ?_
    refine SWP_ct rfl ?_
    refine SWP_seq ?_
    refine SWP_region ?_
    refine lw (v := .agg _) B2 0 rfl rfl rfl rfl ?_
    first | refine pP rfl rfl ?_ | refine pu rfl rfl ?_
    refine SL_call rfl rfl cb22 (CallsS.subF [_, _] (digG (g := g) (by omega) B s 0) (.refl _)) rfl (fun v6_2 σ6_2 m6_2 hl6_2 hR6_2 => ?_)
    obtain ⟨σo, rfl, v1, v2, v3, τ0, σ1, σ2, σ3, τ, hp, h1, h2, h3, rfl⟩ := hR6_2
    obtain ⟨wa1, wc1, we1⟩ := h1.lenL (by omega) intE_len
    subst we1
    obtain ⟨wa2, wc2, we2⟩ := h2.lenL (by omega) intE_len
    subst we2
    obtain ⟨wa3, wc3, we3⟩ := h3.lenL (by omega) intE_len
    subst we3
    first | refine pA rfl rfl ?_ | refine pu rfl rfl ?_
    first | refine pI rfl rfl ?_ | refine pu rfl rfl ?_
    refine sw (v := .agg _) B4 0 rfl rfl rfl rfl rfl rfl rfl ?_
    first | refine pI rfl rfl ?_ | refine pu rfl rfl ?_
    refine SL_nil ?_
    refine nx ?_
    refine SWP_ret ?_
    refine nr ?_
    refine fin [_, _] ⟨⟨_, _, rfl, Rd.of_cells (MemO.mem (B := B4)), rfl⟩, rfl, trivial⟩ ?_
    have e : drawF g s = ((digN g.of g.main.toNat s []).1, ((digN g.of g.main.toNat s []).2, [], [])) := (if_neg (fun hh => hh hz)).trans (if_pos (by assumption))
    rw [e]
    exact ⟨_, _, _, τ0, σ1, σ2, σ3, τ ++ [_, _], (hp.append_right _).trans (permW _ _ _ _ _ _), h1, h2, h3, rfl⟩
  refine SL_nil ?_
  refine nx ?_
  refine SWP_cf rfl ?_
  refine SWP_skip ?_
  refine nx ?_
  refine SWP_seq ?_
  refine SWP_region ?_
  refine lw (v := .agg _) B2 0 rfl rfl rfl rfl ?_
  first | refine pP rfl rfl ?_ | refine pu rfl rfl ?_
  refine SL_call rfl rfl cb23 (CallsS.subF [_, _] (numbG (g := g) (by omega) B s 0) (.refl _)) rfl (fun v7_2 σ7_2 m7_2 hl7_2 hR7_2 => ?_)
  obtain ⟨σo, rfl, v1, v2, v3, τ0, σ1, σ2, σ3, τ, hp, h1, h2, h3, rfl⟩ := hR7_2
  obtain ⟨wa1, wc1, we1⟩ := h1.lenL (by omega) intE_len
  subst we1
  obtain ⟨wa2, wc2, we2⟩ := h2.lenL (by omega) intE_len
  subst we2
  obtain ⟨wa3, wc3, we3⟩ := h3.lenL (by omega) intE_len
  subst we3
  first | refine pA rfl rfl ?_ | refine pu rfl rfl ?_
  first | refine pI rfl rfl ?_ | refine pu rfl rfl ?_
  refine sw (v := .agg _) B4 0 rfl rfl rfl rfl rfl rfl rfl ?_
  first | refine pI rfl rfl ?_ | refine pu rfl rfl ?_
  refine SL_nil ?_
  refine nx ?_
  refine SWP_ret ?_
  refine fin [_, _] ⟨⟨_, _, rfl, Rd.of_cells (MemO.mem (B := B4)), rfl⟩, rfl, trivial⟩ ?_
  have e : drawF g s = numF g.of g.main g.bonus g.bonusOf g.extra s := (if_neg (fun hh => hh hz)).trans (if_neg (by assumption))
  rw [e]
  exact ⟨_, _, _, τ0, σ1, σ2, σ3, τ ++ [_, _], (hp.append_right _).trans (permW _ _ _ _ _ _), h1, h2, h3, rfl⟩

theorem drawI {m : Mem} {g : Game} (hin : g.In m) (s : Int) : CallsS Try.prog 11 [g.val, .int .u64 s].toArray [] m fun r σ' m' => σ' = [] ∧ ResOf r m' (drawF g s).1 (drawF g s).2 :=
  CallsS.ghost (drawG hin s) fun v σ' m' hR g0 W hC => by
    obtain ⟨m2, h1, h2, h3⟩ := hR.let hC
    exact ⟨[], m2, h1, h2, rfl, h3⟩
theorem pw_eq {X l : List Int} (h : X.Pairwise (fun a b => a ≤ b)) (hp : X.Perm l) : X = l.mergeSort leI := by
  rw [← mergeSort_of_perm_i hp]
  refine (List.mergeSort_of_pairwise ?_).symm
  exact h.imp fun {a b} hab => by simp only [leI, decide_eq_true_eq]; exact hab
theorem ins_perm {X A : List Int} {x : Int} {k : Nat} (hp : X.Perm A) : (X.take k ++ [x] ++ X.drop k).Perm (A ++ [x]) := by
  refine List.Perm.trans ?_ (hp.append_right [x])
  rw [List.append_assoc]
  refine (List.Perm.append_left (X.take k) List.perm_append_comm).trans ?_
  rw [← List.append_assoc, List.take_append_drop]
theorem ins_pw {X : List Int} {x : Int} {k : Nat} (h : X.Pairwise (fun a b => a ≤ b)) (hk : k ≤ X.length) (hi : ∀ j, k ≤ j → j < X.length → x < X.getD j 0) (hl : k = 0 ∨ X.getD (k - 1) 0 ≤ x) : (X.take k ++ [x] ++ X.drop k).Pairwise (fun a b => a ≤ b) := by
  have hg : ∀ a b, a < b → b < X.length → X.getD a 0 ≤ X.getD b 0 := fun a b hab hb => by
    have := (List.pairwise_iff_getElem.1 h) a b (by omega) hb hab
    rwa [List.getD_eq_getElem?_getD, List.getD_eq_getElem?_getD, List.getElem?_eq_getElem (by omega), List.getElem?_eq_getElem hb]
  have ht : ∀ a ∈ X.take k, a ≤ x := fun a ha => by
    obtain ⟨j, hj⟩ := List.getElem?_of_mem ha
    rw [List.getElem?_take] at hj
    split at hj
    · rename_i hjk
      have e : X.getD j 0 = a := getD_at hj
      rcases hl with rfl | hl
      · omega
      · by_cases hjj : j = k - 1
        · rw [← e, hjj]; exact hl
        · rw [← e]; exact Int.le_trans (hg j (k - 1) (by omega) (by omega)) hl
    · cases hj
  have hd : ∀ b ∈ X.drop k, x ≤ b := fun b hb => by
    obtain ⟨j, hj⟩ := List.getElem?_of_mem hb
    rw [List.getElem?_drop] at hj
    have e : X.getD (k + j) 0 = b := getD_at hj
    rw [← e]
    exact Int.le_of_lt (hi _ (by omega) (List.getElem?_eq_some_iff.1 hj).1)
  rw [List.append_assoc, List.pairwise_append]
  refine ⟨h.sublist (List.take_sublist _ _), ?_, fun a ha b hb => ?_⟩
  · rw [List.singleton_append, List.pairwise_cons]
    exact ⟨hd, h.sublist (List.drop_sublist _ _)⟩
  · rw [List.singleton_append] at hb
    rcases List.mem_cons.1 hb with rfl | hb
    · exact ht a ha
    · exact Int.le_trans (ht a ha) (hd b hb)

set_option maxRecDepth 100000 in
theorem sort13 {m : Mem} {v : Value} {l : List Int} (h : RL m intE 1 v l) (hl : l.length ≤ 100000) : CallsS Try.prog 27 [v].toArray [] m fun r σ' m' => σ' = [] ∧ RL m' intE 1 r (l.mergeSort leI) := by
  obtain ⟨pa, pc0, rfl, hpc⟩ := h.full
  refine enter Try.func27 Try.ntmps27 rfl rfl ?_
  refine SWP_seq ?_
  refine SWP_region ?_
  refine pL rfl rfl ?_
  refine SL_nil ?_
  refine nx ?_
  refine SWP_seq ?_
  refine SWP_region ?_
  refine pL rfl rfl ?_
  refine SL_nil ?_
  refine nx ?_
  refine SWP_seq ?_
  refine SWP_seq ?_
  refine SWP_region ?_
  refine pI rfl rfl ?_
  refine SL_nil ?_
  refine nx ?_
  refine SWP_block ?_
  refine SWP_loop [3, 4, 5, 6, 7, 8, 9, 10, 11, 12, 13, 14, 15, 16, 17, 18, 19, 20, 21, 22, 23, 24, 25, 26, 27, 28, 29, 30, 31, 32, 33, 34, 35, 36, 37, 38, 39, 40, 41, 42, 43, 44, 45, 46, 47, 48] [3, 4]
      (fun vs σ' m' => ∃ (i : Nat) (w3 : Value) (X : List Int), vs = [w3, .int .i64 (i : Nat)] ∧ i ≤ l.length ∧ X.Perm (l.take i) ∧ X.Pairwise (fun a b => a ≤ b) ∧ RL m' intE 1 w3 X ∧ σ' = [] ∧ Le m m')
      (fun vs => l.length - nOf (vs.getD 1 undef)) rfl ?_ ?_
  · exact ⟨0, _, [], rfl, by omega, by rw [List.take_zero], List.Pairwise.nil, RL.nil _ _, rfl, Le.refl _⟩
  intro u0 vs0 σ0 m0 hJ0 _
  obtain ⟨i, w3, X, rfl, hi, hX, hpw, hr, rfl, hle0⟩ := hJ0
  refine SWP_seq ?_
  refine SWP_seq ?_
  refine SWP_region ?_
  first | refine pI rfl rfl ?_ | refine pu rfl rfl ?_
  first | refine pL rfl rfl ?_ | refine pu rfl rfl ?_
  refine pu rfl rfl ?_
  refine pc rfl rfl (fun c10 => ?_) (fun c10 => ?_)
  · skip
    refine SL_nil ?_
    refine nx ?_
    refine SWP_ct rfl ?_
    refine SWP_skip ?_
    refine nx ?_
    refine SWP_seq ?_
    refine SWP_block ?_
    refine SWP_seq ?_
    obtain ⟨x, hx⟩ : ∃ x, l[i]? = some x := ⟨_, List.getElem?_eq_getElem (by omega)⟩
    obtain ⟨adx, ex, _, hatx⟩ := h.atI hx
    cases ex
    have hXl := hX.length_eq
    rw [List.length_take] at hXl
    obtain ⟨xa, xc, rfl, hxc⟩ := hr.full
    refine SWP_region ?_
    first | refine pL rfl rfl ?_ | refine pu rfl rfl ?_
    refine pu rfl rfl ?_
    refine pI rfl rfl ?_
    refine SL_nil ?_
    refine nx ?_
    refine SWP_merge1 [5, 15, 16, 17, 18, 19, 20, 21, 22, 23, 24, 25, 26, 27, 28, 29, 30] [5]
        (fun vs σ' m' => ∃ (k : Nat), vs = [.int .i64 (k : Nat)] ∧ k ≤ X.length ∧ (∀ j, k ≤ j → j < X.length → x < X.getD j 0) ∧ (k = 0 ∨ X.getD (k - 1) 0 ≤ x) ∧ σ' = [] ∧ m0 = m')
        rfl ?_ ?_
    · skip
      refine SWP_block ?_
      refine SWP_loop [5, 15, 16, 17, 18, 19, 20, 21, 22, 23, 24, 25, 26, 27, 28, 29, 30] [5]
          (fun vs σ' m' => ∃ (k : Nat), vs = [.int .i64 (k : Nat)] ∧ k ≤ X.length ∧ (∀ j, k ≤ j → j < X.length → x < X.getD j 0) ∧ σ' = [] ∧ m0 = m')
          (fun vs => nOf (vs.getD 0 undef)) rfl ?_ ?_
      · exact ⟨X.length, rfl, Nat.le_refl _, fun j h1 h2 => (by omega), rfl, rfl⟩
      intro u1 vs1 σ1 m1 hJ1 _
      obtain ⟨k, rfl, hk, hgt, rfl, rfl⟩ := hJ1
      refine SWP_seq ?_
      refine SWP_seq ?_
      refine SWP_draws (by kernel_rfl) (by kernel_rfl) ?_
      first | refine pI rfl rfl ?_ | refine pu rfl rfl ?_
      refine pc rfl rfl (fun c16 => ?_) (fun c16 => ?_)
      · skip
        refine pB rfl rfl ?_
        refine SL_yes rfl ?_
        first | refine pL rfl rfl ?_ | refine pu rfl rfl ?_
        refine SL_yes rfl ?_
        first | refine pI rfl rfl ?_ | refine pu rfl rfl ?_
        refine SL_yes rfl ?_
        refine pw rfl rfl (w64 (by omega) (by omega)) ?_
        have h0k : 0 < k := by omega
        rw [show (k : Int) - 1 = ((k - 1 : Nat) : Int) by omega]
        obtain ⟨y, hy⟩ : ∃ y, X[k - 1]? = some y := ⟨_, List.getElem?_eq_getElem (by omega)⟩
        obtain ⟨ady, ey, _, haty⟩ := hr.atI hy
        cases ey
        have gy := getD_at hy
        refine SL_yes rfl ?_
        refine ia (es := 1) rfl rfl rfl (Nat.mul_one _) rfl rfl (by omega) rfl ?_
        refine SL_yes rfl ?_
        refine ldA (v := .int .i64 _) rfl haty rfl rfl ?_
        refine SL_yes rfl ?_
        first | refine pL rfl rfl ?_ | refine pu rfl rfl ?_
        refine SL_yes rfl ?_
        first | refine pI rfl rfl ?_ | refine pu rfl rfl ?_
        refine SL_yes rfl ?_
        refine ia (es := 1) rfl rfl rfl (Nat.mul_one _) rfl rfl (by omega) rfl ?_
        refine SL_yes rfl ?_
        refine ldA (v := .int .i64 _) rfl (hatx.mono hle0) rfl rfl ?_
        refine SL_yes rfl ?_
        refine pc rfl rfl (fun c27 => ?_) (fun c27 => ?_)
        · skip
          refine pB rfl rfl ?_
          refine SL_nil ?_
          refine nx ?_
          refine SWP_ct rfl ?_
          refine SWP_skip ?_
          refine nx ?_
          refine SWP_block ?_
          refine SWP_region ?_
          first | refine pI rfl rfl ?_ | refine pu rfl rfl ?_
          refine pw rfl rfl (w64 (by omega) (by omega)) ?_
          rw [show (k : Int) - 1 = ((k - 1 : Nat) : Int) by omega]
          first | refine pI rfl rfl ?_ | refine pu rfl rfl ?_
          refine SL_nil ?_
          refine nb ?_
          refine nx ?_
          refine ⟨by repeat (first | exact Under.upds rfl (Under.hav _ _ _) | exact Under.hav _ _ _ | refine Under.upd rfl ?_ | refine Under.upds rfl ?_ | refine Under.hav2 rfl ?_), ?_, ?_⟩
          · refine ⟨k - 1, rfl, by omega, fun j h1 h2 => ?_, rfl, rfl⟩
            by_cases e : j = k - 1
            · rw [e, gy]; omega
            · exact hgt j (by omega) h2
          · simp only [L_vals, List.map, List.getD]; show k - 1 < k; omega
        refine pB rfl rfl ?_
        refine SL_nil ?_
        refine nx ?_
        refine SWP_cf rfl ?_
        refine SWP_exit ?_
        refine ne ?_
        refine ne ?_
        refine be rfl ?_
        refine nx ?_
        refine ⟨by repeat (first | with_reducible exact Under.refl _ _ | exact Under.upds rfl (Under.hav _ _ _) | exact Under.hav _ _ _ | refine Under.upd rfl ?_ | refine Under.upds rfl ?_ | refine Under.hav2 rfl ?_), ?_⟩
        refine ⟨k, rfl, hk, hgt, ?_, rfl, rfl⟩
        first
          | exact .inl (by omega)
          | (refine .inr ?_; rw [gy]; omega)
      refine pB rfl rfl ?_
      refine SL_no rfl rfl ?_
      refine SL_no rfl rfl ?_
      refine SL_no rfl rfl ?_
      refine SL_no rfl rfl ?_
      refine SL_no rfl rfl ?_
      refine SL_no rfl rfl ?_
      refine SL_no rfl rfl ?_
      refine SL_no rfl rfl ?_
      refine SL_no rfl rfl ?_
      refine SL_no rfl rfl ?_
      refine pB rfl rfl ?_
      refine SL_nil ?_
      refine nx ?_
      refine SWP_cf rfl ?_
      refine SWP_exit ?_
      refine ne ?_
      refine ne ?_
      refine be rfl ?_
      refine nx ?_
      refine ⟨by repeat (first | with_reducible exact Under.refl _ _ | exact Under.upds rfl (Under.hav _ _ _) | exact Under.hav _ _ _ | refine Under.upd rfl ?_ | refine Under.upds rfl ?_ | refine Under.hav2 rfl ?_), ?_⟩
      refine ⟨k, rfl, hk, hgt, ?_, rfl, rfl⟩
      first
        | exact .inl (by omega)
        | (refine .inr ?_; rw [gy]; omega)
    intro uM0 vM0 σM0 mM0 hM0 _
    obtain ⟨k, rfl, hk, hgt, hle, rfl, rfl⟩ := hM0
    refine SWP_seq ?_
    refine SWP_region ?_
    refine bs rfl rfl rfl rfl rfl (fun B31 => ?_)
    refine SL_imp (row_nil _ 1) ?_
    first | refine pL rfl rfl ?_ | refine pu rfl rfl ?_
    first | refine pI rfl rfl ?_ | refine pu rfl rfl ?_
    refine slh (size := 1) rfl rfl rfl rfl rfl (by omega) (by omega) rfl ?_
    rw [Int.toNat_natCast]
    have hsA := RL.sub (lo := 0) (hi := k) intE_len hr (by omega) (by omega)
    rw [List.drop_zero] at hsA
    refine apR (e := 3) (size := 1) (bytes := 8) rfl rfl rfl rfl rfl rfl rfl (.row B31 0 0 [] rfl (Nat.le_refl _) (Nat.zero_le _)) (.refl _) rfl hsA (all_intE _) (by rw [List.length_take]; simp; omega) rfl rfl (fun v35 σ35 hown35 => ?_)
    rw [List.nil_append] at hown35
    first | refine pL rfl rfl ?_ | refine pu rfl rfl ?_
    refine SL_nil ?_
    refine nx ?_
    refine SWP_seq ?_
    refine SWP_region ?_
    first | refine pL rfl rfl ?_ | refine pu rfl rfl ?_
    first | refine pL rfl rfl ?_ | refine pu rfl rfl ?_
    first | refine pI rfl rfl ?_ | refine pu rfl rfl ?_
    refine ia (es := 1) rfl rfl rfl (Nat.mul_one _) rfl rfl (by omega) rfl ?_
    refine ldA (v := .int .i64 _) rfl (hatx.mono hle0) rfl rfl ?_
    refine bs rfl rfl rfl rfl rfl (fun B41 => ?_)
    refine ap (e := 3) (size := 1) (bytes := 8) rfl rfl rfl rfl rfl rfl rfl hown35 (permX [_] σ35 _) rfl (Rd.of_cells (.head _)) rfl rfl (by rw [flatMap_len intE_len, List.length_take]; omega) rfl rfl (fun v42 σ42 hown42 => ?_)
    refine SL_weak (List.Sublist.append_left (List.nil_sublist _) _) ?_
    first | refine pL rfl rfl ?_ | refine pu rfl rfl ?_
    refine SL_nil ?_
    refine nx ?_
    refine SWP_seq ?_
    refine SWP_region ?_
    first | refine pL rfl rfl ?_ | refine pu rfl rfl ?_
    first | refine pL rfl rfl ?_ | refine pu rfl rfl ?_
    first | refine pI rfl rfl ?_ | refine pu rfl rfl ?_
    refine slo (size := 1) rfl rfl rfl rfl rfl (by omega) (by omega) rfl ?_
    rw [Int.toNat_natCast]
    have hsB := RL.sub (lo := k) (hi := X.length) intE_len hr (by omega) (Nat.le_refl _)
    rw [List.take_length] at hsB
    refine apR (e := 3) (size := 1) (bytes := 8) rfl rfl rfl rfl rfl rfl rfl hown42 (.refl _) rfl hsB (all_intE _) (by rw [List.length_append, flatMap_len intE_len, List.length_take, List.length_drop]; show (_ + 1 + _) * 8 ≤ _; omega) rfl rfl (fun v47 σ47 hown47 => ?_)
    have hown9 : OwnS 3 1 v47 ((X.take k ++ [x] ++ X.drop k).flatMap intE) σ47 := by
      rw [List.flatMap_append, List.flatMap_append]; exact hown47
    first | refine pL rfl rfl ?_ | refine pu rfl rfl ?_
    refine SL_nil ?_
    refine nx ?_
    refine SWP_region ?_
    refine SL_freezeL (by omega) intE_len hown9 (fun m9 hl9 hb9 => ?_)
    refine pu rfl rfl ?_
    first | refine pL rfl rfl ?_ | refine pu rfl rfl ?_
    refine SL_nil ?_
    refine nb ?_
    refine nx ?_
    refine SWP_region ?_
    first | refine pI rfl rfl ?_ | refine pu rfl rfl ?_
    first | refine pw rfl rfl (w64 (by omega) (by omega)) ?_ | refine pu rfl rfl ?_
    refine pI rfl rfl ?_
    refine SL_nil ?_
    refine nx ?_
    refine ⟨by repeat (first | exact Under.upds rfl (Under.hav _ _ _) | exact Under.hav _ _ _ | refine Under.upd rfl ?_ | refine Under.upds rfl ?_ | refine Under.hav2 rfl ?_), ?_, ?_⟩
    · exact ⟨i + 1, v47, _, rfl, by omega, by rw [take_snocA hx]; exact ins_perm hX, ins_pw hpw hk hgt hle, hb9, rfl, hle0.trans hl9⟩
    · simp only [L_vals, List.map, List.getD]; show l.length - (i + 1) < l.length - i; omega
  refine SL_nil ?_
  refine nx ?_
  refine SWP_cf rfl ?_
  refine SWP_exit ?_
  refine ne ?_
  refine ne ?_
  refine be rfl ?_
  refine nx ?_
  refine SWP_seq ?_
  refine SWP_region ?_
  first | refine pL rfl rfl ?_ | refine pu rfl rfl ?_
  first | refine pL rfl rfl ?_ | refine pu rfl rfl ?_
  refine SL_nil ?_
  refine nx ?_
  refine SWP_ret ?_
  refine fin [_] ⟨rfl, trivial⟩ ?_
  obtain rfl : i = l.length := by omega
  rw [List.take_length] at hX
  rw [← pw_eq hpw hX]
  exact ⟨rfl, hr⟩

end Go.Proofs.Ytkopdlglenejmaa

