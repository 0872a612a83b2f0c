/- lotteryref20.Guard: what its functions compute. -/
import Derived.Test.YthejjlakmkdkeaaSeqG
namespace Go.Proofs.Ythejjlakmkdkeaa
open Eng

def RfC (B : Nat) (most : Int) (sv : Value) (σe : Sig) : Sig := (B, Cells 42 [.int .i64 most, sv]) :: σe
theorem q1 (ad : Addr) (k : Nat) : ad.add k = (ad.add (k * 1)).add 0 := by rw [Nat.mul_one]; exact (add_zero' _).symm
theorem not_take {n x : Int} {S : List Int} {i : Nat} (h : n ∉ S.take i) (hx : S[i]? = some x) (hne : x ≠ n) : n ∉ S.take (i + 1) := by
  have hk := List.getElem?_eq_some_iff.1 hx
  rw [List.take_succ_eq_append_getElem hk.1, hk.2, List.mem_append, List.mem_singleton]
  rintro (h1 | h1)
  · exact h h1
  · exact hne h1.symm
theorem take_snoc {x : Int} {S : List Int} {i : Nat} (hx : S[i]? = some x) : S.take (i + 1) = S.take i ++ [x] := by
  have hk := List.getElem?_eq_some_iff.1 hx
  rw [List.take_succ_eq_append_getElem hk.1, hk.2]
theorem drop_head {x : Int} {S : List Int} {i : Nat} (hx : S[i]? = some x) : S.drop i = x :: S.drop (i + 1) := by
  have hk := List.getElem?_eq_some_iff.1 hx
  rw [List.drop_eq_getElem_cons hk.1, hk.2]
theorem ins_at {n : Int} : ∀ {S : List Int} {i : Nat}, (∀ x ∈ S.take i, x < n) → (∀ x, S[i]? = some x → ¬ x < n) → insI n S = S.take i ++ n :: S.drop i
  | [], i, _, _ => by simp [insI]
  | x :: S, 0, _, h => by
    have := h x (by simp)
    unfold insI
    rw [if_neg this]; rfl
  | x :: S, i + 1, h, h' => by
    have h1 := h x (by simp)
    unfold insI
    rw [if_pos h1, ins_at (i := i) (fun y hy => h y (by simp [hy])) (fun y hy => h' y (by simpa using hy))]
    rfl
theorem mid_snoc {n x : Int} {S : List Int} {i j : Nat} (hij : i ≤ j) (hx : S[j]? = some x) : S.take i ++ n :: (S.drop i).take (j + 1 - i) = (S.take i ++ n :: (S.drop i).take (j - i)) ++ [x] := by
  have e : (S.drop i)[j - i]? = some x := by rw [List.getElem?_drop, show i + (j - i) = j by omega]; exact hx
  rw [show j + 1 - i = (j - i) + 1 by omega, take_snoc e]
  simp

theorem rfNew {m : Mem} (x : Int) : CallsS Try.prog 10 [.int .i64 x].toArray [] m fun r σ' m' => ∃ B, r = .pointer (some ⟨B, 0, none⟩) ∧ σ' = RfC B (clampI x) (.slice none 0 0) [] ∧ m' = m := by
  refine enter Try.func10 Try.ntmps10 rfl rfl ?_
  refine SWP_seq ?_
  refine SWP_region ?_
  first | refine pu (v := .pointer _) rfl rfl ?_ | refine pu rfl rfl ?_
  refine SL_nil ?_
  refine nx ?_
  refine SWP_seq ?_
  refine SWP_seq ?_
  refine SWP_region ?_
  first | refine pu (v := .int .i64 _) rfl rfl ?_ | refine pu rfl rfl ?_
  refine pc rfl rfl (fun c4 => ?_) (fun c4 => ?_)
  · skip
    refine SL_nil ?_
    refine nx ?_
    refine SWP_ct rfl ?_
    refine SWP_region ?_
    first | refine pu (v := .int .i64 _) rfl rfl ?_ | refine pu rfl rfl ?_
    refine SL_nil ?_
    refine nx ?_
    refine SWP_seq ?_
    refine SWP_seq ?_
    refine SWP_region ?_
    first | refine pu (v := .int .i64 _) rfl rfl ?_ | refine pu rfl rfl ?_
    refine pc rfl rfl (fun c6 => ?_) (fun c6 => ?_)
    · skip
      refine SL_nil ?_
      refine nx ?_
      refine SWP_ct rfl ?_
      refine SWP_region ?_
      first | refine pu (v := .int .i64 _) rfl rfl ?_ | refine pu rfl rfl ?_
      refine SL_nil ?_
      refine nx ?_
      refine SWP_seq ?_
      refine SWP_region ?_
      first | refine pu (v := .int .i64 _) rfl rfl ?_ | refine pu rfl rfl ?_
      first | refine pu (v := .agg _) rfl rfl ?_ | refine pu rfl rfl ?_
      refine bx (v := .agg _) rfl rfl (fun B9 => ?_)
      first | refine pu (v := .pointer _) rfl rfl ?_ | refine pu rfl rfl ?_
      refine SL_nil ?_
      refine nx ?_
      refine SWP_ret ?_
      refine fin [_] ⟨rfl, trivial⟩ ?_
      exfalso; omega
    · skip
      refine SL_nil ?_
      refine nx ?_
      refine SWP_cf rfl ?_
      refine SWP_skip ?_
      refine nx ?_
      refine SWP_seq ?_
      refine SWP_region ?_
      first | refine pu (v := .int .i64 _) rfl rfl ?_ | refine pu rfl rfl ?_
      first | refine pu (v := .agg _) rfl rfl ?_ | refine pu rfl rfl ?_
      refine bx (v := .agg _) rfl rfl (fun B9 => ?_)
      first | refine pu (v := .pointer _) rfl rfl ?_ | refine pu rfl rfl ?_
      refine SL_nil ?_
      refine nx ?_
      refine SWP_ret ?_
      refine fin [_] ⟨rfl, trivial⟩ ?_
      have e : clampI x = 1 := by unfold clampI; omega
      rw [e]
      exact ⟨_, rfl, rfl, rfl⟩
  · skip
    refine SL_nil ?_
    refine nx ?_
    refine SWP_cf rfl ?_
    refine SWP_skip ?_
    refine nx ?_
    refine SWP_seq ?_
    refine SWP_seq ?_
    refine SWP_region ?_
    first | refine pu (v := .int .i64 _) rfl rfl ?_ | refine pu rfl rfl ?_
    refine pc rfl rfl (fun c6 => ?_) (fun c6 => ?_)
    · skip
      refine SL_nil ?_
      refine nx ?_
      refine SWP_ct rfl ?_
      refine SWP_region ?_
      first | refine pu (v := .int .i64 _) rfl rfl ?_ | refine pu rfl rfl ?_
      refine SL_nil ?_
      refine nx ?_
      refine SWP_seq ?_
      refine SWP_region ?_
      first | refine pu (v := .int .i64 _) rfl rfl ?_ | refine pu rfl rfl ?_
      first | refine pu (v := .agg _) rfl rfl ?_ | refine pu rfl rfl ?_
      refine bx (v := .agg _) rfl rfl (fun B9 => ?_)
      first | refine pu (v := .pointer _) rfl rfl ?_ | refine pu rfl rfl ?_
      refine SL_nil ?_
      refine nx ?_
      refine SWP_ret ?_
      refine fin [_] ⟨rfl, trivial⟩ ?_
      have e : clampI x = 1048576 := by unfold clampI; omega
      rw [e]
      exact ⟨_, rfl, rfl, rfl⟩
    · skip
      refine SL_nil ?_
      refine nx ?_
      refine SWP_cf rfl ?_
      refine SWP_skip ?_
      refine nx ?_
      refine SWP_seq ?_
      refine SWP_region ?_
      first | refine pu (v := .int .i64 _) rfl rfl ?_ | refine pu rfl rfl ?_
      first | refine pu (v := .agg _) rfl rfl ?_ | refine pu rfl rfl ?_
      refine bx (v := .agg _) rfl rfl (fun B9 => ?_)
      first | refine pu (v := .pointer _) rfl rfl ?_ | refine pu rfl rfl ?_
      refine SL_nil ?_
      refine nx ?_
      refine SWP_ret ?_
      refine fin [_] ⟨rfl, trivial⟩ ?_
      have e : clampI x = x := by unfold clampI; omega
      rw [e]
      exact ⟨_, rfl, rfl, rfl⟩

theorem rfSeen {m : Mem} {B : Nat} {most : Int} {sv : Value} {σe : Sig} {S : List Int} (hown : OwnS 3 1 sv (S.flatMap intE) σe) (hlen : S.length ≤ 100000) (n : Int) : CallsS Try.prog 13 [.pointer (some ⟨B, 0, none⟩), .int .i64 n].toArray (RfC B most sv σe) m fun r σ' m' => r = .bool (decide (n ∈ S)) ∧ σ' = RfC B most sv σe ∧ m' = m := by
  obtain ⟨a, cap, rfl⟩ := hown.lenL (by omega) intE_len
  refine enter Try.func13 Try.ntmps13 rfl rfl ?_
  refine SWP_seq ?_
  refine SWP_region ?_
  first | refine pu (v := .bool _) rfl rfl ?_ | refine pu rfl rfl ?_
  refine SL_nil ?_
  refine nx ?_
  refine SWP_seq ?_
  refine SWP_seq ?_
  refine SWP_region ?_
  first | refine pu (v := .int .i64 _) rfl rfl ?_ | refine pu rfl rfl ?_
  refine SL_nil ?_
  refine nx ?_
  refine SWP_block ?_
  refine SWP_loop [4, 5, 6, 7, 8, 9, 10, 11, 12, 13, 14, 15, 16, 17, 18, 19, 20, 21, 22, 23] [5]
      (fun vs σ' m' => ∃ (i : Nat), vs = [.int .i64 (i : Nat)] ∧ i ≤ S.length ∧ n ∉ S.take i ∧ σ' = RfC B most (.slice a S.length cap) σe ∧ m = m')
      (fun vs => S.length - nOf (vs.getD 0 undef)) rfl ?_ ?_
  · exact ⟨0, rfl, by omega, by simp, rfl, rfl⟩
  · intro u0 vs0 σ0 m0 hJ0 _
    obtain ⟨i, rfl, hi, hn, rfl, rfl⟩ := hJ0
    refine SWP_seq ?_
    refine SWP_seq ?_
    refine SWP_region ?_
    first | refine pu (v := .int .i64 _) rfl rfl ?_ | refine pu rfl rfl ?_
    first | refine pu (v := .pointer _) rfl rfl ?_ | refine pu rfl rfl ?_
    refine pu rfl rfl ?_
    refine pu rfl rfl ?_
    first | refine ld (v := .slice _ _ _) (off := 1) (Rd.of_cells (.head _)) rfl rfl rfl rfl ?_ | refine ld (v := .slice _ _ _) (off := 1) (Rd.of_cells (.tail _ (.head _))) rfl rfl rfl rfl ?_ | refine ld (v := .slice _ _ _) (off := 1) (Rd.of_cells (.tail _ (.tail _ (.head _)))) rfl rfl rfl rfl ?_ | refine ld (v := .slice _ _ _) (off := 1) (Rd.of_cells (.tail _ (.tail _ (.tail _ (.head _))))) rfl rfl rfl rfl ?_ | refine ld (v := .slice _ _ _) (off := 1) (Rd.of_cells (.tail _ (.tail _ (.tail _ (.tail _ (.head _)))))) rfl rfl rfl rfl ?_ | refine ld (v := .slice _ _ _) (off := 1) (Rd.of_cells (.tail _ (.tail _ (.tail _ (.tail _ (.tail _ (.head _))))))) rfl rfl rfl rfl ?_ | refine ld (v := .slice _ _ _) (off := 1) (Rd.of_cells (.tail _ (.tail _ (.tail _ (.tail _ (.tail _ (.tail _ (.head _)))))))) rfl rfl rfl rfl ?_
    refine pu rfl rfl ?_
    refine pc rfl rfl (fun c12 => ?_) (fun c12 => ?_)
    · skip
      refine SL_nil ?_
      refine nx ?_
      refine SWP_ct rfl ?_
      refine SWP_skip ?_
      refine nx ?_
      refine SWP_seq ?_
      refine SWP_block ?_
      refine SWP_seq ?_
      obtain ⟨x, hx⟩ : ∃ x, S[i]? = some x := ⟨_, List.getElem?_eq_getElem (by omega)⟩
      obtain ⟨ad, rfl, _, hlt, hrd⟩ := hown.atN (by omega) intE_len hx
      refine SWP_region ?_
      first | refine pu (v := .pointer _) rfl rfl ?_ | refine pu rfl rfl ?_
      refine pu rfl rfl ?_
      refine pu rfl rfl ?_
      first | refine ld (v := .slice _ _ _) (off := 1) (Rd.of_cells (.head _)) rfl rfl rfl rfl ?_ | refine ld (v := .slice _ _ _) (off := 1) (Rd.of_cells (.tail _ (.head _))) rfl rfl rfl rfl ?_ | refine ld (v := .slice _ _ _) (off := 1) (Rd.of_cells (.tail _ (.tail _ (.head _)))) rfl rfl rfl rfl ?_ | refine ld (v := .slice _ _ _) (off := 1) (Rd.of_cells (.tail _ (.tail _ (.tail _ (.head _))))) rfl rfl rfl rfl ?_ | refine ld (v := .slice _ _ _) (off := 1) (Rd.of_cells (.tail _ (.tail _ (.tail _ (.tail _ (.head _)))))) rfl rfl rfl rfl ?_ | refine ld (v := .slice _ _ _) (off := 1) (Rd.of_cells (.tail _ (.tail _ (.tail _ (.tail _ (.tail _ (.head _))))))) rfl rfl rfl rfl ?_ | refine ld (v := .slice _ _ _) (off := 1) (Rd.of_cells (.tail _ (.tail _ (.tail _ (.tail _ (.tail _ (.tail _ (.head _)))))))) rfl rfl rfl rfl ?_
      first | refine pu (v := .int .i64 _) rfl rfl ?_ | refine pu rfl rfl ?_
      first | refine ia (es := 1) rfl rfl rfl (Nat.mul_one _) rfl rfl (by omega) rfl ?_ | refine iai (es := 1) rfl rfl rfl (Nat.mul_one _) rfl rfl (by omega) (by omega) rfl ?_
      refine ldO (v := .int .i64 x) (hrd _ _ (fun _ h => .tail _ h)) rfl (q1 _ _) rfl rfl ?_
      first | refine pu (v := .int .i64 _) rfl rfl ?_ | refine pu rfl rfl ?_
      refine pc rfl rfl (fun c23 => ?_) (fun c23 => ?_)
      · skip
        refine SL_nil ?_
        refine nx ?_
        refine SWP_ct rfl ?_
        refine SWP_seq ?_
        refine SWP_region ?_
        first | refine pu (v := .bool _) rfl rfl ?_ | refine pu rfl rfl ?_
        refine SL_nil ?_
        refine nx ?_
        refine SWP_ret ?_
        refine br ?_
        refine nr ?_
        refine nr ?_
        refine br ?_
        refine nr ?_
        refine fin [_] ⟨rfl, trivial⟩ ?_
        exact ⟨congrArg Value.bool (decide_eq_true (by rw [← c23]; exact List.mem_of_getElem? hx)).symm, rfl, rfl⟩
      · skip
        refine SL_nil ?_
        refine nx ?_
        refine SWP_cf rfl ?_
        refine SWP_skip ?_
        refine nb ?_
        refine nx ?_
        refine SWP_region ?_
        first | refine pu (v := .int .i64 _) rfl rfl ?_ | refine pu rfl rfl ?_
        first | refine pw rfl rfl (w64 (by omega) (by omega)) ?_ | refine pu rfl rfl ?_
        first | refine pu (v := .int .i64 _) rfl rfl ?_ | refine pu rfl rfl ?_
        refine SL_nil ?_
        refine nx ?_
        refine ⟨by repeat (first | exact Under.upds rfl (Under.hav _ _ _) | exact Under.hav _ _ _ | refine Under.upd rfl ?_), ?_, ?_⟩
        · exact ⟨i + 1, rfl, by omega, not_take hn hx c23, rfl, rfl⟩
        · simp only [L_vals, List.map, List.getD]; show S.length - (i + 1) < S.length - i; omega
    · skip
      refine SL_nil ?_
      refine nx ?_
      refine SWP_cf rfl ?_
      refine SWP_exit ?_
      refine ne ?_
      refine ne ?_
      refine be rfl ?_
      refine nx ?_
      refine SWP_seq ?_
      refine SWP_region ?_
      first | refine pu (v := .bool _) rfl rfl ?_ | refine pu rfl rfl ?_
      refine SL_nil ?_
      refine nx ?_
      refine SWP_ret ?_
      refine fin [_] ⟨rfl, trivial⟩ ?_
      have e : i = S.length := by omega
      rw [e, List.take_length] at hn
      exact ⟨congrArg Value.bool (decide_eq_false hn).symm, rfl, rfl⟩

theorem rfCount {m : Mem} {B : Nat} {most : Int} {sv : Value} {σe : Sig} {S : List Int} (hown : OwnS 3 1 sv (S.flatMap intE) σe) (hlen : S.length ≤ 100000) : CallsS Try.prog 19 [.pointer (some ⟨B, 0, none⟩)].toArray (RfC B most sv σe) m fun r σ' m' => r = .int .i64 (S.length : Nat) ∧ σ' = RfC B most sv σe ∧ m' = m := by
  obtain ⟨a, cap, rfl⟩ := hown.lenL (by omega) intE_len
  refine enter Try.func19 Try.ntmps19 rfl rfl ?_
  refine SWP_seq ?_
  refine SWP_region ?_
  first | refine pu (v := .int .i64 _) rfl rfl ?_ | refine pu rfl rfl ?_
  refine SL_nil ?_
  refine nx ?_
  refine SWP_seq ?_
  refine SWP_region ?_
  first | refine pu (v := .pointer _) rfl rfl ?_ | refine pu rfl rfl ?_
  refine pu rfl rfl ?_
  refine pu rfl rfl ?_
  first | refine ld (v := .slice _ _ _) (off := 1) (Rd.of_cells (.head _)) rfl rfl rfl rfl ?_ | refine ld (v := .slice _ _ _) (off := 1) (Rd.of_cells (.tail _ (.head _))) rfl rfl rfl rfl ?_ | refine ld (v := .slice _ _ _) (off := 1) (Rd.of_cells (.tail _ (.tail _ (.head _)))) rfl rfl rfl rfl ?_ | refine ld (v := .slice _ _ _) (off := 1) (Rd.of_cells (.tail _ (.tail _ (.tail _ (.head _))))) rfl rfl rfl rfl ?_ | refine ld (v := .slice _ _ _) (off := 1) (Rd.of_cells (.tail _ (.tail _ (.tail _ (.tail _ (.head _)))))) rfl rfl rfl rfl ?_ | refine ld (v := .slice _ _ _) (off := 1) (Rd.of_cells (.tail _ (.tail _ (.tail _ (.tail _ (.tail _ (.head _))))))) rfl rfl rfl rfl ?_ | refine ld (v := .slice _ _ _) (off := 1) (Rd.of_cells (.tail _ (.tail _ (.tail _ (.tail _ (.tail _ (.tail _ (.head _)))))))) rfl rfl rfl rfl ?_
  refine pu rfl rfl ?_
  first | refine pu (v := .int .i64 _) rfl rfl ?_ | refine pu rfl rfl ?_
  refine SL_nil ?_
  refine nx ?_
  refine SWP_ret ?_
  refine fin [_] ⟨rfl, trivial⟩ ?_
  exact ⟨rfl, rfl, rfl⟩

theorem rfNext {m : Mem} {B : Nat} {most : Int} {sv : Value} {σe : Sig} {S : List Int} (hown : OwnS 3 1 sv (S.flatMap intE) σe) (hlen : S.length ≤ 100000) : CallsS Try.prog 17 [.pointer (some ⟨B, 0, none⟩)].toArray (RfC B most sv σe) m fun r σ' m' => r = .int .i64 (nextFrom 1 S) ∧ σ' = RfC B most sv σe ∧ m' = m := by
  obtain ⟨a, cap, rfl⟩ := hown.lenL (by omega) intE_len
  refine enter Try.func17 Try.ntmps17 rfl rfl ?_
  refine SWP_seq ?_
  refine SWP_region ?_
  first | refine pu (v := .int .i64 _) rfl rfl ?_ | refine pu rfl rfl ?_
  refine SL_nil ?_
  refine nx ?_
  refine SWP_seq ?_
  refine SWP_region ?_
  first | refine pu (v := .int .i64 _) rfl rfl ?_ | refine pu rfl rfl ?_
  refine SL_nil ?_
  refine nx ?_
  refine SWP_seq ?_
  refine SWP_seq ?_
  refine SWP_region ?_
  first | refine pu (v := .int .i64 _) rfl rfl ?_ | refine pu rfl rfl ?_
  refine SL_nil ?_
  refine nx ?_
  refine SWP_block ?_
  refine SWP_loop [3, 4, 5, 6, 7, 8, 9, 10, 11, 12, 13, 14, 15, 16, 17, 18, 19, 20, 21, 22, 23, 24, 25, 26] [3, 4]
      (fun vs σ' m' => ∃ (i : Nat), vs = [.int .i64 (1 + (i : Nat)), .int .i64 (i : Nat)] ∧ i ≤ S.length ∧ nextFrom 1 S = nextFrom (1 + (i : Nat)) (S.drop i) ∧ σ' = RfC B most (.slice a S.length cap) σe ∧ m = m')
      (fun vs => S.length - nOf (vs.getD 1 undef)) rfl ?_ ?_
  · exact ⟨0, rfl, by omega, rfl, rfl, rfl⟩
  · intro u0 vs0 σ0 m0 hJ0 _
    obtain ⟨i, rfl, hi, hn, rfl, rfl⟩ := hJ0
    refine SWP_seq ?_
    refine SWP_seq ?_
    refine SWP_region ?_
    first | refine pu (v := .int .i64 _) rfl rfl ?_ | refine pu rfl rfl ?_
    first | refine pu (v := .pointer _) rfl rfl ?_ | refine pu rfl rfl ?_
    refine pu rfl rfl ?_
    refine pu rfl rfl ?_
    first | refine ld (v := .slice _ _ _) (off := 1) (Rd.of_cells (.head _)) rfl rfl rfl rfl ?_ | refine ld (v := .slice _ _ _) (off := 1) (Rd.of_cells (.tail _ (.head _))) rfl rfl rfl rfl ?_ | refine ld (v := .slice _ _ _) (off := 1) (Rd.of_cells (.tail _ (.tail _ (.head _)))) rfl rfl rfl rfl ?_ | refine ld (v := .slice _ _ _) (off := 1) (Rd.of_cells (.tail _ (.tail _ (.tail _ (.head _))))) rfl rfl rfl rfl ?_ | refine ld (v := .slice _ _ _) (off := 1) (Rd.of_cells (.tail _ (.tail _ (.tail _ (.tail _ (.head _)))))) rfl rfl rfl rfl ?_ | refine ld (v := .slice _ _ _) (off := 1) (Rd.of_cells (.tail _ (.tail _ (.tail _ (.tail _ (.tail _ (.head _))))))) rfl rfl rfl rfl ?_ | refine ld (v := .slice _ _ _) (off := 1) (Rd.of_cells (.tail _ (.tail _ (.tail _ (.tail _ (.tail _ (.tail _ (.head _)))))))) rfl rfl rfl rfl ?_
    refine pu rfl rfl ?_
    refine pc rfl rfl (fun c11 => ?_) (fun c11 => ?_)
    · skip
      first | refine pu (v := .bool _) rfl rfl ?_ | refine pu rfl rfl ?_
      refine SL_yes rfl ?_
      obtain ⟨x, hx⟩ : ∃ x, S[i]? = some x := ⟨_, List.getElem?_eq_getElem (by omega)⟩
      obtain ⟨ad, rfl, _, hlt, hrd⟩ := hown.atN (by omega) intE_len hx
      first | refine pu (v := .pointer _) rfl rfl ?_ | refine pu rfl rfl ?_
      refine SL_yes rfl ?_
      refine pu rfl rfl ?_
      refine SL_yes rfl ?_
      refine pu rfl rfl ?_
      refine SL_yes rfl ?_
      first | refine ld (v := .slice _ _ _) (off := 1) (Rd.of_cells (.head _)) rfl rfl rfl rfl ?_ | refine ld (v := .slice _ _ _) (off := 1) (Rd.of_cells (.tail _ (.head _))) rfl rfl rfl rfl ?_ | refine ld (v := .slice _ _ _) (off := 1) (Rd.of_cells (.tail _ (.tail _ (.head _)))) rfl rfl rfl rfl ?_ | refine ld (v := .slice _ _ _) (off := 1) (Rd.of_cells (.tail _ (.tail _ (.tail _ (.head _))))) rfl rfl rfl rfl ?_ | refine ld (v := .slice _ _ _) (off := 1) (Rd.of_cells (.tail _ (.tail _ (.tail _ (.tail _ (.head _)))))) rfl rfl rfl rfl ?_ | refine ld (v := .slice _ _ _) (off := 1) (Rd.of_cells (.tail _ (.tail _ (.tail _ (.tail _ (.tail _ (.head _))))))) rfl rfl rfl rfl ?_ | refine ld (v := .slice _ _ _) (off := 1) (Rd.of_cells (.tail _ (.tail _ (.tail _ (.tail _ (.tail _ (.tail _ (.head _)))))))) rfl rfl rfl rfl ?_
      refine SL_yes rfl ?_
      first | refine pu (v := .int .i64 _) rfl rfl ?_ | refine pu rfl rfl ?_
      refine SL_yes rfl ?_
      first | refine ia (es := 1) rfl rfl rfl (Nat.mul_one _) rfl rfl (by omega) rfl ?_ | refine iai (es := 1) rfl rfl rfl (Nat.mul_one _) rfl rfl (by omega) (by omega) rfl ?_
      refine SL_yes rfl ?_
      refine ldO (v := .int .i64 x) (hrd _ _ (fun _ h => .tail _ h)) rfl (q1 _ _) rfl rfl ?_
      refine SL_yes rfl ?_
      first | refine pu (v := .int .i64 _) rfl rfl ?_ | refine pu rfl rfl ?_
      refine SL_yes rfl ?_
      refine pc rfl rfl (fun c21 => ?_) (fun c21 => ?_)
      · skip
        first | refine pu (v := .bool _) rfl rfl ?_ | refine pu rfl rfl ?_
        refine SL_nil ?_
        refine nx ?_
        refine SWP_ct rfl ?_
        refine SWP_skip ?_
        refine nx ?_
        refine SWP_seq ?_
        refine SWP_block ?_
        refine SWP_region ?_
        first | refine pu (v := .int .i64 _) rfl rfl ?_ | refine pu rfl rfl ?_
        first | refine pw rfl rfl (w64 (by omega) (by omega)) ?_ | refine pu rfl rfl ?_
        first | refine pu (v := .int .i64 _) rfl rfl ?_ | refine pu rfl rfl ?_
        refine SL_nil ?_
        refine nb ?_
        refine nx ?_
        refine SWP_region ?_
        first | refine pu (v := .int .i64 _) rfl rfl ?_ | refine pu rfl rfl ?_
        first | refine pw rfl rfl (w64 (by omega) (by omega)) ?_ | refine pu rfl rfl ?_
        first | refine pu (v := .int .i64 _) rfl rfl ?_ | refine pu rfl rfl ?_
        refine SL_nil ?_
        refine nx ?_
        refine ⟨by repeat (first | exact Under.upds rfl (Under.hav _ _ _) | exact Under.hav _ _ _ | refine Under.upd rfl ?_), ?_, ?_⟩
        · refine ⟨i + 1, ?_, by omega, ?_, rfl, rfl⟩
          · show [_, _] = [_, _]
            rw [show (1 + ((i + 1 : Nat) : Int)) = 1 + (i : Int) + 1 by omega]; rfl
          · rw [hn, drop_head hx, show (1 + ((i + 1 : Nat) : Int)) = 1 + (i : Int) + 1 by omega]
            exact if_pos c21
        · simp only [L_vals, List.map, List.getD]; show S.length - (i + 1) < S.length - i; omega
      · skip
        first | refine pu (v := .bool _) rfl rfl ?_ | refine pu rfl rfl ?_
        refine SL_nil ?_
        refine nx ?_
        refine SWP_cf rfl ?_
        refine SWP_exit ?_
        refine ne ?_
        refine ne ?_
        refine be rfl ?_
        refine nx ?_
        refine SWP_seq ?_
        refine SWP_region ?_
        first | refine pu (v := .int .i64 _) rfl rfl ?_ | refine pu rfl rfl ?_
        first | refine pu (v := .int .i64 _) rfl rfl ?_ | refine pu rfl rfl ?_
        refine SL_nil ?_
        refine nx ?_
        refine SWP_ret ?_
        refine fin [_] ⟨rfl, trivial⟩ ?_
        rw [drop_head hx] at hn
        unfold nextFrom at hn
        refine ⟨congrArg (Value.int .i64) ?_, rfl, rfl⟩
        conv => rhs; unfold nextFrom
        rw [hn, if_neg c21]
    · skip
      first | refine pu (v := .bool _) rfl rfl ?_ | refine pu rfl rfl ?_
      refine SL_no rfl rfl ?_
      refine SL_no rfl rfl ?_
      refine SL_no rfl rfl ?_
      refine SL_no rfl rfl ?_
      refine SL_no rfl rfl ?_
      refine SL_no rfl rfl ?_
      refine SL_no rfl rfl ?_
      refine SL_no rfl rfl ?_
      refine SL_no rfl rfl ?_
      first | refine pu (v := .bool _) rfl rfl ?_ | refine pu rfl rfl ?_
      refine SL_nil ?_
      refine nx ?_
      refine SWP_cf rfl ?_
      refine SWP_exit ?_
      refine ne ?_
      refine ne ?_
      refine be rfl ?_
      refine nx ?_
      refine SWP_seq ?_
      refine SWP_region ?_
      first | refine pu (v := .int .i64 _) rfl rfl ?_ | refine pu rfl rfl ?_
      first | refine pu (v := .int .i64 _) rfl rfl ?_ | refine pu rfl rfl ?_
      refine SL_nil ?_
      refine nx ?_
      refine SWP_ret ?_
      refine fin [_] ⟨rfl, trivial⟩ ?_
      have e : i = S.length := by omega
      rw [e, List.drop_length] at hn
      exact ⟨congrArg (Value.int .i64) (by rw [hn, e]; rfl), rfl, rfl⟩

theorem rfGaps {m : Mem} {B : Nat} {most : Int} {sv : Value} {σe : Sig} {S : List Int} (hown : OwnS 3 1 sv (S.flatMap intE) σe) (hlen : S.length ≤ 100000) (hg : Good most S) : CallsS Try.prog 22 [.pointer (some ⟨B, 0, none⟩)].toArray (RfC B most sv σe) m
      fun r σ' m' => σ' = RfC B most sv σe ∧ RL m' pairE 2 r (gapsOf S) := by
  refine CallsS.ghost (R' := fun r σ' m' => ∃ σx, σ' = RfC B most sv σe ++ σx ∧ OwnS 36 2 r ((gapsOf S).flatMap pairE) σx) ?_ ?h2
  case h2 =>
    rintro r σ' m' ⟨σx, rfl, h2⟩ g W hC
    obtain ⟨m2, h3, h4, h5⟩ := h2.freezeL (by omega) pairE_len (hC.perm List.perm_append_comm)
    exact ⟨_, m2, h4, h3, rfl, h5⟩
  obtain ⟨a, cap, rfl⟩ := hown.lenL (by omega) intE_len
  have hm1 := hg.m1
  refine enter Try.func22 Try.ntmps22 rfl rfl ?_
  refine SWP_seq ?_
  refine SWP_region ?_
  first | refine pu (v := .slice _ _ _) rfl rfl ?_ | refine pu rfl rfl ?_
  refine SL_nil ?_
  refine nx ?_
  refine SWP_seq ?_
  refine SWP_region ?_
  first | refine pu (v := .slice _ _ _) rfl rfl ?_ | refine pu rfl rfl ?_
  refine SL_nil ?_
  refine nx ?_
  refine SWP_seq ?_
  refine SWP_region ?_
  first | refine pu (v := .int .i64 _) rfl rfl ?_ | refine pu rfl rfl ?_
  refine SL_nil ?_
  refine nx ?_
  refine SWP_seq ?_
  refine SWP_seq ?_
  refine SWP_region ?_
  first | refine pu (v := .int .i64 _) rfl rfl ?_ | refine pu rfl rfl ?_
  refine SL_nil ?_
  refine nx ?_
  refine SWP_block ?_
  refine SWP_loop [3, 4, 5, 6, 7, 8, 9, 10, 11, 12, 13, 14, 15, 16, 17, 18, 19, 20, 21, 22, 23, 24, 25, 26, 27, 28, 29, 30, 31, 32, 33, 34, 35, 36, 37, 38, 39, 40, 41, 42, 43, 44, 45, 46, 47, 48, 49, 50] [3, 4, 5]
      (fun vs σ' m' => ∃ (i : Nat) (v3 : Value) (σx : Sig) (out : Pairs) (bf : Int), vs = [v3, .int .i64 bf, .int .i64 (i : Nat)] ∧ i ≤ S.length ∧ OwnS 36 2 v3 (out.flatMap pairE) σx ∧ out.length ≤ 64 ∧ gapsOf S = gapsF bf out (S.drop i) ∧ 0 ≤ bf ∧ bf ≤ 1048576 ∧ σ' = RfC B most (.slice a S.length cap) σe ++ σx ∧ m = m')
      (fun vs => S.length - nOf (vs.getD 2 undef)) rfl ?_ ?_
  · exact ⟨0, _, [], [], 0, rfl, by omega, .nil, by simp, rfl, by omega, by omega, (List.append_nil _).symm, rfl⟩
  · intro u0 vs0 σ0 m0 hJ0 _
    obtain ⟨i, v3, σx, out, bf, rfl, hi, hownx, hol, hgf, hb0, hb1, rfl, rfl⟩ := hJ0
    obtain ⟨a3, cap3, rfl⟩ := hownx.lenL (by omega) pairE_len
    refine SWP_seq ?_
    refine SWP_seq ?_
    refine SWP_region ?_
    first | refine pu (v := .int .i64 _) rfl rfl ?_ | refine pu rfl rfl ?_
    first | refine pu (v := .pointer _) rfl rfl ?_ | refine pu rfl rfl ?_
    refine pu rfl rfl ?_
    refine pu rfl rfl ?_
    first | refine ld (v := .slice _ _ _) (off := 1) (Rd.of_cells (.head _)) rfl rfl rfl rfl ?_ | refine ld (v := .slice _ _ _) (off := 1) (Rd.of_cells (.tail _ (.head _))) rfl rfl rfl rfl ?_ | refine ld (v := .slice _ _ _) (off := 1) (Rd.of_cells (.tail _ (.tail _ (.head _)))) rfl rfl rfl rfl ?_ | refine ld (v := .slice _ _ _) (off := 1) (Rd.of_cells (.tail _ (.tail _ (.tail _ (.head _))))) rfl rfl rfl rfl ?_ | refine ld (v := .slice _ _ _) (off := 1) (Rd.of_cells (.tail _ (.tail _ (.tail _ (.tail _ (.head _)))))) rfl rfl rfl rfl ?_ | refine ld (v := .slice _ _ _) (off := 1) (Rd.of_cells (.tail _ (.tail _ (.tail _ (.tail _ (.tail _ (.head _))))))) rfl rfl rfl rfl ?_ | refine ld (v := .slice _ _ _) (off := 1) (Rd.of_cells (.tail _ (.tail _ (.tail _ (.tail _ (.tail _ (.tail _ (.head _)))))))) rfl rfl rfl rfl ?_
    refine pu rfl rfl ?_
    refine pc rfl rfl (fun c12 => ?_) (fun c12 => ?_)
    · skip
      refine SL_nil ?_
      refine nx ?_
      refine SWP_ct rfl ?_
      refine SWP_skip ?_
      refine nx ?_
      refine SWP_seq ?_
      refine SWP_block ?_
      refine SWP_seq ?_
      refine SWP_seq ?_
      obtain ⟨x, hx⟩ : ∃ x, S[i]? = some x := ⟨_, List.getElem?_eq_getElem (by omega)⟩
      obtain ⟨ad, rfl, _, hlt, hrd⟩ := hown.atN (by omega) intE_len hx
      have hxr := hg.rng x (List.mem_of_getElem? hx)
      refine SWP_region ?_
      first | refine pu (v := .pointer _) rfl rfl ?_ | refine pu rfl rfl ?_
      refine pu rfl rfl ?_
      refine pu rfl rfl ?_
      first | refine ld (v := .slice _ _ _) (off := 1) (Rd.of_cells (.head _)) rfl rfl rfl rfl ?_ | refine ld (v := .slice _ _ _) (off := 1) (Rd.of_cells (.tail _ (.head _))) rfl rfl rfl rfl ?_ | refine ld (v := .slice _ _ _) (off := 1) (Rd.of_cells (.tail _ (.tail _ (.head _)))) rfl rfl rfl rfl ?_ | refine ld (v := .slice _ _ _) (off := 1) (Rd.of_cells (.tail _ (.tail _ (.tail _ (.head _))))) rfl rfl rfl rfl ?_ | refine ld (v := .slice _ _ _) (off := 1) (Rd.of_cells (.tail _ (.tail _ (.tail _ (.tail _ (.head _)))))) rfl rfl rfl rfl ?_ | refine ld (v := .slice _ _ _) (off := 1) (Rd.of_cells (.tail _ (.tail _ (.tail _ (.tail _ (.tail _ (.head _))))))) rfl rfl rfl rfl ?_ | refine ld (v := .slice _ _ _) (off := 1) (Rd.of_cells (.tail _ (.tail _ (.tail _ (.tail _ (.tail _ (.tail _ (.head _)))))))) rfl rfl rfl rfl ?_
      first | refine pu (v := .int .i64 _) rfl rfl ?_ | refine pu rfl rfl ?_
      first | refine ia (es := 1) rfl rfl rfl (Nat.mul_one _) rfl rfl (by omega) rfl ?_ | refine iai (es := 1) rfl rfl rfl (Nat.mul_one _) rfl rfl (by omega) (by omega) rfl ?_
      refine ldO (v := .int .i64 x) (hrd _ _ (fun _ h => .tail _ (List.mem_append_left _ h))) rfl (q1 _ _) rfl rfl ?_
      first | refine pu (v := .int .i64 _) rfl rfl ?_ | refine pu rfl rfl ?_
      first | refine pw rfl rfl (w64 (by omega) (by omega)) ?_ | refine pu rfl rfl ?_
      refine pc rfl rfl (fun c24 => ?_) (fun c24 => ?_)
      · skip
        first | refine pu (v := .bool _) rfl rfl ?_ | refine pu rfl rfl ?_
        refine SL_yes rfl ?_
        first | refine pu (v := .slice _ _ _) rfl rfl ?_ | refine pu rfl rfl ?_
        refine SL_yes rfl ?_
        refine pu rfl rfl ?_
        refine SL_yes rfl ?_
        refine pc rfl rfl (fun c28 => ?_) (fun c28 => ?_)
        · skip
          first | refine pu (v := .bool _) rfl rfl ?_ | refine pu rfl rfl ?_
          refine SL_nil ?_
          refine nx ?_
          refine SWP_ct rfl ?_
          refine SWP_region ?_
          first | refine pu (v := .slice _ _ _) rfl rfl ?_ | refine pu rfl rfl ?_
          first | refine pu (v := .int .i64 _) rfl rfl ?_ | refine pu rfl rfl ?_
          first | refine pw rfl rfl (w64 (by omega) (by omega)) ?_ | refine pu rfl rfl ?_
          first | refine pu (v := .pointer _) rfl rfl ?_ | refine pu rfl rfl ?_
          refine pu rfl rfl ?_
          refine pu rfl rfl ?_
          first | refine ld (v := .slice _ _ _) (off := 1) (Rd.of_cells (.head _)) rfl rfl rfl rfl ?_ | refine ld (v := .slice _ _ _) (off := 1) (Rd.of_cells (.tail _ (.head _))) rfl rfl rfl rfl ?_ | refine ld (v := .slice _ _ _) (off := 1) (Rd.of_cells (.tail _ (.tail _ (.head _)))) rfl rfl rfl rfl ?_ | refine ld (v := .slice _ _ _) (off := 1) (Rd.of_cells (.tail _ (.tail _ (.tail _ (.head _))))) rfl rfl rfl rfl ?_ | refine ld (v := .slice _ _ _) (off := 1) (Rd.of_cells (.tail _ (.tail _ (.tail _ (.tail _ (.head _)))))) rfl rfl rfl rfl ?_ | refine ld (v := .slice _ _ _) (off := 1) (Rd.of_cells (.tail _ (.tail _ (.tail _ (.tail _ (.tail _ (.head _))))))) rfl rfl rfl rfl ?_ | refine ld (v := .slice _ _ _) (off := 1) (Rd.of_cells (.tail _ (.tail _ (.tail _ (.tail _ (.tail _ (.tail _ (.head _)))))))) rfl rfl rfl rfl ?_
          first | refine pu (v := .int .i64 _) rfl rfl ?_ | refine pu rfl rfl ?_
          first | refine ia (es := 1) rfl rfl rfl (Nat.mul_one _) rfl rfl (by omega) rfl ?_ | refine iai (es := 1) rfl rfl rfl (Nat.mul_one _) rfl rfl (by omega) (by omega) rfl ?_
          refine ldO (v := .int .i64 x) (hrd _ _ (fun _ h => .tail _ (List.mem_append_left _ h))) rfl (q1 _ _) rfl rfl ?_
          first | refine pw rfl rfl (w64 (by omega) (by omega)) ?_ | refine pu rfl rfl ?_
          first | refine pu (v := .agg _) rfl rfl ?_ | refine pu rfl rfl ?_
          refine bs rfl rfl rfl rfl rfl (fun B42 => ?_)
          refine ap (e := 36) (size := 2) (bytes := 16) rfl rfl rfl rfl rfl rfl rfl hownx (List.perm_append_comm (l₁ := (_, _) :: RfC _ _ _ _)) rfl (Rd.of_cells (.head _)) rfl rfl (by rw [flatMap_len pairE_len]; omega) rfl rfl (fun v43 σ43 hown43 => ?_)
          refine SL_weak (List.Sublist.append_left (List.sublist_cons_self _ _) _) ?_
          refine SL_perm List.perm_append_comm ?_
          first | refine pu (v := .slice _ _ _) rfl rfl ?_ | refine pu rfl rfl ?_
          refine SL_nil ?_
          refine nx ?_
          refine SWP_region ?_
          first | refine pu (v := .pointer _) rfl rfl ?_ | refine pu rfl rfl ?_
          refine pu rfl rfl ?_
          refine pu rfl rfl ?_
          first | refine ld (v := .slice _ _ _) (off := 1) (Rd.of_cells (.head _)) rfl rfl rfl rfl ?_ | refine ld (v := .slice _ _ _) (off := 1) (Rd.of_cells (.tail _ (.head _))) rfl rfl rfl rfl ?_ | refine ld (v := .slice _ _ _) (off := 1) (Rd.of_cells (.tail _ (.tail _ (.head _)))) rfl rfl rfl rfl ?_ | refine ld (v := .slice _ _ _) (off := 1) (Rd.of_cells (.tail _ (.tail _ (.tail _ (.head _))))) rfl rfl rfl rfl ?_ | refine ld (v := .slice _ _ _) (off := 1) (Rd.of_cells (.tail _ (.tail _ (.tail _ (.tail _ (.head _)))))) rfl rfl rfl rfl ?_ | refine ld (v := .slice _ _ _) (off := 1) (Rd.of_cells (.tail _ (.tail _ (.tail _ (.tail _ (.tail _ (.head _))))))) rfl rfl rfl rfl ?_ | refine ld (v := .slice _ _ _) (off := 1) (Rd.of_cells (.tail _ (.tail _ (.tail _ (.tail _ (.tail _ (.tail _ (.head _)))))))) rfl rfl rfl rfl ?_
          first | refine pu (v := .int .i64 _) rfl rfl ?_ | refine pu rfl rfl ?_
          first | refine ia (es := 1) rfl rfl rfl (Nat.mul_one _) rfl rfl (by omega) rfl ?_ | refine iai (es := 1) rfl rfl rfl (Nat.mul_one _) rfl rfl (by omega) (by omega) rfl ?_
          refine ldO (v := .int .i64 x) (hrd _ _ (fun _ h => .tail _ (List.mem_append_left _ h))) rfl (q1 _ _) rfl rfl ?_
          first | refine pu (v := .int .i64 _) rfl rfl ?_ | refine pu rfl rfl ?_
          refine SL_nil ?_
          refine nb ?_
          refine nx ?_
          refine SWP_region ?_
          first | refine pu (v := .int .i64 _) rfl rfl ?_ | refine pu rfl rfl ?_
          first | refine pw rfl rfl (w64 (by omega) (by omega)) ?_ | refine pu rfl rfl ?_
          first | refine pu (v := .int .i64 _) rfl rfl ?_ | refine pu rfl rfl ?_
          refine SL_nil ?_
          refine nx ?_
          refine ⟨by repeat (first | exact Under.upds rfl (Under.hav _ _ _) | exact Under.hav _ _ _ | refine Under.upd rfl ?_), ?_, ?_⟩
          · refine ⟨i + 1, v43, σ43, out ++ [(bf + 1, x - 1)], x, rfl, by omega, ?_, ?_, ?_, by omega, by omega, rfl, rfl⟩
            · rw [List.flatMap_append]
              exact hown43
            · rw [List.length_append, List.length_singleton]; omega
            · rw [hgf, gapsF_at hx]
              unfold gapAdd
              rw [if_pos ⟨by omega, by omega⟩]
          · simp only [L_vals, List.map, List.getD]; show S.length - (i + 1) < S.length - i; omega
        · skip
          first | refine pu (v := .bool _) rfl rfl ?_ | refine pu rfl rfl ?_
          refine SL_nil ?_
          refine nx ?_
          refine SWP_cf rfl ?_
          refine SWP_skip ?_
          refine nx ?_
          refine SWP_region ?_
          first | refine pu (v := .pointer _) rfl rfl ?_ | refine pu rfl rfl ?_
          refine pu rfl rfl ?_
          refine pu rfl rfl ?_
          first | refine ld (v := .slice _ _ _) (off := 1) (Rd.of_cells (.head _)) rfl rfl rfl rfl ?_ | refine ld (v := .slice _ _ _) (off := 1) (Rd.of_cells (.tail _ (.head _))) rfl rfl rfl rfl ?_ | refine ld (v := .slice _ _ _) (off := 1) (Rd.of_cells (.tail _ (.tail _ (.head _)))) rfl rfl rfl rfl ?_ | refine ld (v := .slice _ _ _) (off := 1) (Rd.of_cells (.tail _ (.tail _ (.tail _ (.head _))))) rfl rfl rfl rfl ?_ | refine ld (v := .slice _ _ _) (off := 1) (Rd.of_cells (.tail _ (.tail _ (.tail _ (.tail _ (.head _)))))) rfl rfl rfl rfl ?_ | refine ld (v := .slice _ _ _) (off := 1) (Rd.of_cells (.tail _ (.tail _ (.tail _ (.tail _ (.tail _ (.head _))))))) rfl rfl rfl rfl ?_ | refine ld (v := .slice _ _ _) (off := 1) (Rd.of_cells (.tail _ (.tail _ (.tail _ (.tail _ (.tail _ (.tail _ (.head _)))))))) rfl rfl rfl rfl ?_
          first | refine pu (v := .int .i64 _) rfl rfl ?_ | refine pu rfl rfl ?_
          first | refine ia (es := 1) rfl rfl rfl (Nat.mul_one _) rfl rfl (by omega) rfl ?_ | refine iai (es := 1) rfl rfl rfl (Nat.mul_one _) rfl rfl (by omega) (by omega) rfl ?_
          refine ldO (v := .int .i64 x) (hrd _ _ (fun _ h => .tail _ (List.mem_append_left _ h))) rfl (q1 _ _) rfl rfl ?_
          first | refine pu (v := .int .i64 _) rfl rfl ?_ | refine pu rfl rfl ?_
          refine SL_nil ?_
          refine nb ?_
          refine nx ?_
          refine SWP_region ?_
          first | refine pu (v := .int .i64 _) rfl rfl ?_ | refine pu rfl rfl ?_
          first | refine pw rfl rfl (w64 (by omega) (by omega)) ?_ | refine pu rfl rfl ?_
          first | refine pu (v := .int .i64 _) rfl rfl ?_ | refine pu rfl rfl ?_
          refine SL_nil ?_
          refine nx ?_
          refine ⟨by repeat (first | exact Under.upds rfl (Under.hav _ _ _) | exact Under.hav _ _ _ | refine Under.upd rfl ?_), ?_, ?_⟩
          · refine ⟨i + 1, _, σx, out, x, rfl, by omega, hownx, hol, ?_, by omega, by omega, rfl, rfl⟩
            rw [hgf, gapsF_at hx]
            unfold gapAdd
            rw [if_neg (by omega)]
          · simp only [L_vals, List.map, List.getD]; show S.length - (i + 1) < S.length - i; omega
      · skip
        first | refine pu (v := .bool _) rfl rfl ?_ | refine pu rfl rfl ?_
        refine SL_no rfl rfl ?_
        refine SL_no rfl rfl ?_
        refine SL_no rfl rfl ?_
        first | refine pu (v := .bool _) rfl rfl ?_ | refine pu rfl rfl ?_
        refine SL_nil ?_
        refine nx ?_
        refine SWP_cf rfl ?_
        refine SWP_skip ?_
        refine nx ?_
        refine SWP_region ?_
        first | refine pu (v := .pointer _) rfl rfl ?_ | refine pu rfl rfl ?_
        refine pu rfl rfl ?_
        refine pu rfl rfl ?_
        first | refine ld (v := .slice _ _ _) (off := 1) (Rd.of_cells (.head _)) rfl rfl rfl rfl ?_ | refine ld (v := .slice _ _ _) (off := 1) (Rd.of_cells (.tail _ (.head _))) rfl rfl rfl rfl ?_ | refine ld (v := .slice _ _ _) (off := 1) (Rd.of_cells (.tail _ (.tail _ (.head _)))) rfl rfl rfl rfl ?_ | refine ld (v := .slice _ _ _) (off := 1) (Rd.of_cells (.tail _ (.tail _ (.tail _ (.head _))))) rfl rfl rfl rfl ?_ | refine ld (v := .slice _ _ _) (off := 1) (Rd.of_cells (.tail _ (.tail _ (.tail _ (.tail _ (.head _)))))) rfl rfl rfl rfl ?_ | refine ld (v := .slice _ _ _) (off := 1) (Rd.of_cells (.tail _ (.tail _ (.tail _ (.tail _ (.tail _ (.head _))))))) rfl rfl rfl rfl ?_ | refine ld (v := .slice _ _ _) (off := 1) (Rd.of_cells (.tail _ (.tail _ (.tail _ (.tail _ (.tail _ (.tail _ (.head _)))))))) rfl rfl rfl rfl ?_
        first | refine pu (v := .int .i64 _) rfl rfl ?_ | refine pu rfl rfl ?_
        first | refine ia (es := 1) rfl rfl rfl (Nat.mul_one _) rfl rfl (by omega) rfl ?_ | refine iai (es := 1) rfl rfl rfl (Nat.mul_one _) rfl rfl (by omega) (by omega) rfl ?_
        refine ldO (v := .int .i64 x) (hrd _ _ (fun _ h => .tail _ (List.mem_append_left _ h))) rfl (q1 _ _) rfl rfl ?_
        first | refine pu (v := .int .i64 _) rfl rfl ?_ | refine pu rfl rfl ?_
        refine SL_nil ?_
        refine nb ?_
        refine nx ?_
        refine SWP_region ?_
        first | refine pu (v := .int .i64 _) rfl rfl ?_ | refine pu rfl rfl ?_
        first | refine pw rfl rfl (w64 (by omega) (by omega)) ?_ | refine pu rfl rfl ?_
        first | refine pu (v := .int .i64 _) rfl rfl ?_ | refine pu rfl rfl ?_
        refine SL_nil ?_
        refine nx ?_
        refine ⟨by repeat (first | exact Under.upds rfl (Under.hav _ _ _) | exact Under.hav _ _ _ | refine Under.upd rfl ?_), ?_, ?_⟩
        · refine ⟨i + 1, _, σx, out, x, rfl, by omega, hownx, hol, ?_, by omega, by omega, rfl, rfl⟩
          rw [hgf, gapsF_at hx]
          unfold gapAdd
          rw [if_neg (by omega)]
        · simp only [L_vals, List.map, List.getD]; show S.length - (i + 1) < S.length - i; omega
    · skip
      refine SL_nil ?_
      refine nx ?_
      refine SWP_cf rfl ?_
      refine SWP_exit ?_
      refine ne ?_
      refine ne ?_
      refine be rfl ?_
      refine nx ?_
      refine SWP_seq ?_
      refine SWP_region ?_
      first | refine pu (v := .slice _ _ _) rfl rfl ?_ | refine pu rfl rfl ?_
      first | refine pu (v := .slice _ _ _) rfl rfl ?_ | refine pu rfl rfl ?_
      refine SL_nil ?_
      refine nx ?_
      refine SWP_ret ?_
      refine fin [_] ⟨rfl, trivial⟩ ?_
      have e : i = S.length := by omega
      rw [e, List.drop_length] at hgf
      refine ⟨σx, rfl, ?_⟩
      rw [hgf]
      exact hownx

theorem rfTake {m : Mem} {B : Nat} {most : Int} {sv : Value} {σe : Sig} {S : List Int} (hown : OwnS 3 1 sv (S.flatMap intE) σe) (hlen : S.length ≤ 100000) (n : Int) : CallsS Try.prog 15 [.pointer (some ⟨B, 0, none⟩), .int .i64 n].toArray (RfC B most sv σe) m
      fun r σ' m' => r = .int .i64 (takeE most S n) ∧ m' = m ∧ ∃ sv' σe', σ' = RfC B most sv' σe' ∧ OwnS 3 1 sv' ((takeS most S n).flatMap intE) σe' := by
  refine CallsS.ghost (R' := fun r σ' m' => r = .int .i64 (takeE most S n) ∧ m' = m ∧ ∃ sv' σe' σd, σ' = (B, Cells 42 [.int .i64 most, sv']) :: (σd ++ σe') ∧ OwnS 3 1 sv' ((takeS most S n).flatMap intE) σe') ?_ ?h2
  case h2 =>
    rintro r σ' m' ⟨h1, rfl, sv', σe', σd, rfl, h2⟩ g W hC
    exact ⟨_, m', hC.sublist (List.Sublist.cons_cons _ (List.sublist_append_right _ _)), Le.refl _, h1, rfl, sv', σe', rfl, h2⟩
  obtain ⟨a, cap, rfl⟩ := hown.lenL (by omega) intE_len
  refine enter Try.func15 Try.ntmps15 rfl rfl ?_
  refine SWP_seq ?_
  refine SWP_region ?_
  first | refine pu (v := .int .i64 _) rfl rfl ?_ | refine pu rfl rfl ?_
  refine SL_nil ?_
  refine nx ?_
  refine SWP_seq ?_
  refine SWP_seq ?_
  refine SWP_region ?_
  first | refine pu (v := .int .i64 _) rfl rfl ?_ | refine pu rfl rfl ?_
  refine pc rfl rfl (fun c8 => ?_) (fun c8 => ?_)
  · skip
    first | refine pu (v := .bool _) rfl rfl ?_ | refine pu rfl rfl ?_
    refine SL_no rfl rfl ?_
    refine SL_no rfl rfl ?_
    refine SL_no rfl rfl ?_
    refine SL_no rfl rfl ?_
    refine SL_no rfl rfl ?_
    refine SL_no rfl rfl ?_
    first | refine pu (v := .bool _) rfl rfl ?_ | refine pu rfl rfl ?_
    refine SL_nil ?_
    refine nx ?_
    refine SWP_ct rfl ?_
    refine SWP_seq ?_
    refine SWP_region ?_
    first | refine pu (v := .int .i64 _) rfl rfl ?_ | refine pu rfl rfl ?_
    refine SL_nil ?_
    refine nx ?_
    refine SWP_ret ?_
    refine nr ?_
    refine fin [_] ⟨rfl, trivial⟩ ?_
    have e0 : takeE most S n = 2 := by unfold takeE; rw [if_pos (by omega)]
    refine ⟨congrArg (Value.int .i64) e0.symm, rfl, _, σe, [], rfl, ?_⟩
    unfold takeS
    rw [e0]
    exact hown
  · skip
    first | refine pu (v := .bool _) rfl rfl ?_ | refine pu rfl rfl ?_
    refine SL_yes rfl ?_
    first | refine pu (v := .int .i64 _) rfl rfl ?_ | refine pu rfl rfl ?_
    refine SL_yes rfl ?_
    first | refine pu (v := .pointer _) rfl rfl ?_ | refine pu rfl rfl ?_
    refine SL_yes rfl ?_
    refine pu rfl rfl ?_
    refine SL_yes rfl ?_
    refine pu rfl rfl ?_
    refine SL_yes rfl ?_
    first | refine ld (v := .int .i64 _) (off := 0) (Rd.of_cells (.head _)) rfl rfl rfl rfl ?_ | refine ld (v := .int .i64 _) (off := 0) (Rd.of_cells (.tail _ (.head _))) rfl rfl rfl rfl ?_ | refine ld (v := .int .i64 _) (off := 0) (Rd.of_cells (.tail _ (.tail _ (.head _)))) rfl rfl rfl rfl ?_ | refine ld (v := .int .i64 _) (off := 0) (Rd.of_cells (.tail _ (.tail _ (.tail _ (.head _))))) rfl rfl rfl rfl ?_ | refine ld (v := .int .i64 _) (off := 0) (Rd.of_cells (.tail _ (.tail _ (.tail _ (.tail _ (.head _)))))) rfl rfl rfl rfl ?_ | refine ld (v := .int .i64 _) (off := 0) (Rd.of_cells (.tail _ (.tail _ (.tail _ (.tail _ (.tail _ (.head _))))))) rfl rfl rfl rfl ?_ | refine ld (v := .int .i64 _) (off := 0) (Rd.of_cells (.tail _ (.tail _ (.tail _ (.tail _ (.tail _ (.tail _ (.head _)))))))) rfl rfl rfl rfl ?_
    refine SL_yes rfl ?_
    refine pc rfl rfl (fun c15 => ?_) (fun c15 => ?_)
    · skip
      first | refine pu (v := .bool _) rfl rfl ?_ | refine pu rfl rfl ?_
      refine SL_nil ?_
      refine nx ?_
      refine SWP_ct rfl ?_
      refine SWP_seq ?_
      refine SWP_region ?_
      first | refine pu (v := .int .i64 _) rfl rfl ?_ | refine pu rfl rfl ?_
      refine SL_nil ?_
      refine nx ?_
      refine SWP_ret ?_
      refine nr ?_
      refine fin [_] ⟨rfl, trivial⟩ ?_
      have e0 : takeE most S n = 2 := by unfold takeE; rw [if_pos (by omega)]
      refine ⟨congrArg (Value.int .i64) e0.symm, rfl, _, σe, [], rfl, ?_⟩
      unfold takeS
      rw [e0]
      exact hown
    · skip
      first | refine pu (v := .bool _) rfl rfl ?_ | refine pu rfl rfl ?_
      refine SL_nil ?_
      refine nx ?_
      refine SWP_cf rfl ?_
      refine SWP_skip ?_
      refine nx ?_
      refine SWP_seq ?_
      refine SWP_seq ?_
      refine SWP_region ?_
      first | refine pu (v := .pointer _) rfl rfl ?_ | refine pu rfl rfl ?_
      first | refine pu (v := .int .i64 _) rfl rfl ?_ | refine pu rfl rfl ?_
      refine SL_pcallS rfl rfl cb13 (rfSeen hown hlen n) rfl ?_
      refine bsp 19 rfl (fun b19 => ?_) (fun b19 => ?_)
      · skip
        refine SL_nil ?_
        refine nx ?_
        refine SWP_ct rfl ?_
        refine SWP_seq ?_
        refine SWP_region ?_
        first | refine pu (v := .int .i64 _) rfl rfl ?_ | refine pu rfl rfl ?_
        refine SL_nil ?_
        refine nx ?_
        refine SWP_ret ?_
        refine nr ?_
        refine fin [_] ⟨rfl, trivial⟩ ?_
        have hn : n ∈ S := by simpa using b19
        have e0 : takeE most S n = 14 := by unfold takeE; rw [if_neg (by omega), if_pos hn]
        refine ⟨congrArg (Value.int .i64) e0.symm, rfl, _, σe, [], rfl, ?_⟩
        unfold takeS
        rw [e0]
        exact hown
      · skip
        refine SL_nil ?_
        refine nx ?_
        refine SWP_cf rfl ?_
        refine SWP_skip ?_
        refine nx ?_
        refine SWP_seq ?_
        have hn : n ∉ S := by simpa using b19
        have e0 : takeE most S n = 0 := by unfold takeE; rw [if_neg (by omega), if_neg hn]
        refine SWP_region ?_
        first | refine pu (v := .slice _ _ _) rfl rfl ?_ | refine pu rfl rfl ?_
        refine SL_nil ?_
        refine nx ?_
        refine SWP_seq ?_
        refine SWP_region ?_
        first | refine pu (v := .int .i64 _) rfl rfl ?_ | refine pu rfl rfl ?_
        refine SL_nil ?_
        refine nx ?_
        refine SWP_seq ?_
        refine SWP_block ?_
        refine SWP_loop [5, 6, 20, 21, 22, 23, 24, 25, 26, 27, 28, 29, 30, 31, 32, 33, 34, 35, 36, 37, 38, 39, 40, 41, 42, 43, 44, 45, 46, 47, 48, 49] [5, 6]
            (fun vs σ' m' => ∃ (i : Nat) (v5 : Value) (σx : Sig), vs = [v5, .int .i64 (i : Nat)] ∧ i ≤ S.length ∧ OwnS 3 1 v5 ((S.take i).flatMap intE) σx ∧ (∀ y ∈ S.take i, y < n) ∧ σ' = RfC B most (.slice a S.length cap) σe ++ σx ∧ m = m')
            (fun vs => S.length - nOf (vs.getD 1 undef)) rfl ?_ ?_
        · exact ⟨0, _, [], rfl, by omega, .nil, by simp, (List.append_nil _).symm, rfl⟩
        · intro u0 vs0 σ0 m0 hJ0 _
          obtain ⟨i, v5, σx, rfl, hi, hownx, hlt5, rfl, rfl⟩ := hJ0
          refine SWP_seq ?_
          refine SWP_seq ?_
          refine SWP_region ?_
          first | refine pu (v := .int .i64 _) rfl rfl ?_ | refine pu rfl rfl ?_
          first | refine pu (v := .pointer _) rfl rfl ?_ | refine pu rfl rfl ?_
          refine pu rfl rfl ?_
          refine pu rfl rfl ?_
          first | refine ld (v := .slice _ _ _) (off := 1) (Rd.of_cells (.head _)) rfl rfl rfl rfl ?_ | refine ld (v := .slice _ _ _) (off := 1) (Rd.of_cells (.tail _ (.head _))) rfl rfl rfl rfl ?_ | refine ld (v := .slice _ _ _) (off := 1) (Rd.of_cells (.tail _ (.tail _ (.head _)))) rfl rfl rfl rfl ?_ | refine ld (v := .slice _ _ _) (off := 1) (Rd.of_cells (.tail _ (.tail _ (.tail _ (.head _))))) rfl rfl rfl rfl ?_ | refine ld (v := .slice _ _ _) (off := 1) (Rd.of_cells (.tail _ (.tail _ (.tail _ (.tail _ (.head _)))))) rfl rfl rfl rfl ?_ | refine ld (v := .slice _ _ _) (off := 1) (Rd.of_cells (.tail _ (.tail _ (.tail _ (.tail _ (.tail _ (.head _))))))) rfl rfl rfl rfl ?_ | refine ld (v := .slice _ _ _) (off := 1) (Rd.of_cells (.tail _ (.tail _ (.tail _ (.tail _ (.tail _ (.tail _ (.head _)))))))) rfl rfl rfl rfl ?_
          refine pu rfl rfl ?_
          refine pc rfl rfl (fun c26 => ?_) (fun c26 => ?_)
          · skip
            first | refine pu (v := .bool _) rfl rfl ?_ | refine pu rfl rfl ?_
            refine SL_yes rfl ?_
            obtain ⟨x, hx⟩ : ∃ x, S[i]? = some x := ⟨_, List.getElem?_eq_getElem (by omega)⟩
            obtain ⟨ad, ha, _, hlt, hrd⟩ := hown.atN (by omega) intE_len hx
            rw [ha]
            first | refine pu (v := .pointer _) rfl rfl ?_ | refine pu rfl rfl ?_
            refine SL_yes rfl ?_
            refine pu rfl rfl ?_
            refine SL_yes rfl ?_
            refine pu rfl rfl ?_
            refine SL_yes rfl ?_
            first | refine ld (v := .slice _ _ _) (off := 1) (Rd.of_cells (.head _)) rfl rfl rfl rfl ?_ | refine ld (v := .slice _ _ _) (off := 1) (Rd.of_cells (.tail _ (.head _))) rfl rfl rfl rfl ?_ | refine ld (v := .slice _ _ _) (off := 1) (Rd.of_cells (.tail _ (.tail _ (.head _)))) rfl rfl rfl rfl ?_ | refine ld (v := .slice _ _ _) (off := 1) (Rd.of_cells (.tail _ (.tail _ (.tail _ (.head _))))) rfl rfl rfl rfl ?_ | refine ld (v := .slice _ _ _) (off := 1) (Rd.of_cells (.tail _ (.tail _ (.tail _ (.tail _ (.head _)))))) rfl rfl rfl rfl ?_ | refine ld (v := .slice _ _ _) (off := 1) (Rd.of_cells (.tail _ (.tail _ (.tail _ (.tail _ (.tail _ (.head _))))))) rfl rfl rfl rfl ?_ | refine ld (v := .slice _ _ _) (off := 1) (Rd.of_cells (.tail _ (.tail _ (.tail _ (.tail _ (.tail _ (.tail _ (.head _)))))))) rfl rfl rfl rfl ?_
            refine SL_yes rfl ?_
            first | refine pu (v := .int .i64 _) rfl rfl ?_ | refine pu rfl rfl ?_
            refine SL_yes rfl ?_
            first | refine ia (es := 1) rfl rfl rfl (Nat.mul_one _) rfl rfl (by omega) rfl ?_ | refine iai (es := 1) rfl rfl rfl (Nat.mul_one _) rfl rfl (by omega) (by omega) rfl ?_
            refine SL_yes rfl ?_
            refine ldO (v := .int .i64 x) (hrd _ _ (fun _ h => .tail _ (List.mem_append_left _ h))) rfl (q1 _ _) rfl rfl ?_
            refine SL_yes rfl ?_
            first | refine pu (v := .int .i64 _) rfl rfl ?_ | refine pu rfl rfl ?_
            refine SL_yes rfl ?_
            refine pc rfl rfl (fun c36 => ?_) (fun c36 => ?_)
            · skip
              first | refine pu (v := .bool _) rfl rfl ?_ | refine pu rfl rfl ?_
              refine SL_nil ?_
              refine nx ?_
              refine SWP_ct rfl ?_
              refine SWP_skip ?_
              refine nx ?_
              refine SWP_block ?_
              refine SWP_seq ?_
              refine SWP_region ?_
              first | refine pu (v := .slice _ _ _) rfl rfl ?_ | refine pu rfl rfl ?_
              first | refine pu (v := .pointer _) rfl rfl ?_ | refine pu rfl rfl ?_
              refine pu rfl rfl ?_
              refine pu rfl rfl ?_
              first | refine ld (v := .slice _ _ _) (off := 1) (Rd.of_cells (.head _)) rfl rfl rfl rfl ?_ | refine ld (v := .slice _ _ _) (off := 1) (Rd.of_cells (.tail _ (.head _))) rfl rfl rfl rfl ?_ | refine ld (v := .slice _ _ _) (off := 1) (Rd.of_cells (.tail _ (.tail _ (.head _)))) rfl rfl rfl rfl ?_ | refine ld (v := .slice _ _ _) (off := 1) (Rd.of_cells (.tail _ (.tail _ (.tail _ (.head _))))) rfl rfl rfl rfl ?_ | refine ld (v := .slice _ _ _) (off := 1) (Rd.of_cells (.tail _ (.tail _ (.tail _ (.tail _ (.head _)))))) rfl rfl rfl rfl ?_ | refine ld (v := .slice _ _ _) (off := 1) (Rd.of_cells (.tail _ (.tail _ (.tail _ (.tail _ (.tail _ (.head _))))))) rfl rfl rfl rfl ?_ | refine ld (v := .slice _ _ _) (off := 1) (Rd.of_cells (.tail _ (.tail _ (.tail _ (.tail _ (.tail _ (.tail _ (.head _)))))))) rfl rfl rfl rfl ?_
              first | refine pu (v := .int .i64 _) rfl rfl ?_ | refine pu rfl rfl ?_
              first | refine ia (es := 1) rfl rfl rfl (Nat.mul_one _) rfl rfl (by omega) rfl ?_ | refine iai (es := 1) rfl rfl rfl (Nat.mul_one _) rfl rfl (by omega) (by omega) rfl ?_
              refine ldO (v := .int .i64 x) (hrd _ _ (fun _ h => .tail _ (List.mem_append_left _ h))) rfl (q1 _ _) rfl rfl ?_
              refine bs rfl rfl rfl rfl rfl (fun B46 => ?_)
              refine ap (e := 3) (size := 1) (bytes := 8) rfl rfl rfl rfl rfl rfl rfl hownx (List.perm_append_comm (l₁ := (_, _) :: RfC _ _ _ _)) rfl (Rd.of_cells (.head _)) rfl rfl (by rw [flatMap_len intE_len]; simp; omega) rfl rfl (fun v47 σ47 hown47 => ?_)
              refine SL_weak (List.Sublist.append_left (List.sublist_cons_self _ _) _) ?_
              refine SL_perm List.perm_append_comm ?_
              first | refine pu (v := .slice _ _ _) rfl rfl ?_ | refine pu rfl rfl ?_
              refine SL_nil ?_
              refine nx ?_
              refine SWP_region ?_
              first | refine pu (v := .int .i64 _) rfl rfl ?_ | refine pu rfl rfl ?_
              first | refine pw rfl rfl (w64 (by omega) (by omega)) ?_ | refine pu rfl rfl ?_
              first | refine pu (v := .int .i64 _) rfl rfl ?_ | refine pu rfl rfl ?_
              refine SL_nil ?_
              refine nb ?_
              refine nx ?_
              refine ⟨by repeat (first | exact Under.upds rfl (Under.hav _ _ _) | exact Under.hav _ _ _ | refine Under.upd rfl ?_ | refine Under.upds rfl ?_ | refine Under.hav2 rfl ?_), ?_, ?_⟩
              · refine ⟨i + 1, v47, σ47, rfl, by omega, ?_, ?_, rfl, rfl⟩
                · rw [take_snoc hx, List.flatMap_append]
                  exact hown47
                · rw [take_snoc hx]
                  intro y hy
                  rcases List.mem_append.1 hy with hy | hy
                  · exact hlt5 y hy
                  · rw [List.mem_singleton.1 hy]; exact c36
              · simp only [L_vals, List.map, List.getD]; show S.length - (i + 1) < S.length - i; omega
            · skip
              first | refine pu (v := .bool _) rfl rfl ?_ | refine pu rfl rfl ?_
              refine SL_nil ?_
              refine nx ?_
              refine SWP_cf rfl ?_
              refine SWP_exit ?_
              refine ne ?_
              refine ne ?_
              refine be rfl ?_
              refine nx ?_
              refine SWP_seq ?_
              first | rw [← ha] | skip
              refine SWP_region ?_
              first | refine pu (v := .slice _ _ _) rfl rfl ?_ | refine pu rfl rfl ?_
              first | refine pu (v := .int .i64 _) rfl rfl ?_ | refine pu rfl rfl ?_
              refine bs rfl rfl rfl rfl rfl (fun B52 => ?_)
              refine ap (e := 3) (size := 1) (bytes := 8) rfl rfl rfl rfl rfl rfl rfl hownx (List.perm_append_comm (l₁ := (_, _) :: RfC _ _ _ _)) rfl (Rd.of_cells (.head _)) rfl rfl (by rw [flatMap_len intE_len]; simp; omega) rfl rfl (fun v53 σ53 hown53 => ?_)
              refine SL_weak (List.Sublist.append_left (List.sublist_cons_self _ _) _) ?_
              refine SL_perm List.perm_append_comm ?_
              first | refine pu (v := .slice _ _ _) rfl rfl ?_ | refine pu rfl rfl ?_
              refine SL_nil ?_
              refine nx ?_
              refine SWP_seq ?_
              refine SWP_block ?_
              refine SWP_loop [5, 6, 54, 55, 56, 57, 58, 59, 60, 61, 62, 63, 64, 65, 66, 67, 68, 69, 70, 71, 72] [5, 6]
                  (fun vs σ' m' => ∃ (j : Nat) (v5 : Value) (σy : Sig), vs = [v5, .int .i64 (j : Nat)] ∧ i ≤ j ∧ j ≤ S.length ∧ OwnS 3 1 v5 ((S.take i ++ n :: (S.drop i).take (j - i)).flatMap intE) σy ∧ σ' = RfC B most (.slice a S.length cap) σe ++ σy ∧ m = m')
                  (fun vs => S.length - nOf (vs.getD 1 undef)) rfl ?_ ?_
              · exact ⟨i, v53, σ53, rfl, by omega, by omega, by rw [Nat.sub_self, List.flatMap_append]; exact hown53, rfl, rfl⟩
              · intro u1 vs1 σ1 m1 hJ1 _
                obtain ⟨j, v5, σy, rfl, hij, hj, howny, rfl, rfl⟩ := hJ1
                obtain ⟨a5, cap5, rfl⟩ := howny.lenL (by omega) intE_len
                refine SWP_seq ?_
                refine SWP_seq ?_
                refine SWP_region ?_
                first | refine pu (v := .int .i64 _) rfl rfl ?_ | refine pu rfl rfl ?_
                first | refine pu (v := .pointer _) rfl rfl ?_ | refine pu rfl rfl ?_
                refine pu rfl rfl ?_
                refine pu rfl rfl ?_
                first | refine ld (v := .slice _ _ _) (off := 1) (Rd.of_cells (.head _)) rfl rfl rfl rfl ?_ | refine ld (v := .slice _ _ _) (off := 1) (Rd.of_cells (.tail _ (.head _))) rfl rfl rfl rfl ?_ | refine ld (v := .slice _ _ _) (off := 1) (Rd.of_cells (.tail _ (.tail _ (.head _)))) rfl rfl rfl rfl ?_ | refine ld (v := .slice _ _ _) (off := 1) (Rd.of_cells (.tail _ (.tail _ (.tail _ (.head _))))) rfl rfl rfl rfl ?_ | refine ld (v := .slice _ _ _) (off := 1) (Rd.of_cells (.tail _ (.tail _ (.tail _ (.tail _ (.head _)))))) rfl rfl rfl rfl ?_ | refine ld (v := .slice _ _ _) (off := 1) (Rd.of_cells (.tail _ (.tail _ (.tail _ (.tail _ (.tail _ (.head _))))))) rfl rfl rfl rfl ?_ | refine ld (v := .slice _ _ _) (off := 1) (Rd.of_cells (.tail _ (.tail _ (.tail _ (.tail _ (.tail _ (.tail _ (.head _)))))))) rfl rfl rfl rfl ?_
                refine pu rfl rfl ?_
                refine pc rfl rfl (fun c60 => ?_) (fun c60 => ?_)
                · skip
                  refine SL_nil ?_
                  refine nx ?_
                  refine SWP_ct rfl ?_
                  refine SWP_skip ?_
                  refine nx ?_
                  refine SWP_block ?_
                  refine SWP_seq ?_
                  obtain ⟨x, hx⟩ : ∃ x, S[j]? = some x := ⟨_, List.getElem?_eq_getElem (by omega)⟩
                  obtain ⟨ad, ha, _, hlt, hrd⟩ := hown.atN (by omega) intE_len hx
                  rw [ha]
                  refine SWP_region ?_
                  first | refine pu (v := .slice _ _ _) rfl rfl ?_ | refine pu rfl rfl ?_
                  first | refine pu (v := .pointer _) rfl rfl ?_ | refine pu rfl rfl ?_
                  refine pu rfl rfl ?_
                  refine pu rfl rfl ?_
                  first | refine ld (v := .slice _ _ _) (off := 1) (Rd.of_cells (.head _)) rfl rfl rfl rfl ?_ | refine ld (v := .slice _ _ _) (off := 1) (Rd.of_cells (.tail _ (.head _))) rfl rfl rfl rfl ?_ | refine ld (v := .slice _ _ _) (off := 1) (Rd.of_cells (.tail _ (.tail _ (.head _)))) rfl rfl rfl rfl ?_ | refine ld (v := .slice _ _ _) (off := 1) (Rd.of_cells (.tail _ (.tail _ (.tail _ (.head _))))) rfl rfl rfl rfl ?_ | refine ld (v := .slice _ _ _) (off := 1) (Rd.of_cells (.tail _ (.tail _ (.tail _ (.tail _ (.head _)))))) rfl rfl rfl rfl ?_ | refine ld (v := .slice _ _ _) (off := 1) (Rd.of_cells (.tail _ (.tail _ (.tail _ (.tail _ (.tail _ (.head _))))))) rfl rfl rfl rfl ?_ | refine ld (v := .slice _ _ _) (off := 1) (Rd.of_cells (.tail _ (.tail _ (.tail _ (.tail _ (.tail _ (.tail _ (.head _)))))))) rfl rfl rfl rfl ?_
                  first | refine pu (v := .int .i64 _) rfl rfl ?_ | refine pu rfl rfl ?_
                  first | refine ia (es := 1) rfl rfl rfl (Nat.mul_one _) rfl rfl (by omega) rfl ?_ | refine iai (es := 1) rfl rfl rfl (Nat.mul_one _) rfl rfl (by omega) (by omega) rfl ?_
                  refine ldO (v := .int .i64 x) (hrd _ _ (fun _ h => .tail _ (List.mem_append_left _ h))) rfl (q1 _ _) rfl rfl ?_
                  refine bs rfl rfl rfl rfl rfl (fun B69 => ?_)
                  refine ap (e := 3) (size := 1) (bytes := 8) rfl rfl rfl rfl rfl rfl rfl howny (List.perm_append_comm (l₁ := (_, _) :: RfC _ _ _ _)) rfl (Rd.of_cells (.head _)) rfl rfl (by rw [flatMap_len intE_len]; simp; omega) rfl rfl (fun v70 σ70 hown70 => ?_)
                  refine SL_weak (List.Sublist.append_left (List.sublist_cons_self _ _) _) ?_
                  refine SL_perm List.perm_append_comm ?_
                  first | refine pu (v := .slice _ _ _) rfl rfl ?_ | refine pu rfl rfl ?_
                  refine SL_nil ?_
                  refine nx ?_
                  refine SWP_region ?_
                  first | refine pu (v := .int .i64 _) rfl rfl ?_ | refine pu rfl rfl ?_
                  first | refine pw rfl rfl (w64 (by omega) (by omega)) ?_ | refine pu rfl rfl ?_
                  first | refine pu (v := .int .i64 _) rfl rfl ?_ | refine pu rfl rfl ?_
                  refine SL_nil ?_
                  refine nb ?_
                  refine nx ?_
                  refine ⟨by repeat (first | exact Under.upds rfl (Under.hav _ _ _) | exact Under.hav _ _ _ | refine Under.upd rfl ?_ | refine Under.upds rfl ?_ | refine Under.hav2 rfl ?_), ?_, ?_⟩
                  · refine ⟨j + 1, v70, σ70, rfl, by omega, by omega, ?_, rfl, rfl⟩
                    rw [mid_snoc hij hx, List.flatMap_append]
                    exact hown70
                  · simp only [L_vals, List.map, List.getD]; show S.length - (j + 1) < S.length - j; omega
                · skip
                  refine SL_nil ?_
                  refine nx ?_
                  refine SWP_cf rfl ?_
                  refine SWP_exit ?_
                  refine ne ?_
                  refine ne ?_
                  refine be rfl ?_
                  refine nx ?_
                  refine SWP_seq ?_
                  refine SWP_region ?_
                  first | refine pu (v := .pointer _) rfl rfl ?_ | refine pu rfl rfl ?_
                  first | refine pu (v := .slice _ _ _) rfl rfl ?_ | refine pu rfl rfl ?_
                  refine pu rfl rfl ?_
                  refine pu rfl rfl ?_
                  first | refine st (v := .slice _ _ _) (off := 1) (σ₁ := []) rfl rfl rfl rfl rfl rfl rfl rfl ?_ | refine st (v := .slice _ _ _) (off := 1) (σ₁ := [_]) rfl rfl rfl rfl rfl rfl rfl rfl ?_ | refine st (v := .slice _ _ _) (off := 1) (σ₁ := [_, _]) rfl rfl rfl rfl rfl rfl rfl rfl ?_ | refine st (v := .slice _ _ _) (off := 1) (σ₁ := [_, _, _]) rfl rfl rfl rfl rfl rfl rfl rfl ?_ | refine st (v := .slice _ _ _) (off := 1) (σ₁ := [_, _, _, _]) rfl rfl rfl rfl rfl rfl rfl rfl ?_ | refine st (v := .slice _ _ _) (off := 1) (σ₁ := [_, _, _, _, _]) rfl rfl rfl rfl rfl rfl rfl rfl ?_ | refine st (v := .slice _ _ _) (off := 1) (σ₁ := [_, _, _, _, _, _]) rfl rfl rfl rfl rfl rfl rfl rfl ?_
                  refine SL_nil ?_
                  refine nx ?_
                  refine SWP_seq ?_
                  refine SWP_region ?_
                  first | refine pu (v := .int .i64 _) rfl rfl ?_ | refine pu rfl rfl ?_
                  refine SL_nil ?_
                  refine nx ?_
                  refine SWP_ret ?_
                  refine fin [_] ⟨rfl, trivial⟩ ?_
                  refine ⟨congrArg (Value.int .i64) e0.symm, rfl, _, σy, σe, rfl, ?_⟩
                  have hi' : ∀ y, S[i]? = some y → ¬ y < n := by
                    first
                      | (intro y hy; rw [hx] at hy; cases hy; exact c36)
                      | (intro y hy; rw [List.getElem?_eq_none (by omega)] at hy; cases hy)
                  unfold takeS
                  rw [if_pos e0, ins_at hlt5 hi']
                  have ej : (S.drop i).take (j - i) = S.drop i := by rw [List.take_of_length_le (by rw [List.length_drop]; omega)]
                  conv => arg 4; rw [← ej]
                  exact howny
          · skip
            first | refine pu (v := .bool _) rfl rfl ?_ | refine pu rfl rfl ?_
            refine SL_no rfl rfl ?_
            refine SL_no rfl rfl ?_
            refine SL_no rfl rfl ?_
            refine SL_no rfl rfl ?_
            refine SL_no rfl rfl ?_
            refine SL_no rfl rfl ?_
            refine SL_no rfl rfl ?_
            refine SL_no rfl rfl ?_
            refine SL_no rfl rfl ?_
            first | refine pu (v := .bool _) rfl rfl ?_ | refine pu rfl rfl ?_
            refine SL_nil ?_
            refine nx ?_
            refine SWP_cf rfl ?_
            refine SWP_exit ?_
            refine ne ?_
            refine ne ?_
            refine be rfl ?_
            refine nx ?_
            refine SWP_seq ?_
            first | rw [← ha] | skip
            refine SWP_region ?_
            first | refine pu (v := .slice _ _ _) rfl rfl ?_ | refine pu rfl rfl ?_
            first | refine pu (v := .int .i64 _) rfl rfl ?_ | refine pu rfl rfl ?_
            refine bs rfl rfl rfl rfl rfl (fun B52 => ?_)
            refine ap (e := 3) (size := 1) (bytes := 8) rfl rfl rfl rfl rfl rfl rfl hownx (List.perm_append_comm (l₁ := (_, _) :: RfC _ _ _ _)) rfl (Rd.of_cells (.head _)) rfl rfl (by rw [flatMap_len intE_len]; simp; omega) rfl rfl (fun v53 σ53 hown53 => ?_)
            refine SL_weak (List.Sublist.append_left (List.sublist_cons_self _ _) _) ?_
            refine SL_perm List.perm_append_comm ?_
            first | refine pu (v := .slice _ _ _) rfl rfl ?_ | refine pu rfl rfl ?_
            refine SL_nil ?_
            refine nx ?_
            refine SWP_seq ?_
            refine SWP_block ?_
            refine SWP_loop [5, 6, 54, 55, 56, 57, 58, 59, 60, 61, 62, 63, 64, 65, 66, 67, 68, 69, 70, 71, 72] [5, 6]
                (fun vs σ' m' => ∃ (j : Nat) (v5 : Value) (σy : Sig), vs = [v5, .int .i64 (j : Nat)] ∧ i ≤ j ∧ j ≤ S.length ∧ OwnS 3 1 v5 ((S.take i ++ n :: (S.drop i).take (j - i)).flatMap intE) σy ∧ σ' = RfC B most (.slice a S.length cap) σe ++ σy ∧ m = m')
                (fun vs => S.length - nOf (vs.getD 1 undef)) rfl ?_ ?_
            · exact ⟨i, v53, σ53, rfl, by omega, by omega, by rw [Nat.sub_self, List.flatMap_append]; exact hown53, rfl, rfl⟩
            · intro u1 vs1 σ1 m1 hJ1 _
              obtain ⟨j, v5, σy, rfl, hij, hj, howny, rfl, rfl⟩ := hJ1
              obtain ⟨a5, cap5, rfl⟩ := howny.lenL (by omega) intE_len
              refine SWP_seq ?_
              refine SWP_seq ?_
              refine SWP_region ?_
              first | refine pu (v := .int .i64 _) rfl rfl ?_ | refine pu rfl rfl ?_
              first | refine pu (v := .pointer _) rfl rfl ?_ | refine pu rfl rfl ?_
              refine pu rfl rfl ?_
              refine pu rfl rfl ?_
              first | refine ld (v := .slice _ _ _) (off := 1) (Rd.of_cells (.head _)) rfl rfl rfl rfl ?_ | refine ld (v := .slice _ _ _) (off := 1) (Rd.of_cells (.tail _ (.head _))) rfl rfl rfl rfl ?_ | refine ld (v := .slice _ _ _) (off := 1) (Rd.of_cells (.tail _ (.tail _ (.head _)))) rfl rfl rfl rfl ?_ | refine ld (v := .slice _ _ _) (off := 1) (Rd.of_cells (.tail _ (.tail _ (.tail _ (.head _))))) rfl rfl rfl rfl ?_ | refine ld (v := .slice _ _ _) (off := 1) (Rd.of_cells (.tail _ (.tail _ (.tail _ (.tail _ (.head _)))))) rfl rfl rfl rfl ?_ | refine ld (v := .slice _ _ _) (off := 1) (Rd.of_cells (.tail _ (.tail _ (.tail _ (.tail _ (.tail _ (.head _))))))) rfl rfl rfl rfl ?_ | refine ld (v := .slice _ _ _) (off := 1) (Rd.of_cells (.tail _ (.tail _ (.tail _ (.tail _ (.tail _ (.tail _ (.head _)))))))) rfl rfl rfl rfl ?_
              refine pu rfl rfl ?_
              refine pc rfl rfl (fun c60 => ?_) (fun c60 => ?_)
              · skip
                refine SL_nil ?_
                refine nx ?_
                refine SWP_ct rfl ?_
                refine SWP_skip ?_
                refine nx ?_
                refine SWP_block ?_
                refine SWP_seq ?_
                obtain ⟨x, hx⟩ : ∃ x, S[j]? = some x := ⟨_, List.getElem?_eq_getElem (by omega)⟩
                obtain ⟨ad, ha, _, hlt, hrd⟩ := hown.atN (by omega) intE_len hx
                rw [ha]
                refine SWP_region ?_
                first | refine pu (v := .slice _ _ _) rfl rfl ?_ | refine pu rfl rfl ?_
                first | refine pu (v := .pointer _) rfl rfl ?_ | refine pu rfl rfl ?_
                refine pu rfl rfl ?_
                refine pu rfl rfl ?_
                first | refine ld (v := .slice _ _ _) (off := 1) (Rd.of_cells (.head _)) rfl rfl rfl rfl ?_ | refine ld (v := .slice _ _ _) (off := 1) (Rd.of_cells (.tail _ (.head _))) rfl rfl rfl rfl ?_ | refine ld (v := .slice _ _ _) (off := 1) (Rd.of_cells (.tail _ (.tail _ (.head _)))) rfl rfl rfl rfl ?_ | refine ld (v := .slice _ _ _) (off := 1) (Rd.of_cells (.tail _ (.tail _ (.tail _ (.head _))))) rfl rfl rfl rfl ?_ | refine ld (v := .slice _ _ _) (off := 1) (Rd.of_cells (.tail _ (.tail _ (.tail _ (.tail _ (.head _)))))) rfl rfl rfl rfl ?_ | refine ld (v := .slice _ _ _) (off := 1) (Rd.of_cells (.tail _ (.tail _ (.tail _ (.tail _ (.tail _ (.head _))))))) rfl rfl rfl rfl ?_ | refine ld (v := .slice _ _ _) (off := 1) (Rd.of_cells (.tail _ (.tail _ (.tail _ (.tail _ (.tail _ (.tail _ (.head _)))))))) rfl rfl rfl rfl ?_
                first | refine pu (v := .int .i64 _) rfl rfl ?_ | refine pu rfl rfl ?_
                first | refine ia (es := 1) rfl rfl rfl (Nat.mul_one _) rfl rfl (by omega) rfl ?_ | refine iai (es := 1) rfl rfl rfl (Nat.mul_one _) rfl rfl (by omega) (by omega) rfl ?_
                refine ldO (v := .int .i64 x) (hrd _ _ (fun _ h => .tail _ (List.mem_append_left _ h))) rfl (q1 _ _) rfl rfl ?_
                refine bs rfl rfl rfl rfl rfl (fun B69 => ?_)
                refine ap (e := 3) (size := 1) (bytes := 8) rfl rfl rfl rfl rfl rfl rfl howny (List.perm_append_comm (l₁ := (_, _) :: RfC _ _ _ _)) rfl (Rd.of_cells (.head _)) rfl rfl (by rw [flatMap_len intE_len]; simp; omega) rfl rfl (fun v70 σ70 hown70 => ?_)
                refine SL_weak (List.Sublist.append_left (List.sublist_cons_self _ _) _) ?_
                refine SL_perm List.perm_append_comm ?_
                first | refine pu (v := .slice _ _ _) rfl rfl ?_ | refine pu rfl rfl ?_
                refine SL_nil ?_
                refine nx ?_
                refine SWP_region ?_
                first | refine pu (v := .int .i64 _) rfl rfl ?_ | refine pu rfl rfl ?_
                first | refine pw rfl rfl (w64 (by omega) (by omega)) ?_ | refine pu rfl rfl ?_
                first | refine pu (v := .int .i64 _) rfl rfl ?_ | refine pu rfl rfl ?_
                refine SL_nil ?_
                refine nb ?_
                refine nx ?_
                refine ⟨by repeat (first | exact Under.upds rfl (Under.hav _ _ _) | exact Under.hav _ _ _ | refine Under.upd rfl ?_ | refine Under.upds rfl ?_ | refine Under.hav2 rfl ?_), ?_, ?_⟩
                · refine ⟨j + 1, v70, σ70, rfl, by omega, by omega, ?_, rfl, rfl⟩
                  rw [mid_snoc hij hx, List.flatMap_append]
                  exact hown70
                · simp only [L_vals, List.map, List.getD]; show S.length - (j + 1) < S.length - j; omega
              · skip
                refine SL_nil ?_
                refine nx ?_
                refine SWP_cf rfl ?_
                refine SWP_exit ?_
                refine ne ?_
                refine ne ?_
                refine be rfl ?_
                refine nx ?_
                refine SWP_seq ?_
                refine SWP_region ?_
                first | refine pu (v := .pointer _) rfl rfl ?_ | refine pu rfl rfl ?_
                first | refine pu (v := .slice _ _ _) rfl rfl ?_ | refine pu rfl rfl ?_
                refine pu rfl rfl ?_
                refine pu rfl rfl ?_
                first | refine st (v := .slice _ _ _) (off := 1) (σ₁ := []) rfl rfl rfl rfl rfl rfl rfl rfl ?_ | refine st (v := .slice _ _ _) (off := 1) (σ₁ := [_]) rfl rfl rfl rfl rfl rfl rfl rfl ?_ | refine st (v := .slice _ _ _) (off := 1) (σ₁ := [_, _]) rfl rfl rfl rfl rfl rfl rfl rfl ?_ | refine st (v := .slice _ _ _) (off := 1) (σ₁ := [_, _, _]) rfl rfl rfl rfl rfl rfl rfl rfl ?_ | refine st (v := .slice _ _ _) (off := 1) (σ₁ := [_, _, _, _]) rfl rfl rfl rfl rfl rfl rfl rfl ?_ | refine st (v := .slice _ _ _) (off := 1) (σ₁ := [_, _, _, _, _]) rfl rfl rfl rfl rfl rfl rfl rfl ?_ | refine st (v := .slice _ _ _) (off := 1) (σ₁ := [_, _, _, _, _, _]) rfl rfl rfl rfl rfl rfl rfl rfl ?_
                refine SL_nil ?_
                refine nx ?_
                refine SWP_seq ?_
                refine SWP_region ?_
                first | refine pu (v := .int .i64 _) rfl rfl ?_ | refine pu rfl rfl ?_
                refine SL_nil ?_
                refine nx ?_
                refine SWP_ret ?_
                refine fin [_] ⟨rfl, trivial⟩ ?_
                refine ⟨congrArg (Value.int .i64) e0.symm, rfl, _, σy, σe, rfl, ?_⟩
                have hi' : ∀ y, S[i]? = some y → ¬ y < n := by
                  first
                    | (intro y hy; rw [hx] at hy; cases hy; exact c36)
                    | (intro y hy; rw [List.getElem?_eq_none (by omega)] at hy; cases hy)
                unfold takeS
                rw [if_pos e0, ins_at hlt5 hi']
                have ej : (S.drop i).take (j - i) = S.drop i := by rw [List.take_of_length_le (by rw [List.length_drop]; omega)]
                conv => arg 4; rw [← ej]
                exact howny

end Go.Proofs.Ythejjlakmkdkeaa

