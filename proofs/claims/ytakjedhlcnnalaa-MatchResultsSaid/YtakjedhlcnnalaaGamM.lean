/- matrix.Check, lotteryref13.Check: the error of a line. -/
import Derived.Test.YtakjedhlcnnalaaGamT
namespace Go.Proofs.Ytakjedhlcnnalaa
open Eng

theorem Eng.RL.small {α : Type} {m : Mem} {en : α → List Value} {size : Nat} {v : Value} {l : List α} (h : RL m en size v l) : l.length ≤ 9223372036854775807 := by
  obtain ⟨a, cap, _, _, h2, h3, _⟩ := h
  unfold maxLen at h3
  omega
structure Line where
  ma : Option Addr
  mc : Nat
  main : List Int
  ba : Option Addr
  bc : Nat
  bonus : List Int
def Line.val (l : Line) : Value := .agg #[.slice l.ma l.main.length l.mc, .slice l.ba l.bonus.length l.bc]
def Line.enc (l : Line) : List Value := [.slice l.ma l.main.length l.mc, .slice l.ba l.bonus.length l.bc]
structure Line.In (m : Mem) (l : Line) : Prop where
  mn : RL m intE 1 (.slice l.ma l.main.length l.mc) l.main
  bn : RL m intE 1 (.slice l.ba l.bonus.length l.bc) l.bonus
theorem Line.In.mono {m m' : Mem} {l : Line} (h : l.In m) (hl : Le m m') : l.In m' := ⟨h.mn.mono hl, h.bn.mono hl⟩
def allIn (lo hi : Int) (l : List Int) : Prop := ∀ x ∈ l, lo ≤ x ∧ x ≤ hi
instance (lo hi : Int) (l : List Int) : Decidable (allIn lo hi l) := by unfold allIn; infer_instance
noncomputable def lineErr (g : Game) (l : Line) : Int :=
  if gameErr g ≠ 0 then gameErr g
  else if (l.main.length : Int) ≠ g.main ∨ (l.bonus.length : Int) ≠ g.bonus then 3
  else if ¬ allIn (if g.kind = 2 then 0 else 1) (if g.kind = 2 then g.of - 1 else g.of) l.main ∨ ¬ allIn 1 g.bonusOf l.bonus then 2
  else if (g.kind ≠ 2 ∧ ¬ l.main.Nodup) ∨ ¬ l.bonus.Nodup then 6
  else 0
structure GameOk (g : Game) : Prop where
  name : nameB g.name = true
  kind : g.kind = 1 ∨ g.kind = 2
  mx : MxOk g
  tm : TmOk g
  ad : addonsErr g.addons = 0
  tr : tiersErr g = 0
theorem gameOk {g : Game} (h : gameErr g = 0) : GameOk g := by
  unfold gameErr at h
  split at h
  · cases h
  · split at h
    · cases h
    · rename_i h1 h2
      by_cases hok : MxOk g ∧ TmOk g
      · rw [okE_t hok] at h
        split at h
        · rename_i h3; exact absurd h h3
        · rename_i h3
          exact ⟨by simpa using h1, by omega, hok.1, hok.2, Classical.not_not.1 h3, h⟩
      · rw [okE_f hok] at h; cases h
theorem allIn_snoc {lo hi x : Int} {l : List Int} {i : Nat} (hx : l[i]? = some x) (h : allIn lo hi (l.take i)) (h' : lo ≤ x ∧ x ≤ hi) : allIn lo hi (l.take (i + 1)) := fun y hy => by
  rw [take_snocA hx] at hy
  rcases List.mem_append.1 hy with hy | hy
  · exact h y hy
  · rw [List.mem_singleton.1 hy]; exact h'

theorem insideI {m : Mem} {v : Value} {l : List Int} (h : RL m intE 1 v l) (lo hi : Int) : PureCall Try.prog 56 [v, .int .i64 lo, .int .i64 hi] m (.bool (decide (allIn lo hi l))) := by
  refine CallsS.pure ?_
  have hsm := h.small
  obtain ⟨pa, pcap, rfl⟩ := h.len
  refine enter Try.func56 Try.ntmps56 rfl rfl ?_
  refine SWP_seq ?_
  refine SWP_region ?_
  refine pB rfl rfl ?_
  refine SL_nil ?_
  refine nx ?_
  refine SWP_seq ?_
  refine SWP_seq ?_
  refine SWP_region ?_
  first | refine pL rfl rfl ?_ | refine pu rfl rfl ?_
  refine pu rfl rfl ?_
  refine pI rfl rfl ?_
  refine SL_nil ?_
  refine nx ?_
  refine SWP_block ?_
  refine SWP_loop [6, 8, 11, 12, 13, 14, 15, 16, 17, 18, 19, 20, 21, 22, 23] [11]
      (fun vs σ' m' => ∃ (i : Nat), vs = [.int .i64 (i : Nat)] ∧ i ≤ l.length ∧ allIn lo hi (l.take i) ∧ σ' = [] ∧ m = m')
      (fun vs => l.length - nOf (vs.getD 0 undef)) rfl ?_ ?_
  · exact ⟨0, rfl, by omega, fun x h => (by cases h), rfl, rfl⟩
  intro u0 vs0 σ0 m0 hJ0 _
  obtain ⟨i, rfl, hi, hall, rfl, rfl⟩ := hJ0
  refine SWP_seq ?_
  refine SWP_region ?_
  refine pc rfl rfl (fun c12 => ?_) (fun c12 => ?_)
  · skip
    refine SL_nil ?_
    refine nx ?_
    refine SWP_seq ?_
    refine SWP_ct rfl ?_
    refine SWP_skip ?_
    refine nx ?_
    refine SWP_seq ?_
    refine SWP_block ?_
    refine SWP_seq ?_
    obtain ⟨x, hx⟩ : ∃ x, l[i]? = some x := ⟨_, List.getElem?_eq_getElem (by omega)⟩
    obtain ⟨ad, e0, _, hat⟩ := h.atI hx
    cases e0
    refine SWP_region ?_
    first | refine ia (es := 1) rfl rfl rfl (Nat.mul_one _) rfl rfl (by omega) rfl ?_ | refine iai (es := 1) rfl rfl rfl (Nat.mul_one _) rfl rfl (by omega) (by omega) rfl ?_
    refine ldA (v := .int .i64 _) rfl (by assumption) rfl rfl ?_
    refine pI rfl rfl ?_
    refine SL_nil ?_
    refine nx ?_
    refine SWP_seq ?_
    refine SWP_region ?_
    refine pI rfl rfl ?_
    first | refine pI rfl rfl ?_ | refine pu rfl rfl ?_
    refine pc rfl rfl (fun c17 => ?_) (fun c17 => ?_)
    · skip
      refine pB rfl rfl ?_
      refine SL_no rfl rfl ?_
      refine SL_no rfl rfl ?_
      refine SL_no rfl rfl ?_
      refine pB rfl rfl ?_
      refine SL_nil ?_
      refine nx ?_
      refine SWP_ct rfl ?_
      refine SWP_seq ?_
      refine SWP_region ?_
      refine pB rfl rfl ?_
      refine SL_nil ?_
      refine nx ?_
      refine SWP_ret ?_
      refine br ?_
      refine nr ?_
      refine nr ?_
      refine br ?_
      refine nr ?_
      refine fin [_] ⟨rfl, trivial⟩ ?_
      first | exact congrArg Value.bool (decide_eq_false fun h => by have := h x (List.mem_of_getElem? hx); omega).symm | (refine congrArg Value.bool (decide_eq_true ?_).symm; rw [List.take_of_length_le (by omega)] at hall; exact hall)
    refine pB rfl rfl ?_
    refine SL_yes rfl ?_
    refine pI rfl rfl ?_
    refine SL_yes rfl ?_
    first | refine pI rfl rfl ?_ | refine pu rfl rfl ?_
    refine SL_yes rfl ?_
    refine pc rfl rfl (fun c21 => ?_) (fun c21 => ?_)
    · skip
      refine pB rfl rfl ?_
      refine SL_nil ?_
      refine nx ?_
      refine SWP_ct rfl ?_
      refine SWP_seq ?_
      refine SWP_region ?_
      refine pB rfl rfl ?_
      refine SL_nil ?_
      refine nx ?_
      refine SWP_ret ?_
      refine br ?_
      refine nr ?_
      refine nr ?_
      refine br ?_
      refine nr ?_
      refine fin [_] ⟨rfl, trivial⟩ ?_
      first | exact congrArg Value.bool (decide_eq_false fun h => by have := h x (List.mem_of_getElem? hx); omega).symm | (refine congrArg Value.bool (decide_eq_true ?_).symm; rw [List.take_of_length_le (by omega)] at hall; exact hall)
    refine pB rfl rfl ?_
    refine SL_nil ?_
    refine nx ?_
    refine SWP_cf rfl ?_
    refine SWP_skip ?_
    refine nb ?_
    refine nx ?_
    refine SWP_region ?_
    first | refine pw rfl rfl (w64 (by omega) (by omega)) ?_ | refine pu rfl rfl ?_
    refine pI rfl rfl ?_
    refine SL_nil ?_
    refine nx ?_
    refine ⟨by repeat (first | exact Under.upds rfl (Under.hav _ _ _) | exact Under.hav _ _ _ | refine Under.upd rfl ?_), ?_, ?_⟩
    · exact ⟨i + 1, rfl, by omega, allIn_snoc hx hall (by omega), rfl, rfl⟩
    · simp only [L_vals, List.map, List.getD]; show l.length - (i + 1) < l.length - i; omega
  refine SL_nil ?_
  refine nx ?_
  refine SWP_seq ?_
  refine SWP_cf rfl ?_
  refine SWP_exit ?_
  refine ne ?_
  refine ne ?_
  refine be rfl ?_
  refine nx ?_
  refine SWP_seq ?_
  refine SWP_region ?_
  refine pB rfl rfl ?_
  refine SL_nil ?_
  refine nx ?_
  refine SWP_ret ?_
  refine fin [_] ⟨rfl, trivial⟩ ?_
  first | exact congrArg Value.bool (decide_eq_false fun h => by have := h x (List.mem_of_getElem? hx); omega).symm | (refine congrArg Value.bool (decide_eq_true ?_).symm; rw [List.take_of_length_le (by omega)] at hall; exact hall)

theorem withinL {m : Mem} {v : Value} {l : List Int} (h : RL m intE 1 v l) (lo hi : Int) : PureCall Try.prog 70 [v, .int .i64 lo, .int .i64 hi] m (.bool (decide (allIn lo hi l))) := by
  refine CallsS.pure ?_
  have hsm := h.small
  obtain ⟨pa, pcap, rfl⟩ := h.len
  refine enter Try.func70 Try.ntmps70 rfl rfl ?_
  refine SWP_seq ?_
  refine SWP_region ?_
  refine pB rfl rfl ?_
  refine SL_nil ?_
  refine nx ?_
  refine SWP_seq ?_
  refine SWP_seq ?_
  refine SWP_region ?_
  refine pI rfl rfl ?_
  refine SL_nil ?_
  refine nx ?_
  refine SWP_block ?_
  refine SWP_loop [6, 7, 8, 9, 10, 11, 12, 13, 14, 15, 16, 17, 18, 19, 20, 21, 22, 23, 24, 25, 26, 27] [7]
      (fun vs σ' m' => ∃ (i : Nat), vs = [.int .i64 (i : Nat)] ∧ i ≤ l.length ∧ allIn lo hi (l.take i) ∧ σ' = [] ∧ m = m')
      (fun vs => l.length - nOf (vs.getD 0 undef)) rfl ?_ ?_
  · exact ⟨0, rfl, by omega, fun x h => (by cases h), rfl, rfl⟩
  intro u0 vs0 σ0 m0 hJ0 _
  obtain ⟨i, rfl, hi, hall, rfl, rfl⟩ := hJ0
  refine SWP_seq ?_
  refine SWP_seq ?_
  refine SWP_region ?_
  first | refine pI rfl rfl ?_ | refine pu rfl rfl ?_
  first | refine pL rfl rfl ?_ | refine pu rfl rfl ?_
  refine pu rfl rfl ?_
  refine pc rfl rfl (fun c11 => ?_) (fun c11 => ?_)
  · skip
    refine SL_nil ?_
    refine nx ?_
    refine SWP_ct rfl ?_
    refine SWP_skip ?_
    refine nx ?_
    refine SWP_seq ?_
    refine SWP_block ?_
    refine SWP_seq ?_
    obtain ⟨x, hx⟩ : ∃ x, l[i]? = some x := ⟨_, List.getElem?_eq_getElem (by omega)⟩
    obtain ⟨ad, e0, _, hat⟩ := h.atI hx
    cases e0
    refine SWP_region ?_
    first | refine pL rfl rfl ?_ | refine pu rfl rfl ?_
    first | refine pI rfl rfl ?_ | refine pu rfl rfl ?_
    first | refine ia (es := 1) rfl rfl rfl (Nat.mul_one _) rfl rfl (by omega) rfl ?_ | refine iai (es := 1) rfl rfl rfl (Nat.mul_one _) rfl rfl (by omega) (by omega) rfl ?_
    refine ldA (v := .int .i64 _) rfl (by assumption) rfl rfl ?_
    first | refine pI rfl rfl ?_ | refine pu rfl rfl ?_
    refine pc rfl rfl (fun c19 => ?_) (fun c19 => ?_)
    · skip
      refine pB rfl rfl ?_
      refine SL_no rfl rfl ?_
      refine SL_no rfl rfl ?_
      refine SL_no rfl rfl ?_
      refine SL_no rfl rfl ?_
      refine SL_no rfl rfl ?_
      refine SL_no rfl rfl ?_
      refine pB rfl rfl ?_
      refine SL_nil ?_
      refine nx ?_
      refine SWP_ct rfl ?_
      refine SWP_seq ?_
      refine SWP_region ?_
      refine pB rfl rfl ?_
      refine SL_nil ?_
      refine nx ?_
      refine SWP_ret ?_
      refine br ?_
      refine nr ?_
      refine nr ?_
      refine br ?_
      refine nr ?_
      refine fin [_] ⟨rfl, trivial⟩ ?_
      first | exact congrArg Value.bool (decide_eq_false fun h => by have := h x (List.mem_of_getElem? hx); omega).symm | (refine congrArg Value.bool (decide_eq_true ?_).symm; rw [List.take_of_length_le (by omega)] at hall; exact hall)
    refine pB rfl rfl ?_
    refine SL_yes rfl ?_
    first | refine pL rfl rfl ?_ | refine pu rfl rfl ?_
    refine SL_yes rfl ?_
    first | refine pI rfl rfl ?_ | refine pu rfl rfl ?_
    refine SL_yes rfl ?_
    first | refine ia (es := 1) rfl rfl rfl (Nat.mul_one _) rfl rfl (by omega) rfl ?_ | refine iai (es := 1) rfl rfl rfl (Nat.mul_one _) rfl rfl (by omega) (by omega) rfl ?_
    refine SL_yes rfl ?_
    refine ldA (v := .int .i64 _) rfl (by assumption) rfl rfl ?_
    refine SL_yes rfl ?_
    first | refine pI rfl rfl ?_ | refine pu rfl rfl ?_
    refine SL_yes rfl ?_
    refine pc rfl rfl (fun c26 => ?_) (fun c26 => ?_)
    · skip
      refine pB rfl rfl ?_
      refine SL_nil ?_
      refine nx ?_
      refine SWP_ct rfl ?_
      refine SWP_seq ?_
      refine SWP_region ?_
      refine pB rfl rfl ?_
      refine SL_nil ?_
      refine nx ?_
      refine SWP_ret ?_
      refine br ?_
      refine nr ?_
      refine nr ?_
      refine br ?_
      refine nr ?_
      refine fin [_] ⟨rfl, trivial⟩ ?_
      first | exact congrArg Value.bool (decide_eq_false fun h => by have := h x (List.mem_of_getElem? hx); omega).symm | (refine congrArg Value.bool (decide_eq_true ?_).symm; rw [List.take_of_length_le (by omega)] at hall; exact hall)
    refine pB rfl rfl ?_
    refine SL_nil ?_
    refine nx ?_
    refine SWP_cf rfl ?_
    refine SWP_skip ?_
    refine nb ?_
    refine nx ?_
    refine SWP_region ?_
    first | refine pI rfl rfl ?_ | refine pu rfl rfl ?_
    first | refine pw rfl rfl (w64 (by omega) (by omega)) ?_ | refine pu rfl rfl ?_
    refine pI rfl rfl ?_
    refine SL_nil ?_
    refine nx ?_
    refine ⟨by repeat (first | exact Under.upds rfl (Under.hav _ _ _) | exact Under.hav _ _ _ | refine Under.upd rfl ?_), ?_, ?_⟩
    · exact ⟨i + 1, rfl, by omega, allIn_snoc hx hall (by omega), rfl, rfl⟩
    · simp only [L_vals, List.map, List.getD]; show l.length - (i + 1) < l.length - i; omega
  refine SL_nil ?_
  refine nx ?_
  refine SWP_cf rfl ?_
  refine SWP_exit ?_
  refine ne ?_
  refine ne ?_
  refine be rfl ?_
  refine nx ?_
  refine SWP_seq ?_
  refine SWP_region ?_
  refine pB rfl rfl ?_
  refine SL_nil ?_
  refine nx ?_
  refine SWP_ret ?_
  refine fin [_] ⟨rfl, trivial⟩ ?_
  first | exact congrArg Value.bool (decide_eq_false fun h => by have := h x (List.mem_of_getElem? hx); omega).symm | (refine congrArg Value.bool (decide_eq_true ?_).symm; rw [List.take_of_length_le (by omega)] at hall; exact hall)

theorem indexI {m : Mem} {v : Value} {l : List Int} (h : RL m intE 1 v l) (x : Int) : CallsS Try.prog 85 [v, .int .i64 x].toArray [] m fun r σ' m' => σ' = [] ∧ m' = m ∧ ∃ k : Int, r = .int .i64 k ∧ (0 ≤ k ↔ x ∈ l) := by
  refine CallsS.forget (R := fun r => ∃ k : Int, r = .int .i64 k ∧ (0 ≤ k ↔ x ∈ l)) ?_
  have hsm := h.small
  obtain ⟨pa, pcap, rfl⟩ := h.len
  refine enter Try.func85 Try.ntmps85 rfl rfl ?_
  refine SWP_seq ?_
  refine SWP_region ?_
  refine pI rfl rfl ?_
  refine SL_nil ?_
  refine nx ?_
  refine SWP_seq ?_
  refine SWP_seq ?_
  refine SWP_region ?_
  first | refine pL rfl rfl ?_ | refine pu rfl rfl ?_
  refine pu rfl rfl ?_
  refine pI rfl rfl ?_
  refine SL_nil ?_
  refine nx ?_
  refine SWP_block ?_
  refine SWP_loop [4, 5, 8, 9, 10, 11, 12, 13, 14, 15, 16, 17, 18] [8]
      (fun vs σ' m' => ∃ (i : Nat), vs = [.int .i64 (i : Nat)] ∧ i ≤ l.length ∧ x ∉ l.take i ∧ σ' = [] ∧ m = m')
      (fun vs => l.length - nOf (vs.getD 0 undef)) rfl ?_ ?_
  · exact ⟨0, rfl, by omega, by simp, rfl, rfl⟩
  intro u0 vs0 σ0 m0 hJ0 _
  obtain ⟨i, rfl, hi, hno, rfl, rfl⟩ := hJ0
  refine SWP_seq ?_
  refine SWP_region ?_
  refine pc rfl rfl (fun c9 => ?_) (fun c9 => ?_)
  · skip
    refine SL_nil ?_
    refine nx ?_
    refine SWP_seq ?_
    refine SWP_ct rfl ?_
    refine SWP_skip ?_
    refine nx ?_
    refine SWP_seq ?_
    refine SWP_block ?_
    refine SWP_seq ?_
    obtain ⟨y, hy⟩ : ∃ y, l[i]? = some y := ⟨_, List.getElem?_eq_getElem (by omega)⟩
    obtain ⟨ad, e0, _, hat⟩ := h.atI hy
    cases e0
    refine SWP_region ?_
    first | refine pI rfl rfl ?_ | refine pu rfl rfl ?_
    first | refine pI rfl rfl ?_ | refine pu rfl rfl ?_
    refine SL_nil ?_
    refine nx ?_
    refine SWP_seq ?_
    refine SWP_region ?_
    first | refine pI rfl rfl ?_ | refine pu rfl rfl ?_
    first | refine pL rfl rfl ?_ | refine pu rfl rfl ?_
    first | refine pI rfl rfl ?_ | refine pu rfl rfl ?_
    first | refine ia (es := 1) rfl rfl rfl (Nat.mul_one _) rfl rfl (by omega) rfl ?_ | refine iai (es := 1) rfl rfl rfl (Nat.mul_one _) rfl rfl (by omega) (by omega) rfl ?_
    refine ldA (v := .int .i64 _) rfl (by assumption) rfl rfl ?_
    refine pc rfl rfl (fun c16 => ?_) (fun c16 => ?_)
    · skip
      refine SL_nil ?_
      refine nx ?_
      refine SWP_ct rfl ?_
      refine SWP_seq ?_
      refine SWP_region ?_
      first | refine pI rfl rfl ?_ | refine pu rfl rfl ?_
      first | refine pI rfl rfl ?_ | refine pu rfl rfl ?_
      refine SL_nil ?_
      refine nx ?_
      refine SWP_ret ?_
      refine br ?_
      refine nr ?_
      refine nr ?_
      refine br ?_
      refine nr ?_
      refine fin [_] ⟨rfl, trivial⟩ ?_
      exact ⟨_, rfl, fun _ => by rw [c16]; exact List.mem_of_getElem? hy, fun _ => by omega⟩
    refine SL_nil ?_
    refine nx ?_
    refine SWP_cf rfl ?_
    refine SWP_skip ?_
    refine nb ?_
    refine nx ?_
    refine SWP_region ?_
    first | refine pw rfl rfl (w64 (by omega) (by omega)) ?_ | refine pu rfl rfl ?_
    refine pI rfl rfl ?_
    refine SL_nil ?_
    refine nx ?_
    refine ⟨by repeat (first | exact Under.upds rfl (Under.hav _ _ _) | exact Under.hav _ _ _ | refine Under.upd rfl ?_), ?_, ?_⟩
    · refine ⟨i + 1, rfl, by omega, fun hm => ?_, rfl, rfl⟩
      rw [take_snocA hy] at hm
      rcases List.mem_append.1 hm with hm | hm
      · exact hno hm
      · rw [List.mem_singleton] at hm; exact c16 hm
    · simp only [L_vals, List.map, List.getD]; show l.length - (i + 1) < l.length - i; omega
  refine SL_nil ?_
  refine nx ?_
  refine SWP_seq ?_
  refine SWP_cf rfl ?_
  refine SWP_exit ?_
  refine ne ?_
  refine ne ?_
  refine be rfl ?_
  refine nx ?_
  refine SWP_seq ?_
  refine SWP_region ?_
  refine pI rfl rfl ?_
  refine SL_nil ?_
  refine nx ?_
  refine SWP_ret ?_
  refine fin [_] ⟨rfl, trivial⟩ ?_
  refine ⟨_, rfl, fun h => by omega, fun hm => ?_⟩
  rw [List.take_of_length_le (by omega)] at hno
  exact absurd hm hno

theorem containsI {m : Mem} {v : Value} {l : List Int} (h : RL m intE 1 v l) (x : Int) : PureCall Try.prog 60 [v, .int .i64 x] m (.bool (decide (x ∈ l))) := by
  refine CallsS.pure ?_
  refine enter Try.func60 Try.ntmps60 rfl rfl ?_
  refine SWP_seq ?_
  refine SWP_region ?_
  refine pB rfl rfl ?_
  refine SL_nil ?_
  refine nx ?_
  refine SWP_seq ?_
  refine SWP_region ?_
  first | refine pL rfl rfl ?_ | refine pu rfl rfl ?_
  first | refine pI rfl rfl ?_ | refine pu rfl rfl ?_
  refine SL_call rfl rfl cb85 (indexI h x) rfl (fun v1_2 σ1_2 m1_2 hl1_2 hR1_2 => ?_)
  obtain ⟨rfl, hm1_2, k, rfl, hk⟩ := hR1_2
  have hn1_2 := hm1_2.symm
  subst hn1_2
  refine pu rfl rfl ?_
  refine pB rfl rfl ?_
  refine SL_nil ?_
  refine nx ?_
  refine SWP_ret ?_
  refine fin [_] ⟨rfl, trivial⟩ ?_
  exact congrArg Value.bool (decide_eq_decide.2 hk)

theorem nodup_snoc {l : List Int} {x : Int} {i : Nat} (hx : l[i]? = some x) : (l.take (i + 1)).Nodup ↔ (l.take i).Nodup ∧ x ∉ l.take i := by
  rw [take_snocA hx, List.nodup_append]
  constructor
  · exact fun h => ⟨h.1, fun hm => h.2.2 x hm x (by simp) rfl⟩
  · exact fun h => ⟨h.1, by simp, fun a ha b hb e => by simp only [List.mem_singleton] at hb; subst hb; subst e; exact h.2 ha⟩
theorem not_nodup_take {l : List Int} {x : Int} {i : Nat} (hx : l[i]? = some x) (h : x ∈ l.take i) : ¬ l.Nodup := fun hn => ((nodup_snoc hx).1 (hn.sublist (List.take_sublist _ _))).2 h

theorem repeatedI {m : Mem} {v : Value} {l : List Int} (h : RL m intE 1 v l) : PureCall Try.prog 57 [v] m (.bool (decide (¬ l.Nodup))) := by
  refine CallsS.pure ?_
  have hsm := h.small
  obtain ⟨pa, pcap, rfl⟩ := h.len
  obtain ⟨hcp, _⟩ := h.capI
  refine enter Try.func57 Try.ntmps57 rfl rfl ?_
  refine SWP_seq ?_
  refine SWP_region ?_
  refine pB rfl rfl ?_
  refine SL_nil ?_
  refine nx ?_
  refine SWP_seq ?_
  refine SWP_seq ?_
  refine SWP_region ?_
  first | refine pL rfl rfl ?_ | refine pu rfl rfl ?_
  refine pu rfl rfl ?_
  refine pI rfl rfl ?_
  refine SL_nil ?_
  refine nx ?_
  refine SWP_block ?_
  refine SWP_loop [2, 3, 4, 7, 8, 9, 10, 11, 12, 13, 14, 15, 16, 17] [7]
      (fun vs σ' m' => ∃ (i : Nat), vs = [.int .i64 (i : Nat)] ∧ i ≤ l.length ∧ (l.take i).Nodup ∧ σ' = [] ∧ m = m')
      (fun vs => l.length - nOf (vs.getD 0 undef)) rfl ?_ ?_
  · exact ⟨0, rfl, by omega, by simp, rfl, rfl⟩
  intro u0 vs0 σ0 m0 hJ0 _
  obtain ⟨i, rfl, hi, hnd, rfl, rfl⟩ := hJ0
  refine SWP_seq ?_
  refine SWP_region ?_
  refine pc rfl rfl (fun c8 => ?_) (fun c8 => ?_)
  · skip
    refine SL_nil ?_
    refine nx ?_
    refine SWP_seq ?_
    refine SWP_ct rfl ?_
    refine SWP_skip ?_
    refine nx ?_
    refine SWP_seq ?_
    refine SWP_block ?_
    refine SWP_seq ?_
    obtain ⟨x, hx⟩ : ∃ x, l[i]? = some x := ⟨_, List.getElem?_eq_getElem (by omega)⟩
    obtain ⟨ad, e0, _, hat⟩ := h.atI hx
    cases e0
    refine SWP_region ?_
    first | refine pI rfl rfl ?_ | refine pu rfl rfl ?_
    first | refine ia (es := 1) rfl rfl rfl (Nat.mul_one _) rfl rfl (by omega) rfl ?_ | refine iai (es := 1) rfl rfl rfl (Nat.mul_one _) rfl rfl (by omega) (by omega) rfl ?_
    refine ldA (v := .int .i64 _) rfl (by assumption) rfl rfl ?_
    first | refine pI rfl rfl ?_ | refine pu rfl rfl ?_
    refine pI rfl rfl ?_
    refine SL_nil ?_
    refine nx ?_
    refine SWP_seq ?_
    refine SWP_region ?_
    first | refine pL rfl rfl ?_ | refine pu rfl rfl ?_
    first | refine pI rfl rfl ?_ | refine pu rfl rfl ?_
    refine slh (size := 1) rfl rfl rfl rfl rfl (by omega) (by omega) rfl ?_
    have hsub := RL.sub intE_len h (Nat.zero_le i) (by omega)
    rw [List.drop_zero] at hsub
    rw [Int.toNat_natCast]
    refine pI rfl rfl ?_
    refine SL_pcall rfl rfl cb60 (containsI hsub x) rfl ?_
    refine psp 16 rfl (fun c16 => ?_) (fun c16 => ?_)
    · skip
      refine SL_nil ?_
      refine nx ?_
      refine SWP_ct rfl ?_
      refine SWP_seq ?_
      refine SWP_region ?_
      refine pB rfl rfl ?_
      refine SL_nil ?_
      refine nx ?_
      refine SWP_ret ?_
      refine br ?_
      refine nr ?_
      refine nr ?_
      refine br ?_
      refine nr ?_
      refine fin [_] ⟨rfl, trivial⟩ ?_
      exact congrArg Value.bool (decide_eq_true (not_nodup_take hx c16)).symm
    refine SL_nil ?_
    refine nx ?_
    refine SWP_cf rfl ?_
    refine SWP_skip ?_
    refine nb ?_
    refine nx ?_
    refine SWP_region ?_
    first | refine pw rfl rfl (w64 (by omega) (by omega)) ?_ | refine pu rfl rfl ?_
    refine pI rfl rfl ?_
    refine SL_nil ?_
    refine nx ?_
    refine ⟨by repeat (first | exact Under.upds rfl (Under.hav _ _ _) | exact Under.hav _ _ _ | refine Under.upd rfl ?_), ?_, ?_⟩
    · exact ⟨i + 1, rfl, by omega, (nodup_snoc hx).2 ⟨hnd, c16⟩, rfl, rfl⟩
    · simp only [L_vals, List.map, List.getD]; show l.length - (i + 1) < l.length - i; omega
  refine SL_nil ?_
  refine nx ?_
  refine SWP_seq ?_
  refine SWP_cf rfl ?_
  refine SWP_exit ?_
  refine ne ?_
  refine ne ?_
  refine be rfl ?_
  refine nx ?_
  refine SWP_seq ?_
  refine SWP_region ?_
  refine pB rfl rfl ?_
  refine SL_nil ?_
  refine nx ?_
  refine SWP_ret ?_
  refine fin [_] ⟨rfl, trivial⟩ ?_
  refine congrArg Value.bool (decide_eq_false ?_).symm
  rw [List.take_of_length_le (by omega)] at hnd
  exact Classical.not_not.2 hnd

theorem twiceR {m : Mem} {v : Value} {l : List Int} (h : RL m intE 1 v l) : PureCall Try.prog 71 [v] m (.bool (decide (¬ l.Nodup))) := by
  refine CallsS.pure ?_
  have hsm := h.small
  obtain ⟨pa, pcap, rfl⟩ := h.len
  refine enter Try.func71 Try.ntmps71 rfl rfl ?_
  refine SWP_seq ?_
  refine SWP_region ?_
  refine pB rfl rfl ?_
  refine SL_nil ?_
  refine nx ?_
  refine SWP_seq ?_
  refine SWP_seq ?_
  refine SWP_region ?_
  refine pI rfl rfl ?_
  refine SL_nil ?_
  refine nx ?_
  refine SWP_block ?_
  refine SWP_loop [2, 3, 4, 5, 6, 7, 8, 9, 10, 11, 12, 13, 14, 15, 16, 17, 18, 19, 20, 21, 22, 23, 24] [3]
      (fun vs σ' m' => ∃ (i : Nat), vs = [.int .i64 (i : Nat)] ∧ i ≤ l.length ∧ (l.take i).Nodup ∧ σ' = [] ∧ m = m')
      (fun vs => l.length - nOf (vs.getD 0 undef)) rfl ?_ ?_
  · exact ⟨0, rfl, by omega, by simp, rfl, rfl⟩
  intro u0 vs0 σ0 m0 hJ0 _
  obtain ⟨i, rfl, hi, hnd, rfl, rfl⟩ := hJ0
  refine SWP_seq ?_
  refine SWP_seq ?_
  refine SWP_region ?_
  first | refine pI rfl rfl ?_ | refine pu rfl rfl ?_
  first | refine pL rfl rfl ?_ | refine pu rfl rfl ?_
  refine pu rfl rfl ?_
  refine pc rfl rfl (fun c8 => ?_) (fun c8 => ?_)
  · skip
    refine SL_nil ?_
    refine nx ?_
    refine SWP_ct rfl ?_
    refine SWP_skip ?_
    refine nx ?_
    refine SWP_seq ?_
    refine SWP_block ?_
    refine SWP_seq ?_
    obtain ⟨x, hx⟩ : ∃ x, l[i]? = some x := ⟨_, List.getElem?_eq_getElem (by omega)⟩
    obtain ⟨ad, e0, _, hat⟩ := h.atI hx
    cases e0
    refine SWP_region ?_
    refine pI rfl rfl ?_
    refine SL_nil ?_
    refine nx ?_
    refine SWP_block ?_
    refine SWP_loop [2, 4, 11, 12, 13, 14, 15, 16, 17, 18, 19, 20, 21, 22, 23, 24] [4]
        (fun vs σ' m' => ∃ (k : Nat), vs = [.int .i64 (k : Nat)] ∧ k ≤ i ∧ x ∉ (l.take i).take k ∧ σ' = [] ∧ m = m')
        (fun vs => i - nOf (vs.getD 0 undef)) rfl ?_ ?_
    · exact ⟨0, rfl, by omega, by simp, rfl, rfl⟩
    intro u1 vs1 σ1 m1 hJ1 _
    obtain ⟨k, rfl, hk, hno, rfl, rfl⟩ := hJ1
    refine SWP_seq ?_
    refine SWP_seq ?_
    refine SWP_region ?_
    first | refine pI rfl rfl ?_ | refine pu rfl rfl ?_
    first | refine pI rfl rfl ?_ | refine pu rfl rfl ?_
    refine pc rfl rfl (fun c13 => ?_) (fun c13 => ?_)
    · skip
      refine SL_nil ?_
      refine nx ?_
      refine SWP_ct rfl ?_
      refine SWP_skip ?_
      refine nx ?_
      refine SWP_seq ?_
      refine SWP_block ?_
      refine SWP_seq ?_
      obtain ⟨y, hy⟩ : ∃ y, l[k]? = some y := ⟨_, List.getElem?_eq_getElem (by omega)⟩
      have hy' : (l.take i)[k]? = some y := by rw [List.getElem?_take, if_pos (by omega)]; exact hy
      obtain ⟨ad2, e2, _, hat2⟩ := h.atI hy
      cases e2
      refine SWP_draws (by kernel_rfl) (by kernel_rfl) ?_
      first | refine pL rfl rfl ?_ | refine pu rfl rfl ?_
      first | refine pI rfl rfl ?_ | refine pu rfl rfl ?_
      first | refine ia (es := 1) rfl rfl rfl (Nat.mul_one _) rfl rfl (by omega) rfl ?_ | refine iai (es := 1) rfl rfl rfl (Nat.mul_one _) rfl rfl (by omega) (by omega) rfl ?_
      refine ldA (v := .int .i64 _) rfl (by assumption) rfl rfl ?_
      first | refine pL rfl rfl ?_ | refine pu rfl rfl ?_
      first | refine pI rfl rfl ?_ | refine pu rfl rfl ?_
      first | refine ia (es := 1) rfl rfl rfl (Nat.mul_one _) rfl rfl (by omega) rfl ?_ | refine iai (es := 1) rfl rfl rfl (Nat.mul_one _) rfl rfl (by omega) (by omega) rfl ?_
      refine ldA (v := .int .i64 _) rfl (by assumption) rfl rfl ?_
      refine pc rfl rfl (fun c24 => ?_) (fun c24 => ?_)
      · skip
        refine SL_nil ?_
        refine nx ?_
        refine SWP_ct rfl ?_
        refine SWP_seq ?_
        refine SWP_region ?_
        refine pB rfl rfl ?_
        refine SL_nil ?_
        refine nx ?_
        refine SWP_ret ?_
        refine br ?_
        refine nr ?_
        refine nr ?_
        refine br ?_
        refine br ?_
        refine nr ?_
        refine nr ?_
        refine br ?_
        refine nr ?_
        refine fin [_] ⟨rfl, trivial⟩ ?_
        exact congrArg Value.bool (decide_eq_true (not_nodup_take hx (by rw [c24]; exact List.mem_of_getElem? hy'))).symm
      refine SL_nil ?_
      refine nx ?_
      refine SWP_cf rfl ?_
      refine SWP_skip ?_
      refine nb ?_
      refine nx ?_
      refine SWP_region ?_
      first | refine pI rfl rfl ?_ | refine pu rfl rfl ?_
      first | refine pw rfl rfl (w64 (by omega) (by omega)) ?_ | refine pu rfl rfl ?_
      refine pI rfl rfl ?_
      refine SL_nil ?_
      refine nx ?_
      refine ⟨by repeat (first | exact Under.upds rfl (Under.hav _ _ _) | exact Under.hav _ _ _ | refine Under.upd rfl ?_ | refine Under.upds rfl ?_ | refine Under.hav2 rfl ?_), ?_, ?_⟩
      · refine ⟨k + 1, rfl, by omega, fun hm => ?_, rfl, rfl⟩
        rw [take_snocA hy'] at hm
        rcases List.mem_append.1 hm with hm | hm
        · exact hno hm
        · rw [List.mem_singleton] at hm; exact c24 hm
      · simp only [L_vals, List.map, List.getD]; show i - (k + 1) < i - k; omega
    refine SL_nil ?_
    refine nx ?_
    refine SWP_cf rfl ?_
    refine SWP_exit ?_
    refine ne ?_
    refine ne ?_
    refine be rfl ?_
    refine nb ?_
    refine nx ?_
    refine SWP_region ?_
    first | refine pI rfl rfl ?_ | refine pu rfl rfl ?_
    first | refine pw rfl rfl (w64 (by omega) (by omega)) ?_ | refine pu rfl rfl ?_
    refine pI rfl rfl ?_
    refine SL_nil ?_
    refine nx ?_
    refine ⟨by repeat (first | exact Under.upds rfl (Under.hav _ _ _) | exact Under.hav _ _ _ | refine Under.upd rfl ?_ | refine Under.upds rfl ?_ | refine Under.hav2 rfl ?_), ?_, ?_⟩
    · rw [show k = i by omega, List.take_take, Nat.min_self] at hno
      exact ⟨i + 1, rfl, by omega, (nodup_snoc hx).2 ⟨hnd, hno⟩, rfl, rfl⟩
    · simp only [L_vals, List.map, List.getD]; show l.length - (i + 1) < l.length - i; omega
  refine SL_nil ?_
  refine nx ?_
  refine SWP_cf rfl ?_
  refine SWP_exit ?_
  refine ne ?_
  refine ne ?_
  refine be rfl ?_
  refine nx ?_
  refine SWP_seq ?_
  refine SWP_region ?_
  refine pB rfl rfl ?_
  refine SL_nil ?_
  refine nx ?_
  refine SWP_ret ?_
  refine fin [_] ⟨rfl, trivial⟩ ?_
  refine congrArg Value.bool (decide_eq_false ?_).symm
  rw [List.take_of_length_le (by omega)] at hnd
  exact Classical.not_not.2 hnd

set_option maxRecDepth 100000 in
theorem lineI {m : Mem} {g : Game} {l : Line} (hin : g.In m) (hl : l.In m) : PureCall Try.prog 34 [g.val, l.val] m (.int .i64 (lineErr g l)) := by
  refine CallsS.pure ?_
  dsimp only [Game.val, Line.val]
  refine enter Try.func34 Try.ntmps34 rfl rfl ?_
  refine SWP_seq ?_
  refine SWP_region ?_
  refine bx (v := .agg _) rfl rfl (fun B2 => ?_)
  refine bx (v := .agg _) rfl rfl (fun B3 => ?_)
  refine pI rfl rfl ?_
  refine SL_nil ?_
  refine nx ?_
  refine SWP_seq ?_
  refine SWP_seq ?_
  refine SWP_region ?_
  refine lw (v := .agg _) B2 0 rfl rfl rfl rfl ?_
  refine SL_call rfl rfl cb33 (CallsS.frame0 (checkI hin)) rfl (fun v1_1 σ1_1 m1_1 hl1_1 hR1_1 => ?_)
  obtain ⟨σc, rfl, rfl, hm1_1, s, rfl⟩ := hR1_1
  have hn1_1 := hm1_1.symm
  subst hn1_1
  refine pu rfl rfl ?_
  first | refine pI rfl rfl ?_ | refine pu rfl rfl ?_
  first | refine pS rfl rfl ?_ | refine pu rfl rfl ?_
  first | refine pI rfl rfl ?_ | refine pu rfl rfl ?_
  first | refine pS rfl rfl ?_ | refine pu rfl rfl ?_
  refine SL_nil ?_
  refine nx ?_
  refine SWP_seq ?_
  refine SWP_region ?_
  first | refine pI rfl rfl ?_ | refine pu rfl rfl ?_
  refine pc rfl rfl (fun c16 => ?_) (fun c16 => ?_)
  · skip
    refine SL_nil ?_
    refine nx ?_
    refine SWP_ct rfl ?_
    refine SWP_seq ?_
    refine SWP_region ?_
    first | refine pI rfl rfl ?_ | refine pu rfl rfl ?_
    first | refine pI rfl rfl ?_ | refine pu rfl rfl ?_
    refine SL_nil ?_
    refine nx ?_
    refine SWP_ret ?_
    refine nr ?_
    refine fin [_] ⟨rfl, trivial⟩ ?_
    refine congrArg (Value.int .i64) ?_
    unfold lineErr
    rw [if_pos (by omega)]
  refine SL_nil ?_
  refine nx ?_
  refine SWP_cf rfl ?_
  refine SWP_skip ?_
  refine nx ?_
  refine SWP_merge1 [4, 18, 19, 20, 21, 22, 23, 24, 25, 26, 27, 28, 29, 30, 31] []
      (fun vs σ' m' => vs = [] ∧ (l.main.length : Int) = g.main ∧ (l.bonus.length : Int) = g.bonus ∧ σ' = [(B3, Cells 29 l.enc), (B2, Cells 27 g.enc)] ∧ m = m')
      rfl ?_ ?_
  · skip
    refine SWP_seq ?_
    refine SWP_region ?_
    refine pu rfl rfl ?_
    refine lw (v := .slice _ _ _) B3 0 rfl rfl rfl rfl ?_
    refine pu rfl rfl ?_
    refine pu rfl rfl ?_
    refine lw (v := .int .i64 _) B2 3 rfl rfl rfl rfl ?_
    refine pc rfl rfl (fun c23 => ?_) (fun c23 => ?_)
    · skip
      refine pB rfl rfl ?_
      refine SL_no rfl rfl ?_
      refine SL_no rfl rfl ?_
      refine SL_no rfl rfl ?_
      refine SL_no rfl rfl ?_
      refine SL_no rfl rfl ?_
      refine SL_no rfl rfl ?_
      refine pB rfl rfl ?_
      refine SL_nil ?_
      refine nx ?_
      refine SWP_ct rfl ?_
      refine SWP_seq ?_
      refine SWP_region ?_
      refine pI rfl rfl ?_
      refine SL_nil ?_
      refine nx ?_
      refine SWP_ret ?_
      refine nr ?_
      refine fin [_] ⟨rfl, trivial⟩ ?_
      refine congrArg (Value.int .i64) ?_
      unfold lineErr
      rw [if_neg (by omega), if_pos (by omega)]
    refine pB rfl rfl ?_
    refine SL_yes rfl ?_
    refine pu rfl rfl ?_
    refine SL_yes rfl ?_
    refine lw (v := .slice _ _ _) B3 1 rfl rfl rfl rfl ?_
    refine SL_yes rfl ?_
    refine pu rfl rfl ?_
    refine SL_yes rfl ?_
    refine pu rfl rfl ?_
    refine SL_yes rfl ?_
    refine lw (v := .int .i64 _) B2 5 rfl rfl rfl rfl ?_
    refine SL_yes rfl ?_
    refine pc rfl rfl (fun c30 => ?_) (fun c30 => ?_)
    · skip
      refine pB rfl rfl ?_
      refine SL_nil ?_
      refine nx ?_
      refine SWP_ct rfl ?_
      refine SWP_seq ?_
      refine SWP_region ?_
      refine pI rfl rfl ?_
      refine SL_nil ?_
      refine nx ?_
      refine SWP_ret ?_
      refine nr ?_
      refine fin [_] ⟨rfl, trivial⟩ ?_
      refine congrArg (Value.int .i64) ?_
      unfold lineErr
      rw [if_neg (by omega), if_pos (by omega)]
    refine pB rfl rfl ?_
    refine SL_nil ?_
    refine nx ?_
    refine SWP_cf rfl ?_
    refine SWP_skip ?_
    refine nx ?_
    refine ⟨by repeat (first | with_reducible exact Under.refl _ _ | exact Under.upds rfl (Under.hav _ _ _) | exact Under.hav _ _ _ | refine Under.upd rfl ?_ | refine Under.upds rfl ?_ | refine Under.hav2 rfl ?_), ?_⟩
    exact ⟨rfl, by omega, by omega, rfl, rfl⟩
  intro uM0 vM0 σM0 mM0 hM0 _
  obtain ⟨rfl, hm1, hm2, rfl, rfl⟩ := hM0
  have hz : gameErr g = 0 := by omega
  have hok := gameOk hz
  dsimp only [Line.enc, Game.enc]
  refine SWP_seq ?_
  refine SWP_region ?_
  refine pu rfl rfl ?_
  refine lw (v := .int .i64 _) B2 1 rfl rfl rfl rfl ?_
  refine pu rfl rfl ?_
  first | refine pB rfl rfl ?_ | refine pu rfl rfl ?_
  refine SL_nil ?_
  refine nx ?_
  refine SWP_seq ?_
  refine SWP_draws (by kernel_rfl) (by kernel_rfl) ?_
  refine pu rfl rfl ?_
  refine lw (v := .int .i64 _) B2 4 rfl rfl rfl rfl ?_
  refine pI rfl rfl ?_
  refine pI rfl rfl ?_
  refine SL_nil ?_
  refine nx ?_
  refine SWP_merge1 [8, 9, 37, 38, 39, 40] [8, 9]
      (fun vs σ' m' => vs = [.int .i64 (if g.kind = 2 then 0 else 1), .int .i64 (if g.kind = 2 then g.of - 1 else g.of)] ∧ σ' = [(B3, Cells 29 l.enc), (B2, Cells 27 g.enc)] ∧ m = m')
      rfl ?_ ?_
  · skip
    refine SWP_seq ?_
    refine SWP_region ?_
    refine pu (v := .bool (decide (g.kind = 2))) rfl rfl ?_
    refine psp 37 rfl (fun c37 => ?_) (fun c37 => ?_)
    · skip
      refine SL_nil ?_
      refine nx ?_
      refine SWP_ct rfl ?_
      refine SWP_draws (by kernel_rfl) (by kernel_rfl) ?_
      refine pu rfl rfl ?_
      refine lw (v := .int .i64 _) B2 4 rfl rfl rfl rfl ?_
      refine pw rfl rfl (w64 (by have := hok.mx.h3; have := hok.mx.h4; omega) (by have := hok.mx.h3; have := hok.mx.h4; omega)) ?_
      refine pI rfl rfl ?_
      first | refine pI rfl rfl ?_ | refine pu rfl rfl ?_
      refine SL_nil ?_
      refine nx ?_
      refine ⟨by repeat (first | with_reducible exact Under.refl _ _ | exact Under.upds rfl (Under.hav _ _ _) | exact Under.hav _ _ _ | refine Under.upd rfl ?_ | refine Under.upds rfl ?_ | refine Under.hav2 rfl ?_), ?_⟩
      refine ⟨?_, rfl, rfl⟩
      first | (rw [if_pos c37, if_pos c37]; rfl) | (rw [if_neg c37, if_neg c37]; rfl)
    refine SL_nil ?_
    refine nx ?_
    refine SWP_cf rfl ?_
    refine SWP_skip ?_
    refine nx ?_
    refine ⟨by repeat (first | with_reducible exact Under.refl _ _ | exact Under.upds rfl (Under.hav _ _ _) | exact Under.hav _ _ _ | refine Under.upd rfl ?_ | refine Under.upds rfl ?_ | refine Under.hav2 rfl ?_), ?_⟩
    refine ⟨?_, rfl, rfl⟩
    first | (rw [if_pos c37, if_pos c37]; rfl) | (rw [if_neg c37, if_neg c37]; rfl)
  intro uM1 vM1 σM1 mM1 hM1 _
  obtain ⟨rfl, rfl, rfl⟩ := hM1
  dsimp only [Line.enc, Game.enc]
  refine SWP_merge1 [4, 41, 42, 43, 44, 45, 46, 47, 48, 49, 50, 51, 52, 53, 54] []
      (fun vs σ' m' => vs = [] ∧ (allIn (if g.kind = 2 then 0 else 1) (if g.kind = 2 then g.of - 1 else g.of) l.main ∧ allIn 1 g.bonusOf l.bonus) ∧ σ' = [(B3, Cells 29 l.enc), (B2, Cells 27 g.enc)] ∧ m = m')
      rfl ?_ ?_
  · skip
    refine SWP_seq ?_
    refine SWP_region ?_
    refine pu rfl rfl ?_
    refine lw (v := .slice _ _ _) B3 0 rfl rfl rfl rfl ?_
    first | refine pI rfl rfl ?_ | refine pu rfl rfl ?_
    first | refine pI rfl rfl ?_ | refine pu rfl rfl ?_
    refine SL_pcall rfl rfl cb56 (insideI hl.mn _ _) rfl ?_
    refine psp 45 rfl (fun c45 => ?_) (fun c45 => ?_)
    · skip
      refine pB rfl rfl ?_
      refine pB rfl rfl ?_
      refine SL_yes rfl ?_
      refine pu rfl rfl ?_
      refine SL_yes rfl ?_
      refine lw (v := .slice _ _ _) B3 1 rfl rfl rfl rfl ?_
      refine SL_yes rfl ?_
      refine pu rfl rfl ?_
      refine SL_yes rfl ?_
      refine lw (v := .int .i64 _) B2 6 rfl rfl rfl rfl ?_
      refine SL_yes rfl ?_
      refine SL_pcall rfl rfl cb56 (insideI hl.bn _ _) rfl ?_
      refine psp 52 rfl (fun c52 => ?_) (fun c52 => ?_)
      · skip
        refine SL_yes rfl ?_
        refine pB rfl rfl ?_
        refine pB rfl rfl ?_
        refine SL_nil ?_
        refine nx ?_
        refine SWP_cf rfl ?_
        refine SWP_skip ?_
        refine nx ?_
        refine ⟨by repeat (first | with_reducible exact Under.refl _ _ | exact Under.upds rfl (Under.hav _ _ _) | exact Under.hav _ _ _ | refine Under.upd rfl ?_ | refine Under.upds rfl ?_ | refine Under.hav2 rfl ?_), ?_⟩
        exact ⟨rfl, ⟨c45, c52⟩, rfl, rfl⟩
      refine SL_yes rfl ?_
      refine pB rfl rfl ?_
      refine pB rfl rfl ?_
      refine SL_nil ?_
      refine nx ?_
      refine SWP_ct rfl ?_
      refine SWP_seq ?_
      refine SWP_region ?_
      refine pI rfl rfl ?_
      refine SL_nil ?_
      refine nx ?_
      refine SWP_ret ?_
      refine nr ?_
      refine fin [_] ⟨rfl, trivial⟩ ?_
      refine congrArg (Value.int .i64) ?_
      unfold lineErr
      rw [if_neg (by omega), if_neg (by omega), if_pos (.inr c52)]
    refine pB rfl rfl ?_
    refine pB rfl rfl ?_
    refine SL_no rfl rfl ?_
    refine SL_no rfl rfl ?_
    refine SL_no rfl rfl ?_
    refine SL_no rfl rfl ?_
    refine SL_no rfl rfl ?_
    refine SL_no rfl rfl ?_
    refine pB rfl rfl ?_
    refine SL_nil ?_
    refine nx ?_
    refine SWP_ct rfl ?_
    refine SWP_seq ?_
    refine SWP_region ?_
    refine pI rfl rfl ?_
    refine SL_nil ?_
    refine nx ?_
    refine SWP_ret ?_
    refine nr ?_
    refine fin [_] ⟨rfl, trivial⟩ ?_
    refine congrArg (Value.int .i64) ?_
    unfold lineErr
    rw [if_neg (by omega), if_neg (by omega), if_pos (.inl c45)]
  intro uM2 vM2 σM2 mM2 hM2 _
  obtain ⟨rfl, hai, rfl, rfl⟩ := hM2
  dsimp only [Line.enc, Game.enc]
  refine SWP_seq ?_
  refine SWP_seq ?_
  refine SWP_region ?_
  refine pu (v := .bool (decide (g.kind = 2))) rfl rfl ?_
  refine psp 55 rfl (fun c55 => ?_) (fun c55 => ?_)
  · skip
    refine pB rfl rfl ?_
    refine pB rfl rfl ?_
    refine SL_no rfl rfl ?_
    refine SL_no rfl rfl ?_
    refine SL_no rfl rfl ?_
    refine pB rfl rfl ?_
    refine pB rfl rfl ?_
    refine SL_yes rfl ?_
    refine pu rfl rfl ?_
    refine SL_yes rfl ?_
    refine lw (v := .slice _ _ _) B3 1 rfl rfl rfl rfl ?_
    refine SL_yes rfl ?_
    refine SL_pcall rfl rfl cb57 (repeatedI hl.bn) rfl ?_
    refine psp 65 rfl (fun c65 => ?_) (fun c65 => ?_)
    · skip
      refine pB rfl rfl ?_
      refine SL_nil ?_
      refine nx ?_
      refine SWP_ct rfl ?_
      refine SWP_seq ?_
      refine SWP_region ?_
      refine pI rfl rfl ?_
      refine SL_nil ?_
      refine nx ?_
      refine SWP_ret ?_
      refine nr ?_
      refine fin [_] ⟨rfl, trivial⟩ ?_
      refine congrArg (Value.int .i64) ?_
      unfold lineErr
      rw [if_neg (by omega), if_neg (by omega), if_neg (fun h => h.elim (fun h => h hai.1) (fun h => h hai.2))]
      first
        | exact (if_pos (.inl ⟨by omega, by assumption⟩)).symm
        | exact (if_pos (.inr (by assumption))).symm
        | exact (if_neg (fun h => h.elim (fun h => by first | exact absurd h.2 (by assumption) | exact absurd h.1 (by omega)) (by assumption))).symm
    refine pB rfl rfl ?_
    refine SL_nil ?_
    refine nx ?_
    refine SWP_cf rfl ?_
    refine SWP_skip ?_
    refine nx ?_
    refine SWP_seq ?_
    refine SWP_region ?_
    refine pI rfl rfl ?_
    refine SL_nil ?_
    refine nx ?_
    refine SWP_ret ?_
    refine fin [_] ⟨rfl, trivial⟩ ?_
    refine congrArg (Value.int .i64) ?_
    unfold lineErr
    rw [if_neg (by omega), if_neg (by omega), if_neg (fun h => h.elim (fun h => h hai.1) (fun h => h hai.2))]
    first
      | exact (if_pos (.inl ⟨by omega, by assumption⟩)).symm
      | exact (if_pos (.inr (by assumption))).symm
      | exact (if_neg (fun h => h.elim (fun h => by first | exact absurd h.2 (by assumption) | exact absurd h.1 (by omega)) (by assumption))).symm
  refine pB rfl rfl ?_
  refine pB rfl rfl ?_
  refine SL_yes rfl ?_
  refine pu rfl rfl ?_
  refine SL_yes rfl ?_
  refine lw (v := .slice _ _ _) B3 0 rfl rfl rfl rfl ?_
  refine SL_yes rfl ?_
  refine SL_pcall rfl rfl cb57 (repeatedI hl.mn) rfl ?_
  refine psp 60 rfl (fun c60 => ?_) (fun c60 => ?_)
  · skip
    refine pB rfl rfl ?_
    refine pB rfl rfl ?_
    refine SL_no rfl rfl ?_
    refine SL_no rfl rfl ?_
    refine SL_no rfl rfl ?_
    refine pB rfl rfl ?_
    refine SL_nil ?_
    refine nx ?_
    refine SWP_ct rfl ?_
    refine SWP_seq ?_
    refine SWP_region ?_
    refine pI rfl rfl ?_
    refine SL_nil ?_
    refine nx ?_
    refine SWP_ret ?_
    refine nr ?_
    refine fin [_] ⟨rfl, trivial⟩ ?_
    refine congrArg (Value.int .i64) ?_
    unfold lineErr
    rw [if_neg (by omega), if_neg (by omega), if_neg (fun h => h.elim (fun h => h hai.1) (fun h => h hai.2))]
    first
      | exact (if_pos (.inl ⟨by omega, by assumption⟩)).symm
      | exact (if_pos (.inr (by assumption))).symm
      | exact (if_neg (fun h => h.elim (fun h => by first | exact absurd h.2 (by assumption) | exact absurd h.1 (by omega)) (by assumption))).symm
  refine pB rfl rfl ?_
  refine pB rfl rfl ?_
  refine SL_yes rfl ?_
  refine pu rfl rfl ?_
  refine SL_yes rfl ?_
  refine lw (v := .slice _ _ _) B3 1 rfl rfl rfl rfl ?_
  refine SL_yes rfl ?_
  refine SL_pcall rfl rfl cb57 (repeatedI hl.bn) rfl ?_
  refine psp 65 rfl (fun c65 => ?_) (fun c65 => ?_)
  · skip
    refine pB rfl rfl ?_
    refine SL_nil ?_
    refine nx ?_
    refine SWP_ct rfl ?_
    refine SWP_seq ?_
    refine SWP_region ?_
    refine pI rfl rfl ?_
    refine SL_nil ?_
    refine nx ?_
    refine SWP_ret ?_
    refine nr ?_
    refine fin [_] ⟨rfl, trivial⟩ ?_
    refine congrArg (Value.int .i64) ?_
    unfold lineErr
    rw [if_neg (by omega), if_neg (by omega), if_neg (fun h => h.elim (fun h => h hai.1) (fun h => h hai.2))]
    first
      | exact (if_pos (.inl ⟨by omega, by assumption⟩)).symm
      | exact (if_pos (.inr (by assumption))).symm
      | exact (if_neg (fun h => h.elim (fun h => by first | exact absurd h.2 (by assumption) | exact absurd h.1 (by omega)) (by assumption))).symm
  refine pB rfl rfl ?_
  refine SL_nil ?_
  refine nx ?_
  refine SWP_cf rfl ?_
  refine SWP_skip ?_
  refine nx ?_
  refine SWP_seq ?_
  refine SWP_region ?_
  refine pI rfl rfl ?_
  refine SL_nil ?_
  refine nx ?_
  refine SWP_ret ?_
  refine fin [_] ⟨rfl, trivial⟩ ?_
  refine congrArg (Value.int .i64) ?_
  unfold lineErr
  rw [if_neg (by omega), if_neg (by omega), if_neg (fun h => h.elim (fun h => h hai.1) (fun h => h hai.2))]
  first
    | exact (if_pos (.inl ⟨by omega, by assumption⟩)).symm
    | exact (if_pos (.inr (by assumption))).symm
    | exact (if_neg (fun h => h.elim (fun h => by first | exact absurd h.2 (by assumption) | exact absurd h.1 (by omega)) (by assumption))).symm

set_option maxRecDepth 100000 in
theorem lineR {m : Mem} {g : Game} {l : Line} (hin : g.In m) (hl : l.In m) : PureCall Try.prog 38 [g.val, l.val] m (.int .i64 (lineErr g l)) := by
  refine CallsS.pure ?_
  dsimp only [Game.val, Line.val]
  refine enter Try.func38 Try.ntmps38 rfl rfl ?_
  refine SWP_seq ?_
  refine SWP_region ?_
  refine bx (v := .agg _) rfl rfl (fun B2 => ?_)
  refine bx (v := .agg _) rfl rfl (fun B3 => ?_)
  refine pI rfl rfl ?_
  refine SL_nil ?_
  refine nx ?_
  refine SWP_seq ?_
  refine SWP_region ?_
  refine lw (v := .agg _) B2 0 rfl rfl rfl rfl ?_
  refine SL_call rfl rfl cb37 (CallsS.frame0 (checkR hin)) rfl (fun v1_1 σ1_1 m1_1 hl1_1 hR1_1 => ?_)
  obtain ⟨σc, rfl, rfl, hm1_1, s, rfl⟩ := hR1_1
  have hn1_1 := hm1_1.symm
  subst hn1_1
  refine pu rfl rfl ?_
  first | refine pI rfl rfl ?_ | refine pu rfl rfl ?_
  first | refine pS rfl rfl ?_ | refine pu rfl rfl ?_
  first | refine pI rfl rfl ?_ | refine pu rfl rfl ?_
  first | refine pS rfl rfl ?_ | refine pu rfl rfl ?_
  refine SL_nil ?_
  refine nx ?_
  refine SWP_seq ?_
  refine SWP_seq ?_
  refine SWP_region ?_
  first | refine pI rfl rfl ?_ | refine pu rfl rfl ?_
  refine pc rfl rfl (fun c15 => ?_) (fun c15 => ?_)
  · skip
    refine SL_nil ?_
    refine nx ?_
    refine SWP_ct rfl ?_
    refine SWP_seq ?_
    refine SWP_region ?_
    first | refine pI rfl rfl ?_ | refine pu rfl rfl ?_
    first | refine pI rfl rfl ?_ | refine pu rfl rfl ?_
    refine SL_nil ?_
    refine nx ?_
    refine SWP_ret ?_
    refine nr ?_
    refine fin [_] ⟨rfl, trivial⟩ ?_
    refine congrArg (Value.int .i64) ?_
    unfold lineErr
    rw [if_pos (by omega)]
  refine SL_nil ?_
  refine nx ?_
  refine SWP_cf rfl ?_
  refine SWP_skip ?_
  refine nx ?_
  refine SWP_merge1 [4, 17, 18, 19, 20, 21, 22, 23, 24, 25, 26, 27, 28, 29, 30] []
      (fun vs σ' m' => vs = [] ∧ (l.main.length : Int) = g.main ∧ (l.bonus.length : Int) = g.bonus ∧ σ' = [(B3, Cells 29 l.enc), (B2, Cells 27 g.enc)] ∧ m = m')
      rfl ?_ ?_
  · skip
    refine SWP_seq ?_
    refine SWP_region ?_
    refine pu rfl rfl ?_
    refine lw (v := .slice _ _ _) B3 0 rfl rfl rfl rfl ?_
    refine pu rfl rfl ?_
    refine pu rfl rfl ?_
    refine lw (v := .int .i64 _) B2 3 rfl rfl rfl rfl ?_
    refine pc rfl rfl (fun c22 => ?_) (fun c22 => ?_)
    · skip
      refine pB rfl rfl ?_
      refine SL_no rfl rfl ?_
      refine SL_no rfl rfl ?_
      refine SL_no rfl rfl ?_
      refine SL_no rfl rfl ?_
      refine SL_no rfl rfl ?_
      refine SL_no rfl rfl ?_
      refine pB rfl rfl ?_
      refine SL_nil ?_
      refine nx ?_
      refine SWP_ct rfl ?_
      refine SWP_seq ?_
      refine SWP_region ?_
      refine pI rfl rfl ?_
      refine SL_nil ?_
      refine nx ?_
      refine SWP_ret ?_
      refine nr ?_
      refine fin [_] ⟨rfl, trivial⟩ ?_
      refine congrArg (Value.int .i64) ?_
      unfold lineErr
      rw [if_neg (by omega), if_pos (by omega)]
    refine pB rfl rfl ?_
    refine SL_yes rfl ?_
    refine pu rfl rfl ?_
    refine SL_yes rfl ?_
    refine lw (v := .slice _ _ _) B3 1 rfl rfl rfl rfl ?_
    refine SL_yes rfl ?_
    refine pu rfl rfl ?_
    refine SL_yes rfl ?_
    refine pu rfl rfl ?_
    refine SL_yes rfl ?_
    refine lw (v := .int .i64 _) B2 5 rfl rfl rfl rfl ?_
    refine SL_yes rfl ?_
    refine pc rfl rfl (fun c29 => ?_) (fun c29 => ?_)
    · skip
      refine pB rfl rfl ?_
      refine SL_nil ?_
      refine nx ?_
      refine SWP_ct rfl ?_
      refine SWP_seq ?_
      refine SWP_region ?_
      refine pI rfl rfl ?_
      refine SL_nil ?_
      refine nx ?_
      refine SWP_ret ?_
      refine nr ?_
      refine fin [_] ⟨rfl, trivial⟩ ?_
      refine congrArg (Value.int .i64) ?_
      unfold lineErr
      rw [if_neg (by omega), if_pos (by omega)]
    refine pB rfl rfl ?_
    refine SL_nil ?_
    refine nx ?_
    refine SWP_cf rfl ?_
    refine SWP_skip ?_
    refine nx ?_
    refine ⟨by repeat (first | with_reducible exact Under.refl _ _ | exact Under.upds rfl (Under.hav _ _ _) | exact Under.hav _ _ _ | refine Under.upd rfl ?_ | refine Under.upds rfl ?_ | refine Under.hav2 rfl ?_), ?_⟩
    exact ⟨rfl, by omega, by omega, rfl, rfl⟩
  intro uM0 vM0 σM0 mM0 hM0 _
  obtain ⟨rfl, hm1, hm2, rfl, rfl⟩ := hM0
  have hz : gameErr g = 0 := by omega
  have hok := gameOk hz
  dsimp only [Line.enc, Game.enc]
  refine SWP_seq ?_
  refine SWP_region ?_
  refine pI rfl rfl ?_
  refine SL_nil ?_
  refine nx ?_
  refine SWP_seq ?_
  refine SWP_region ?_
  refine pu rfl rfl ?_
  refine lw (v := .int .i64 _) B2 4 rfl rfl rfl rfl ?_
  refine pI rfl rfl ?_
  refine SL_nil ?_
  refine nx ?_
  refine SWP_merge1 [7, 8, 33, 34, 35, 36, 37, 38] [7, 8]
      (fun vs σ' m' => vs = [.int .i64 (if g.kind = 2 then 0 else 1), .int .i64 (if g.kind = 2 then g.of - 1 else g.of)] ∧ σ' = [(B3, Cells 29 l.enc), (B2, Cells 27 g.enc)] ∧ m = m')
      rfl ?_ ?_
  · skip
    refine SWP_seq ?_
    refine SWP_region ?_
    refine pu rfl rfl ?_
    refine lw (v := .int .i64 _) B2 1 rfl rfl rfl rfl ?_
    refine pc rfl rfl (fun c35 => ?_) (fun c35 => ?_)
    · skip
      refine SL_nil ?_
      refine nx ?_
      refine SWP_ct rfl ?_
      refine SWP_seq ?_
      refine SWP_region ?_
      refine pI rfl rfl ?_
      refine SL_nil ?_
      refine nx ?_
      refine SWP_region ?_
      refine pu rfl rfl ?_
      refine lw (v := .int .i64 _) B2 4 rfl rfl rfl rfl ?_
      refine pw rfl rfl (w64 (by have := hok.mx.h3; have := hok.mx.h4; omega) (by have := hok.mx.h3; have := hok.mx.h4; omega)) ?_
      first | refine pI rfl rfl ?_ | refine pu rfl rfl ?_
      refine SL_nil ?_
      refine nx ?_
      refine ⟨by repeat (first | with_reducible exact Under.refl _ _ | exact Under.upds rfl (Under.hav _ _ _) | exact Under.hav _ _ _ | refine Under.upd rfl ?_ | refine Under.upds rfl ?_ | refine Under.hav2 rfl ?_), ?_⟩
      refine ⟨?_, rfl, rfl⟩
      first | (rw [if_pos c35, if_pos c35]; rfl) | (rw [if_neg c35, if_neg c35]; rfl)
    refine SL_nil ?_
    refine nx ?_
    refine SWP_cf rfl ?_
    refine SWP_skip ?_
    refine nx ?_
    refine ⟨by repeat (first | with_reducible exact Under.refl _ _ | exact Under.upds rfl (Under.hav _ _ _) | exact Under.hav _ _ _ | refine Under.upd rfl ?_ | refine Under.upds rfl ?_ | refine Under.hav2 rfl ?_), ?_⟩
    refine ⟨?_, rfl, rfl⟩
    first | (rw [if_pos c35, if_pos c35]; rfl) | (rw [if_neg c35, if_neg c35]; rfl)
  intro uM1 vM1 σM1 mM1 hM1 _
  obtain ⟨rfl, rfl, rfl⟩ := hM1
  dsimp only [Line.enc, Game.enc]
  refine SWP_merge1 [4, 39, 40, 41, 42, 43, 44, 45, 46, 47, 48, 49, 50, 51, 52] []
      (fun vs σ' m' => vs = [] ∧ (allIn (if g.kind = 2 then 0 else 1) (if g.kind = 2 then g.of - 1 else g.of) l.main ∧ allIn 1 g.bonusOf l.bonus) ∧ σ' = [(B3, Cells 29 l.enc), (B2, Cells 27 g.enc)] ∧ m = m')
      rfl ?_ ?_
  · skip
    refine SWP_seq ?_
    refine SWP_region ?_
    refine pu rfl rfl ?_
    refine lw (v := .slice _ _ _) B3 0 rfl rfl rfl rfl ?_
    first | refine pI rfl rfl ?_ | refine pu rfl rfl ?_
    first | refine pI rfl rfl ?_ | refine pu rfl rfl ?_
    refine SL_pcall rfl rfl cb70 (withinL hl.mn _ _) rfl ?_
    refine psp 43 rfl (fun c43 => ?_) (fun c43 => ?_)
    · skip
      refine pB rfl rfl ?_
      refine pB rfl rfl ?_
      refine SL_yes rfl ?_
      refine pu rfl rfl ?_
      refine SL_yes rfl ?_
      refine lw (v := .slice _ _ _) B3 1 rfl rfl rfl rfl ?_
      refine SL_yes rfl ?_
      refine pu rfl rfl ?_
      refine SL_yes rfl ?_
      refine lw (v := .int .i64 _) B2 6 rfl rfl rfl rfl ?_
      refine SL_yes rfl ?_
      refine SL_pcall rfl rfl cb70 (withinL hl.bn _ _) rfl ?_
      refine psp 50 rfl (fun c50 => ?_) (fun c50 => ?_)
      · skip
        refine SL_yes rfl ?_
        refine pB rfl rfl ?_
        refine pB rfl rfl ?_
        refine SL_nil ?_
        refine nx ?_
        refine SWP_cf rfl ?_
        refine SWP_skip ?_
        refine nx ?_
        refine ⟨by repeat (first | with_reducible exact Under.refl _ _ | exact Under.upds rfl (Under.hav _ _ _) | exact Under.hav _ _ _ | refine Under.upd rfl ?_ | refine Under.upds rfl ?_ | refine Under.hav2 rfl ?_), ?_⟩
        exact ⟨rfl, ⟨c43, c50⟩, rfl, rfl⟩
      refine SL_yes rfl ?_
      refine pB rfl rfl ?_
      refine pB rfl rfl ?_
      refine SL_nil ?_
      refine nx ?_
      refine SWP_ct rfl ?_
      refine SWP_seq ?_
      refine SWP_region ?_
      refine pI rfl rfl ?_
      refine SL_nil ?_
      refine nx ?_
      refine SWP_ret ?_
      refine nr ?_
      refine fin [_] ⟨rfl, trivial⟩ ?_
      refine congrArg (Value.int .i64) ?_
      unfold lineErr
      rw [if_neg (by omega), if_neg (by omega), if_pos (.inr c50)]
    refine pB rfl rfl ?_
    refine pB rfl rfl ?_
    refine SL_no rfl rfl ?_
    refine SL_no rfl rfl ?_
    refine SL_no rfl rfl ?_
    refine SL_no rfl rfl ?_
    refine SL_no rfl rfl ?_
    refine SL_no rfl rfl ?_
    refine pB rfl rfl ?_
    refine SL_nil ?_
    refine nx ?_
    refine SWP_ct rfl ?_
    refine SWP_seq ?_
    refine SWP_region ?_
    refine pI rfl rfl ?_
    refine SL_nil ?_
    refine nx ?_
    refine SWP_ret ?_
    refine nr ?_
    refine fin [_] ⟨rfl, trivial⟩ ?_
    refine congrArg (Value.int .i64) ?_
    unfold lineErr
    rw [if_neg (by omega), if_neg (by omega), if_pos (.inl c43)]
  intro uM2 vM2 σM2 mM2 hM2 _
  obtain ⟨rfl, hai, rfl, rfl⟩ := hM2
  dsimp only [Line.enc, Game.enc]
  refine SWP_seq ?_
  refine SWP_seq ?_
  refine SWP_region ?_
  refine pu rfl rfl ?_
  refine lw (v := .int .i64 _) B2 1 rfl rfl rfl rfl ?_
  refine pc rfl rfl (fun c55 => ?_) (fun c55 => ?_)
  · skip
    refine pB rfl rfl ?_
    refine SL_yes rfl ?_
    refine pu rfl rfl ?_
    refine SL_yes rfl ?_
    refine lw (v := .slice _ _ _) B3 0 rfl rfl rfl rfl ?_
    refine SL_yes rfl ?_
    refine SL_pcall rfl rfl cb71 (twiceR hl.mn) rfl ?_
    refine psp 59 rfl (fun c59 => ?_) (fun c59 => ?_)
    · skip
      refine pB rfl rfl ?_
      refine pB rfl rfl ?_
      refine SL_no rfl rfl ?_
      refine SL_no rfl rfl ?_
      refine SL_no rfl rfl ?_
      refine pB rfl rfl ?_
      refine SL_nil ?_
      refine nx ?_
      refine SWP_ct rfl ?_
      refine SWP_seq ?_
      refine SWP_region ?_
      refine pI rfl rfl ?_
      refine SL_nil ?_
      refine nx ?_
      refine SWP_ret ?_
      refine nr ?_
      refine fin [_] ⟨rfl, trivial⟩ ?_
      refine congrArg (Value.int .i64) ?_
      unfold lineErr
      rw [if_neg (by omega), if_neg (by omega), if_neg (fun h => h.elim (fun h => h hai.1) (fun h => h hai.2))]
      first
        | exact (if_pos (.inl ⟨by omega, by assumption⟩)).symm
        | exact (if_pos (.inr (by assumption))).symm
        | exact (if_neg (fun h => h.elim (fun h => by first | exact absurd h.2 (by assumption) | exact absurd h.1 (by omega)) (by assumption))).symm
    refine pB rfl rfl ?_
    refine pB rfl rfl ?_
    refine SL_yes rfl ?_
    refine pu rfl rfl ?_
    refine SL_yes rfl ?_
    refine lw (v := .slice _ _ _) B3 1 rfl rfl rfl rfl ?_
    refine SL_yes rfl ?_
    refine SL_pcall rfl rfl cb71 (twiceR hl.bn) rfl ?_
    refine psp 64 rfl (fun c64 => ?_) (fun c64 => ?_)
    · skip
      refine pB rfl rfl ?_
      refine SL_nil ?_
      refine nx ?_
      refine SWP_ct rfl ?_
      refine SWP_seq ?_
      refine SWP_region ?_
      refine pI rfl rfl ?_
      refine SL_nil ?_
      refine nx ?_
      refine SWP_ret ?_
      refine nr ?_
      refine fin [_] ⟨rfl, trivial⟩ ?_
      refine congrArg (Value.int .i64) ?_
      unfold lineErr
      rw [if_neg (by omega), if_neg (by omega), if_neg (fun h => h.elim (fun h => h hai.1) (fun h => h hai.2))]
      first
        | exact (if_pos (.inl ⟨by omega, by assumption⟩)).symm
        | exact (if_pos (.inr (by assumption))).symm
        | exact (if_neg (fun h => h.elim (fun h => by first | exact absurd h.2 (by assumption) | exact absurd h.1 (by omega)) (by assumption))).symm
    refine pB rfl rfl ?_
    refine SL_nil ?_
    refine nx ?_
    refine SWP_cf rfl ?_
    refine SWP_skip ?_
    refine nx ?_
    refine SWP_seq ?_
    refine SWP_region ?_
    refine pI rfl rfl ?_
    refine SL_nil ?_
    refine nx ?_
    refine SWP_ret ?_
    refine fin [_] ⟨rfl, trivial⟩ ?_
    refine congrArg (Value.int .i64) ?_
    unfold lineErr
    rw [if_neg (by omega), if_neg (by omega), if_neg (fun h => h.elim (fun h => h hai.1) (fun h => h hai.2))]
    first
      | exact (if_pos (.inl ⟨by omega, by assumption⟩)).symm
      | exact (if_pos (.inr (by assumption))).symm
      | exact (if_neg (fun h => h.elim (fun h => by first | exact absurd h.2 (by assumption) | exact absurd h.1 (by omega)) (by assumption))).symm
  refine pB rfl rfl ?_
  refine SL_no rfl rfl ?_
  refine SL_no rfl rfl ?_
  refine SL_no rfl rfl ?_
  refine pB rfl rfl ?_
  refine pB rfl rfl ?_
  refine SL_yes rfl ?_
  refine pu rfl rfl ?_
  refine SL_yes rfl ?_
  refine lw (v := .slice _ _ _) B3 1 rfl rfl rfl rfl ?_
  refine SL_yes rfl ?_
  refine SL_pcall rfl rfl cb71 (twiceR hl.bn) rfl ?_
  refine psp 64 rfl (fun c64 => ?_) (fun c64 => ?_)
  · skip
    refine pB rfl rfl ?_
    refine SL_nil ?_
    refine nx ?_
    refine SWP_ct rfl ?_
    refine SWP_seq ?_
    refine SWP_region ?_
    refine pI rfl rfl ?_
    refine SL_nil ?_
    refine nx ?_
    refine SWP_ret ?_
    refine nr ?_
    refine fin [_] ⟨rfl, trivial⟩ ?_
    refine congrArg (Value.int .i64) ?_
    unfold lineErr
    rw [if_neg (by omega), if_neg (by omega), if_neg (fun h => h.elim (fun h => h hai.1) (fun h => h hai.2))]
    first
      | exact (if_pos (.inl ⟨by omega, by assumption⟩)).symm
      | exact (if_pos (.inr (by assumption))).symm
      | exact (if_neg (fun h => h.elim (fun h => by first | exact absurd h.2 (by assumption) | exact absurd h.1 (by omega)) (by assumption))).symm
  refine pB rfl rfl ?_
  refine SL_nil ?_
  refine nx ?_
  refine SWP_cf rfl ?_
  refine SWP_skip ?_
  refine nx ?_
  refine SWP_seq ?_
  refine SWP_region ?_
  refine pI rfl rfl ?_
  refine SL_nil ?_
  refine nx ?_
  refine SWP_ret ?_
  refine fin [_] ⟨rfl, trivial⟩ ?_
  refine congrArg (Value.int .i64) ?_
  unfold lineErr
  rw [if_neg (by omega), if_neg (by omega), if_neg (fun h => h.elim (fun h => h hai.1) (fun h => h hai.2))]
  first
    | exact (if_pos (.inl ⟨by omega, by assumption⟩)).symm
    | exact (if_pos (.inr (by assumption))).symm
    | exact (if_neg (fun h => h.elim (fun h => by first | exact absurd h.2 (by assumption) | exact absurd h.1 (by omega)) (by assumption))).symm

end Go.Proofs.Ytakjedhlcnnalaa

