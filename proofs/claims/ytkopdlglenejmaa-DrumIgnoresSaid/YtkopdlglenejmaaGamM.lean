/- matrix.Check, lotteryref13.Check: the error of a line. -/
import Derived.Test.YtkopdlglenejmaaGamT
namespace Go.Proofs.Ytkopdlglenejmaa
open Eng

theorem Eng.RL.small {α : Type} {m : Mem} {en : α → List Value} {size : Nat} {v : Value} {l : List α} (h : RL m en size v l) : l.length ≤ 9223372036854775807 := by
  obtain ⟨a, cap, _, _, h2, h3, _⟩ := h
  unfold maxLen at h3
  omega
structure Line where
  ma : Option Addr
  mc : Nat
  main : List Int
  ba : Option Addr
  bc : Nat
  bonus : List Int
def Line.val (l : Line) : Value := .agg #[.slice l.ma l.main.length l.mc, .slice l.ba l.bonus.length l.bc]
def Line.enc (l : Line) : List Value := [.slice l.ma l.main.length l.mc, .slice l.ba l.bonus.length l.bc]
structure Line.In (m : Mem) (l : Line) : Prop where
  mn : RL m intE 1 (.slice l.ma l.main.length l.mc) l.main
  bn : RL m intE 1 (.slice l.ba l.bonus.length l.bc) l.bonus
theorem Line.In.mono {m m' : Mem} {l : Line} (h : l.In m) (hl : Le m m') : l.In m' := ⟨h.mn.mono hl, h.bn.mono hl⟩
def allIn (lo hi : Int) (l : List Int) : Prop := ∀ x ∈ l, lo ≤ x ∧ x ≤ hi
instance (lo hi : Int) (l : List Int) : Decidable (allIn lo hi l) := by unfold allIn; infer_instance
noncomputable def lineErr (g : Game) (l : Line) : Int :=
  if gameErr g ≠ 0 then gameErr g
  else if (l.main.length : Int) ≠ g.main ∨ (l.bonus.length : Int) ≠ g.bonus then 3
  else if ¬ allIn (if g.kind = 2 then 0 else 1) (if g.kind = 2 then g.of - 1 else g.of) l.main ∨ ¬ allIn 1 g.bonusOf l.bonus then 2
  else if (g.kind ≠ 2 ∧ ¬ l.main.Nodup) ∨ ¬ l.bonus.Nodup then 6
  else 0
structure GameOk (g : Game) : Prop where
  name : nameB g.name = true
  kind : g.kind = 1 ∨ g.kind = 2
  mx : MxOk g
  tm : TmOk g
  ad : addonsErr g.addons = 0
  tr : tiersErr g = 0
theorem gameOk {g : Game} (h : gameErr g = 0) : GameOk g := by
  unfold gameErr at h
  split at h
  · cases h
  · split at h
    · cases h
    · rename_i h1 h2
      by_cases hok : MxOk g ∧ TmOk g
      · rw [okE_t hok] at h
        split at h
        · rename_i h3; exact absurd h h3
        · rename_i h3
          exact ⟨by simpa using h1, by omega, hok.1, hok.2, Classical.not_not.1 h3, h⟩
      · rw [okE_f hok] at h; cases h
theorem allIn_snoc {lo hi x : Int} {l : List Int} {i : Nat} (hx : l[i]? = some x) (h : allIn lo hi (l.take i)) (h' : lo ≤ x ∧ x ≤ hi) : allIn lo hi (l.take (i + 1)) := fun y hy => by
  rw [take_snocA hx] at hy
  rcases List.mem_append.1 hy with hy | hy
  · exact h y hy
  · rw [List.mem_singleton.1 hy]; exact h'



theorem indexI {m : Mem} {v : Value} {l : List Int} (h : RL m intE 1 v l) (x : Int) : CallsS Try.prog 54 [v, .int .i64 x].toArray [] m fun r σ' m' => σ' = [] ∧ m' = m ∧ ∃ k : Int, r = .int .i64 k ∧ (0 ≤ k ↔ x ∈ l) := by
  refine CallsS.forget (R := fun r => ∃ k : Int, r = .int .i64 k ∧ (0 ≤ k ↔ x ∈ l)) ?_
  have hsm := h.small
  obtain ⟨pa, pcap, rfl⟩ := h.len
  refine enter Try.func54 Try.ntmps54 rfl rfl ?_
  refine SWP_seq ?_
  refine SWP_region ?_
  refine pI rfl rfl ?_
  refine SL_nil ?_
  refine nx ?_
  refine SWP_seq ?_
  refine SWP_seq ?_
  refine SWP_region ?_
  first | refine pL rfl rfl ?_ | refine pu rfl rfl ?_
  refine pu rfl rfl ?_
  refine pI rfl rfl ?_
  refine SL_nil ?_
  refine nx ?_
  refine SWP_block ?_
  refine SWP_loop [4, 5, 8, 9, 10, 11, 12, 13, 14, 15, 16, 17, 18] [8]
      (fun vs σ' m' => ∃ (i : Nat), vs = [.int .i64 (i : Nat)] ∧ i ≤ l.length ∧ x ∉ l.take i ∧ σ' = [] ∧ m = m')
      (fun vs => l.length - nOf (vs.getD 0 undef)) rfl ?_ ?_
  · exact ⟨0, rfl, by omega, by simp, rfl, rfl⟩
  intro u0 vs0 σ0 m0 hJ0 _
  obtain ⟨i, rfl, hi, hno, rfl, rfl⟩ := hJ0
  refine SWP_seq ?_
  refine SWP_region ?_
  refine pc rfl rfl (fun c9 => ?_) (fun c9 => ?_)
  · skip
    refine SL_nil ?_
    refine nx ?_
    refine SWP_seq ?_
    refine SWP_ct rfl ?_
    refine SWP_skip ?_
    refine nx ?_
    refine SWP_seq ?_
    refine SWP_block ?_
    refine SWP_seq ?_
    obtain ⟨y, hy⟩ : ∃ y, l[i]? = some y := ⟨_, List.getElem?_eq_getElem (by omega)⟩
    obtain ⟨ad, e0, _, hat⟩ := h.atI hy
    cases e0
    refine SWP_region ?_
    first | refine pI rfl rfl ?_ | refine pu rfl rfl ?_
    first | refine pI rfl rfl ?_ | refine pu rfl rfl ?_
    refine SL_nil ?_
    refine nx ?_
    refine SWP_seq ?_
    refine SWP_region ?_
    first | refine pI rfl rfl ?_ | refine pu rfl rfl ?_
    first | refine pL rfl rfl ?_ | refine pu rfl rfl ?_
    first | refine pI rfl rfl ?_ | refine pu rfl rfl ?_
    first | refine ia (es := 1) rfl rfl rfl (Nat.mul_one _) rfl rfl (by omega) rfl ?_ | refine iai (es := 1) rfl rfl rfl (Nat.mul_one _) rfl rfl (by omega) (by omega) rfl ?_
    refine ldA (v := .int .i64 _) rfl (by assumption) rfl rfl ?_
    refine pc rfl rfl (fun c16 => ?_) (fun c16 => ?_)
    · skip
      refine SL_nil ?_
      refine nx ?_
      refine SWP_ct rfl ?_
      refine SWP_seq ?_
      refine SWP_region ?_
      first | refine pI rfl rfl ?_ | refine pu rfl rfl ?_
      first | refine pI rfl rfl ?_ | refine pu rfl rfl ?_
      refine SL_nil ?_
      refine nx ?_
      refine SWP_ret ?_
      refine br ?_
      refine nr ?_
      refine nr ?_
      refine br ?_
      refine nr ?_
      refine fin [_] ⟨rfl, trivial⟩ ?_
      exact ⟨_, rfl, fun _ => by rw [c16]; exact List.mem_of_getElem? hy, fun _ => by omega⟩
    refine SL_nil ?_
    refine nx ?_
    refine SWP_cf rfl ?_
    refine SWP_skip ?_
    refine nb ?_
    refine nx ?_
    refine SWP_region ?_
    first | refine pw rfl rfl (w64 (by omega) (by omega)) ?_ | refine pu rfl rfl ?_
    refine pI rfl rfl ?_
    refine SL_nil ?_
    refine nx ?_
    refine ⟨by repeat (first | exact Under.upds rfl (Under.hav _ _ _) | exact Under.hav _ _ _ | refine Under.upd rfl ?_), ?_, ?_⟩
    · refine ⟨i + 1, rfl, by omega, fun hm => ?_, rfl, rfl⟩
      rw [take_snocA hy] at hm
      rcases List.mem_append.1 hm with hm | hm
      · exact hno hm
      · rw [List.mem_singleton] at hm; exact c16 hm
    · simp only [L_vals, List.map, List.getD]; show l.length - (i + 1) < l.length - i; omega
  refine SL_nil ?_
  refine nx ?_
  refine SWP_seq ?_
  refine SWP_cf rfl ?_
  refine SWP_exit ?_
  refine ne ?_
  refine ne ?_
  refine be rfl ?_
  refine nx ?_
  refine SWP_seq ?_
  refine SWP_region ?_
  refine pI rfl rfl ?_
  refine SL_nil ?_
  refine nx ?_
  refine SWP_ret ?_
  refine fin [_] ⟨rfl, trivial⟩ ?_
  refine ⟨_, rfl, fun h => by omega, fun hm => ?_⟩
  rw [List.take_of_length_le (by omega)] at hno
  exact absurd hm hno

theorem containsI {m : Mem} {v : Value} {l : List Int} (h : RL m intE 1 v l) (x : Int) : PureCall Try.prog 30 [v, .int .i64 x] m (.bool (decide (x ∈ l))) := by
  refine CallsS.pure ?_
  refine enter Try.func30 Try.ntmps30 rfl rfl ?_
  refine SWP_seq ?_
  refine SWP_region ?_
  refine pB rfl rfl ?_
  refine SL_nil ?_
  refine nx ?_
  refine SWP_seq ?_
  refine SWP_region ?_
  first | refine pL rfl rfl ?_ | refine pu rfl rfl ?_
  first | refine pI rfl rfl ?_ | refine pu rfl rfl ?_
  refine SL_call rfl rfl cb54 (indexI h x) rfl (fun v1_2 σ1_2 m1_2 hl1_2 hR1_2 => ?_)
  obtain ⟨rfl, hm1_2, k, rfl, hk⟩ := hR1_2
  have hn1_2 := hm1_2.symm
  subst hn1_2
  refine pu rfl rfl ?_
  refine pB rfl rfl ?_
  refine SL_nil ?_
  refine nx ?_
  refine SWP_ret ?_
  refine fin [_] ⟨rfl, trivial⟩ ?_
  exact congrArg Value.bool (decide_eq_decide.2 hk)

theorem nodup_snoc {l : List Int} {x : Int} {i : Nat} (hx : l[i]? = some x) : (l.take (i + 1)).Nodup ↔ (l.take i).Nodup ∧ x ∉ l.take i := by
  rw [take_snocA hx, List.nodup_append]
  constructor
  · exact fun h => ⟨h.1, fun hm => h.2.2 x hm x (by simp) rfl⟩
  · exact fun h => ⟨h.1, by simp, fun a ha b hb e => by simp only [List.mem_singleton] at hb; subst hb; subst e; exact h.2 ha⟩
theorem not_nodup_take {l : List Int} {x : Int} {i : Nat} (hx : l[i]? = some x) (h : x ∈ l.take i) : ¬ l.Nodup := fun hn => ((nodup_snoc hx).1 (hn.sublist (List.take_sublist _ _))).2 h





end Go.Proofs.Ytkopdlglenejmaa

