/- lotteryref29.Same, told; the laws MechanicalWitnesses and MechanicalCounts. -/
import Derived.Test.YtnldelafemaigaaMech2
import Derived.Test.YtnldelafemaigaaTop
namespace Go.Proofs.Ytnldelafemaigaa
open Eng

theorem eqBall : EqOk Try.prog 30 [(0, 3), (1, 3), (2, 3)] := ⟨by kernel_rfl, by kernel_rfl, by kernel_rfl, by kernel_rfl, by kernel_rfl⟩
theorem ball_eq {a b : Ball} (h : (decide (a.wit = b.wit) && (decide (a.drum = b.drum) && (decide (a.num = b.num) && true))) = true) : a = b := by
  simp only [Bool.and_eq_true, decide_eq_true_eq] at h
  obtain ⟨h1, h2, h3, _⟩ := h
  cases a; cases b; simp_all
theorem ofB_le (l : List Ball) (x : Int) : (ofB l x).length ≤ l.length := List.length_filter_le _ _
theorem take_snoc {α : Type} {l : List α} {k : Nat} {x : α} (h : l[k]? = some x) : l.take (k + 1) = l.take k ++ [x] := by
  have hk := (List.getElem?_eq_some_iff.1 h)
  rw [List.take_succ_eq_append_getElem hk.1, hk.2]

theorem refSame29 {m : Mem} {va vb : Value} {la lb : List Ball} (ha : RL m Ball.enc 3 va la) (hb : RL m Ball.enc 3 vb lb) (hla : la.length ≤ 4000000) (hlb : lb.length ≤ 4000000) :
    PureCall Try.prog 12 [va, vb] m (.bool (decide (la = lb))) := by
  refine CallsS.pure ?_
  obtain ⟨a, cap, rfl⟩ := ha.len
  obtain ⟨b, cap2, rfl⟩ := hb.len
  refine enter Try.func12 Try.ntmps12 rfl rfl ?_
  refine SWP_seq ?_
  refine SWP_region ?_
  refine pB rfl rfl ?_
  refine SL_nil ?_
  refine nx ?_
  refine SWP_seq ?_
  refine SWP_seq ?_
  refine SWP_region ?_
  first | refine pL rfl rfl ?_ | refine pu rfl rfl ?_
  refine pu rfl rfl ?_
  first | refine pL rfl rfl ?_ | refine pu rfl rfl ?_
  refine pu rfl rfl ?_
  refine pc rfl rfl (fun c10 => ?_) (fun c10 => ?_)
  · skip
    refine SL_nil ?_
    refine nx ?_
    refine SWP_ct rfl ?_
    refine SWP_seq ?_
    refine SWP_region ?_
    refine pB rfl rfl ?_
    refine SL_nil ?_
    refine nx ?_
    refine SWP_ret ?_
    refine nr ?_
    refine fin [_] ⟨rfl, trivial⟩ ?_
    show Value.bool false = _
    rw [decide_eq_false]
    intro e
    subst e
    exact c10 rfl
  refine SL_nil ?_
  refine nx ?_
  refine SWP_cf rfl ?_
  refine SWP_skip ?_
  refine nx ?_
  refine SWP_seq ?_
  refine SWP_seq ?_
  refine SWP_region ?_
  refine pI rfl rfl ?_
  refine SL_nil ?_
  refine nx ?_
  refine SWP_block ?_
  refine SWP_loop [4, 5, 11, 12, 13, 14, 15, 16, 17, 18, 19, 20, 21, 22, 23, 24, 25] [5]
      (fun vs σ' m' => ∃ k : Nat, k ≤ la.length ∧ vs = [.int .i64 (k : Nat)] ∧ σ' = [] ∧ m = m' ∧ la.take k = lb.take k)
      (fun vs => la.length - nOf (vs.getD 0 undef)) rfl ?_ ?_
  · exact ⟨0, by omega, rfl, rfl, rfl, rfl⟩
  intro u0 vs0 σ0 m0 hJ0 _
  obtain ⟨k, hk, rfl, rfl, rfl, htk⟩ := hJ0
  refine SWP_seq ?_
  refine SWP_seq ?_
  refine SWP_region ?_
  first | refine pI rfl rfl ?_ | refine pu rfl rfl ?_
  first | refine pL rfl rfl ?_ | refine pu rfl rfl ?_
  refine pu rfl rfl ?_
  refine pc rfl rfl (fun c14 => ?_) (fun c14 => ?_)
  · skip
    refine SL_nil ?_
    refine nx ?_
    refine SWP_ct rfl ?_
    refine SWP_skip ?_
    refine nx ?_
    refine SWP_seq ?_
    refine SWP_block ?_
    refine SWP_seq ?_
    obtain ⟨x, hx⟩ : ∃ x, la[k]? = some x := ⟨_, List.getElem?_eq_getElem (by omega)⟩
    obtain ⟨y, hy⟩ : ∃ y, lb[k]? = some y := ⟨_, List.getElem?_eq_getElem (by omega)⟩
    obtain ⟨ad, cap', e1, hat⟩ := RL.at_ Ball.enc_len ha hx
    cases e1
    obtain ⟨ad2, cap2', e2, hat2⟩ := RL.at_ Ball.enc_len hb hy
    cases e2
    refine SWP_draws (by kernel_rfl) (by kernel_rfl) ?_
    first | refine pL rfl rfl ?_ | refine pu rfl rfl ?_
    first | refine pI rfl rfl ?_ | refine pu rfl rfl ?_
    first | refine ia (es := 3) rfl rfl rfl rfl rfl rfl (by omega) rfl ?_ | refine iai (es := 3) rfl rfl rfl rfl rfl rfl (by omega) (by omega) rfl ?_
    refine ldA (v := .agg _) rfl (by assumption) rfl rfl ?_
    first | refine pL rfl rfl ?_ | refine pu rfl rfl ?_
    first | refine pI rfl rfl ?_ | refine pu rfl rfl ?_
    first | refine ia (es := 3) rfl rfl rfl rfl rfl rfl (by omega) rfl ?_ | refine iai (es := 3) rfl rfl rfl rfl rfl rfl (by omega) (by omega) rfl ?_
    refine ldA (v := .agg _) rfl (by assumption) rfl rfl ?_
    refine neqs eqBall rfl rfl rfl rfl ?_
    refine bsp 25 rfl (fun b25 => ?_) (fun b25 => ?_)
    · skip
      refine SL_nil ?_
      refine nx ?_
      refine SWP_ct rfl ?_
      refine SWP_seq ?_
      refine SWP_region ?_
      refine pB rfl rfl ?_
      refine SL_nil ?_
      refine nx ?_
      refine SWP_ret ?_
      refine br ?_
      refine nr ?_
      refine nr ?_
      refine br ?_
      refine nr ?_
      refine fin [_] ⟨rfl, trivial⟩ ?_
      show Value.bool false = _
      rw [decide_eq_false]
      intro e
      subst e
      rw [hx] at hy
      cases hy
      simp at b25
    refine SL_nil ?_
    refine nx ?_
    refine SWP_cf rfl ?_
    refine SWP_skip ?_
    refine nb ?_
    refine nx ?_
    refine SWP_region ?_
    first | refine pI rfl rfl ?_ | refine pu rfl rfl ?_
    first | refine pw rfl rfl (w64 (by omega) (by omega)) ?_ | refine pu rfl rfl ?_
    refine pI rfl rfl ?_
    refine SL_nil ?_
    refine nx ?_
    refine ⟨by repeat (first | exact Under.upds rfl (Under.hav _ _ _) | exact Under.hav _ _ _ | refine Under.upd rfl ?_), ?_, ?_⟩
    · have e := ball_eq (by simpa using b25)
      subst e
      exact ⟨k + 1, by omega, rfl, rfl, rfl, by rw [take_snoc hx, take_snoc hy, htk]⟩
    · simp only [L_vals, List.map, List.getD]; show la.length - (k + 1) < la.length - k; omega
  refine SL_nil ?_
  refine nx ?_
  refine SWP_cf rfl ?_
  refine SWP_exit ?_
  refine ne ?_
  refine ne ?_
  refine be rfl ?_
  refine nx ?_
  refine SWP_seq ?_
  refine SWP_region ?_
  refine pB rfl rfl ?_
  refine SL_nil ?_
  refine nx ?_
  refine SWP_ret ?_
  refine fin [_] ⟨rfl, trivial⟩ ?_
  show Value.bool true = _
  rw [decide_eq_true]
  have h1 : la.length = lb.length := by omega
  obtain rfl : k = la.length := by omega
  rw [List.take_length, List.take_of_length_le (by omega)] at htk
  exact htk

theorem told29 (m : Mem) : PureCall Try.prog 9 [] m (.bool true) := by
  refine CallsS.pure ?_
  refine enter Try.func9 Try.ntmps9 rfl rfl ?_
  refine SWP_seq ?_
  refine SWP_region ?_
  refine pB rfl rfl ?_
  refine SL_nil ?_
  refine nx ?_
  refine SWP_seq ?_
  refine SWP_region ?_
  refine pA rfl rfl ?_
  refine bs rfl rfl rfl rfl rfl (fun B3 => ?_)
  refine SL_freeze (fun m1 hl1 hat1 => ?_)
  refine SL_call rfl rfl cb10 ((mechWits (RL.of_at Ball.enc_len [⟨3, 1, 4⟩] rfl rfl hat1) (by decide))) rfl (fun v1_2 σ1_2 m1_2 hl1_2 hR1_2 => ?_)
  obtain ⟨rfl, hr⟩ := hR1_2
  obtain ⟨a2, cap2, rfl⟩ := hr.len
  first | refine pL rfl rfl ?_ | refine pu rfl rfl ?_
  refine SL_nil ?_
  refine nx ?_
  refine SWP_seq ?_
  refine SWP_region ?_
  first | refine pL rfl rfl ?_ | refine pu rfl rfl ?_
  refine pu rfl rfl ?_
  refine pt rfl rfl (by decide) ?_
  refine pB rfl rfl ?_
  refine SL_yes rfl ?_
  obtain ⟨ad, cap3, e3, hat3⟩ := RL.at1 intE_len hr (k := 0) (x := 3) rfl
  cases e3
  refine pu (v := .slice _ _ _) rfl rfl ?_
  refine SL_yes rfl ?_
  refine ia (es := 1) (k := 0) rfl rfl rfl rfl rfl rfl (by decide) rfl ?_
  refine SL_yes rfl ?_
  refine ldA (v := .int .i64 _) rfl (by assumption) rfl rfl ?_
  refine SL_yes rfl ?_
  refine pt rfl rfl (rfl) ?_
  refine pB rfl rfl ?_
  refine pB rfl rfl ?_
  refine SL_nil ?_
  refine nx ?_
  refine SWP_ret ?_
  refine fin [_] ⟨rfl, trivial⟩ ?_
  rfl

theorem lawMechWits {m : Mem} {v : Value} {l : List Ball} (x : Int) (h : RL m Ball.enc 3 v l) :
    CallsS Try.prog 3 [v, .int .i64 x].toArray [] m fun r _ _ => r = .bool true := by
  obtain ⟨a, cap, rfl⟩ := h.len
  refine enter Try.func3 Try.ntmps3 rfl rfl ?_
  refine SWP_seq ?_
  refine SWP_region ?_
  refine pB rfl rfl ?_
  refine SL_nil ?_
  refine nx ?_
  refine SWP_seq ?_
  refine SWP_seq ?_
  refine SWP_region ?_
  first | refine pL rfl rfl ?_ | refine pu rfl rfl ?_
  refine pu rfl rfl ?_
  refine pc rfl rfl (fun c10 => ?_) (fun c10 => ?_)
  · skip
    refine SL_nil ?_
    refine nx ?_
    refine SWP_ct rfl ?_
    refine SWP_seq ?_
    refine SWP_region ?_
    refine SL_pcall rfl rfl cb9 (told29 _) rfl ?_
    first | refine pB rfl rfl ?_ | refine pu rfl rfl ?_
    refine SL_nil ?_
    refine nx ?_
    refine SWP_ret ?_
    refine nr ?_
    refine fin [_] ⟨rfl, trivial⟩ ?_
    rfl
  refine SL_nil ?_
  refine nx ?_
  refine SWP_cf rfl ?_
  refine SWP_skip ?_
  refine nx ?_
  refine SWP_seq ?_
  refine SWP_region ?_
  first | refine pL rfl rfl ?_ | refine pu rfl rfl ?_
  refine SL_call rfl rfl cb10 ((mechWits h (by omega))) rfl (fun v3_1 σ3_1 m3_1 hl3_1 hR3_1 => ?_)
  obtain ⟨rfl, hr⟩ := hR3_1
  obtain ⟨a2, cap2, rfl⟩ := hr.len
  have h := h.mono hl3_1
  first | refine pL rfl rfl ?_ | refine pu rfl rfl ?_
  refine SL_nil ?_
  refine nx ?_
  refine SWP_seq ?_
  refine SWP_region ?_
  first | refine pL rfl rfl ?_ | refine pu rfl rfl ?_
  refine SL_call rfl rfl cb11 ((refWits h (by omega))) rfl (fun v4_1 σ4_1 m4_1 hl4_1 hR4_1 => ?_)
  obtain ⟨rfl, hs⟩ := hR4_1
  obtain ⟨a3, cap3, rfl⟩ := hs.len
  have h := h.mono hl4_1
  have hr := hr.mono hl4_1
  first | refine pL rfl rfl ?_ | refine pu rfl rfl ?_
  refine SL_nil ?_
  refine nx ?_
  refine SWP_seq ?_
  refine SWP_seq ?_
  refine SWP_region ?_
  first | refine pL rfl rfl ?_ | refine pu rfl rfl ?_
  refine pu rfl rfl ?_
  first | refine pL rfl rfl ?_ | refine pu rfl rfl ?_
  refine pu rfl rfl ?_
  refine pn rfl rfl (fun h => h rfl) ?_
  refine SL_nil ?_
  refine nx ?_
  refine SWP_cf rfl ?_
  refine SWP_skip ?_
  refine nx ?_
  refine SWP_seq ?_
  refine SWP_seq ?_
  refine SWP_region ?_
  refine pI rfl rfl ?_
  refine SL_nil ?_
  refine nx ?_
  refine SWP_block ?_
  refine SWP_loop [4, 7, 21, 22, 23, 24, 25, 26, 27, 28, 29, 30, 31, 32, 33, 34, 35] [7]
      (fun vs σ' m' => ∃ k : Nat, k ≤ (wits l).length ∧ vs = [.int .i64 (k : Nat)] ∧ σ' = [] ∧ m4_1 = m')
      (fun vs => (wits l).length - nOf (vs.getD 0 undef)) rfl ?_ ?_
  · exact ⟨0, by omega, rfl, rfl, rfl⟩
  intro u0 vs0 σ0 m0 hJ0 _
  obtain ⟨k, hk, rfl, rfl, rfl⟩ := hJ0
  refine SWP_seq ?_
  refine SWP_seq ?_
  refine SWP_region ?_
  first | refine pI rfl rfl ?_ | refine pu rfl rfl ?_
  first | refine pL rfl rfl ?_ | refine pu rfl rfl ?_
  refine pu rfl rfl ?_
  refine pc rfl rfl (fun c24 => ?_) (fun c24 => ?_)
  · skip
    refine SL_nil ?_
    refine nx ?_
    refine SWP_ct rfl ?_
    refine SWP_skip ?_
    refine nx ?_
    refine SWP_seq ?_
    refine SWP_block ?_
    refine SWP_seq ?_
    obtain ⟨x1, hx1⟩ : ∃ x, (wits l)[k]? = some x := ⟨_, List.getElem?_eq_getElem (by omega)⟩
    obtain ⟨ad, cap', e1, hat⟩ := RL.at1 intE_len hr hx1
    cases e1
    obtain ⟨ad2, cap2', e2, hat2⟩ := RL.at1 intE_len hs hx1
    cases e2
    have hk9 : (wits l).length ≤ 9 := by have := witsTo_len l 9; rw [flatMap_len intE_len] at this; unfold wits; omega
    refine SWP_draws (by kernel_rfl) (by kernel_rfl) ?_
    first | refine pL rfl rfl ?_ | refine pu rfl rfl ?_
    first | refine pI rfl rfl ?_ | refine pu rfl rfl ?_
    first | refine ia (es := 1) rfl rfl rfl (Nat.mul_one _) rfl rfl (by omega) rfl ?_ | refine iai (es := 1) rfl rfl rfl (Nat.mul_one _) rfl rfl (by omega) (by omega) rfl ?_
    refine ldA (v := .int .i64 _) rfl (by assumption) rfl rfl ?_
    first | refine pL rfl rfl ?_ | refine pu rfl rfl ?_
    first | refine pI rfl rfl ?_ | refine pu rfl rfl ?_
    first | refine ia (es := 1) rfl rfl rfl (Nat.mul_one _) rfl rfl (by omega) rfl ?_ | refine iai (es := 1) rfl rfl rfl (Nat.mul_one _) rfl rfl (by omega) (by omega) rfl ?_
    refine ldA (v := .int .i64 _) rfl (by assumption) rfl rfl ?_
    refine pn rfl rfl (fun h => h rfl) ?_
    refine SL_nil ?_
    refine nx ?_
    refine SWP_cf rfl ?_
    refine SWP_skip ?_
    refine nb ?_
    refine nx ?_
    refine SWP_region ?_
    first | refine pI rfl rfl ?_ | refine pu rfl rfl ?_
    first | refine pw rfl rfl (w64 (by omega) (by omega)) ?_ | refine pu rfl rfl ?_
    refine pI rfl rfl ?_
    refine SL_nil ?_
    refine nx ?_
    refine ⟨by repeat (first | exact Under.upds rfl (Under.hav _ _ _) | exact Under.hav _ _ _ | refine Under.upd rfl ?_), ?_, ?_⟩
    · exact ⟨k + 1, by omega, rfl, rfl, rfl⟩
    · simp only [L_vals, List.map, List.getD]; show (wits l).length - (k + 1) < (wits l).length - k; omega
  refine SL_nil ?_
  refine nx ?_
  refine SWP_cf rfl ?_
  refine SWP_exit ?_
  refine ne ?_
  refine ne ?_
  refine be rfl ?_
  refine nx ?_
  refine SWP_seq ?_
  refine SWP_region ?_
  first | refine pL rfl rfl ?_ | refine pu rfl rfl ?_
  first | refine pI rfl rfl ?_ | refine pu rfl rfl ?_
  refine SL_call rfl rfl cb13 ((mechOf x h (by omega))) rfl (fun v12_2 σ12_2 m12_2 hl12_2 hR12_2 => ?_)
  obtain ⟨rfl, ho⟩ := hR12_2
  have h := h.mono hl12_2
  first | refine pL rfl rfl ?_ | refine pu rfl rfl ?_
  first | refine pI rfl rfl ?_ | refine pu rfl rfl ?_
  refine SL_call rfl rfl cb14 ((refOf x h (by omega))) rfl (fun v12_5 σ12_5 m12_5 hl12_5 hR12_5 => ?_)
  obtain ⟨rfl, hp⟩ := hR12_5
  have ho := ho.mono hl12_5
  refine SL_pcall rfl rfl cb12 (refSame29 ho hp (Nat.le_trans (ofB_le l x) (by omega)) (Nat.le_trans (ofB_le l x) (by omega))) rfl ?_
  refine resay 42 (.bool true) (by show Value.bool (decide (_ = _)) = _; rw [decide_eq_true rfl]) ?_
  first | refine pB rfl rfl ?_ | refine pu rfl rfl ?_
  refine SL_yes rfl ?_
  refine SL_pcall rfl rfl cb9 (told29 _) rfl ?_
  refine pB rfl rfl ?_
  refine pB rfl rfl ?_
  refine SL_nil ?_
  refine nx ?_
  refine SWP_ret ?_
  refine fin [_] ⟨rfl, trivial⟩ ?_
  rfl

end Go.Proofs.Ytnldelafemaigaa

