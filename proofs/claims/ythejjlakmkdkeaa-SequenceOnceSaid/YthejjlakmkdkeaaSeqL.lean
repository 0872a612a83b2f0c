/- lotterylaw20: awake, SequenceNobody, SequenceRuns. -/
import Derived.Test.YthejjlakmkdkeaaSeqR
namespace Go.Proofs.Ythejjlakmkdkeaa
open Eng

theorem gapsF_len : ∀ {S : List Int} {last : Int} {out : Pairs}, out.length ≤ 64 → (gapsF last out S).length ≤ 64
  | [], _, _, h => h
  | n :: S, last, out, h => gapsF_len (S := S) (last := n) (out := gapAdd last n out) (gapAdd_len h)
theorem gapsOf_len (S : List Int) : (gapsOf S).length ≤ 1000 := Nat.le_trans (gapsF_len (by simp)) (by omega)
def L4 : List Int := [1, 2, 5, 9]
theorem awk {i : Nat} {x : Int} (h : L4[i]? = some x) : takeE 10 (L4.take i) x = 0 ∧ takeS 10 (L4.take i) x = L4.take (i + 1) := by
  have hk := (List.getElem?_eq_some_iff.1 h).1
  have h4 : i < 4 := hk
  match i, h4 with
  | 0, _ => obtain rfl : (1 : Int) = x := by simpa [L4] using h
            decide
  | 1, _ => obtain rfl : (2 : Int) = x := by simpa [L4] using h
            decide
  | 2, _ => obtain rfl : (5 : Int) = x := by simpa [L4] using h
            decide
  | 3, _ => obtain rfl : (9 : Int) = x := by simpa [L4] using h
            decide
  | n + 4, h => omega

theorem awakeOk {m : Mem} : PureCall Try.prog 11 [] m (.bool true) := by
  refine CallsS.pure ?_
  refine enter Try.func11 Try.ntmps11 rfl rfl ?_
  refine SWP_seq ?_
  refine SWP_region ?_
  first | refine pu (v := .bool _) rfl rfl ?_ | refine pu rfl rfl ?_
  refine SL_nil ?_
  refine nx ?_
  refine SWP_seq ?_
  refine SWP_region ?_
  refine SL_call rfl rfl cb9 (guNew 10) rfl (fun v1_0 σ1_0 m1_0 hl1_0 hR1_0 => ?_)
  obtain ⟨B, M, rfl, rfl, hm1_0⟩ := hR1_0
  have hn1_0 := hm1_0.symm
  subst hn1_0
  rw [show clampI 10 = 10 by decide]
  first | refine pu (v := .pointer _) rfl rfl ?_ | refine pu rfl rfl ?_
  refine SL_nil ?_
  refine nx ?_
  refine SWP_seq ?_
  refine SWP_seq ?_
  refine SWP_region ?_
  first | refine pu (v := .pointer _) rfl rfl ?_ | refine pu rfl rfl ?_
  refine pu (v := .bool false) rfl rfl ?_
  refine SL_nil ?_
  refine nx ?_
  refine SWP_cf rfl ?_
  refine SWP_skip ?_
  refine nx ?_
  refine SWP_seq ?_
  refine SWP_seq ?_
  refine SWP_region ?_
  refine bs rfl rfl rfl rfl rfl (fun B7 => ?_)
  refine SL_freeze (fun m4 hl4 hat4 => ?_)
  have hL4 := RL.of_at intE_len L4 rfl rfl hat4
  refine pu rfl rfl ?_
  first | refine pu (v := .int .i64 _) rfl rfl ?_ | refine pu rfl rfl ?_
  refine SL_nil ?_
  refine nx ?_
  refine SWP_block ?_
  refine SWP_loop [0, 3, 9, 10, 11, 12, 13, 14, 15, 16, 17] [9]
      (fun vs σ' m' => ∃ (i low : Nat) (l : IMap), vs = [.int .i64 (i : Nat)] ∧ i ≤ 4 ∧ Rep 10 (L4.take i) low l ∧ (low : Int) + 1 ∉ keysL l ∧ σ' = GuC B M 10 low l ∧ m4 = m')
      (fun vs => 4 - nOf (vs.getD 0 undef)) rfl ?_ ?_
  · exact ⟨0, 0, [], rfl, by omega, Rep.new (by omega) (by omega), by simp, rfl, rfl⟩
  · intro u0 vs0 σ0 m0 hJ0 _
    obtain ⟨i, low, l, rfl, hi, hrep, hlow, rfl, rfl⟩ := hJ0
    refine SWP_seq ?_
    refine SWP_region ?_
    refine pc rfl rfl (fun c10 => ?_) (fun c10 => ?_)
    · skip
      refine SL_nil ?_
      refine nx ?_
      refine SWP_seq ?_
      refine SWP_ct rfl ?_
      refine SWP_skip ?_
      refine nx ?_
      refine SWP_seq ?_
      refine SWP_block ?_
      refine SWP_seq ?_
      obtain ⟨x, hx⟩ : ∃ x, L4[i]? = some x := ⟨_, List.getElem?_eq_getElem (by show i < 4; omega)⟩
      obtain ⟨ad, cap', e1, hat⟩ := RL.at1 intE_len hL4 hx
      cases e1
      refine SWP_region ?_
      first | refine ia (es := 1) rfl rfl rfl (Nat.mul_one _) rfl rfl (by omega) rfl ?_ | refine iai (es := 1) rfl rfl rfl (Nat.mul_one _) rfl rfl (by omega) (by omega) rfl ?_
      refine ldA (v := .int .i64 _) rfl (by assumption) rfl rfl ?_
      first | refine pu (v := .int .i64 _) rfl rfl ?_ | refine pu rfl rfl ?_
      refine SL_nil ?_
      refine nx ?_
      refine SWP_seq ?_
      refine SWP_region ?_
      first | refine pu (v := .pointer _) rfl rfl ?_ | refine pu rfl rfl ?_
      first | refine pu (v := .int .i64 _) rfl rfl ?_ | refine pu rfl rfl ?_
      refine SL_call rfl rfl cb14 (guTake hrep hlow x) rfl (fun v7_2 σ7_2 m7_2 hl7_2 hR7_2 => ?_)
      obtain ⟨rfl, hm7_2, low2, l2, rfl, hrep2, hlow2⟩ := hR7_2
      have hn7_2 := hm7_2.symm
      subst hn7_2
      rw [(awk hx).2] at hrep2
      rw [(awk hx).1]
      refine pn rfl rfl (fun h => h rfl) ?_
      refine SL_nil ?_
      refine nx ?_
      refine SWP_cf rfl ?_
      refine SWP_skip ?_
      refine nb ?_
      refine nx ?_
      refine SWP_region ?_
      first | refine pw rfl rfl (w64 (by omega) (by omega)) ?_ | refine pu rfl rfl ?_
      first | refine pu (v := .int .i64 _) rfl rfl ?_ | refine pu rfl rfl ?_
      refine SL_nil ?_
      refine nx ?_
      refine ⟨by repeat (first | exact Under.upds rfl (Under.hav _ _ _) | exact Under.hav _ _ _ | refine Under.upd rfl ?_), ?_, ?_⟩
      · exact ⟨i + 1, low2, l2, rfl, by omega, hrep2, hlow2, rfl, rfl⟩
      · simp only [L_vals, List.map, List.getD]; show 4 - (i + 1) < 4 - i; omega
    · skip
      refine SL_nil ?_
      refine nx ?_
      refine SWP_seq ?_
      refine SWP_cf rfl ?_
      refine SWP_exit ?_
      refine ne ?_
      refine ne ?_
      refine be rfl ?_
      refine nx ?_
      refine SWP_seq ?_
      have e0 : i = 4 := by omega
      subst e0
      change Rep 10 L4 low l at hrep
      refine SWP_region ?_
      first | refine pu (v := .pointer _) rfl rfl ?_ | refine pu rfl rfl ?_
      refine SL_call rfl rfl cb16 (guNext hrep hlow) rfl (fun v10_1 σ10_1 m10_1 hl10_1 hR10_1 => ?_)
      obtain ⟨rfl, rfl, hm10_1⟩ := hR10_1
      have hn10_1 := hm10_1.symm
      subst hn10_1
      refine pt rfl rfl (by decide) ?_
      first | refine pu (v := .bool _) rfl rfl ?_ | refine pu rfl rfl ?_
      refine SL_yes rfl ?_
      first | refine pu (v := .pointer _) rfl rfl ?_ | refine pu rfl rfl ?_
      refine SL_yes rfl ?_
      refine SL_call rfl rfl cb18 (guCount hrep (by decide)) rfl (fun v10_5 σ10_5 m10_5 hl10_5 hR10_5 => ?_)
      obtain ⟨rfl, rfl, hm10_5⟩ := hR10_5
      have hn10_5 := hm10_5.symm
      subst hn10_5
      refine SL_yes rfl ?_
      refine pt rfl rfl (by decide) ?_
      first | refine pu (v := .bool _) rfl rfl ?_ | refine pu rfl rfl ?_
      first | refine pu (v := .bool _) rfl rfl ?_ | refine pu rfl rfl ?_
      refine SL_yes rfl ?_
      first | refine pu (v := .pointer _) rfl rfl ?_ | refine pu rfl rfl ?_
      refine SL_yes rfl ?_
      refine SL_call rfl rfl cb21 (guGaps hrep (by decide)) rfl (fun v10_10 σ10_10 m10_10 hl10_10 hR10_10 => ?_)
      obtain ⟨rfl, hg⟩ := hR10_10
      refine SL_yes rfl ?_
      first | refine pu (v := .agg _) rfl rfl ?_ | refine pu rfl rfl ?_
      refine SL_yes rfl ?_
      first | refine pu (v := .agg _) rfl rfl ?_ | refine pu rfl rfl ?_
      refine SL_yes rfl ?_
      refine bs rfl rfl rfl rfl rfl (fun B31 => ?_)
      refine SL_freeze (fun m10 hl10 hat10 => ?_)
      have hP := RL.of_at pairE_len [((3 : Int), (4 : Int)), (6, 8)] rfl rfl hat10
      refine SL_yes rfl ?_
      refine SL_pcall rfl rfl cb20 (sameP (L := [(3, 4), (6, 8)]) (hg.mono hl10) hP (by decide)) rfl ?_
      first | refine pu (v := .bool _) rfl rfl ?_ | refine pu rfl rfl ?_
      first | refine pu (v := .bool _) rfl rfl ?_ | refine pu rfl rfl ?_
      refine SL_yes rfl ?_
      first | refine pu (v := .pointer _) rfl rfl ?_ | refine pu rfl rfl ?_
      refine SL_yes rfl ?_
      refine SL_call rfl rfl cb14 (guTake hrep hlow 5) rfl (fun v10_18 σ10_18 m10_18 hl10_18 hR10_18 => ?_)
      obtain ⟨rfl, hm10_18, low2, l2, rfl, hrep2, hlow2⟩ := hR10_18
      have hn10_18 := hm10_18.symm
      subst hn10_18
      refine SL_yes rfl ?_
      refine pt rfl rfl (by decide) ?_
      first | refine pu (v := .bool _) rfl rfl ?_ | refine pu rfl rfl ?_
      first | refine pu (v := .bool _) rfl rfl ?_ | refine pu rfl rfl ?_
      refine SL_yes rfl ?_
      first | refine pu (v := .pointer _) rfl rfl ?_ | refine pu rfl rfl ?_
      refine SL_yes rfl ?_
      refine SL_call rfl rfl cb14 (guTake hrep2 hlow2 11) rfl (fun v10_23 σ10_23 m10_23 hl10_23 hR10_23 => ?_)
      obtain ⟨rfl, hm10_23, low3, l3, rfl, hrep3, hlow3⟩ := hR10_23
      have hn10_23 := hm10_23.symm
      subst hn10_23
      refine SL_yes rfl ?_
      refine pt rfl rfl (by decide) ?_
      first | refine pu (v := .bool _) rfl rfl ?_ | refine pu rfl rfl ?_
      first | refine pu (v := .bool _) rfl rfl ?_ | refine pu rfl rfl ?_
      refine SL_yes rfl ?_
      first | refine pu (v := .pointer _) rfl rfl ?_ | refine pu rfl rfl ?_
      refine SL_yes rfl ?_
      refine SL_call rfl rfl cb12 (guSeen hrep3 9) rfl (fun v10_28 σ10_28 m10_28 hl10_28 hR10_28 => ?_)
      obtain ⟨rfl, rfl, hm10_28⟩ := hR10_28
      have hn10_28 := hm10_28.symm
      subst hn10_28
      rw [show decide ((9 : Int) ∈ takeS 10 (takeS 10 L4 5) 11) = true by decide]
      first | refine pu (v := .bool _) rfl rfl ?_ | refine pu rfl rfl ?_
      first | refine pu (v := .bool _) rfl rfl ?_ | refine pu rfl rfl ?_
      refine SL_yes rfl ?_
      first | refine pu (v := .pointer _) rfl rfl ?_ | refine pu rfl rfl ?_
      refine SL_yes rfl ?_
      refine SL_call rfl rfl cb12 (guSeen hrep3 3) rfl (fun v10_32 σ10_32 m10_32 hl10_32 hR10_32 => ?_)
      obtain ⟨rfl, rfl, hm10_32⟩ := hR10_32
      have hn10_32 := hm10_32.symm
      subst hn10_32
      rw [show decide ((3 : Int) ∈ takeS 10 (takeS 10 L4 5) 11) = false by decide]
      refine SL_yes rfl ?_
      first | refine pu (v := .bool _) rfl rfl ?_ | refine pu rfl rfl ?_
      first | refine pu (v := .bool _) rfl rfl ?_ | refine pu rfl rfl ?_
      first | refine pu (v := .bool _) rfl rfl ?_ | refine pu rfl rfl ?_
      refine SL_nil ?_
      refine nx ?_
      refine SWP_ret ?_
      refine fin [_] ⟨rfl, trivial⟩ ?_
      rfl

theorem nilTake {m : Mem} (n : Int) : PureCall Try.prog 14 [.pointer none, .int .i64 n] m (.int .i64 5) := by
  refine CallsS.pure ?_
  refine enter Try.func14 Try.ntmps14 rfl rfl ?_
  refine SWP_seq ?_
  refine SWP_region ?_
  first | refine pu (v := .int .i64 _) rfl rfl ?_ | refine pu rfl rfl ?_
  refine SL_nil ?_
  refine nx ?_
  refine SWP_seq ?_
  refine SWP_seq ?_
  refine SWP_region ?_
  first | refine pu (v := .pointer _) rfl rfl ?_ | refine pu rfl rfl ?_
  refine pu (v := .bool true) rfl rfl ?_
  refine SL_nil ?_
  refine nx ?_
  refine SWP_ct rfl ?_
  refine SWP_seq ?_
  refine SWP_region ?_
  first | refine pu (v := .int .i64 _) rfl rfl ?_ | refine pu rfl rfl ?_
  refine SL_nil ?_
  refine nx ?_
  refine SWP_ret ?_
  refine nr ?_
  refine fin [_] ⟨rfl, trivial⟩ ?_
  rfl

theorem nilSeen {m : Mem} (n : Int) : PureCall Try.prog 12 [.pointer none, .int .i64 n] m (.bool false) := by
  refine CallsS.pure ?_
  refine enter Try.func12 Try.ntmps12 rfl rfl ?_
  refine SWP_seq ?_
  refine SWP_region ?_
  first | refine pu (v := .bool _) rfl rfl ?_ | refine pu rfl rfl ?_
  refine SL_nil ?_
  refine nx ?_
  refine SWP_seq ?_
  refine SWP_seq ?_
  refine SWP_region ?_
  first | refine pu (v := .pointer _) rfl rfl ?_ | refine pu rfl rfl ?_
  refine pu (v := .bool true) rfl rfl ?_
  first | refine pu (v := .bool _) rfl rfl ?_ | refine pu rfl rfl ?_
  refine SL_no rfl rfl ?_
  refine SL_no rfl rfl ?_
  first | refine pu (v := .bool _) rfl rfl ?_ | refine pu rfl rfl ?_
  first | refine pu (v := .bool _) rfl rfl ?_ | refine pu rfl rfl ?_
  refine SL_no rfl rfl ?_
  refine SL_no rfl rfl ?_
  refine SL_no rfl rfl ?_
  refine SL_no rfl rfl ?_
  refine SL_no rfl rfl ?_
  refine SL_no rfl rfl ?_
  first | refine pu (v := .bool _) rfl rfl ?_ | refine pu rfl rfl ?_
  refine SL_nil ?_
  refine nx ?_
  refine SWP_ct rfl ?_
  refine SWP_seq ?_
  refine SWP_region ?_
  first | refine pu (v := .bool _) rfl rfl ?_ | refine pu rfl rfl ?_
  refine SL_nil ?_
  refine nx ?_
  refine SWP_ret ?_
  refine nr ?_
  refine fin [_] ⟨rfl, trivial⟩ ?_
  rfl

theorem nilNext {m : Mem} : PureCall Try.prog 16 [.pointer none] m (.int .i64 0) := by
  refine CallsS.pure ?_
  refine enter Try.func16 Try.ntmps16 rfl rfl ?_
  refine SWP_seq ?_
  refine SWP_region ?_
  first | refine pu (v := .int .i64 _) rfl rfl ?_ | refine pu rfl rfl ?_
  refine SL_nil ?_
  refine nx ?_
  refine SWP_seq ?_
  refine SWP_seq ?_
  refine SWP_region ?_
  first | refine pu (v := .pointer _) rfl rfl ?_ | refine pu rfl rfl ?_
  refine pu (v := .bool true) rfl rfl ?_
  refine SL_nil ?_
  refine nx ?_
  refine SWP_ct rfl ?_
  refine SWP_seq ?_
  refine SWP_region ?_
  first | refine pu (v := .int .i64 _) rfl rfl ?_ | refine pu rfl rfl ?_
  refine SL_nil ?_
  refine nx ?_
  refine SWP_ret ?_
  refine nr ?_
  refine fin [_] ⟨rfl, trivial⟩ ?_
  rfl

theorem nilCount {m : Mem} : PureCall Try.prog 18 [.pointer none] m (.int .i64 0) := by
  refine CallsS.pure ?_
  refine enter Try.func18 Try.ntmps18 rfl rfl ?_
  refine SWP_seq ?_
  refine SWP_region ?_
  first | refine pu (v := .int .i64 _) rfl rfl ?_ | refine pu rfl rfl ?_
  refine SL_nil ?_
  refine nx ?_
  refine SWP_seq ?_
  refine SWP_seq ?_
  refine SWP_region ?_
  first | refine pu (v := .pointer _) rfl rfl ?_ | refine pu rfl rfl ?_
  refine pu (v := .bool true) rfl rfl ?_
  refine SL_nil ?_
  refine nx ?_
  refine SWP_ct rfl ?_
  refine SWP_seq ?_
  refine SWP_region ?_
  first | refine pu (v := .int .i64 _) rfl rfl ?_ | refine pu rfl rfl ?_
  refine SL_nil ?_
  refine nx ?_
  refine SWP_ret ?_
  refine nr ?_
  refine fin [_] ⟨rfl, trivial⟩ ?_
  rfl

theorem nilGaps {m : Mem} : PureCall Try.prog 21 [.pointer none] m (.slice none 0 0) := by
  refine CallsS.pure ?_
  refine enter Try.func21 Try.ntmps21 rfl rfl ?_
  refine SWP_seq ?_
  refine SWP_region ?_
  first | refine pu (v := .slice _ _ _) rfl rfl ?_ | refine pu rfl rfl ?_
  refine SL_nil ?_
  refine nx ?_
  refine SWP_seq ?_
  refine SWP_seq ?_
  refine SWP_region ?_
  first | refine pu (v := .pointer _) rfl rfl ?_ | refine pu rfl rfl ?_
  refine pu (v := .bool true) rfl rfl ?_
  refine SL_nil ?_
  refine nx ?_
  refine SWP_ct rfl ?_
  refine SWP_seq ?_
  refine SWP_region ?_
  first | refine pu (v := .slice _ _ _) rfl rfl ?_ | refine pu rfl rfl ?_
  refine SL_nil ?_
  refine nx ?_
  refine SWP_ret ?_
  refine nr ?_
  refine fin [_] ⟨rfl, trivial⟩ ?_
  rfl

theorem lawSequenceNobody {m : Mem} (n : Int) : PureCall Try.prog 8 [.int .i64 n] m (.bool true) := by
  refine CallsS.pure ?_
  refine enter Try.func8 Try.ntmps8 rfl rfl ?_
  refine SWP_seq ?_
  refine SWP_region ?_
  first | refine pu (v := .bool _) rfl rfl ?_ | refine pu rfl rfl ?_
  refine SL_nil ?_
  refine nx ?_
  refine SWP_seq ?_
  refine SWP_region ?_
  first | refine pu (v := .pointer _) rfl rfl ?_ | refine pu rfl rfl ?_
  refine SL_nil ?_
  refine nx ?_
  refine SWP_seq ?_
  refine SWP_region ?_
  first | refine pu (v := .pointer _) rfl rfl ?_ | refine pu rfl rfl ?_
  first | refine pu (v := .int .i64 _) rfl rfl ?_ | refine pu rfl rfl ?_
  refine SL_pcall rfl rfl cb14 (nilTake _) rfl ?_
  refine pt rfl rfl (rfl) ?_
  first | refine pu (v := .bool _) rfl rfl ?_ | refine pu rfl rfl ?_
  refine SL_yes rfl ?_
  first | refine pu (v := .pointer _) rfl rfl ?_ | refine pu rfl rfl ?_
  refine SL_yes rfl ?_
  first | refine pu (v := .int .i64 _) rfl rfl ?_ | refine pu rfl rfl ?_
  refine SL_yes rfl ?_
  refine SL_pcall rfl rfl cb12 (nilSeen _) rfl ?_
  refine SL_yes rfl ?_
  first | refine pu (v := .bool _) rfl rfl ?_ | refine pu rfl rfl ?_
  first | refine pu (v := .bool _) rfl rfl ?_ | refine pu rfl rfl ?_
  first | refine pu (v := .bool _) rfl rfl ?_ | refine pu rfl rfl ?_
  refine SL_yes rfl ?_
  first | refine pu (v := .pointer _) rfl rfl ?_ | refine pu rfl rfl ?_
  refine SL_yes rfl ?_
  refine SL_pcall rfl rfl cb16 (nilNext) rfl ?_
  refine SL_yes rfl ?_
  refine pt rfl rfl (rfl) ?_
  first | refine pu (v := .bool _) rfl rfl ?_ | refine pu rfl rfl ?_
  first | refine pu (v := .bool _) rfl rfl ?_ | refine pu rfl rfl ?_
  refine SL_yes rfl ?_
  first | refine pu (v := .pointer _) rfl rfl ?_ | refine pu rfl rfl ?_
  refine SL_yes rfl ?_
  refine SL_pcall rfl rfl cb18 (nilCount) rfl ?_
  refine SL_yes rfl ?_
  refine pt rfl rfl (rfl) ?_
  first | refine pu (v := .bool _) rfl rfl ?_ | refine pu rfl rfl ?_
  first | refine pu (v := .bool _) rfl rfl ?_ | refine pu rfl rfl ?_
  refine SL_yes rfl ?_
  first | refine pu (v := .pointer _) rfl rfl ?_ | refine pu rfl rfl ?_
  refine SL_yes rfl ?_
  refine SL_pcall rfl rfl cb21 (nilGaps) rfl ?_
  refine SL_yes rfl ?_
  refine pu rfl rfl ?_
  refine SL_yes rfl ?_
  refine pt rfl rfl (rfl) ?_
  first | refine pu (v := .bool _) rfl rfl ?_ | refine pu rfl rfl ?_
  first | refine pu (v := .bool _) rfl rfl ?_ | refine pu rfl rfl ?_
  refine SL_yes rfl ?_
  refine SL_pcall rfl rfl cb11 (awakeOk) rfl ?_
  first | refine pu (v := .bool _) rfl rfl ?_ | refine pu rfl rfl ?_
  first | refine pu (v := .bool _) rfl rfl ?_ | refine pu rfl rfl ?_
  refine SL_nil ?_
  refine nx ?_
  refine SWP_ret ?_
  refine fin [_] ⟨rfl, trivial⟩ ?_
  rfl

theorem lawSequenceRuns {m : Mem} {v : Value} {l : List Int} (most : Int) (h : RL m intE 1 v l) : CallsS Try.prog 3 [.int .i64 most, v].toArray [] m fun r _ _ => r = .bool true := by
  obtain ⟨a, cap, rfl⟩ := h.len
  refine enter Try.func3 Try.ntmps3 rfl rfl ?_
  refine SWP_seq ?_
  refine SWP_region ?_
  first | refine pu (v := .bool _) rfl rfl ?_ | refine pu rfl rfl ?_
  refine SL_nil ?_
  refine nx ?_
  refine SWP_seq ?_
  refine SWP_region ?_
  first | refine pu (v := .int .i64 _) rfl rfl ?_ | refine pu rfl rfl ?_
  refine SL_call rfl rfl cb9 (guNew most) rfl (fun v1_1 σ1_1 m1_1 hl1_1 hR1_1 => ?_)
  obtain ⟨B, M, rfl, rfl, hm1_1⟩ := hR1_1
  have hn1_1 := hm1_1.symm
  subst hn1_1
  first | refine pu (v := .int .i64 _) rfl rfl ?_ | refine pu rfl rfl ?_
  refine SL_call rfl rfl cb10 (CallsS.frame0 (rfNew most)) rfl (fun v1_3 σ1_3 m1_3 hl1_3 hR1_3 => ?_)
  obtain ⟨σ₁, rfl, B2, rfl, rfl, hm1_3⟩ := hR1_3
  have hn1_3 := hm1_3.symm
  subst hn1_3
  first | refine pu (v := .pointer _) rfl rfl ?_ | refine pu rfl rfl ?_
  first | refine pu (v := .pointer _) rfl rfl ?_ | refine pu rfl rfl ?_
  refine SL_nil ?_
  refine nx ?_
  refine SWP_seq ?_
  refine SWP_seq ?_
  refine SWP_region ?_
  first | refine pu (v := .slice _ _ _) rfl rfl ?_ | refine pu rfl rfl ?_
  refine pu rfl rfl ?_
  refine pc rfl rfl (fun c14 => ?_) (fun c14 => ?_)
  · skip
    refine SL_nil ?_
    refine nx ?_
    refine SWP_ct rfl ?_
    refine SWP_seq ?_
    refine SWP_region ?_
    refine SL_pcall rfl rfl cb11 (awakeOk) rfl ?_
    first | refine pu (v := .bool _) rfl rfl ?_ | refine pu rfl rfl ?_
    refine SL_nil ?_
    refine nx ?_
    refine SWP_ret ?_
    refine nr ?_
    refine fin [_] ⟨rfl, trivial⟩ ?_
    rfl
  · skip
    refine SL_nil ?_
    refine nx ?_
    refine SWP_cf rfl ?_
    refine SWP_skip ?_
    refine nx ?_
    refine SWP_seq ?_
    refine SWP_seq ?_
    refine SWP_region ?_
    first | refine pu (v := .slice _ _ _) rfl rfl ?_ | refine pu rfl rfl ?_
    refine pu rfl rfl ?_
    first | refine pu (v := .int .i64 _) rfl rfl ?_ | refine pu rfl rfl ?_
    refine SL_nil ?_
    refine nx ?_
    refine SWP_block ?_
    refine SWP_loop [4, 7, 18, 19, 20, 21, 22, 23, 24, 25, 26, 27, 28, 29, 30, 31, 32, 33, 34, 35, 36, 37, 38, 39, 40, 41, 42, 43, 44, 45, 46, 47, 48, 49, 50, 51, 52, 53, 54, 55, 56, 57, 58, 59, 60, 61, 62, 63, 64, 65, 66, 67, 68, 69, 70, 71, 72, 73, 74, 75, 76, 77, 78, 79, 80, 81, 82, 83, 84] [18]
        (fun vs σ' m' => ∃ (i low : Nat) (lm : IMap) (S : List Int) (sv : Value) (σe : Sig), vs = [.int .i64 (i : Nat)] ∧ i ≤ l.length ∧ Rep (clampI most) S low lm ∧ (low : Int) + 1 ∉ keysL lm ∧ OwnS 3 1 sv (S.flatMap intE) σe ∧ S.length ≤ i ∧ σ' = RfC B2 (clampI most) sv σe ++ GuC B M (clampI most) low lm ∧ Le m m')
        (fun vs => l.length - nOf (vs.getD 0 undef)) rfl ?_ ?_
    · exact ⟨0, 0, [], [], _, [], rfl, by omega, Rep.new (clamp_lo _) (clamp_hi _), by simp, .nil, by simp, rfl, Le.refl _⟩
    · intro u0 vs0 σ0 m0 hJ0 _
      obtain ⟨i, low, lm, S, sv, σe, rfl, hi, hrep, hlow, hown, hSl, rfl, hlm⟩ := hJ0
      refine SWP_seq ?_
      refine SWP_region ?_
      refine pc rfl rfl (fun c19 => ?_) (fun c19 => ?_)
      · skip
        refine SL_nil ?_
        refine nx ?_
        refine SWP_seq ?_
        refine SWP_ct rfl ?_
        refine SWP_skip ?_
        refine nx ?_
        refine SWP_seq ?_
        refine SWP_block ?_
        refine SWP_seq ?_
        refine SWP_region ?_
        first | refine pu (v := .int .i64 _) rfl rfl ?_ | refine pu rfl rfl ?_
        first | refine pu (v := .int .i64 _) rfl rfl ?_ | refine pu rfl rfl ?_
        refine SL_nil ?_
        refine nx ?_
        refine SWP_seq ?_
        refine SWP_seq ?_
        obtain ⟨x, hx⟩ : ∃ x, l[i]? = some x := ⟨_, List.getElem?_eq_getElem (by omega)⟩
        obtain ⟨ad, cap', e1, hat⟩ := RL.at1 intE_len (h.mono hlm) hx
        cases e1
        refine SWP_drawn [] [0, 1, 2, 3, 4, 6, 7, 8, 9, 10, 5, 11, 12, 13, 14, 15, 16, 17, 18, 20, 21, 22, 23, 24, 19, 25, 26, 27, 28, 29, 30, 31, 32, 33, 35, 36, 37, 38, 39, 34, 40, 41, 42] (by kernel_rfl) (by kernel_rfl) (Sub.nil _) ?_
        first | refine pu (v := .pointer _) rfl rfl ?_ | refine pu rfl rfl ?_
        first | refine pu (v := .slice _ _ _) rfl rfl ?_ | refine pu rfl rfl ?_
        first | refine pu (v := .int .i64 _) rfl rfl ?_ | refine pu rfl rfl ?_
        first | refine ia (es := 1) rfl rfl rfl (Nat.mul_one _) rfl rfl (by omega) rfl ?_ | refine iai (es := 1) rfl rfl rfl (Nat.mul_one _) rfl rfl (by omega) (by omega) rfl ?_
        refine ldA (v := .int .i64 _) rfl (by assumption) rfl rfl ?_
        first | refine pu (v := .pointer _) rfl rfl ?_ | refine pu rfl rfl ?_
        first | refine pu (v := .slice _ _ _) rfl rfl ?_ | refine pu rfl rfl ?_
        first | refine pu (v := .int .i64 _) rfl rfl ?_ | refine pu rfl rfl ?_
        first | refine ia (es := 1) rfl rfl rfl (Nat.mul_one _) rfl rfl (by omega) rfl ?_ | refine iai (es := 1) rfl rfl rfl (Nat.mul_one _) rfl rfl (by omega) (by omega) rfl ?_
        refine ldA (v := .int .i64 _) rfl (by assumption) rfl rfl ?_
        refine SL_call rfl rfl cb12 (CallsS.subF (RfC _ _ _ _) (guSeen hrep x) List.perm_append_comm) rfl (fun v7_5 σ7_5 m7_5 hl7_5 hR7_5 => ?_)
        obtain ⟨σ₁, rfl, rfl, rfl, hm7_5⟩ := hR7_5
        have hn7_5 := hm7_5.symm
        subst hn7_5
        refine SL_call rfl rfl cb13 (CallsS.subF (GuC _ _ _ _ _) (rfSeen hown (by omega) x) List.perm_append_comm) rfl (fun v7_11 σ7_11 m7_11 hl7_11 hR7_11 => ?_)
        obtain ⟨σ₁, rfl, rfl, rfl, hm7_11⟩ := hR7_11
        have hn7_11 := hm7_11.symm
        subst hn7_11
        refine pn rfl rfl (fun h => h rfl) ?_
        first | refine pu (v := .bool _) rfl rfl ?_ | refine pu rfl rfl ?_
        refine SL_yes rfl ?_
        first | refine pu (v := .pointer _) rfl rfl ?_ | refine pu rfl rfl ?_
        refine SL_yes rfl ?_
        first | refine pu (v := .slice _ _ _) rfl rfl ?_ | refine pu rfl rfl ?_
        refine SL_yes rfl ?_
        first | refine pu (v := .int .i64 _) rfl rfl ?_ | refine pu rfl rfl ?_
        refine SL_yes rfl ?_
        first | refine ia (es := 1) rfl rfl rfl (Nat.mul_one _) rfl rfl (by omega) rfl ?_ | refine iai (es := 1) rfl rfl rfl (Nat.mul_one _) rfl rfl (by omega) (by omega) rfl ?_
        refine SL_yes rfl ?_
        refine ldA (v := .int .i64 _) rfl (by assumption) rfl rfl ?_
        refine SL_yes rfl ?_
        first | refine pu (v := .pointer _) rfl rfl ?_ | refine pu rfl rfl ?_
        refine SL_yes rfl ?_
        first | refine pu (v := .slice _ _ _) rfl rfl ?_ | refine pu rfl rfl ?_
        refine SL_yes rfl ?_
        first | refine pu (v := .int .i64 _) rfl rfl ?_ | refine pu rfl rfl ?_
        refine SL_yes rfl ?_
        first | refine ia (es := 1) rfl rfl rfl (Nat.mul_one _) rfl rfl (by omega) rfl ?_ | refine iai (es := 1) rfl rfl rfl (Nat.mul_one _) rfl rfl (by omega) (by omega) rfl ?_
        refine SL_yes rfl ?_
        refine ldA (v := .int .i64 _) rfl (by assumption) rfl rfl ?_
        refine SL_yes rfl ?_
        refine SL_call rfl rfl cb14 (CallsS.subF (RfC _ _ _ _) (guTake hrep hlow x) List.perm_append_comm) rfl (fun v7_19 σ7_19 m7_19 hl7_19 hR7_19 => ?_)
        obtain ⟨σ₁, rfl, rfl, hm7_19, low2, lm2, rfl, hrep2, hlow2⟩ := hR7_19
        have hn7_19 := hm7_19.symm
        subst hn7_19
        refine SL_yes rfl ?_
        refine SL_call rfl rfl cb15 (CallsS.subF (GuC _ _ _ _ _) (rfTake hown (by omega) x) List.perm_append_comm) rfl (fun v7_25 σ7_25 m7_25 hl7_25 hR7_25 => ?_)
        obtain ⟨σ₁, rfl, rfl, hm7_25, sv2, σe2, rfl, hown2⟩ := hR7_25
        have hn7_25 := hm7_25.symm
        subst hn7_25
        have hSl2 : (takeS (clampI most) S x).length ≤ i + 1 := by have := takeS_len (clampI most) S x; omega
        refine SL_yes rfl ?_
        refine pn rfl rfl (fun h => h rfl) ?_
        first | refine pu (v := .bool _) rfl rfl ?_ | refine pu rfl rfl ?_
        first | refine pu (v := .bool _) rfl rfl ?_ | refine pu rfl rfl ?_
        refine SL_yes rfl ?_
        first | refine pu (v := .pointer _) rfl rfl ?_ | refine pu rfl rfl ?_
        refine SL_yes rfl ?_
        first | refine pu (v := .slice _ _ _) rfl rfl ?_ | refine pu rfl rfl ?_
        refine SL_yes rfl ?_
        first | refine pu (v := .int .i64 _) rfl rfl ?_ | refine pu rfl rfl ?_
        refine SL_yes rfl ?_
        first | refine ia (es := 1) rfl rfl rfl (Nat.mul_one _) rfl rfl (by omega) rfl ?_ | refine iai (es := 1) rfl rfl rfl (Nat.mul_one _) rfl rfl (by omega) (by omega) rfl ?_
        refine SL_yes rfl ?_
        refine ldA (v := .int .i64 _) rfl (by assumption) rfl rfl ?_
        refine SL_yes rfl ?_
        first | refine pu (v := .pointer _) rfl rfl ?_ | refine pu rfl rfl ?_
        refine SL_yes rfl ?_
        first | refine pu (v := .slice _ _ _) rfl rfl ?_ | refine pu rfl rfl ?_
        refine SL_yes rfl ?_
        first | refine pu (v := .int .i64 _) rfl rfl ?_ | refine pu rfl rfl ?_
        refine SL_yes rfl ?_
        first | refine ia (es := 1) rfl rfl rfl (Nat.mul_one _) rfl rfl (by omega) rfl ?_ | refine iai (es := 1) rfl rfl rfl (Nat.mul_one _) rfl rfl (by omega) (by omega) rfl ?_
        refine SL_yes rfl ?_
        refine ldA (v := .int .i64 _) rfl (by assumption) rfl rfl ?_
        refine SL_yes rfl ?_
        refine SL_call rfl rfl cb12 (CallsS.subF (RfC _ _ _ _) (guSeen hrep2 x) List.perm_append_comm) rfl (fun v7_34 σ7_34 m7_34 hl7_34 hR7_34 => ?_)
        obtain ⟨σ₁, rfl, rfl, rfl, hm7_34⟩ := hR7_34
        have hn7_34 := hm7_34.symm
        subst hn7_34
        refine SL_yes rfl ?_
        refine SL_call rfl rfl cb13 (CallsS.subF (GuC _ _ _ _ _) (rfSeen hown2 (by omega) x) List.perm_append_comm) rfl (fun v7_40 σ7_40 m7_40 hl7_40 hR7_40 => ?_)
        obtain ⟨σ₁, rfl, rfl, rfl, hm7_40⟩ := hR7_40
        have hn7_40 := hm7_40.symm
        subst hn7_40
        refine SL_yes rfl ?_
        refine pn rfl rfl (fun h => h rfl) ?_
        first | refine pu (v := .bool _) rfl rfl ?_ | refine pu rfl rfl ?_
        refine SL_nil ?_
        refine nx ?_
        refine SWP_cf rfl ?_
        refine SWP_skip ?_
        refine nx ?_
        refine SWP_seq ?_
        refine SWP_region ?_
        first | refine pu (v := .pointer _) rfl rfl ?_ | refine pu rfl rfl ?_
        refine SL_call rfl rfl cb16 (CallsS.subF (RfC _ _ _ _) (guNext hrep2 hlow2) List.perm_append_comm) rfl (fun v9_1 σ9_1 m9_1 hl9_1 hR9_1 => ?_)
        obtain ⟨σ₁, rfl, rfl, rfl, hm9_1⟩ := hR9_1
        have hn9_1 := hm9_1.symm
        subst hn9_1
        first | refine pu (v := .pointer _) rfl rfl ?_ | refine pu rfl rfl ?_
        refine SL_call rfl rfl cb17 (CallsS.subF (GuC _ _ _ _ _) (rfNext hown2 (by omega)) List.perm_append_comm) rfl (fun v9_3 σ9_3 m9_3 hl9_3 hR9_3 => ?_)
        obtain ⟨σ₁, rfl, rfl, rfl, hm9_3⟩ := hR9_3
        have hn9_3 := hm9_3.symm
        subst hn9_3
        refine pn rfl rfl (fun h => h rfl) ?_
        first | refine pu (v := .bool _) rfl rfl ?_ | refine pu rfl rfl ?_
        refine SL_yes rfl ?_
        first | refine pu (v := .pointer _) rfl rfl ?_ | refine pu rfl rfl ?_
        refine SL_yes rfl ?_
        refine SL_call rfl rfl cb18 (CallsS.subF (RfC _ _ _ _) (guCount hrep2 (by omega)) List.perm_append_comm) rfl (fun v9_7 σ9_7 m9_7 hl9_7 hR9_7 => ?_)
        obtain ⟨σ₁, rfl, rfl, rfl, hm9_7⟩ := hR9_7
        have hn9_7 := hm9_7.symm
        subst hn9_7
        refine SL_yes rfl ?_
        first | refine pu (v := .pointer _) rfl rfl ?_ | refine pu rfl rfl ?_
        refine SL_yes rfl ?_
        refine SL_call rfl rfl cb19 (CallsS.subF (GuC _ _ _ _ _) (rfCount hown2 (by omega)) List.perm_append_comm) rfl (fun v9_9 σ9_9 m9_9 hl9_9 hR9_9 => ?_)
        obtain ⟨σ₁, rfl, rfl, rfl, hm9_9⟩ := hR9_9
        have hn9_9 := hm9_9.symm
        subst hn9_9
        refine SL_yes rfl ?_
        refine pn rfl rfl (fun h => h rfl) ?_
        first | refine pu (v := .bool _) rfl rfl ?_ | refine pu rfl rfl ?_
        first | refine pu (v := .bool _) rfl rfl ?_ | refine pu rfl rfl ?_
        refine SL_yes rfl ?_
        first | refine pu (v := .pointer _) rfl rfl ?_ | refine pu rfl rfl ?_
        refine SL_yes rfl ?_
        refine SL_call rfl rfl cb21 (CallsS.subF (RfC _ _ _ _) (guGaps hrep2 (by omega)) List.perm_append_comm) rfl (fun v9_14 σ9_14 m9_14 hl9_14 hR9_14 => ?_)
        obtain ⟨σ₁, rfl, rfl, hg1⟩ := hR9_14
        refine SL_yes rfl ?_
        first | refine pu (v := .pointer _) rfl rfl ?_ | refine pu rfl rfl ?_
        refine SL_yes rfl ?_
        refine SL_call rfl rfl cb22 (CallsS.subF (GuC _ _ _ _ _) (rfGaps hown2 (by omega) hrep2.good) List.perm_append_comm) rfl (fun v9_16 σ9_16 m9_16 hl9_16 hR9_16 => ?_)
        obtain ⟨σ₁, rfl, rfl, hg2⟩ := hR9_16
        refine SL_yes rfl ?_
        refine SL_pcall rfl rfl cb20 (sameP (hg1.mono hl9_16) hg2 (gapsOf_len _)) rfl ?_
        refine SL_yes rfl ?_
        first | refine pu (v := .bool _) rfl rfl ?_ | refine pu rfl rfl ?_
        first | refine pu (v := .bool _) rfl rfl ?_ | refine pu rfl rfl ?_
        refine SL_nil ?_
        refine nx ?_
        refine SWP_cf rfl ?_
        refine SWP_skip ?_
        refine nb ?_
        refine nx ?_
        refine SWP_region ?_
        first | refine pw rfl rfl (w64 (by omega) (by omega)) ?_ | refine pu rfl rfl ?_
        first | refine pu (v := .int .i64 _) rfl rfl ?_ | refine pu rfl rfl ?_
        refine SL_nil ?_
        refine nx ?_
        refine ⟨by repeat (first | exact Under.upds rfl (Under.hav _ _ _) | exact Under.hav _ _ _ | refine Under.upd rfl ?_), ?_, ?_⟩
        · exact ⟨i + 1, low2, lm2, takeS (clampI most) S x, sv2, σe2, rfl, by omega, hrep2, hlow2, hown2, hSl2, rfl, (hlm.trans hl9_14).trans hl9_16⟩
        · simp only [L_vals, List.map, List.getD]; show l.length - (i + 1) < l.length - i; omega
      · skip
        refine SL_nil ?_
        refine nx ?_
        refine SWP_seq ?_
        refine SWP_cf rfl ?_
        refine SWP_exit ?_
        refine ne ?_
        refine ne ?_
        refine be rfl ?_
        refine nx ?_
        refine SWP_seq ?_
        refine SWP_region ?_
        first | refine pu (v := .pointer _) rfl rfl ?_ | refine pu rfl rfl ?_
        refine SL_call rfl rfl cb16 (CallsS.subF (RfC _ _ _ _) (guNext hrep hlow) List.perm_append_comm) rfl (fun v12_1 σ12_1 m12_1 hl12_1 hR12_1 => ?_)
        obtain ⟨σ₁, rfl, rfl, rfl, hm12_1⟩ := hR12_1
        have hn12_1 := hm12_1.symm
        subst hn12_1
        first | refine pu (v := .pointer _) rfl rfl ?_ | refine pu rfl rfl ?_
        refine SL_call rfl rfl cb17 (CallsS.subF (GuC _ _ _ _ _) (rfNext hown (by omega)) List.perm_append_comm) rfl (fun v12_3 σ12_3 m12_3 hl12_3 hR12_3 => ?_)
        obtain ⟨σ₁, rfl, rfl, rfl, hm12_3⟩ := hR12_3
        have hn12_3 := hm12_3.symm
        subst hn12_3
        refine pt rfl rfl (rfl) ?_
        first | refine pu (v := .bool _) rfl rfl ?_ | refine pu rfl rfl ?_
        refine SL_yes rfl ?_
        first | refine pu (v := .pointer _) rfl rfl ?_ | refine pu rfl rfl ?_
        refine SL_yes rfl ?_
        refine SL_call rfl rfl cb18 (CallsS.subF (RfC _ _ _ _) (guCount hrep (by omega)) List.perm_append_comm) rfl (fun v12_7 σ12_7 m12_7 hl12_7 hR12_7 => ?_)
        obtain ⟨σ₁, rfl, rfl, rfl, hm12_7⟩ := hR12_7
        have hn12_7 := hm12_7.symm
        subst hn12_7
        refine SL_yes rfl ?_
        first | refine pu (v := .pointer _) rfl rfl ?_ | refine pu rfl rfl ?_
        refine SL_yes rfl ?_
        refine SL_call rfl rfl cb19 (CallsS.subF (GuC _ _ _ _ _) (rfCount hown (by omega)) List.perm_append_comm) rfl (fun v12_9 σ12_9 m12_9 hl12_9 hR12_9 => ?_)
        obtain ⟨σ₁, rfl, rfl, rfl, hm12_9⟩ := hR12_9
        have hn12_9 := hm12_9.symm
        subst hn12_9
        refine SL_yes rfl ?_
        refine pt rfl rfl (rfl) ?_
        first | refine pu (v := .bool _) rfl rfl ?_ | refine pu rfl rfl ?_
        first | refine pu (v := .bool _) rfl rfl ?_ | refine pu rfl rfl ?_
        refine SL_yes rfl ?_
        first | refine pu (v := .pointer _) rfl rfl ?_ | refine pu rfl rfl ?_
        refine SL_yes rfl ?_
        refine SL_call rfl rfl cb21 (CallsS.subF (RfC _ _ _ _) (guGaps hrep (by omega)) List.perm_append_comm) rfl (fun v12_14 σ12_14 m12_14 hl12_14 hR12_14 => ?_)
        obtain ⟨σ₁, rfl, rfl, hg1⟩ := hR12_14
        obtain ⟨a1, cap1, rfl⟩ := hg1.len
        refine SL_yes rfl ?_
        refine pu rfl rfl ?_
        refine SL_yes rfl ?_
        first | refine pu (v := .pointer _) rfl rfl ?_ | refine pu rfl rfl ?_
        refine SL_yes rfl ?_
        refine SL_call rfl rfl cb22 (CallsS.subF (GuC _ _ _ _ _) (rfGaps hown (by omega) hrep.good) List.perm_append_comm) rfl (fun v12_17 σ12_17 m12_17 hl12_17 hR12_17 => ?_)
        obtain ⟨σ₁, rfl, rfl, hg2⟩ := hR12_17
        obtain ⟨a2, cap2, rfl⟩ := hg2.len
        refine SL_yes rfl ?_
        refine pu rfl rfl ?_
        refine SL_yes rfl ?_
        refine pt rfl rfl (rfl) ?_
        first | refine pu (v := .bool _) rfl rfl ?_ | refine pu rfl rfl ?_
        first | refine pu (v := .bool _) rfl rfl ?_ | refine pu rfl rfl ?_
        refine SL_yes rfl ?_
        refine SL_pcall rfl rfl cb11 (awakeOk) rfl ?_
        first | refine pu (v := .bool _) rfl rfl ?_ | refine pu rfl rfl ?_
        first | refine pu (v := .bool _) rfl rfl ?_ | refine pu rfl rfl ?_
        refine SL_nil ?_
        refine nx ?_
        refine SWP_ret ?_
        refine fin [_] ⟨rfl, trivial⟩ ?_
        rfl

end Go.Proofs.Ythejjlakmkdkeaa

