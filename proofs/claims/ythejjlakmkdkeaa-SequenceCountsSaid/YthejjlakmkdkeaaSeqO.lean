/- lotterylaw20: SequenceFills, SequenceOrders, SequenceOnce. -/
import Derived.Test.YthejjlakmkdkeaaSeqL
namespace Go.Proofs.Ythejjlakmkdkeaa
open Eng

theorem takeS_mem {most : Int} {S : List Int} {n x : Int} : x ∈ takeS most S n ↔ x ∈ S ∨ (x = n ∧ 1 ≤ n ∧ n ≤ most) := by
  unfold takeS
  by_cases h : takeE most S n = 0
  · rw [if_pos h, mem_ins]
    obtain ⟨h1, h2, _⟩ := takeE_zero h
    constructor
    · rintro (h | h)
      · exact .inr ⟨h, h1, h2⟩
      · exact .inl h
    · rintro (h | h)
      · exact .inr h
      · exact .inl h.1
  · rw [if_neg h]
    refine ⟨.inl, fun h' => ?_⟩
    rcases h' with h' | ⟨rfl, h1, h2⟩
    · exact h'
    · unfold takeE at h
      rw [if_neg (by omega)] at h
      by_cases hm : x ∈ S
      · exact hm
      · rw [if_neg hm] at h; exact absurd rfl h
theorem fill_take {most : Int} {k : Nat} (h : (k : Int) + 1 ≤ most) : takeE most (iota k) ((k : Int) + 1) = 0 ∧ takeS most (iota k) ((k : Int) + 1) = iota (k + 1) := by
  have hn : (k : Int) + 1 ∉ iota k := fun hm => by have := (mem_iota.1 hm).2; omega
  have e : takeE most (iota k) ((k : Int) + 1) = 0 := by unfold takeE; rw [if_neg (by omega), if_neg hn]
  refine ⟨e, ?_⟩
  unfold takeS
  rw [if_pos e]
  refine asc_eq _ _ ((iota_asc k).ins hn) (iota_asc _) fun x => ?_
  rw [mem_ins, mem_iota, mem_iota]
  omega
theorem next_iota (k : Nat) : nextFrom 1 (iota k) = k + 1 := by
  have := nextFrom_iota (n := k) (K := []) (fun x h => by cases h)
  rwa [List.append_nil] at this
theorem clamp_ge {most n : Int} (h1 : 1 ≤ n) (h2 : n ≤ 2000) (h3 : n ≤ most) : n ≤ clampI most := by unfold clampI; omega
theorem clamp_id {most : Int} (h1 : 1 ≤ most) (h2 : most ≤ 1048576) : clampI most = most := by unfold clampI; omega

theorem lawSequenceFills {m : Mem} (most n : Int) : CallsS Try.prog 7 [.int .i64 most, .int .i64 n].toArray [] m fun r _ _ => r = .bool true := by
  refine enter Try.func7 Try.ntmps7 rfl rfl ?_
  refine SWP_seq ?_
  refine SWP_region ?_
  first | refine pu (v := .bool _) rfl rfl ?_ | refine pu rfl rfl ?_
  refine SL_nil ?_
  refine nx ?_
  refine SWP_seq ?_
  refine SWP_seq ?_
  refine SWP_region ?_
  first | refine pu (v := .int .i64 _) rfl rfl ?_ | refine pu rfl rfl ?_
  refine pc rfl rfl (fun c8 => ?_) (fun c8 => ?_)
  · skip
    first | refine pu (v := .bool _) rfl rfl ?_ | refine pu rfl rfl ?_
    refine SL_no rfl rfl ?_
    refine SL_no rfl rfl ?_
    first | refine pu (v := .bool _) rfl rfl ?_ | refine pu rfl rfl ?_
    first | refine pu (v := .bool _) rfl rfl ?_ | refine pu rfl rfl ?_
    refine SL_no rfl rfl ?_
    refine SL_no rfl rfl ?_
    refine SL_no rfl rfl ?_
    first | refine pu (v := .bool _) rfl rfl ?_ | refine pu rfl rfl ?_
    refine SL_nil ?_
    refine nx ?_
    refine SWP_ct rfl ?_
    refine SWP_seq ?_
    refine SWP_region ?_
    refine SL_pcall rfl rfl cb11 (awakeOk) rfl ?_
    first | refine pu (v := .bool _) rfl rfl ?_ | refine pu rfl rfl ?_
    refine SL_nil ?_
    refine nx ?_
    refine SWP_ret ?_
    refine nr ?_
    refine fin [_] ⟨rfl, trivial⟩ ?_
    rfl
  · skip
    first | refine pu (v := .bool _) rfl rfl ?_ | refine pu rfl rfl ?_
    refine SL_yes rfl ?_
    first | refine pu (v := .int .i64 _) rfl rfl ?_ | refine pu rfl rfl ?_
    refine SL_yes rfl ?_
    refine pc rfl rfl (fun c11 => ?_) (fun c11 => ?_)
    · skip
      first | refine pu (v := .bool _) rfl rfl ?_ | refine pu rfl rfl ?_
      first | refine pu (v := .bool _) rfl rfl ?_ | refine pu rfl rfl ?_
      refine SL_no rfl rfl ?_
      refine SL_no rfl rfl ?_
      refine SL_no rfl rfl ?_
      first | refine pu (v := .bool _) rfl rfl ?_ | refine pu rfl rfl ?_
      refine SL_nil ?_
      refine nx ?_
      refine SWP_ct rfl ?_
      refine SWP_seq ?_
      refine SWP_region ?_
      refine SL_pcall rfl rfl cb11 (awakeOk) rfl ?_
      first | refine pu (v := .bool _) rfl rfl ?_ | refine pu rfl rfl ?_
      refine SL_nil ?_
      refine nx ?_
      refine SWP_ret ?_
      refine nr ?_
      refine fin [_] ⟨rfl, trivial⟩ ?_
      rfl
    · skip
      first | refine pu (v := .bool _) rfl rfl ?_ | refine pu rfl rfl ?_
      first | refine pu (v := .bool _) rfl rfl ?_ | refine pu rfl rfl ?_
      refine SL_yes rfl ?_
      first | refine pu (v := .int .i64 _) rfl rfl ?_ | refine pu rfl rfl ?_
      refine SL_yes rfl ?_
      first | refine pu (v := .int .i64 _) rfl rfl ?_ | refine pu rfl rfl ?_
      refine SL_yes rfl ?_
      refine pc rfl rfl (fun c16 => ?_) (fun c16 => ?_)
      · skip
        first | refine pu (v := .bool _) rfl rfl ?_ | refine pu rfl rfl ?_
        refine SL_nil ?_
        refine nx ?_
        refine SWP_ct rfl ?_
        refine SWP_seq ?_
        refine SWP_region ?_
        refine SL_pcall rfl rfl cb11 (awakeOk) rfl ?_
        first | refine pu (v := .bool _) rfl rfl ?_ | refine pu rfl rfl ?_
        refine SL_nil ?_
        refine nx ?_
        refine SWP_ret ?_
        refine nr ?_
        refine fin [_] ⟨rfl, trivial⟩ ?_
        rfl
      · skip
        first | refine pu (v := .bool _) rfl rfl ?_ | refine pu rfl rfl ?_
        refine SL_nil ?_
        refine nx ?_
        refine SWP_cf rfl ?_
        refine SWP_skip ?_
        refine nx ?_
        refine SWP_seq ?_
        refine SWP_region ?_
        first | refine pu (v := .int .i64 _) rfl rfl ?_ | refine pu rfl rfl ?_
        refine SL_call rfl rfl cb9 (guNew most) rfl (fun v3_1 σ3_1 m3_1 hl3_1 hR3_1 => ?_)
        obtain ⟨B, M, rfl, rfl, hm3_1⟩ := hR3_1
        have hn3_1 := hm3_1.symm
        subst hn3_1
        first | refine pu (v := .pointer _) rfl rfl ?_ | refine pu rfl rfl ?_
        refine SL_nil ?_
        refine nx ?_
        refine SWP_seq ?_
        refine SWP_seq ?_
        refine SWP_region ?_
        first | refine pu (v := .int .i64 _) rfl rfl ?_ | refine pu rfl rfl ?_
        refine SL_nil ?_
        refine nx ?_
        refine SWP_block ?_
        refine SWP_loop [4, 6, 21, 22, 23, 24, 25, 26, 27, 28, 29, 30, 31, 32, 33, 34, 35, 36, 37, 38, 39, 40, 41] [6]
            (fun vs σ' m' => ∃ (k low : Nat) (lm : IMap), vs = [.int .i64 ((k : Int) + 1)] ∧ (k : Int) ≤ n ∧ Rep (clampI most) (iota k) low lm ∧ (low : Int) + 1 ∉ keysL lm ∧ σ' = GuC B M (clampI most) low lm ∧ m = m')
            (fun vs => match vs.getD 0 undef with | .int _ x => (n + 1 - x).toNat | _ => 0) rfl ?_ ?_
        · exact ⟨0, 0, [], rfl, by omega, Rep.new (clamp_lo _) (clamp_hi _), by simp, rfl, rfl⟩
        · intro u0 vs0 σ0 m0 hJ0 _
          obtain ⟨k, low, lm, rfl, hk, hrep, hlow, rfl, rfl⟩ := hJ0
          refine SWP_seq ?_
          refine SWP_seq ?_
          refine SWP_region ?_
          first | refine pu (v := .int .i64 _) rfl rfl ?_ | refine pu rfl rfl ?_
          first | refine pu (v := .int .i64 _) rfl rfl ?_ | refine pu rfl rfl ?_
          refine pc rfl rfl (fun c23 => ?_) (fun c23 => ?_)
          · skip
            refine SL_nil ?_
            refine nx ?_
            refine SWP_ct rfl ?_
            refine SWP_skip ?_
            refine nx ?_
            refine SWP_seq ?_
            refine SWP_block ?_
            refine SWP_seq ?_
            have hft := fill_take (most := clampI most) (k := k) (by have := clamp_ge (most := most) (n := n) (by omega) (by omega) (by omega); omega)
            have hil := iota_len (k + 1)
            refine SWP_region ?_
            first | refine pu (v := .pointer _) rfl rfl ?_ | refine pu rfl rfl ?_
            refine SL_call rfl rfl cb16 (guNext hrep hlow) rfl (fun v7_1 σ7_1 m7_1 hl7_1 hR7_1 => ?_)
            obtain ⟨rfl, rfl, hm7_1⟩ := hR7_1
            have hn7_1 := hm7_1.symm
            subst hn7_1
            first | refine pu (v := .int .i64 _) rfl rfl ?_ | refine pu rfl rfl ?_
            refine pn rfl rfl (fun h => h (next_iota k)) ?_
            first | refine pu (v := .bool _) rfl rfl ?_ | refine pu rfl rfl ?_
            refine SL_yes rfl ?_
            first | refine pu (v := .pointer _) rfl rfl ?_ | refine pu rfl rfl ?_
            refine SL_yes rfl ?_
            first | refine pu (v := .int .i64 _) rfl rfl ?_ | refine pu rfl rfl ?_
            refine SL_yes rfl ?_
            refine SL_call rfl rfl cb14 (guTake hrep hlow ((k : Int) + 1)) rfl (fun v7_7 σ7_7 m7_7 hl7_7 hR7_7 => ?_)
            obtain ⟨rfl, hm7_7, low2, lm2, rfl, hrep2, hlow2⟩ := hR7_7
            have hn7_7 := hm7_7.symm
            subst hn7_7
            rw [hft.2] at hrep2
            rw [hft.1]
            refine SL_yes rfl ?_
            refine pn rfl rfl (fun h => h rfl) ?_
            first | refine pu (v := .bool _) rfl rfl ?_ | refine pu rfl rfl ?_
            first | refine pu (v := .bool _) rfl rfl ?_ | refine pu rfl rfl ?_
            refine SL_yes rfl ?_
            first | refine pu (v := .pointer _) rfl rfl ?_ | refine pu rfl rfl ?_
            refine SL_yes rfl ?_
            refine SL_call rfl rfl cb18 (guCount hrep2 (by omega)) rfl (fun v7_12 σ7_12 m7_12 hl7_12 hR7_12 => ?_)
            obtain ⟨rfl, rfl, hm7_12⟩ := hR7_12
            have hn7_12 := hm7_12.symm
            subst hn7_12
            refine SL_yes rfl ?_
            first | refine pu (v := .int .i64 _) rfl rfl ?_ | refine pu rfl rfl ?_
            refine SL_yes rfl ?_
            refine pn rfl rfl (fun h => h (by rw [hil]; push_cast; rfl)) ?_
            first | refine pu (v := .bool _) rfl rfl ?_ | refine pu rfl rfl ?_
            refine SL_nil ?_
            refine nx ?_
            refine SWP_cf rfl ?_
            refine SWP_skip ?_
            refine nb ?_
            refine nx ?_
            refine SWP_region ?_
            first | refine pu (v := .int .i64 _) rfl rfl ?_ | refine pu rfl rfl ?_
            first | refine pw rfl rfl (w64 (by omega) (by omega)) ?_ | refine pu rfl rfl ?_
            first | refine pu (v := .int .i64 _) rfl rfl ?_ | refine pu rfl rfl ?_
            refine SL_nil ?_
            refine nx ?_
            refine ⟨by repeat (first | exact Under.upds rfl (Under.hav _ _ _) | exact Under.hav _ _ _ | refine Under.upd rfl ?_), ?_, ?_⟩
            · exact ⟨k + 1, low2, lm2, rfl, by omega, hrep2, hlow2, rfl, rfl⟩
            · simp only [L_vals, List.map, List.getD]; show (n + 1 - ((k : Int) + 1 + 1)).toNat < (n + 1 - ((k : Int) + 1)).toNat; omega
          · skip
            refine SL_nil ?_
            refine nx ?_
            refine SWP_cf rfl ?_
            refine SWP_exit ?_
            refine ne ?_
            refine ne ?_
            refine be rfl ?_
            refine nx ?_
            refine SWP_seq ?_
            obtain rfl : n = (k : Int) := by omega
            have hil := iota_len k
            have hcl := clamp_ge (most := most) (n := (k : Int)) (by omega) (by omega) (by omega)
            have hgi : gapsOf (iota k) = [] := gapsF_iota k
            have h14 : takeE (clampI most) (iota k) (k : Int) = 14 := by
              unfold takeE
              rw [if_neg (by omega), if_pos (mem_iota.2 ⟨by omega, by omega⟩)]
            refine SWP_region ?_
            first | refine pu (v := .pointer _) rfl rfl ?_ | refine pu rfl rfl ?_
            refine SL_call rfl rfl cb16 (guNext hrep hlow) rfl (fun v9_1 σ9_1 m9_1 hl9_1 hR9_1 => ?_)
            obtain ⟨rfl, rfl, hm9_1⟩ := hR9_1
            have hn9_1 := hm9_1.symm
            subst hn9_1
            first | refine pu (v := .int .i64 _) rfl rfl ?_ | refine pu rfl rfl ?_
            first | refine pw rfl rfl (w64 (by omega) (by omega)) ?_ | refine pu rfl rfl ?_
            refine pt rfl rfl (next_iota k) ?_
            first | refine pu (v := .bool _) rfl rfl ?_ | refine pu rfl rfl ?_
            refine SL_yes rfl ?_
            first | refine pu (v := .pointer _) rfl rfl ?_ | refine pu rfl rfl ?_
            refine SL_yes rfl ?_
            refine SL_call rfl rfl cb21 (guGaps hrep (by omega)) rfl (fun v9_7 σ9_7 m9_7 hl9_7 hR9_7 => ?_)
            obtain ⟨rfl, hg⟩ := hR9_7
            rw [hgi] at hg
            obtain ⟨ag, capg, rfl⟩ := hg.len
            refine SL_yes rfl ?_
            refine pu rfl rfl ?_
            refine SL_yes rfl ?_
            refine pt rfl rfl (rfl) ?_
            first | refine pu (v := .bool _) rfl rfl ?_ | refine pu rfl rfl ?_
            first | refine pu (v := .bool _) rfl rfl ?_ | refine pu rfl rfl ?_
            refine SL_yes rfl ?_
            first | refine pu (v := .pointer _) rfl rfl ?_ | refine pu rfl rfl ?_
            refine SL_yes rfl ?_
            first | refine pu (v := .int .i64 _) rfl rfl ?_ | refine pu rfl rfl ?_
            refine SL_yes rfl ?_
            refine SL_call rfl rfl cb14 (guTake hrep hlow (k : Int)) rfl (fun v9_14 σ9_14 m9_14 hl9_14 hR9_14 => ?_)
            obtain ⟨rfl, hm9_14, low2, lm2, rfl, hrep2, hlow2⟩ := hR9_14
            have hn9_14 := hm9_14.symm
            subst hn9_14
            rw [h14]
            refine SL_yes rfl ?_
            refine pt rfl rfl (rfl) ?_
            first | refine pu (v := .bool _) rfl rfl ?_ | refine pu rfl rfl ?_
            first | refine pu (v := .bool _) rfl rfl ?_ | refine pu rfl rfl ?_
            refine SL_yes rfl ?_
            refine SL_pcall rfl rfl cb11 (awakeOk) rfl ?_
            first | refine pu (v := .bool _) rfl rfl ?_ | refine pu rfl rfl ?_
            first | refine pu (v := .bool _) rfl rfl ?_ | refine pu rfl rfl ?_
            refine SL_nil ?_
            refine nx ?_
            refine SWP_ret ?_
            refine fin [_] ⟨rfl, trivial⟩ ?_
            rfl

theorem rot_onto {len half j : Nat} (hl : 0 < len) (hh : half ≤ len) (hj : j < len) : ∃ i, i < len ∧ (i + half) % len = j := by
  by_cases h : half ≤ j
  · refine ⟨j - half, by omega, ?_⟩
    rw [show j - half + half = j by omega]; exact Nat.mod_eq_of_lt hj
  · refine ⟨j + len - half, by omega, ?_⟩
    rw [show j + len - half + half = j + len by omega, Nat.add_mod_right]; exact Nat.mod_eq_of_lt hj
theorem tmod_nat (a b : Nat) : ((a : Int).tmod (b : Int)) = ((a % b : Nat) : Int) := by rw [← Int.ofNat_tmod]
theorem tdiv_nat (a b : Nat) : ((a : Int).tdiv (b : Int)) = ((a / b : Nat) : Int) := by rw [← Int.ofNat_tdiv]

theorem lawSequenceOrders {m : Mem} {v : Value} {l : List Int} (most : Int) (h : RL m intE 1 v l) : CallsS Try.prog 6 [.int .i64 most, v].toArray [] m fun r _ _ => r = .bool true := by
  obtain ⟨a, cap, rfl⟩ := h.len
  refine enter Try.func6 Try.ntmps6 rfl rfl ?_
  refine SWP_seq ?_
  refine SWP_region ?_
  first | refine pu (v := .bool _) rfl rfl ?_ | refine pu rfl rfl ?_
  refine SL_nil ?_
  refine nx ?_
  refine SWP_seq ?_
  refine SWP_seq ?_
  refine SWP_region ?_
  first | refine pu (v := .slice _ _ _) rfl rfl ?_ | refine pu rfl rfl ?_
  refine pu rfl rfl ?_
  refine pc rfl rfl (fun c12 => ?_) (fun c12 => ?_)
  · skip
    refine SL_nil ?_
    refine nx ?_
    refine SWP_ct rfl ?_
    refine SWP_seq ?_
    refine SWP_region ?_
    refine SL_pcall rfl rfl cb11 (awakeOk) rfl ?_
    first | refine pu (v := .bool _) rfl rfl ?_ | refine pu rfl rfl ?_
    refine SL_nil ?_
    refine nx ?_
    refine SWP_ret ?_
    refine nr ?_
    refine fin [_] ⟨rfl, trivial⟩ ?_
    rfl
  · skip
    refine SL_nil ?_
    refine nx ?_
    refine SWP_cf rfl ?_
    refine SWP_skip ?_
    refine nx ?_
    refine SWP_seq ?_
    refine SWP_region ?_
    first | refine pu (v := .int .i64 _) rfl rfl ?_ | refine pu rfl rfl ?_
    refine SL_call rfl rfl cb9 (guNew most) rfl (fun v3_1 σ3_1 m3_1 hl3_1 hR3_1 => ?_)
    obtain ⟨B, M, rfl, rfl, hm3_1⟩ := hR3_1
    have hn3_1 := hm3_1.symm
    subst hn3_1
    first | refine pu (v := .int .i64 _) rfl rfl ?_ | refine pu rfl rfl ?_
    refine SL_call rfl rfl cb9 (CallsS.frame0 (guNew most)) rfl (fun v3_3 σ3_3 m3_3 hl3_3 hR3_3 => ?_)
    obtain ⟨σ₁, rfl, B2, M2, rfl, rfl, hm3_3⟩ := hR3_3
    have hn3_3 := hm3_3.symm
    subst hn3_3
    first | refine pu (v := .pointer _) rfl rfl ?_ | refine pu rfl rfl ?_
    first | refine pu (v := .pointer _) rfl rfl ?_ | refine pu rfl rfl ?_
    refine SL_nil ?_
    refine nx ?_
    refine SWP_seq ?_
    refine SWP_region ?_
    first | refine pu (v := .slice _ _ _) rfl rfl ?_ | refine pu rfl rfl ?_
    refine pu rfl rfl ?_
    refine quo (r := ((l.length / 2 : Nat) : Int)) rfl rfl (by omega) (by rw [show (2 : Int) = ((2 : Nat) : Int) from rfl, tdiv_nat, w64 (by omega) (by omega)]) rfl ?_
    first | refine pu (v := .int .i64 _) rfl rfl ?_ | refine pu rfl rfl ?_
    refine SL_nil ?_
    refine nx ?_
    refine SWP_seq ?_
    refine SWP_seq ?_
    refine SWP_region ?_
    first | refine pu (v := .slice _ _ _) rfl rfl ?_ | refine pu rfl rfl ?_
    refine pu rfl rfl ?_
    first | refine pu (v := .int .i64 _) rfl rfl ?_ | refine pu rfl rfl ?_
    refine SL_nil ?_
    refine nx ?_
    refine SWP_block ?_
    refine SWP_loop [8, 23, 24, 25, 26, 27, 28, 29, 30, 31, 32, 33, 34, 35, 36, 37, 38, 39, 40, 41, 42, 43] [23]
        (fun vs σ' m' => ∃ (i low low' : Nat) (lm lm' : IMap) (S S' : List Int), vs = [.int .i64 (i : Nat)] ∧ i ≤ l.length ∧ Rep (clampI most) S low lm ∧ (low : Int) + 1 ∉ keysL lm ∧ Rep (clampI most) S' low' lm' ∧ (low' : Int) + 1 ∉ keysL lm' ∧ S.length ≤ i ∧ S'.length ≤ i ∧
        (∀ x, x ∈ S ↔ (1 ≤ x ∧ x ≤ clampI most) ∧ ∃ j, j < i ∧ l[j]? = some x) ∧ (∀ x, x ∈ S' ↔ (1 ≤ x ∧ x ≤ clampI most) ∧ ∃ j, j < i ∧ l[(j + l.length / 2) % l.length]? = some x) ∧ σ' = GuC B2 M2 (clampI most) low' lm' ++ GuC B M (clampI most) low lm ∧ m = m')
        (fun vs => l.length - nOf (vs.getD 0 undef)) rfl ?_ ?_
    · exact ⟨0, 0, 0, [], [], [], [], rfl, by omega, Rep.new (clamp_lo _) (clamp_hi _), by simp, Rep.new (clamp_lo _) (clamp_hi _), by simp, by simp, by simp, fun x => by simp, fun x => by simp, rfl, rfl⟩
    · intro u0 vs0 σ0 m0 hJ0 _
      obtain ⟨i, low, low', lm, lm', S, S', rfl, hi, hrep, hlow, hrep', hlow', hSl, hSl', hmS, hmS', rfl, rfl⟩ := hJ0
      refine SWP_seq ?_
      refine SWP_region ?_
      refine pc rfl rfl (fun c24 => ?_) (fun c24 => ?_)
      · skip
        refine SL_nil ?_
        refine nx ?_
        refine SWP_seq ?_
        refine SWP_ct rfl ?_
        refine SWP_skip ?_
        refine nx ?_
        refine SWP_seq ?_
        refine SWP_block ?_
        refine SWP_seq ?_
        obtain ⟨x, hx⟩ : ∃ x, l[i]? = some x := ⟨_, List.getElem?_eq_getElem (by omega)⟩
        obtain ⟨ad, cap', e1, hat⟩ := RL.at1 intE_len h hx
        cases e1
        have hrl : (i + l.length / 2) % l.length < l.length := Nat.mod_lt _ (by omega)
        obtain ⟨y, hy⟩ : ∃ y, l[(i + l.length / 2) % l.length]? = some y := ⟨_, List.getElem?_eq_getElem hrl⟩
        obtain ⟨ad2, cap2, e2, hat2⟩ := RL.at1 intE_len h hy
        cases e2
        refine SWP_region ?_
        first | refine pu (v := .int .i64 _) rfl rfl ?_ | refine pu rfl rfl ?_
        first | refine pu (v := .int .i64 _) rfl rfl ?_ | refine pu rfl rfl ?_
        refine SL_nil ?_
        refine nx ?_
        refine SWP_seq ?_
        refine SWP_region ?_
        first | refine pu (v := .pointer _) rfl rfl ?_ | refine pu rfl rfl ?_
        first | refine pu (v := .slice _ _ _) rfl rfl ?_ | refine pu rfl rfl ?_
        first | refine pu (v := .int .i64 _) rfl rfl ?_ | refine pu rfl rfl ?_
        first | refine ia (es := 1) rfl rfl rfl (Nat.mul_one _) rfl rfl (by omega) rfl ?_ | refine iai (es := 1) rfl rfl rfl (Nat.mul_one _) rfl rfl (by omega) (by omega) rfl ?_
        refine ldA (v := .int .i64 _) rfl (by assumption) rfl rfl ?_
        refine SL_call rfl rfl cb14 (CallsS.subF (GuC B2 M2 _ _ _) (guTake hrep hlow x) List.perm_append_comm) rfl (fun v8_5 σ8_5 m8_5 hl8_5 hR8_5 => ?_)
        obtain ⟨σ₁, rfl, rfl, hm8_5, low2, lm2, rfl, hrep2, hlow2⟩ := hR8_5
        have hn8_5 := hm8_5.symm
        subst hn8_5
        refine SL_nil ?_
        refine nx ?_
        refine SWP_region ?_
        first | refine pu (v := .pointer _) rfl rfl ?_ | refine pu rfl rfl ?_
        first | refine pu (v := .slice _ _ _) rfl rfl ?_ | refine pu rfl rfl ?_
        first | refine pu (v := .int .i64 _) rfl rfl ?_ | refine pu rfl rfl ?_
        first | refine pu (v := .int .i64 _) rfl rfl ?_ | refine pu rfl rfl ?_
        first | refine pw rfl rfl (w64 (by omega) (by omega)) ?_ | refine pu rfl rfl ?_
        first | refine pu (v := .slice _ _ _) rfl rfl ?_ | refine pu rfl rfl ?_
        refine pu rfl rfl ?_
        refine rem (r := (((i + l.length / 2) % l.length : Nat) : Int)) rfl rfl (by omega) (tmod_nat (i + l.length / 2) l.length) rfl ?_
        first | refine ia (es := 1) rfl rfl rfl (Nat.mul_one _) rfl rfl (by omega) rfl ?_ | refine iai (es := 1) rfl rfl rfl (Nat.mul_one _) rfl rfl (by omega) (by omega) rfl ?_
        refine ldA (v := .int .i64 _) rfl (by assumption) rfl rfl ?_
        refine SL_call rfl rfl cb14 (CallsS.subF (GuC B M _ _ _) (guTake hrep' hlow' y) List.perm_append_comm) rfl (fun v9_10 σ9_10 m9_10 hl9_10 hR9_10 => ?_)
        obtain ⟨σ₁, rfl, rfl, hm9_10, low3, lm3, rfl, hrep3, hlow3⟩ := hR9_10
        have hn9_10 := hm9_10.symm
        subst hn9_10
        refine SL_nil ?_
        refine nb ?_
        refine nx ?_
        refine SWP_region ?_
        first | refine pw rfl rfl (w64 (by omega) (by omega)) ?_ | refine pu rfl rfl ?_
        first | refine pu (v := .int .i64 _) rfl rfl ?_ | refine pu rfl rfl ?_
        refine SL_nil ?_
        refine nx ?_
        refine ⟨by repeat (first | exact Under.upds rfl (Under.hav _ _ _) | exact Under.hav _ _ _ | refine Under.upd rfl ?_ | refine Under.upds rfl ?_ | refine Under.hav2 rfl ?_), ?_, ?_⟩
        · refine ⟨i + 1, low2, low3, lm2, lm3, takeS (clampI most) S x, takeS (clampI most) S' y, rfl, by omega, hrep2, hlow2, hrep3, hlow3, ?_, ?_, fun z => ?_, fun z => ?_, rfl, rfl⟩
          · have := takeS_len (clampI most) S x; omega
          · have := takeS_len (clampI most) S' y; omega
          · rw [takeS_mem, hmS]
            constructor
            · rintro (⟨h1, j, hj, h2⟩ | ⟨rfl, h1, h2⟩)
              · exact ⟨h1, j, by omega, h2⟩
              · exact ⟨⟨h1, h2⟩, i, by omega, hx⟩
            · rintro ⟨h1, j, hj, h2⟩
              by_cases e : j = i
              · subst e
                rw [hx] at h2; cases h2
                exact .inr ⟨rfl, h1.1, h1.2⟩
              · exact .inl ⟨h1, j, by omega, h2⟩
          · rw [takeS_mem, hmS']
            constructor
            · rintro (⟨h1, j, hj, h2⟩ | ⟨rfl, h1, h2⟩)
              · exact ⟨h1, j, by omega, h2⟩
              · exact ⟨⟨h1, h2⟩, i, by omega, hy⟩
            · rintro ⟨h1, j, hj, h2⟩
              by_cases e : j = i
              · subst e
                rw [hy] at h2; cases h2
                exact .inr ⟨rfl, h1.1, h1.2⟩
              · exact .inl ⟨h1, j, by omega, h2⟩
        · simp only [L_vals, List.map, List.getD]; show l.length - (i + 1) < l.length - i; omega
      · skip
        refine SL_nil ?_
        refine nx ?_
        refine SWP_seq ?_
        refine SWP_cf rfl ?_
        refine SWP_exit ?_
        refine ne ?_
        refine ne ?_
        refine be rfl ?_
        refine nx ?_
        refine SWP_seq ?_
        refine SWP_seq ?_
        have e0 : i = l.length := by omega
        subst e0
        obtain rfl : S = S' := asc_eq _ _ hrep.good.asc hrep'.good.asc fun x => by
          rw [hmS, hmS']
          constructor
          · rintro ⟨h1, j, hj, h2⟩
            obtain ⟨i2, h3, h4⟩ := rot_onto (half := l.length / 2) (by omega) (by omega) hj
            exact ⟨h1, i2, h3, by rw [h4]; exact h2⟩
          · rintro ⟨h1, j, hj, h2⟩
            exact ⟨h1, (j + l.length / 2) % l.length, Nat.mod_lt _ (by omega), h2⟩
        refine SWP_region ?_
        first | refine pu (v := .slice _ _ _) rfl rfl ?_ | refine pu rfl rfl ?_
        refine pu rfl rfl ?_
        first | refine pu (v := .int .i64 _) rfl rfl ?_ | refine pu rfl rfl ?_
        refine SL_nil ?_
        refine nx ?_
        refine SWP_block ?_
        refine SWP_loop [4, 9, 46, 47, 48, 49, 50, 51, 52, 53, 54, 55, 56, 57, 58, 59, 60, 61, 62] [46]
            (fun vs σ' m' => ∃ (i : Nat), vs = [.int .i64 (i : Nat)] ∧ i ≤ l.length ∧ σ' = GuC B2 M2 (clampI most) low' lm' ++ GuC B M (clampI most) low lm ∧ m = m')
            (fun vs => l.length - nOf (vs.getD 0 undef)) rfl ?_ ?_
        · exact ⟨0, rfl, by omega, rfl, rfl⟩
        · intro u1 vs1 σ1 m1 hJ1 _
          obtain ⟨i, rfl, hi, rfl, rfl⟩ := hJ1
          refine SWP_seq ?_
          refine SWP_region ?_
          refine pc rfl rfl (fun c47 => ?_) (fun c47 => ?_)
          · skip
            refine SL_nil ?_
            refine nx ?_
            refine SWP_seq ?_
            refine SWP_ct rfl ?_
            refine SWP_skip ?_
            refine nx ?_
            refine SWP_seq ?_
            refine SWP_block ?_
            refine SWP_seq ?_
            obtain ⟨x, hx⟩ : ∃ x, l[i]? = some x := ⟨_, List.getElem?_eq_getElem (by omega)⟩
            obtain ⟨ad, cap', e1, hat⟩ := RL.at1 intE_len h hx
            cases e1
            refine SWP_region ?_
            first | refine pu (v := .int .i64 _) rfl rfl ?_ | refine pu rfl rfl ?_
            first | refine pu (v := .int .i64 _) rfl rfl ?_ | refine pu rfl rfl ?_
            refine SL_nil ?_
            refine nx ?_
            refine SWP_seq ?_
            refine SWP_drawn [] [0, 1, 2, 3, 4, 6, 7, 8, 9, 10, 5, 11, 12] (by kernel_rfl) (by kernel_rfl) (Sub.nil _) ?_
            first | refine pu (v := .pointer _) rfl rfl ?_ | refine pu rfl rfl ?_
            first | refine pu (v := .slice _ _ _) rfl rfl ?_ | refine pu rfl rfl ?_
            first | refine pu (v := .int .i64 _) rfl rfl ?_ | refine pu rfl rfl ?_
            first | refine ia (es := 1) rfl rfl rfl (Nat.mul_one _) rfl rfl (by omega) rfl ?_ | refine iai (es := 1) rfl rfl rfl (Nat.mul_one _) rfl rfl (by omega) (by omega) rfl ?_
            refine ldA (v := .int .i64 _) rfl (by assumption) rfl rfl ?_
            first | refine pu (v := .pointer _) rfl rfl ?_ | refine pu rfl rfl ?_
            first | refine pu (v := .slice _ _ _) rfl rfl ?_ | refine pu rfl rfl ?_
            first | refine pu (v := .int .i64 _) rfl rfl ?_ | refine pu rfl rfl ?_
            first | refine ia (es := 1) rfl rfl rfl (Nat.mul_one _) rfl rfl (by omega) rfl ?_ | refine iai (es := 1) rfl rfl rfl (Nat.mul_one _) rfl rfl (by omega) (by omega) rfl ?_
            refine ldA (v := .int .i64 _) rfl (by assumption) rfl rfl ?_
            refine SL_call rfl rfl cb12 (CallsS.subF (GuC B2 M2 _ _ _) (guSeen hrep x) List.perm_append_comm) rfl (fun v14_5 σ14_5 m14_5 hl14_5 hR14_5 => ?_)
            obtain ⟨σ₁, rfl, rfl, rfl, hm14_5⟩ := hR14_5
            have hn14_5 := hm14_5.symm
            subst hn14_5
            refine SL_call rfl rfl cb12 (CallsS.subF (GuC B M _ _ _) (guSeen hrep' x) List.perm_append_comm) rfl (fun v14_11 σ14_11 m14_11 hl14_11 hR14_11 => ?_)
            obtain ⟨σ₁, rfl, rfl, rfl, hm14_11⟩ := hR14_11
            have hn14_11 := hm14_11.symm
            subst hn14_11
            refine pn rfl rfl (fun h => h rfl) ?_
            refine SL_nil ?_
            refine nx ?_
            refine SWP_cf rfl ?_
            refine SWP_skip ?_
            refine nb ?_
            refine nx ?_
            refine SWP_region ?_
            first | refine pw rfl rfl (w64 (by omega) (by omega)) ?_ | refine pu rfl rfl ?_
            first | refine pu (v := .int .i64 _) rfl rfl ?_ | refine pu rfl rfl ?_
            refine SL_nil ?_
            refine nx ?_
            refine ⟨by repeat (first | exact Under.upds rfl (Under.hav _ _ _) | exact Under.hav _ _ _ | refine Under.upd rfl ?_ | refine Under.upds rfl ?_ | refine Under.hav2 rfl ?_), ?_, ?_⟩
            · exact ⟨i + 1, rfl, by omega, rfl, rfl⟩
            · simp only [L_vals, List.map, List.getD]; show l.length - (i + 1) < l.length - i; omega
          · skip
            refine SL_nil ?_
            refine nx ?_
            refine SWP_seq ?_
            refine SWP_cf rfl ?_
            refine SWP_exit ?_
            refine ne ?_
            refine ne ?_
            refine be rfl ?_
            refine nx ?_
            refine SWP_seq ?_
            refine SWP_region ?_
            first | refine pu (v := .pointer _) rfl rfl ?_ | refine pu rfl rfl ?_
            refine SL_call rfl rfl cb16 (CallsS.subF (GuC B2 M2 _ _ _) (guNext hrep hlow) List.perm_append_comm) rfl (fun v17_1 σ17_1 m17_1 hl17_1 hR17_1 => ?_)
            obtain ⟨σ₁, rfl, rfl, rfl, hm17_1⟩ := hR17_1
            have hn17_1 := hm17_1.symm
            subst hn17_1
            first | refine pu (v := .pointer _) rfl rfl ?_ | refine pu rfl rfl ?_
            refine SL_call rfl rfl cb16 (CallsS.subF (GuC B M _ _ _) (guNext hrep' hlow') List.perm_append_comm) rfl (fun v17_3 σ17_3 m17_3 hl17_3 hR17_3 => ?_)
            obtain ⟨σ₁, rfl, rfl, rfl, hm17_3⟩ := hR17_3
            have hn17_3 := hm17_3.symm
            subst hn17_3
            refine pt rfl rfl (rfl) ?_
            first | refine pu (v := .bool _) rfl rfl ?_ | refine pu rfl rfl ?_
            refine SL_yes rfl ?_
            first | refine pu (v := .pointer _) rfl rfl ?_ | refine pu rfl rfl ?_
            refine SL_yes rfl ?_
            refine SL_call rfl rfl cb18 (CallsS.subF (GuC B2 M2 _ _ _) (guCount hrep (by omega)) List.perm_append_comm) rfl (fun v17_7 σ17_7 m17_7 hl17_7 hR17_7 => ?_)
            obtain ⟨σ₁, rfl, rfl, rfl, hm17_7⟩ := hR17_7
            have hn17_7 := hm17_7.symm
            subst hn17_7
            refine SL_yes rfl ?_
            first | refine pu (v := .pointer _) rfl rfl ?_ | refine pu rfl rfl ?_
            refine SL_yes rfl ?_
            refine SL_call rfl rfl cb18 (CallsS.subF (GuC B M _ _ _) (guCount hrep' (by omega)) List.perm_append_comm) rfl (fun v17_9 σ17_9 m17_9 hl17_9 hR17_9 => ?_)
            obtain ⟨σ₁, rfl, rfl, rfl, hm17_9⟩ := hR17_9
            have hn17_9 := hm17_9.symm
            subst hn17_9
            refine SL_yes rfl ?_
            refine pt rfl rfl (rfl) ?_
            first | refine pu (v := .bool _) rfl rfl ?_ | refine pu rfl rfl ?_
            first | refine pu (v := .bool _) rfl rfl ?_ | refine pu rfl rfl ?_
            refine SL_yes rfl ?_
            first | refine pu (v := .pointer _) rfl rfl ?_ | refine pu rfl rfl ?_
            refine SL_yes rfl ?_
            refine SL_call rfl rfl cb21 (CallsS.subF (GuC B2 M2 _ _ _) (guGaps hrep (by omega)) List.perm_append_comm) rfl (fun v17_14 σ17_14 m17_14 hl17_14 hR17_14 => ?_)
            obtain ⟨σ₁, rfl, rfl, hg1⟩ := hR17_14
            refine SL_yes rfl ?_
            first | refine pu (v := .pointer _) rfl rfl ?_ | refine pu rfl rfl ?_
            refine SL_yes rfl ?_
            refine SL_call rfl rfl cb21 (CallsS.subF (GuC B M _ _ _) (guGaps hrep' (by omega)) List.perm_append_comm) rfl (fun v17_16 σ17_16 m17_16 hl17_16 hR17_16 => ?_)
            obtain ⟨σ₁, rfl, rfl, hg2⟩ := hR17_16
            refine SL_yes rfl ?_
            refine SL_pcall rfl rfl cb20 (sameP (hg1.mono hl17_16) hg2 (gapsOf_len _)) rfl ?_
            first | refine pu (v := .bool _) rfl rfl ?_ | refine pu rfl rfl ?_
            first | refine pu (v := .bool _) rfl rfl ?_ | refine pu rfl rfl ?_
            refine SL_yes rfl ?_
            refine SL_pcall rfl rfl cb11 (awakeOk) rfl ?_
            first | refine pu (v := .bool _) rfl rfl ?_ | refine pu rfl rfl ?_
            first | refine pu (v := .bool _) rfl rfl ?_ | refine pu rfl rfl ?_
            refine SL_nil ?_
            refine nx ?_
            refine SWP_ret ?_
            refine fin [_] ⟨rfl, trivial⟩ ?_
            rfl

/-- What the statement wants of Take, when k of the numbers before have been looked at. -/
def wantE (most : Int) (l : List Int) (x : Int) (k : Nat) : Int := if x < 1 ∨ most < x then 2 else if x ∈ l.take k then 14 else 0
theorem want_bad {most x : Int} {l : List Int} {k : Nat} (h : x < 1 ∨ most < x) : wantE most l x k = 2 := if_pos h
theorem want_0 {most x : Int} {l : List Int} (h : ¬ (x < 1 ∨ most < x)) : wantE most l x 0 = 0 := by unfold wantE; rw [if_neg h, if_neg (by simp)]
theorem want_hit {most x y : Int} {l : List Int} {k : Nat} (h : wantE most l x k = 0) (hk : l[k]? = some y) (e : y = x) : wantE most l x (k + 1) = 14 := by
  unfold wantE at h ⊢
  split at h
  · cases h
  · rename_i hb
    rw [if_neg hb, take_snoc hk, if_pos (by simp [e])]
theorem want_miss {most x y : Int} {l : List Int} {k : Nat} (h : wantE most l x k = 0) (hk : l[k]? = some y) (e : y ≠ x) : wantE most l x (k + 1) = 0 := by
  unfold wantE at h ⊢
  split at h
  · cases h
  · rename_i hb
    split at h
    · cases h
    · rename_i hm
      rw [if_neg hb, take_snoc hk, if_neg]
      intro h1
      rcases List.mem_append.1 h1 with h1 | h1
      · exact hm h1
      · exact e (List.mem_singleton.1 h1).symm
theorem want_more {most x : Int} {l : List Int} {k i : Nat} (hk : k ≤ i) (h : wantE most l x k ≠ 0) : wantE most l x i = wantE most l x k := by
  unfold wantE at h ⊢
  split at h
  · rename_i hb
    rw [if_pos hb, if_pos hb]
  · rename_i hb
    split at h
    · rename_i hm
      rw [if_neg hb, if_neg hb, if_pos hm, if_pos]
      have : (l.take i).take k = l.take k := by rw [List.take_take, Nat.min_eq_left hk]
      rw [← this] at hm
      exact List.mem_of_mem_take hm
    · exact absurd rfl h
theorem want_take {most x : Int} {l S : List Int} {i : Nat} (hS : ∀ z, z ∈ S ↔ (1 ≤ z ∧ z ≤ most) ∧ z ∈ l.take i) : takeE most S x = wantE most l x i := by
  unfold takeE wantE
  by_cases hb : x < 1 ∨ most < x
  · rw [if_pos hb, if_pos hb]
  · rw [if_neg hb, if_neg hb]
    by_cases hm : x ∈ l.take i
    · rw [if_pos hm, if_pos ((hS x).2 ⟨by omega, hm⟩)]
    · rw [if_neg hm, if_neg fun h => hm ((hS x).1 h).2]
theorem seen_take {most x : Int} {l S : List Int} {i : Nat} (hS : ∀ z, z ∈ S ↔ (1 ≤ z ∧ z ≤ most) ∧ z ∈ l.take i) : decide (x ∈ takeS most S x) = decide (wantE most l x i ≠ 2) := by
  refine decide_eq_decide.2 ?_
  rw [takeS_mem, ← want_take hS]
  unfold takeE
  by_cases hb : x < 1 ∨ most < x
  · rw [if_pos hb]
    refine ⟨fun h => ?_, fun h => absurd rfl h⟩
    rcases h with h | h
    · have := ((hS x).1 h).1; omega
    · omega
  · rw [if_neg hb]
    refine ⟨fun _ => ?_, fun _ => .inr ⟨rfl, by omega, by omega⟩⟩
    split <;> omega
theorem take_more {most x : Int} {l S : List Int} {i : Nat} (hS : ∀ z, z ∈ S ↔ (1 ≤ z ∧ z ≤ most) ∧ z ∈ l.take i) (hx : l[i]? = some x) : ∀ z, z ∈ takeS most S x ↔ (1 ≤ z ∧ z ≤ most) ∧ z ∈ l.take (i + 1) := fun z => by
  rw [takeS_mem, hS, take_snoc hx, List.mem_append, List.mem_singleton]
  constructor
  · rintro (⟨h1, h2⟩ | ⟨rfl, h1, h2⟩)
    · exact ⟨h1, .inl h2⟩
    · exact ⟨⟨h1, h2⟩, .inr rfl⟩
  · rintro ⟨h1, h2 | rfl⟩
    · exact .inl ⟨h1, h2⟩
    · exact .inr ⟨rfl, h1.1, h1.2⟩
theorem takeS_one {most : Int} {S : List Int} {n : Int} (h : takeE most S n = 0) : (takeS most S n).length = S.length + 1 := by unfold takeS; rw [if_pos h, ins_len]
theorem takeS_none {most : Int} {S : List Int} {n : Int} (h : takeE most S n ≠ 0) : takeS most S n = S := by unfold takeS; rw [if_neg h]

theorem lawSequenceOnce {m : Mem} {v : Value} {l : List Int} (most : Int) (h : RL m intE 1 v l) : CallsS Try.prog 4 [.int .i64 most, v].toArray [] m fun r _ _ => r = .bool true := by
  obtain ⟨a, cap, rfl⟩ := h.len
  refine enter Try.func4 Try.ntmps4 rfl rfl ?_
  refine SWP_seq ?_
  refine SWP_region ?_
  first | refine pu (v := .bool _) rfl rfl ?_ | refine pu rfl rfl ?_
  refine SL_nil ?_
  refine nx ?_
  refine SWP_seq ?_
  refine SWP_seq ?_
  refine SWP_region ?_
  first | refine pu (v := .slice _ _ _) rfl rfl ?_ | refine pu rfl rfl ?_
  refine pu rfl rfl ?_
  refine pc rfl rfl (fun c12 => ?_) (fun c12 => ?_)
  · skip
    first | refine pu (v := .bool _) rfl rfl ?_ | refine pu rfl rfl ?_
    refine SL_no rfl rfl ?_
    refine SL_no rfl rfl ?_
    first | refine pu (v := .bool _) rfl rfl ?_ | refine pu rfl rfl ?_
    first | refine pu (v := .bool _) rfl rfl ?_ | refine pu rfl rfl ?_
    refine SL_no rfl rfl ?_
    refine SL_no rfl rfl ?_
    first | refine pu (v := .bool _) rfl rfl ?_ | refine pu rfl rfl ?_
    refine SL_nil ?_
    refine nx ?_
    refine SWP_ct rfl ?_
    refine SWP_seq ?_
    refine SWP_region ?_
    refine SL_pcall rfl rfl cb11 (awakeOk) rfl ?_
    first | refine pu (v := .bool _) rfl rfl ?_ | refine pu rfl rfl ?_
    refine SL_nil ?_
    refine nx ?_
    refine SWP_ret ?_
    refine nr ?_
    refine fin [_] ⟨rfl, trivial⟩ ?_
    rfl
  · skip
    first | refine pu (v := .bool _) rfl rfl ?_ | refine pu rfl rfl ?_
    refine SL_yes rfl ?_
    first | refine pu (v := .int .i64 _) rfl rfl ?_ | refine pu rfl rfl ?_
    refine SL_yes rfl ?_
    refine pc rfl rfl (fun c15 => ?_) (fun c15 => ?_)
    · skip
      first | refine pu (v := .bool _) rfl rfl ?_ | refine pu rfl rfl ?_
      first | refine pu (v := .bool _) rfl rfl ?_ | refine pu rfl rfl ?_
      refine SL_no rfl rfl ?_
      refine SL_no rfl rfl ?_
      first | refine pu (v := .bool _) rfl rfl ?_ | refine pu rfl rfl ?_
      refine SL_nil ?_
      refine nx ?_
      refine SWP_ct rfl ?_
      refine SWP_seq ?_
      refine SWP_region ?_
      refine SL_pcall rfl rfl cb11 (awakeOk) rfl ?_
      first | refine pu (v := .bool _) rfl rfl ?_ | refine pu rfl rfl ?_
      refine SL_nil ?_
      refine nx ?_
      refine SWP_ret ?_
      refine nr ?_
      refine fin [_] ⟨rfl, trivial⟩ ?_
      rfl
    · skip
      first | refine pu (v := .bool _) rfl rfl ?_ | refine pu rfl rfl ?_
      first | refine pu (v := .bool _) rfl rfl ?_ | refine pu rfl rfl ?_
      refine SL_yes rfl ?_
      first | refine pu (v := .int .i64 _) rfl rfl ?_ | refine pu rfl rfl ?_
      refine SL_yes rfl ?_
      refine pc rfl rfl (fun c19 => ?_) (fun c19 => ?_)
      · skip
        first | refine pu (v := .bool _) rfl rfl ?_ | refine pu rfl rfl ?_
        refine SL_nil ?_
        refine nx ?_
        refine SWP_ct rfl ?_
        refine SWP_seq ?_
        refine SWP_region ?_
        refine SL_pcall rfl rfl cb11 (awakeOk) rfl ?_
        first | refine pu (v := .bool _) rfl rfl ?_ | refine pu rfl rfl ?_
        refine SL_nil ?_
        refine nx ?_
        refine SWP_ret ?_
        refine nr ?_
        refine fin [_] ⟨rfl, trivial⟩ ?_
        rfl
      · skip
        first | refine pu (v := .bool _) rfl rfl ?_ | refine pu rfl rfl ?_
        refine SL_nil ?_
        refine nx ?_
        refine SWP_cf rfl ?_
        refine SWP_skip ?_
        refine nx ?_
        refine SWP_seq ?_
        refine SWP_region ?_
        first | refine pu (v := .int .i64 _) rfl rfl ?_ | refine pu rfl rfl ?_
        refine SL_call rfl rfl cb9 (guNew most) rfl (fun v3_1 σ3_1 m3_1 hl3_1 hR3_1 => ?_)
        obtain ⟨B, M, rfl, rfl, hm3_1⟩ := hR3_1
        have hn3_1 := hm3_1.symm
        subst hn3_1
        rw [clamp_id (by omega) (by omega)]
        first | refine pu (v := .pointer _) rfl rfl ?_ | refine pu rfl rfl ?_
        refine SL_nil ?_
        refine nx ?_
        refine SWP_seq ?_
        refine SWP_region ?_
        first | refine pu (v := .int .i64 _) rfl rfl ?_ | refine pu rfl rfl ?_
        refine SL_nil ?_
        refine nx ?_
        refine SWP_seq ?_
        refine SWP_seq ?_
        refine SWP_region ?_
        first | refine pu (v := .slice _ _ _) rfl rfl ?_ | refine pu rfl rfl ?_
        refine pu rfl rfl ?_
        first | refine pu (v := .int .i64 _) rfl rfl ?_ | refine pu rfl rfl ?_
        refine SL_nil ?_
        refine nx ?_
        refine SWP_block ?_
        refine SWP_loop [4, 6, 7, 8, 9, 26, 27, 28, 29, 30, 31, 32, 33, 34, 35, 36, 37, 38, 39, 40, 41, 42, 43, 44, 45, 46, 47, 48, 49, 50, 51, 52, 53, 54, 55, 56, 57, 58, 59, 60, 61, 62, 63, 64, 65, 66, 67, 68, 69, 70, 71, 72, 73, 74, 75, 76, 77, 78, 79, 80, 81, 82, 83] [6, 26]
            (fun vs σ' m' => ∃ (i low : Nat) (lm : IMap) (S : List Int), vs = [.int .i64 (S.length : Nat), .int .i64 (i : Nat)] ∧ i ≤ l.length ∧ Rep most S low lm ∧ (low : Int) + 1 ∉ keysL lm ∧ S.length ≤ i ∧ (∀ z, z ∈ S ↔ (1 ≤ z ∧ z ≤ most) ∧ z ∈ l.take i) ∧ σ' = GuC B M most low lm ∧ m = m')
            (fun vs => l.length - nOf (vs.getD 1 undef)) rfl ?_ ?_
        · exact ⟨0, 0, [], [], rfl, by omega, Rep.new (by omega) (by omega), by simp, by simp, fun z => by simp, rfl, rfl⟩
        · intro u0 vs0 σ0 m0 hJ0 _
          obtain ⟨i, low, lm, S, rfl, hi, hrep, hlow, hSl, hmS, rfl, rfl⟩ := hJ0
          refine SWP_seq ?_
          refine SWP_region ?_
          refine pc rfl rfl (fun c27 => ?_) (fun c27 => ?_)
          · skip
            refine SL_nil ?_
            refine nx ?_
            refine SWP_seq ?_
            refine SWP_ct rfl ?_
            refine SWP_skip ?_
            refine nx ?_
            refine SWP_seq ?_
            refine SWP_block ?_
            refine SWP_seq ?_
            refine SWP_region ?_
            first | refine pu (v := .int .i64 _) rfl rfl ?_ | refine pu rfl rfl ?_
            first | refine pu (v := .int .i64 _) rfl rfl ?_ | refine pu rfl rfl ?_
            refine SL_nil ?_
            refine nx ?_
            refine SWP_seq ?_
            obtain ⟨x, hx⟩ : ∃ x, l[i]? = some x := ⟨_, List.getElem?_eq_getElem (by omega)⟩
            obtain ⟨ad, cap', e1, hat⟩ := RL.at1 intE_len h hx
            cases e1
            refine SWP_region ?_
            first | refine pu (v := .int .i64 _) rfl rfl ?_ | refine pu rfl rfl ?_
            refine SL_nil ?_
            refine nx ?_
            refine SWP_seq ?_
            refine SWP_seq ?_
            refine SWP_region ?_
            first | refine pu (v := .slice _ _ _) rfl rfl ?_ | refine pu rfl rfl ?_
            first | refine pu (v := .int .i64 _) rfl rfl ?_ | refine pu rfl rfl ?_
            first | refine ia (es := 1) rfl rfl rfl (Nat.mul_one _) rfl rfl (by omega) rfl ?_ | refine iai (es := 1) rfl rfl rfl (Nat.mul_one _) rfl rfl (by omega) (by omega) rfl ?_
            refine ldA (v := .int .i64 _) rfl (by assumption) rfl rfl ?_
            refine pc rfl rfl (fun c33 => ?_) (fun c33 => ?_)
            · skip
              first | refine pu (v := .bool _) rfl rfl ?_ | refine pu rfl rfl ?_
              refine SL_no rfl rfl ?_
              refine SL_no rfl rfl ?_
              refine SL_no rfl rfl ?_
              refine SL_no rfl rfl ?_
              refine SL_no rfl rfl ?_
              refine SL_no rfl rfl ?_
              first | refine pu (v := .bool _) rfl rfl ?_ | refine pu rfl rfl ?_
              refine SL_nil ?_
              refine nx ?_
              refine SWP_ct rfl ?_
              refine SWP_region ?_
              first | refine pu (v := .int .i64 _) rfl rfl ?_ | refine pu rfl rfl ?_
              refine SL_nil ?_
              refine nx ?_
              refine SWP_seq ?_
              refine SWP_seq ?_
              refine SWP_region ?_
              first | refine pu (v := .int .i64 _) rfl rfl ?_ | refine pu rfl rfl ?_
              refine SL_nil ?_
              refine nx ?_
              refine SWP_block ?_
              refine SWP_loop [8, 9, 42, 43, 44, 45, 46, 47, 48, 49, 50, 51, 52, 53, 54, 55, 56, 57, 58, 59] [8, 9]
                  (fun vs σ' m' => ∃ (k : Nat), vs = [.int .i64 (wantE most l x k), .int .i64 (k : Nat)] ∧ k ≤ i ∧ σ' = GuC B M most low lm ∧ m = m')
                  (fun vs => i - nOf (vs.getD 1 undef)) rfl ?_ ?_
              · exact ⟨0, by first | (rw [want_bad (by omega)]; rfl) | (rw [want_0 (by omega)]; rfl), by omega, rfl, rfl⟩
              · intro u1 vs1 σ1 m1 hJ1 _
                obtain ⟨k, rfl, hk, rfl, rfl⟩ := hJ1
                refine SWP_seq ?_
                refine SWP_seq ?_
                refine SWP_region ?_
                first | refine pu (v := .int .i64 _) rfl rfl ?_ | refine pu rfl rfl ?_
                first | refine pu (v := .int .i64 _) rfl rfl ?_ | refine pu rfl rfl ?_
                refine pc rfl rfl (fun c44 => ?_) (fun c44 => ?_)
                · skip
                  first | refine pu (v := .bool _) rfl rfl ?_ | refine pu rfl rfl ?_
                  refine SL_yes rfl ?_
                  first | refine pu (v := .int .i64 _) rfl rfl ?_ | refine pu rfl rfl ?_
                  refine SL_yes rfl ?_
                  refine pc rfl rfl (fun c47 => ?_) (fun c47 => ?_)
                  · skip
                    first | refine pu (v := .bool _) rfl rfl ?_ | refine pu rfl rfl ?_
                    refine SL_nil ?_
                    refine nx ?_
                    refine SWP_ct rfl ?_
                    refine SWP_skip ?_
                    refine nx ?_
                    refine SWP_seq ?_
                    refine SWP_block ?_
                    refine SWP_seq ?_
                    obtain ⟨y, hy⟩ : ∃ y, l[k]? = some y := ⟨_, List.getElem?_eq_getElem (by omega)⟩
                    obtain ⟨ad2, cap2, e2, hat2⟩ := RL.at1 intE_len h hy
                    cases e2
                    refine SWP_draws (by kernel_rfl) (by kernel_rfl) ?_
                    first | refine pu (v := .slice _ _ _) rfl rfl ?_ | refine pu rfl rfl ?_
                    first | refine pu (v := .int .i64 _) rfl rfl ?_ | refine pu rfl rfl ?_
                    first | refine ia (es := 1) rfl rfl rfl (Nat.mul_one _) rfl rfl (by omega) rfl ?_ | refine iai (es := 1) rfl rfl rfl (Nat.mul_one _) rfl rfl (by omega) (by omega) rfl ?_
                    refine ldA (v := .int .i64 _) rfl (by assumption) rfl rfl ?_
                    first | refine pu (v := .slice _ _ _) rfl rfl ?_ | refine pu rfl rfl ?_
                    first | refine pu (v := .int .i64 _) rfl rfl ?_ | refine pu rfl rfl ?_
                    first | refine ia (es := 1) rfl rfl rfl (Nat.mul_one _) rfl rfl (by omega) rfl ?_ | refine iai (es := 1) rfl rfl rfl (Nat.mul_one _) rfl rfl (by omega) (by omega) rfl ?_
                    refine ldA (v := .int .i64 _) rfl (by assumption) rfl rfl ?_
                    refine pc rfl rfl (fun c59 => ?_) (fun c59 => ?_)
                    · skip
                      refine SL_nil ?_
                      refine nx ?_
                      refine SWP_ct rfl ?_
                      refine SWP_region ?_
                      first | refine pu (v := .int .i64 _) rfl rfl ?_ | refine pu rfl rfl ?_
                      refine SL_nil ?_
                      refine nb ?_
                      refine nx ?_
                      refine SWP_region ?_
                      first | refine pu (v := .int .i64 _) rfl rfl ?_ | refine pu rfl rfl ?_
                      first | refine pw rfl rfl (w64 (by omega) (by omega)) ?_ | refine pu rfl rfl ?_
                      first | refine pu (v := .int .i64 _) rfl rfl ?_ | refine pu rfl rfl ?_
                      refine SL_nil ?_
                      refine nx ?_
                      refine ⟨by repeat (first | exact Under.upds rfl (Under.hav _ _ _) | exact Under.hav _ _ _ | refine Under.upd rfl ?_ | refine Under.upds rfl ?_ | refine Under.hav2 rfl ?_), ?_, ?_⟩
                      · exact ⟨k + 1, by first | (rw [want_hit c47 hy c59]; rfl) | (rw [want_miss c47 hy c59, ← c47]; rfl), by omega, rfl, rfl⟩
                      · simp only [L_vals, List.map, List.getD]; show i - (k + 1) < i - k; omega
                    · skip
                      refine SL_nil ?_
                      refine nx ?_
                      refine SWP_cf rfl ?_
                      refine SWP_skip ?_
                      refine nb ?_
                      refine nx ?_
                      refine SWP_region ?_
                      first | refine pu (v := .int .i64 _) rfl rfl ?_ | refine pu rfl rfl ?_
                      first | refine pw rfl rfl (w64 (by omega) (by omega)) ?_ | refine pu rfl rfl ?_
                      first | refine pu (v := .int .i64 _) rfl rfl ?_ | refine pu rfl rfl ?_
                      refine SL_nil ?_
                      refine nx ?_
                      refine ⟨by repeat (first | exact Under.upds rfl (Under.hav _ _ _) | exact Under.hav _ _ _ | refine Under.upd rfl ?_ | refine Under.upds rfl ?_ | refine Under.hav2 rfl ?_), ?_, ?_⟩
                      · exact ⟨k + 1, by first | (rw [want_hit c47 hy c59]; rfl) | (rw [want_miss c47 hy c59, ← c47]; rfl), by omega, rfl, rfl⟩
                      · simp only [L_vals, List.map, List.getD]; show i - (k + 1) < i - k; omega
                  · skip
                    first | refine pu (v := .bool _) rfl rfl ?_ | refine pu rfl rfl ?_
                    refine SL_nil ?_
                    refine nx ?_
                    refine SWP_cf rfl ?_
                    refine SWP_exit ?_
                    refine ne ?_
                    refine ne ?_
                    refine be rfl ?_
                    refine nx ?_
                    refine SWP_seq ?_
                    refine SWP_seq ?_
                    have hwi : wantE most l x i = wantE most l x k := by
                      by_cases e : k = i
                      · rw [e]
                      · exact want_more hk (by omega)
                    have hwt := want_take (x := x) hmS
                    rw [hwi] at hwt
                    have hws := seen_take (x := x) hmS
                    rw [hwi] at hws
                    refine SWP_region ?_
                    first | refine pu (v := .pointer _) rfl rfl ?_ | refine pu rfl rfl ?_
                    first | refine pu (v := .slice _ _ _) rfl rfl ?_ | refine pu rfl rfl ?_
                    first | refine pu (v := .int .i64 _) rfl rfl ?_ | refine pu rfl rfl ?_
                    first | refine ia (es := 1) rfl rfl rfl (Nat.mul_one _) rfl rfl (by omega) rfl ?_ | refine iai (es := 1) rfl rfl rfl (Nat.mul_one _) rfl rfl (by omega) (by omega) rfl ?_
                    refine ldA (v := .int .i64 _) rfl (by assumption) rfl rfl ?_
                    refine SL_call rfl rfl cb14 (guTake hrep hlow x) rfl (fun v16_5 σ16_5 m16_5 hl16_5 hR16_5 => ?_)
                    obtain ⟨rfl, hm16_5, low2, lm2, rfl, hrep2, hlow2⟩ := hR16_5
                    have hn16_5 := hm16_5.symm
                    subst hn16_5
                    first | refine pu (v := .int .i64 _) rfl rfl ?_ | refine pu rfl rfl ?_
                    refine pn rfl rfl (fun h => h hwt) ?_
                    first | refine pu (v := .bool _) rfl rfl ?_ | refine pu rfl rfl ?_
                    refine SL_yes rfl ?_
                    first | refine pu (v := .pointer _) rfl rfl ?_ | refine pu rfl rfl ?_
                    refine SL_yes rfl ?_
                    first | refine pu (v := .slice _ _ _) rfl rfl ?_ | refine pu rfl rfl ?_
                    refine SL_yes rfl ?_
                    first | refine pu (v := .int .i64 _) rfl rfl ?_ | refine pu rfl rfl ?_
                    refine SL_yes rfl ?_
                    first | refine ia (es := 1) rfl rfl rfl (Nat.mul_one _) rfl rfl (by omega) rfl ?_ | refine iai (es := 1) rfl rfl rfl (Nat.mul_one _) rfl rfl (by omega) (by omega) rfl ?_
                    refine SL_yes rfl ?_
                    refine ldA (v := .int .i64 _) rfl (by assumption) rfl rfl ?_
                    refine SL_yes rfl ?_
                    refine SL_call rfl rfl cb12 (guSeen hrep2 x) rfl (fun v16_14 σ16_14 m16_14 hl16_14 hR16_14 => ?_)
                    obtain ⟨rfl, rfl, hm16_14⟩ := hR16_14
                    have hn16_14 := hm16_14.symm
                    subst hn16_14
                    refine SL_yes rfl ?_
                    first | refine pu (v := .int .i64 _) rfl rfl ?_ | refine pu rfl rfl ?_
                    refine SL_yes rfl ?_
                    refine pu rfl rfl ?_
                    refine SL_yes rfl ?_
                    refine pn rfl rfl (fun h => h hws) ?_
                    first | refine pu (v := .bool _) rfl rfl ?_ | refine pu rfl rfl ?_
                    refine SL_nil ?_
                    refine nx ?_
                    refine SWP_cf rfl ?_
                    refine SWP_skip ?_
                    refine nx ?_
                    refine SWP_seq ?_
                    refine SWP_region ?_
                    first | refine pu (v := .int .i64 _) rfl rfl ?_ | refine pu rfl rfl ?_
                    refine pc rfl rfl (fun c80 => ?_) (fun c80 => ?_)
                    · skip
                      refine SL_nil ?_
                      refine nx ?_
                      refine SWP_ct rfl ?_
                      refine SWP_region ?_
                      first | refine pu (v := .int .i64 _) rfl rfl ?_ | refine pu rfl rfl ?_
                      first | refine pw rfl rfl (w64 (by omega) (by omega)) ?_ | refine pu rfl rfl ?_
                      first | refine pu (v := .int .i64 _) rfl rfl ?_ | refine pu rfl rfl ?_
                      refine SL_nil ?_
                      refine nb ?_
                      refine nx ?_
                      refine SWP_region ?_
                      first | refine pw rfl rfl (w64 (by omega) (by omega)) ?_ | refine pu rfl rfl ?_
                      first | refine pu (v := .int .i64 _) rfl rfl ?_ | refine pu rfl rfl ?_
                      refine SL_nil ?_
                      refine nx ?_
                      refine ⟨by repeat (first | exact Under.upds rfl (Under.hav _ _ _) | exact Under.hav _ _ _ | refine Under.upd rfl ?_ | refine Under.upds rfl ?_ | refine Under.hav2 rfl ?_), ?_, ?_⟩
                      · have hlen2 := takeS_len most S x
                        refine ⟨i + 1, low2, lm2, takeS most S x, ?_, by omega, hrep2, hlow2, by omega, take_more hmS hx, rfl, rfl⟩
                        first
                          | (rw [takeS_one (show takeE most S x = 0 by omega)]; rfl)
                          | (rw [takeS_none (show takeE most S x ≠ 0 by omega)]; rfl)
                      · simp only [L_vals, List.map, List.getD]; show l.length - (i + 1) < l.length - i; omega
                    · skip
                      refine SL_nil ?_
                      refine nx ?_
                      refine SWP_cf rfl ?_
                      refine SWP_skip ?_
                      refine nb ?_
                      refine nx ?_
                      refine SWP_region ?_
                      first | refine pw rfl rfl (w64 (by omega) (by omega)) ?_ | refine pu rfl rfl ?_
                      first | refine pu (v := .int .i64 _) rfl rfl ?_ | refine pu rfl rfl ?_
                      refine SL_nil ?_
                      refine nx ?_
                      refine ⟨by repeat (first | exact Under.upds rfl (Under.hav _ _ _) | exact Under.hav _ _ _ | refine Under.upd rfl ?_ | refine Under.upds rfl ?_ | refine Under.hav2 rfl ?_), ?_, ?_⟩
                      · have hlen2 := takeS_len most S x
                        refine ⟨i + 1, low2, lm2, takeS most S x, ?_, by omega, hrep2, hlow2, by omega, take_more hmS hx, rfl, rfl⟩
                        first
                          | (rw [takeS_one (show takeE most S x = 0 by omega)]; rfl)
                          | (rw [takeS_none (show takeE most S x ≠ 0 by omega)]; rfl)
                      · simp only [L_vals, List.map, List.getD]; show l.length - (i + 1) < l.length - i; omega
                · skip
                  first | refine pu (v := .bool _) rfl rfl ?_ | refine pu rfl rfl ?_
                  refine SL_no rfl rfl ?_
                  refine SL_no rfl rfl ?_
                  first | refine pu (v := .bool _) rfl rfl ?_ | refine pu rfl rfl ?_
                  refine SL_nil ?_
                  refine nx ?_
                  refine SWP_cf rfl ?_
                  refine SWP_exit ?_
                  refine ne ?_
                  refine ne ?_
                  refine be rfl ?_
                  refine nx ?_
                  refine SWP_seq ?_
                  refine SWP_seq ?_
                  have hwi : wantE most l x i = wantE most l x k := by
                    by_cases e : k = i
                    · rw [e]
                    · exact want_more hk (by omega)
                  have hwt := want_take (x := x) hmS
                  rw [hwi] at hwt
                  have hws := seen_take (x := x) hmS
                  rw [hwi] at hws
                  refine SWP_region ?_
                  first | refine pu (v := .pointer _) rfl rfl ?_ | refine pu rfl rfl ?_
                  first | refine pu (v := .slice _ _ _) rfl rfl ?_ | refine pu rfl rfl ?_
                  first | refine pu (v := .int .i64 _) rfl rfl ?_ | refine pu rfl rfl ?_
                  first | refine ia (es := 1) rfl rfl rfl (Nat.mul_one _) rfl rfl (by omega) rfl ?_ | refine iai (es := 1) rfl rfl rfl (Nat.mul_one _) rfl rfl (by omega) (by omega) rfl ?_
                  refine ldA (v := .int .i64 _) rfl (by assumption) rfl rfl ?_
                  refine SL_call rfl rfl cb14 (guTake hrep hlow x) rfl (fun v16_5 σ16_5 m16_5 hl16_5 hR16_5 => ?_)
                  obtain ⟨rfl, hm16_5, low2, lm2, rfl, hrep2, hlow2⟩ := hR16_5
                  have hn16_5 := hm16_5.symm
                  subst hn16_5
                  first | refine pu (v := .int .i64 _) rfl rfl ?_ | refine pu rfl rfl ?_
                  refine pn rfl rfl (fun h => h hwt) ?_
                  first | refine pu (v := .bool _) rfl rfl ?_ | refine pu rfl rfl ?_
                  refine SL_yes rfl ?_
                  first | refine pu (v := .pointer _) rfl rfl ?_ | refine pu rfl rfl ?_
                  refine SL_yes rfl ?_
                  first | refine pu (v := .slice _ _ _) rfl rfl ?_ | refine pu rfl rfl ?_
                  refine SL_yes rfl ?_
                  first | refine pu (v := .int .i64 _) rfl rfl ?_ | refine pu rfl rfl ?_
                  refine SL_yes rfl ?_
                  first | refine ia (es := 1) rfl rfl rfl (Nat.mul_one _) rfl rfl (by omega) rfl ?_ | refine iai (es := 1) rfl rfl rfl (Nat.mul_one _) rfl rfl (by omega) (by omega) rfl ?_
                  refine SL_yes rfl ?_
                  refine ldA (v := .int .i64 _) rfl (by assumption) rfl rfl ?_
                  refine SL_yes rfl ?_
                  refine SL_call rfl rfl cb12 (guSeen hrep2 x) rfl (fun v16_14 σ16_14 m16_14 hl16_14 hR16_14 => ?_)
                  obtain ⟨rfl, rfl, hm16_14⟩ := hR16_14
                  have hn16_14 := hm16_14.symm
                  subst hn16_14
                  refine SL_yes rfl ?_
                  first | refine pu (v := .int .i64 _) rfl rfl ?_ | refine pu rfl rfl ?_
                  refine SL_yes rfl ?_
                  refine pu rfl rfl ?_
                  refine SL_yes rfl ?_
                  refine pn rfl rfl (fun h => h hws) ?_
                  first | refine pu (v := .bool _) rfl rfl ?_ | refine pu rfl rfl ?_
                  refine SL_nil ?_
                  refine nx ?_
                  refine SWP_cf rfl ?_
                  refine SWP_skip ?_
                  refine nx ?_
                  refine SWP_seq ?_
                  refine SWP_region ?_
                  first | refine pu (v := .int .i64 _) rfl rfl ?_ | refine pu rfl rfl ?_
                  refine pc rfl rfl (fun c80 => ?_) (fun c80 => ?_)
                  · skip
                    refine SL_nil ?_
                    refine nx ?_
                    refine SWP_ct rfl ?_
                    refine SWP_region ?_
                    first | refine pu (v := .int .i64 _) rfl rfl ?_ | refine pu rfl rfl ?_
                    first | refine pw rfl rfl (w64 (by omega) (by omega)) ?_ | refine pu rfl rfl ?_
                    first | refine pu (v := .int .i64 _) rfl rfl ?_ | refine pu rfl rfl ?_
                    refine SL_nil ?_
                    refine nb ?_
                    refine nx ?_
                    refine SWP_region ?_
                    first | refine pw rfl rfl (w64 (by omega) (by omega)) ?_ | refine pu rfl rfl ?_
                    first | refine pu (v := .int .i64 _) rfl rfl ?_ | refine pu rfl rfl ?_
                    refine SL_nil ?_
                    refine nx ?_
                    refine ⟨by repeat (first | exact Under.upds rfl (Under.hav _ _ _) | exact Under.hav _ _ _ | refine Under.upd rfl ?_ | refine Under.upds rfl ?_ | refine Under.hav2 rfl ?_), ?_, ?_⟩
                    · have hlen2 := takeS_len most S x
                      refine ⟨i + 1, low2, lm2, takeS most S x, ?_, by omega, hrep2, hlow2, by omega, take_more hmS hx, rfl, rfl⟩
                      first
                        | (rw [takeS_one (show takeE most S x = 0 by omega)]; rfl)
                        | (rw [takeS_none (show takeE most S x ≠ 0 by omega)]; rfl)
                    · simp only [L_vals, List.map, List.getD]; show l.length - (i + 1) < l.length - i; omega
                  · skip
                    refine SL_nil ?_
                    refine nx ?_
                    refine SWP_cf rfl ?_
                    refine SWP_skip ?_
                    refine nb ?_
                    refine nx ?_
                    refine SWP_region ?_
                    first | refine pw rfl rfl (w64 (by omega) (by omega)) ?_ | refine pu rfl rfl ?_
                    first | refine pu (v := .int .i64 _) rfl rfl ?_ | refine pu rfl rfl ?_
                    refine SL_nil ?_
                    refine nx ?_
                    refine ⟨by repeat (first | exact Under.upds rfl (Under.hav _ _ _) | exact Under.hav _ _ _ | refine Under.upd rfl ?_ | refine Under.upds rfl ?_ | refine Under.hav2 rfl ?_), ?_, ?_⟩
                    · have hlen2 := takeS_len most S x
                      refine ⟨i + 1, low2, lm2, takeS most S x, ?_, by omega, hrep2, hlow2, by omega, take_more hmS hx, rfl, rfl⟩
                      first
                        | (rw [takeS_one (show takeE most S x = 0 by omega)]; rfl)
                        | (rw [takeS_none (show takeE most S x ≠ 0 by omega)]; rfl)
                    · simp only [L_vals, List.map, List.getD]; show l.length - (i + 1) < l.length - i; omega
            · skip
              first | refine pu (v := .bool _) rfl rfl ?_ | refine pu rfl rfl ?_
              refine SL_yes rfl ?_
              first | refine pu (v := .slice _ _ _) rfl rfl ?_ | refine pu rfl rfl ?_
              refine SL_yes rfl ?_
              first | refine pu (v := .int .i64 _) rfl rfl ?_ | refine pu rfl rfl ?_
              refine SL_yes rfl ?_
              first | refine ia (es := 1) rfl rfl rfl (Nat.mul_one _) rfl rfl (by omega) rfl ?_ | refine iai (es := 1) rfl rfl rfl (Nat.mul_one _) rfl rfl (by omega) (by omega) rfl ?_
              refine SL_yes rfl ?_
              refine ldA (v := .int .i64 _) rfl (by assumption) rfl rfl ?_
              refine SL_yes rfl ?_
              first | refine pu (v := .int .i64 _) rfl rfl ?_ | refine pu rfl rfl ?_
              refine SL_yes rfl ?_
              refine pc rfl rfl (fun c40 => ?_) (fun c40 => ?_)
              · skip
                first | refine pu (v := .bool _) rfl rfl ?_ | refine pu rfl rfl ?_
                refine SL_nil ?_
                refine nx ?_
                refine SWP_ct rfl ?_
                refine SWP_region ?_
                first | refine pu (v := .int .i64 _) rfl rfl ?_ | refine pu rfl rfl ?_
                refine SL_nil ?_
                refine nx ?_
                refine SWP_seq ?_
                refine SWP_seq ?_
                refine SWP_region ?_
                first | refine pu (v := .int .i64 _) rfl rfl ?_ | refine pu rfl rfl ?_
                refine SL_nil ?_
                refine nx ?_
                refine SWP_block ?_
                refine SWP_loop [8, 9, 42, 43, 44, 45, 46, 47, 48, 49, 50, 51, 52, 53, 54, 55, 56, 57, 58, 59] [8, 9]
                    (fun vs σ' m' => ∃ (k : Nat), vs = [.int .i64 (wantE most l x k), .int .i64 (k : Nat)] ∧ k ≤ i ∧ σ' = GuC B M most low lm ∧ m = m')
                    (fun vs => i - nOf (vs.getD 1 undef)) rfl ?_ ?_
                · exact ⟨0, by first | (rw [want_bad (by omega)]; rfl) | (rw [want_0 (by omega)]; rfl), by omega, rfl, rfl⟩
                · intro u1 vs1 σ1 m1 hJ1 _
                  obtain ⟨k, rfl, hk, rfl, rfl⟩ := hJ1
                  refine SWP_seq ?_
                  refine SWP_seq ?_
                  refine SWP_region ?_
                  first | refine pu (v := .int .i64 _) rfl rfl ?_ | refine pu rfl rfl ?_
                  first | refine pu (v := .int .i64 _) rfl rfl ?_ | refine pu rfl rfl ?_
                  refine pc rfl rfl (fun c44 => ?_) (fun c44 => ?_)
                  · skip
                    first | refine pu (v := .bool _) rfl rfl ?_ | refine pu rfl rfl ?_
                    refine SL_yes rfl ?_
                    first | refine pu (v := .int .i64 _) rfl rfl ?_ | refine pu rfl rfl ?_
                    refine SL_yes rfl ?_
                    refine pc rfl rfl (fun c47 => ?_) (fun c47 => ?_)
                    · skip
                      first | refine pu (v := .bool _) rfl rfl ?_ | refine pu rfl rfl ?_
                      refine SL_nil ?_
                      refine nx ?_
                      refine SWP_ct rfl ?_
                      refine SWP_skip ?_
                      refine nx ?_
                      refine SWP_seq ?_
                      refine SWP_block ?_
                      refine SWP_seq ?_
                      obtain ⟨y, hy⟩ : ∃ y, l[k]? = some y := ⟨_, List.getElem?_eq_getElem (by omega)⟩
                      obtain ⟨ad2, cap2, e2, hat2⟩ := RL.at1 intE_len h hy
                      cases e2
                      refine SWP_draws (by kernel_rfl) (by kernel_rfl) ?_
                      first | refine pu (v := .slice _ _ _) rfl rfl ?_ | refine pu rfl rfl ?_
                      first | refine pu (v := .int .i64 _) rfl rfl ?_ | refine pu rfl rfl ?_
                      first | refine ia (es := 1) rfl rfl rfl (Nat.mul_one _) rfl rfl (by omega) rfl ?_ | refine iai (es := 1) rfl rfl rfl (Nat.mul_one _) rfl rfl (by omega) (by omega) rfl ?_
                      refine ldA (v := .int .i64 _) rfl (by assumption) rfl rfl ?_
                      first | refine pu (v := .slice _ _ _) rfl rfl ?_ | refine pu rfl rfl ?_
                      first | refine pu (v := .int .i64 _) rfl rfl ?_ | refine pu rfl rfl ?_
                      first | refine ia (es := 1) rfl rfl rfl (Nat.mul_one _) rfl rfl (by omega) rfl ?_ | refine iai (es := 1) rfl rfl rfl (Nat.mul_one _) rfl rfl (by omega) (by omega) rfl ?_
                      refine ldA (v := .int .i64 _) rfl (by assumption) rfl rfl ?_
                      refine pc rfl rfl (fun c59 => ?_) (fun c59 => ?_)
                      · skip
                        refine SL_nil ?_
                        refine nx ?_
                        refine SWP_ct rfl ?_
                        refine SWP_region ?_
                        first | refine pu (v := .int .i64 _) rfl rfl ?_ | refine pu rfl rfl ?_
                        refine SL_nil ?_
                        refine nb ?_
                        refine nx ?_
                        refine SWP_region ?_
                        first | refine pu (v := .int .i64 _) rfl rfl ?_ | refine pu rfl rfl ?_
                        first | refine pw rfl rfl (w64 (by omega) (by omega)) ?_ | refine pu rfl rfl ?_
                        first | refine pu (v := .int .i64 _) rfl rfl ?_ | refine pu rfl rfl ?_
                        refine SL_nil ?_
                        refine nx ?_
                        refine ⟨by repeat (first | exact Under.upds rfl (Under.hav _ _ _) | exact Under.hav _ _ _ | refine Under.upd rfl ?_ | refine Under.upds rfl ?_ | refine Under.hav2 rfl ?_), ?_, ?_⟩
                        · exact ⟨k + 1, by first | (rw [want_hit c47 hy c59]; rfl) | (rw [want_miss c47 hy c59, ← c47]; rfl), by omega, rfl, rfl⟩
                        · simp only [L_vals, List.map, List.getD]; show i - (k + 1) < i - k; omega
                      · skip
                        refine SL_nil ?_
                        refine nx ?_
                        refine SWP_cf rfl ?_
                        refine SWP_skip ?_
                        refine nb ?_
                        refine nx ?_
                        refine SWP_region ?_
                        first | refine pu (v := .int .i64 _) rfl rfl ?_ | refine pu rfl rfl ?_
                        first | refine pw rfl rfl (w64 (by omega) (by omega)) ?_ | refine pu rfl rfl ?_
                        first | refine pu (v := .int .i64 _) rfl rfl ?_ | refine pu rfl rfl ?_
                        refine SL_nil ?_
                        refine nx ?_
                        refine ⟨by repeat (first | exact Under.upds rfl (Under.hav _ _ _) | exact Under.hav _ _ _ | refine Under.upd rfl ?_ | refine Under.upds rfl ?_ | refine Under.hav2 rfl ?_), ?_, ?_⟩
                        · exact ⟨k + 1, by first | (rw [want_hit c47 hy c59]; rfl) | (rw [want_miss c47 hy c59, ← c47]; rfl), by omega, rfl, rfl⟩
                        · simp only [L_vals, List.map, List.getD]; show i - (k + 1) < i - k; omega
                    · skip
                      first | refine pu (v := .bool _) rfl rfl ?_ | refine pu rfl rfl ?_
                      refine SL_nil ?_
                      refine nx ?_
                      refine SWP_cf rfl ?_
                      refine SWP_exit ?_
                      refine ne ?_
                      refine ne ?_
                      refine be rfl ?_
                      refine nx ?_
                      refine SWP_seq ?_
                      refine SWP_seq ?_
                      have hwi : wantE most l x i = wantE most l x k := by
                        by_cases e : k = i
                        · rw [e]
                        · exact want_more hk (by omega)
                      have hwt := want_take (x := x) hmS
                      rw [hwi] at hwt
                      have hws := seen_take (x := x) hmS
                      rw [hwi] at hws
                      refine SWP_region ?_
                      first | refine pu (v := .pointer _) rfl rfl ?_ | refine pu rfl rfl ?_
                      first | refine pu (v := .slice _ _ _) rfl rfl ?_ | refine pu rfl rfl ?_
                      first | refine pu (v := .int .i64 _) rfl rfl ?_ | refine pu rfl rfl ?_
                      first | refine ia (es := 1) rfl rfl rfl (Nat.mul_one _) rfl rfl (by omega) rfl ?_ | refine iai (es := 1) rfl rfl rfl (Nat.mul_one _) rfl rfl (by omega) (by omega) rfl ?_
                      refine ldA (v := .int .i64 _) rfl (by assumption) rfl rfl ?_
                      refine SL_call rfl rfl cb14 (guTake hrep hlow x) rfl (fun v16_5 σ16_5 m16_5 hl16_5 hR16_5 => ?_)
                      obtain ⟨rfl, hm16_5, low2, lm2, rfl, hrep2, hlow2⟩ := hR16_5
                      have hn16_5 := hm16_5.symm
                      subst hn16_5
                      first | refine pu (v := .int .i64 _) rfl rfl ?_ | refine pu rfl rfl ?_
                      refine pn rfl rfl (fun h => h hwt) ?_
                      first | refine pu (v := .bool _) rfl rfl ?_ | refine pu rfl rfl ?_
                      refine SL_yes rfl ?_
                      first | refine pu (v := .pointer _) rfl rfl ?_ | refine pu rfl rfl ?_
                      refine SL_yes rfl ?_
                      first | refine pu (v := .slice _ _ _) rfl rfl ?_ | refine pu rfl rfl ?_
                      refine SL_yes rfl ?_
                      first | refine pu (v := .int .i64 _) rfl rfl ?_ | refine pu rfl rfl ?_
                      refine SL_yes rfl ?_
                      first | refine ia (es := 1) rfl rfl rfl (Nat.mul_one _) rfl rfl (by omega) rfl ?_ | refine iai (es := 1) rfl rfl rfl (Nat.mul_one _) rfl rfl (by omega) (by omega) rfl ?_
                      refine SL_yes rfl ?_
                      refine ldA (v := .int .i64 _) rfl (by assumption) rfl rfl ?_
                      refine SL_yes rfl ?_
                      refine SL_call rfl rfl cb12 (guSeen hrep2 x) rfl (fun v16_14 σ16_14 m16_14 hl16_14 hR16_14 => ?_)
                      obtain ⟨rfl, rfl, hm16_14⟩ := hR16_14
                      have hn16_14 := hm16_14.symm
                      subst hn16_14
                      refine SL_yes rfl ?_
                      first | refine pu (v := .int .i64 _) rfl rfl ?_ | refine pu rfl rfl ?_
                      refine SL_yes rfl ?_
                      refine pu rfl rfl ?_
                      refine SL_yes rfl ?_
                      refine pn rfl rfl (fun h => h hws) ?_
                      first | refine pu (v := .bool _) rfl rfl ?_ | refine pu rfl rfl ?_
                      refine SL_nil ?_
                      refine nx ?_
                      refine SWP_cf rfl ?_
                      refine SWP_skip ?_
                      refine nx ?_
                      refine SWP_seq ?_
                      refine SWP_region ?_
                      first | refine pu (v := .int .i64 _) rfl rfl ?_ | refine pu rfl rfl ?_
                      refine pc rfl rfl (fun c80 => ?_) (fun c80 => ?_)
                      · skip
                        refine SL_nil ?_
                        refine nx ?_
                        refine SWP_ct rfl ?_
                        refine SWP_region ?_
                        first | refine pu (v := .int .i64 _) rfl rfl ?_ | refine pu rfl rfl ?_
                        first | refine pw rfl rfl (w64 (by omega) (by omega)) ?_ | refine pu rfl rfl ?_
                        first | refine pu (v := .int .i64 _) rfl rfl ?_ | refine pu rfl rfl ?_
                        refine SL_nil ?_
                        refine nb ?_
                        refine nx ?_
                        refine SWP_region ?_
                        first | refine pw rfl rfl (w64 (by omega) (by omega)) ?_ | refine pu rfl rfl ?_
                        first | refine pu (v := .int .i64 _) rfl rfl ?_ | refine pu rfl rfl ?_
                        refine SL_nil ?_
                        refine nx ?_
                        refine ⟨by repeat (first | exact Under.upds rfl (Under.hav _ _ _) | exact Under.hav _ _ _ | refine Under.upd rfl ?_ | refine Under.upds rfl ?_ | refine Under.hav2 rfl ?_), ?_, ?_⟩
                        · have hlen2 := takeS_len most S x
                          refine ⟨i + 1, low2, lm2, takeS most S x, ?_, by omega, hrep2, hlow2, by omega, take_more hmS hx, rfl, rfl⟩
                          first
                            | (rw [takeS_one (show takeE most S x = 0 by omega)]; rfl)
                            | (rw [takeS_none (show takeE most S x ≠ 0 by omega)]; rfl)
                        · simp only [L_vals, List.map, List.getD]; show l.length - (i + 1) < l.length - i; omega
                      · skip
                        refine SL_nil ?_
                        refine nx ?_
                        refine SWP_cf rfl ?_
                        refine SWP_skip ?_
                        refine nb ?_
                        refine nx ?_
                        refine SWP_region ?_
                        first | refine pw rfl rfl (w64 (by omega) (by omega)) ?_ | refine pu rfl rfl ?_
                        first | refine pu (v := .int .i64 _) rfl rfl ?_ | refine pu rfl rfl ?_
                        refine SL_nil ?_
                        refine nx ?_
                        refine ⟨by repeat (first | exact Under.upds rfl (Under.hav _ _ _) | exact Under.hav _ _ _ | refine Under.upd rfl ?_ | refine Under.upds rfl ?_ | refine Under.hav2 rfl ?_), ?_, ?_⟩
                        · have hlen2 := takeS_len most S x
                          refine ⟨i + 1, low2, lm2, takeS most S x, ?_, by omega, hrep2, hlow2, by omega, take_more hmS hx, rfl, rfl⟩
                          first
                            | (rw [takeS_one (show takeE most S x = 0 by omega)]; rfl)
                            | (rw [takeS_none (show takeE most S x ≠ 0 by omega)]; rfl)
                        · simp only [L_vals, List.map, List.getD]; show l.length - (i + 1) < l.length - i; omega
                  · skip
                    first | refine pu (v := .bool _) rfl rfl ?_ | refine pu rfl rfl ?_
                    refine SL_no rfl rfl ?_
                    refine SL_no rfl rfl ?_
                    first | refine pu (v := .bool _) rfl rfl ?_ | refine pu rfl rfl ?_
                    refine SL_nil ?_
                    refine nx ?_
                    refine SWP_cf rfl ?_
                    refine SWP_exit ?_
                    refine ne ?_
                    refine ne ?_
                    refine be rfl ?_
                    refine nx ?_
                    refine SWP_seq ?_
                    refine SWP_seq ?_
                    have hwi : wantE most l x i = wantE most l x k := by
                      by_cases e : k = i
                      · rw [e]
                      · exact want_more hk (by omega)
                    have hwt := want_take (x := x) hmS
                    rw [hwi] at hwt
                    have hws := seen_take (x := x) hmS
                    rw [hwi] at hws
                    refine SWP_region ?_
                    first | refine pu (v := .pointer _) rfl rfl ?_ | refine pu rfl rfl ?_
                    first | refine pu (v := .slice _ _ _) rfl rfl ?_ | refine pu rfl rfl ?_
                    first | refine pu (v := .int .i64 _) rfl rfl ?_ | refine pu rfl rfl ?_
                    first | refine ia (es := 1) rfl rfl rfl (Nat.mul_one _) rfl rfl (by omega) rfl ?_ | refine iai (es := 1) rfl rfl rfl (Nat.mul_one _) rfl rfl (by omega) (by omega) rfl ?_
                    refine ldA (v := .int .i64 _) rfl (by assumption) rfl rfl ?_
                    refine SL_call rfl rfl cb14 (guTake hrep hlow x) rfl (fun v16_5 σ16_5 m16_5 hl16_5 hR16_5 => ?_)
                    obtain ⟨rfl, hm16_5, low2, lm2, rfl, hrep2, hlow2⟩ := hR16_5
                    have hn16_5 := hm16_5.symm
                    subst hn16_5
                    first | refine pu (v := .int .i64 _) rfl rfl ?_ | refine pu rfl rfl ?_
                    refine pn rfl rfl (fun h => h hwt) ?_
                    first | refine pu (v := .bool _) rfl rfl ?_ | refine pu rfl rfl ?_
                    refine SL_yes rfl ?_
                    first | refine pu (v := .pointer _) rfl rfl ?_ | refine pu rfl rfl ?_
                    refine SL_yes rfl ?_
                    first | refine pu (v := .slice _ _ _) rfl rfl ?_ | refine pu rfl rfl ?_
                    refine SL_yes rfl ?_
                    first | refine pu (v := .int .i64 _) rfl rfl ?_ | refine pu rfl rfl ?_
                    refine SL_yes rfl ?_
                    first | refine ia (es := 1) rfl rfl rfl (Nat.mul_one _) rfl rfl (by omega) rfl ?_ | refine iai (es := 1) rfl rfl rfl (Nat.mul_one _) rfl rfl (by omega) (by omega) rfl ?_
                    refine SL_yes rfl ?_
                    refine ldA (v := .int .i64 _) rfl (by assumption) rfl rfl ?_
                    refine SL_yes rfl ?_
                    refine SL_call rfl rfl cb12 (guSeen hrep2 x) rfl (fun v16_14 σ16_14 m16_14 hl16_14 hR16_14 => ?_)
                    obtain ⟨rfl, rfl, hm16_14⟩ := hR16_14
                    have hn16_14 := hm16_14.symm
                    subst hn16_14
                    refine SL_yes rfl ?_
                    first | refine pu (v := .int .i64 _) rfl rfl ?_ | refine pu rfl rfl ?_
                    refine SL_yes rfl ?_
                    refine pu rfl rfl ?_
                    refine SL_yes rfl ?_
                    refine pn rfl rfl (fun h => h hws) ?_
                    first | refine pu (v := .bool _) rfl rfl ?_ | refine pu rfl rfl ?_
                    refine SL_nil ?_
                    refine nx ?_
                    refine SWP_cf rfl ?_
                    refine SWP_skip ?_
                    refine nx ?_
                    refine SWP_seq ?_
                    refine SWP_region ?_
                    first | refine pu (v := .int .i64 _) rfl rfl ?_ | refine pu rfl rfl ?_
                    refine pc rfl rfl (fun c80 => ?_) (fun c80 => ?_)
                    · skip
                      refine SL_nil ?_
                      refine nx ?_
                      refine SWP_ct rfl ?_
                      refine SWP_region ?_
                      first | refine pu (v := .int .i64 _) rfl rfl ?_ | refine pu rfl rfl ?_
                      first | refine pw rfl rfl (w64 (by omega) (by omega)) ?_ | refine pu rfl rfl ?_
                      first | refine pu (v := .int .i64 _) rfl rfl ?_ | refine pu rfl rfl ?_
                      refine SL_nil ?_
                      refine nb ?_
                      refine nx ?_
                      refine SWP_region ?_
                      first | refine pw rfl rfl (w64 (by omega) (by omega)) ?_ | refine pu rfl rfl ?_
                      first | refine pu (v := .int .i64 _) rfl rfl ?_ | refine pu rfl rfl ?_
                      refine SL_nil ?_
                      refine nx ?_
                      refine ⟨by repeat (first | exact Under.upds rfl (Under.hav _ _ _) | exact Under.hav _ _ _ | refine Under.upd rfl ?_ | refine Under.upds rfl ?_ | refine Under.hav2 rfl ?_), ?_, ?_⟩
                      · have hlen2 := takeS_len most S x
                        refine ⟨i + 1, low2, lm2, takeS most S x, ?_, by omega, hrep2, hlow2, by omega, take_more hmS hx, rfl, rfl⟩
                        first
                          | (rw [takeS_one (show takeE most S x = 0 by omega)]; rfl)
                          | (rw [takeS_none (show takeE most S x ≠ 0 by omega)]; rfl)
                      · simp only [L_vals, List.map, List.getD]; show l.length - (i + 1) < l.length - i; omega
                    · skip
                      refine SL_nil ?_
                      refine nx ?_
                      refine SWP_cf rfl ?_
                      refine SWP_skip ?_
                      refine nb ?_
                      refine nx ?_
                      refine SWP_region ?_
                      first | refine pw rfl rfl (w64 (by omega) (by omega)) ?_ | refine pu rfl rfl ?_
                      first | refine pu (v := .int .i64 _) rfl rfl ?_ | refine pu rfl rfl ?_
                      refine SL_nil ?_
                      refine nx ?_
                      refine ⟨by repeat (first | exact Under.upds rfl (Under.hav _ _ _) | exact Under.hav _ _ _ | refine Under.upd rfl ?_ | refine Under.upds rfl ?_ | refine Under.hav2 rfl ?_), ?_, ?_⟩
                      · have hlen2 := takeS_len most S x
                        refine ⟨i + 1, low2, lm2, takeS most S x, ?_, by omega, hrep2, hlow2, by omega, take_more hmS hx, rfl, rfl⟩
                        first
                          | (rw [takeS_one (show takeE most S x = 0 by omega)]; rfl)
                          | (rw [takeS_none (show takeE most S x ≠ 0 by omega)]; rfl)
                      · simp only [L_vals, List.map, List.getD]; show l.length - (i + 1) < l.length - i; omega
              · skip
                first | refine pu (v := .bool _) rfl rfl ?_ | refine pu rfl rfl ?_
                refine SL_nil ?_
                refine nx ?_
                refine SWP_cf rfl ?_
                refine SWP_skip ?_
                refine nx ?_
                refine SWP_seq ?_
                refine SWP_seq ?_
                refine SWP_region ?_
                first | refine pu (v := .int .i64 _) rfl rfl ?_ | refine pu rfl rfl ?_
                refine SL_nil ?_
                refine nx ?_
                refine SWP_block ?_
                refine SWP_loop [8, 9, 42, 43, 44, 45, 46, 47, 48, 49, 50, 51, 52, 53, 54, 55, 56, 57, 58, 59] [8, 9]
                    (fun vs σ' m' => ∃ (k : Nat), vs = [.int .i64 (wantE most l x k), .int .i64 (k : Nat)] ∧ k ≤ i ∧ σ' = GuC B M most low lm ∧ m = m')
                    (fun vs => i - nOf (vs.getD 1 undef)) rfl ?_ ?_
                · exact ⟨0, by first | (rw [want_bad (by omega)]; rfl) | (rw [want_0 (by omega)]; rfl), by omega, rfl, rfl⟩
                · intro u1 vs1 σ1 m1 hJ1 _
                  obtain ⟨k, rfl, hk, rfl, rfl⟩ := hJ1
                  refine SWP_seq ?_
                  refine SWP_seq ?_
                  refine SWP_region ?_
                  first | refine pu (v := .int .i64 _) rfl rfl ?_ | refine pu rfl rfl ?_
                  first | refine pu (v := .int .i64 _) rfl rfl ?_ | refine pu rfl rfl ?_
                  refine pc rfl rfl (fun c44 => ?_) (fun c44 => ?_)
                  · skip
                    first | refine pu (v := .bool _) rfl rfl ?_ | refine pu rfl rfl ?_
                    refine SL_yes rfl ?_
                    first | refine pu (v := .int .i64 _) rfl rfl ?_ | refine pu rfl rfl ?_
                    refine SL_yes rfl ?_
                    refine pc rfl rfl (fun c47 => ?_) (fun c47 => ?_)
                    · skip
                      first | refine pu (v := .bool _) rfl rfl ?_ | refine pu rfl rfl ?_
                      refine SL_nil ?_
                      refine nx ?_
                      refine SWP_ct rfl ?_
                      refine SWP_skip ?_
                      refine nx ?_
                      refine SWP_seq ?_
                      refine SWP_block ?_
                      refine SWP_seq ?_
                      obtain ⟨y, hy⟩ : ∃ y, l[k]? = some y := ⟨_, List.getElem?_eq_getElem (by omega)⟩
                      obtain ⟨ad2, cap2, e2, hat2⟩ := RL.at1 intE_len h hy
                      cases e2
                      refine SWP_draws (by kernel_rfl) (by kernel_rfl) ?_
                      first | refine pu (v := .slice _ _ _) rfl rfl ?_ | refine pu rfl rfl ?_
                      first | refine pu (v := .int .i64 _) rfl rfl ?_ | refine pu rfl rfl ?_
                      first | refine ia (es := 1) rfl rfl rfl (Nat.mul_one _) rfl rfl (by omega) rfl ?_ | refine iai (es := 1) rfl rfl rfl (Nat.mul_one _) rfl rfl (by omega) (by omega) rfl ?_
                      refine ldA (v := .int .i64 _) rfl (by assumption) rfl rfl ?_
                      first | refine pu (v := .slice _ _ _) rfl rfl ?_ | refine pu rfl rfl ?_
                      first | refine pu (v := .int .i64 _) rfl rfl ?_ | refine pu rfl rfl ?_
                      first | refine ia (es := 1) rfl rfl rfl (Nat.mul_one _) rfl rfl (by omega) rfl ?_ | refine iai (es := 1) rfl rfl rfl (Nat.mul_one _) rfl rfl (by omega) (by omega) rfl ?_
                      refine ldA (v := .int .i64 _) rfl (by assumption) rfl rfl ?_
                      refine pc rfl rfl (fun c59 => ?_) (fun c59 => ?_)
                      · skip
                        refine SL_nil ?_
                        refine nx ?_
                        refine SWP_ct rfl ?_
                        refine SWP_region ?_
                        first | refine pu (v := .int .i64 _) rfl rfl ?_ | refine pu rfl rfl ?_
                        refine SL_nil ?_
                        refine nb ?_
                        refine nx ?_
                        refine SWP_region ?_
                        first | refine pu (v := .int .i64 _) rfl rfl ?_ | refine pu rfl rfl ?_
                        first | refine pw rfl rfl (w64 (by omega) (by omega)) ?_ | refine pu rfl rfl ?_
                        first | refine pu (v := .int .i64 _) rfl rfl ?_ | refine pu rfl rfl ?_
                        refine SL_nil ?_
                        refine nx ?_
                        refine ⟨by repeat (first | exact Under.upds rfl (Under.hav _ _ _) | exact Under.hav _ _ _ | refine Under.upd rfl ?_ | refine Under.upds rfl ?_ | refine Under.hav2 rfl ?_), ?_, ?_⟩
                        · exact ⟨k + 1, by first | (rw [want_hit c47 hy c59]; rfl) | (rw [want_miss c47 hy c59, ← c47]; rfl), by omega, rfl, rfl⟩
                        · simp only [L_vals, List.map, List.getD]; show i - (k + 1) < i - k; omega
                      · skip
                        refine SL_nil ?_
                        refine nx ?_
                        refine SWP_cf rfl ?_
                        refine SWP_skip ?_
                        refine nb ?_
                        refine nx ?_
                        refine SWP_region ?_
                        first | refine pu (v := .int .i64 _) rfl rfl ?_ | refine pu rfl rfl ?_
                        first | refine pw rfl rfl (w64 (by omega) (by omega)) ?_ | refine pu rfl rfl ?_
                        first | refine pu (v := .int .i64 _) rfl rfl ?_ | refine pu rfl rfl ?_
                        refine SL_nil ?_
                        refine nx ?_
                        refine ⟨by repeat (first | exact Under.upds rfl (Under.hav _ _ _) | exact Under.hav _ _ _ | refine Under.upd rfl ?_ | refine Under.upds rfl ?_ | refine Under.hav2 rfl ?_), ?_, ?_⟩
                        · exact ⟨k + 1, by first | (rw [want_hit c47 hy c59]; rfl) | (rw [want_miss c47 hy c59, ← c47]; rfl), by omega, rfl, rfl⟩
                        · simp only [L_vals, List.map, List.getD]; show i - (k + 1) < i - k; omega
                    · skip
                      first | refine pu (v := .bool _) rfl rfl ?_ | refine pu rfl rfl ?_
                      refine SL_nil ?_
                      refine nx ?_
                      refine SWP_cf rfl ?_
                      refine SWP_exit ?_
                      refine ne ?_
                      refine ne ?_
                      refine be rfl ?_
                      refine nx ?_
                      refine SWP_seq ?_
                      refine SWP_seq ?_
                      have hwi : wantE most l x i = wantE most l x k := by
                        by_cases e : k = i
                        · rw [e]
                        · exact want_more hk (by omega)
                      have hwt := want_take (x := x) hmS
                      rw [hwi] at hwt
                      have hws := seen_take (x := x) hmS
                      rw [hwi] at hws
                      refine SWP_region ?_
                      first | refine pu (v := .pointer _) rfl rfl ?_ | refine pu rfl rfl ?_
                      first | refine pu (v := .slice _ _ _) rfl rfl ?_ | refine pu rfl rfl ?_
                      first | refine pu (v := .int .i64 _) rfl rfl ?_ | refine pu rfl rfl ?_
                      first | refine ia (es := 1) rfl rfl rfl (Nat.mul_one _) rfl rfl (by omega) rfl ?_ | refine iai (es := 1) rfl rfl rfl (Nat.mul_one _) rfl rfl (by omega) (by omega) rfl ?_
                      refine ldA (v := .int .i64 _) rfl (by assumption) rfl rfl ?_
                      refine SL_call rfl rfl cb14 (guTake hrep hlow x) rfl (fun v16_5 σ16_5 m16_5 hl16_5 hR16_5 => ?_)
                      obtain ⟨rfl, hm16_5, low2, lm2, rfl, hrep2, hlow2⟩ := hR16_5
                      have hn16_5 := hm16_5.symm
                      subst hn16_5
                      first | refine pu (v := .int .i64 _) rfl rfl ?_ | refine pu rfl rfl ?_
                      refine pn rfl rfl (fun h => h hwt) ?_
                      first | refine pu (v := .bool _) rfl rfl ?_ | refine pu rfl rfl ?_
                      refine SL_yes rfl ?_
                      first | refine pu (v := .pointer _) rfl rfl ?_ | refine pu rfl rfl ?_
                      refine SL_yes rfl ?_
                      first | refine pu (v := .slice _ _ _) rfl rfl ?_ | refine pu rfl rfl ?_
                      refine SL_yes rfl ?_
                      first | refine pu (v := .int .i64 _) rfl rfl ?_ | refine pu rfl rfl ?_
                      refine SL_yes rfl ?_
                      first | refine ia (es := 1) rfl rfl rfl (Nat.mul_one _) rfl rfl (by omega) rfl ?_ | refine iai (es := 1) rfl rfl rfl (Nat.mul_one _) rfl rfl (by omega) (by omega) rfl ?_
                      refine SL_yes rfl ?_
                      refine ldA (v := .int .i64 _) rfl (by assumption) rfl rfl ?_
                      refine SL_yes rfl ?_
                      refine SL_call rfl rfl cb12 (guSeen hrep2 x) rfl (fun v16_14 σ16_14 m16_14 hl16_14 hR16_14 => ?_)
                      obtain ⟨rfl, rfl, hm16_14⟩ := hR16_14
                      have hn16_14 := hm16_14.symm
                      subst hn16_14
                      refine SL_yes rfl ?_
                      first | refine pu (v := .int .i64 _) rfl rfl ?_ | refine pu rfl rfl ?_
                      refine SL_yes rfl ?_
                      refine pu rfl rfl ?_
                      refine SL_yes rfl ?_
                      refine pn rfl rfl (fun h => h hws) ?_
                      first | refine pu (v := .bool _) rfl rfl ?_ | refine pu rfl rfl ?_
                      refine SL_nil ?_
                      refine nx ?_
                      refine SWP_cf rfl ?_
                      refine SWP_skip ?_
                      refine nx ?_
                      refine SWP_seq ?_
                      refine SWP_region ?_
                      first | refine pu (v := .int .i64 _) rfl rfl ?_ | refine pu rfl rfl ?_
                      refine pc rfl rfl (fun c80 => ?_) (fun c80 => ?_)
                      · skip
                        refine SL_nil ?_
                        refine nx ?_
                        refine SWP_ct rfl ?_
                        refine SWP_region ?_
                        first | refine pu (v := .int .i64 _) rfl rfl ?_ | refine pu rfl rfl ?_
                        first | refine pw rfl rfl (w64 (by omega) (by omega)) ?_ | refine pu rfl rfl ?_
                        first | refine pu (v := .int .i64 _) rfl rfl ?_ | refine pu rfl rfl ?_
                        refine SL_nil ?_
                        refine nb ?_
                        refine nx ?_
                        refine SWP_region ?_
                        first | refine pw rfl rfl (w64 (by omega) (by omega)) ?_ | refine pu rfl rfl ?_
                        first | refine pu (v := .int .i64 _) rfl rfl ?_ | refine pu rfl rfl ?_
                        refine SL_nil ?_
                        refine nx ?_
                        refine ⟨by repeat (first | exact Under.upds rfl (Under.hav _ _ _) | exact Under.hav _ _ _ | refine Under.upd rfl ?_ | refine Under.upds rfl ?_ | refine Under.hav2 rfl ?_), ?_, ?_⟩
                        · have hlen2 := takeS_len most S x
                          refine ⟨i + 1, low2, lm2, takeS most S x, ?_, by omega, hrep2, hlow2, by omega, take_more hmS hx, rfl, rfl⟩
                          first
                            | (rw [takeS_one (show takeE most S x = 0 by omega)]; rfl)
                            | (rw [takeS_none (show takeE most S x ≠ 0 by omega)]; rfl)
                        · simp only [L_vals, List.map, List.getD]; show l.length - (i + 1) < l.length - i; omega
                      · skip
                        refine SL_nil ?_
                        refine nx ?_
                        refine SWP_cf rfl ?_
                        refine SWP_skip ?_
                        refine nb ?_
                        refine nx ?_
                        refine SWP_region ?_
                        first | refine pw rfl rfl (w64 (by omega) (by omega)) ?_ | refine pu rfl rfl ?_
                        first | refine pu (v := .int .i64 _) rfl rfl ?_ | refine pu rfl rfl ?_
                        refine SL_nil ?_
                        refine nx ?_
                        refine ⟨by repeat (first | exact Under.upds rfl (Under.hav _ _ _) | exact Under.hav _ _ _ | refine Under.upd rfl ?_ | refine Under.upds rfl ?_ | refine Under.hav2 rfl ?_), ?_, ?_⟩
                        · have hlen2 := takeS_len most S x
                          refine ⟨i + 1, low2, lm2, takeS most S x, ?_, by omega, hrep2, hlow2, by omega, take_more hmS hx, rfl, rfl⟩
                          first
                            | (rw [takeS_one (show takeE most S x = 0 by omega)]; rfl)
                            | (rw [takeS_none (show takeE most S x ≠ 0 by omega)]; rfl)
                        · simp only [L_vals, List.map, List.getD]; show l.length - (i + 1) < l.length - i; omega
                  · skip
                    first | refine pu (v := .bool _) rfl rfl ?_ | refine pu rfl rfl ?_
                    refine SL_no rfl rfl ?_
                    refine SL_no rfl rfl ?_
                    first | refine pu (v := .bool _) rfl rfl ?_ | refine pu rfl rfl ?_
                    refine SL_nil ?_
                    refine nx ?_
                    refine SWP_cf rfl ?_
                    refine SWP_exit ?_
                    refine ne ?_
                    refine ne ?_
                    refine be rfl ?_
                    refine nx ?_
                    refine SWP_seq ?_
                    refine SWP_seq ?_
                    have hwi : wantE most l x i = wantE most l x k := by
                      by_cases e : k = i
                      · rw [e]
                      · exact want_more hk (by omega)
                    have hwt := want_take (x := x) hmS
                    rw [hwi] at hwt
                    have hws := seen_take (x := x) hmS
                    rw [hwi] at hws
                    refine SWP_region ?_
                    first | refine pu (v := .pointer _) rfl rfl ?_ | refine pu rfl rfl ?_
                    first | refine pu (v := .slice _ _ _) rfl rfl ?_ | refine pu rfl rfl ?_
                    first | refine pu (v := .int .i64 _) rfl rfl ?_ | refine pu rfl rfl ?_
                    first | refine ia (es := 1) rfl rfl rfl (Nat.mul_one _) rfl rfl (by omega) rfl ?_ | refine iai (es := 1) rfl rfl rfl (Nat.mul_one _) rfl rfl (by omega) (by omega) rfl ?_
                    refine ldA (v := .int .i64 _) rfl (by assumption) rfl rfl ?_
                    refine SL_call rfl rfl cb14 (guTake hrep hlow x) rfl (fun v16_5 σ16_5 m16_5 hl16_5 hR16_5 => ?_)
                    obtain ⟨rfl, hm16_5, low2, lm2, rfl, hrep2, hlow2⟩ := hR16_5
                    have hn16_5 := hm16_5.symm
                    subst hn16_5
                    first | refine pu (v := .int .i64 _) rfl rfl ?_ | refine pu rfl rfl ?_
                    refine pn rfl rfl (fun h => h hwt) ?_
                    first | refine pu (v := .bool _) rfl rfl ?_ | refine pu rfl rfl ?_
                    refine SL_yes rfl ?_
                    first | refine pu (v := .pointer _) rfl rfl ?_ | refine pu rfl rfl ?_
                    refine SL_yes rfl ?_
                    first | refine pu (v := .slice _ _ _) rfl rfl ?_ | refine pu rfl rfl ?_
                    refine SL_yes rfl ?_
                    first | refine pu (v := .int .i64 _) rfl rfl ?_ | refine pu rfl rfl ?_
                    refine SL_yes rfl ?_
                    first | refine ia (es := 1) rfl rfl rfl (Nat.mul_one _) rfl rfl (by omega) rfl ?_ | refine iai (es := 1) rfl rfl rfl (Nat.mul_one _) rfl rfl (by omega) (by omega) rfl ?_
                    refine SL_yes rfl ?_
                    refine ldA (v := .int .i64 _) rfl (by assumption) rfl rfl ?_
                    refine SL_yes rfl ?_
                    refine SL_call rfl rfl cb12 (guSeen hrep2 x) rfl (fun v16_14 σ16_14 m16_14 hl16_14 hR16_14 => ?_)
                    obtain ⟨rfl, rfl, hm16_14⟩ := hR16_14
                    have hn16_14 := hm16_14.symm
                    subst hn16_14
                    refine SL_yes rfl ?_
                    first | refine pu (v := .int .i64 _) rfl rfl ?_ | refine pu rfl rfl ?_
                    refine SL_yes rfl ?_
                    refine pu rfl rfl ?_
                    refine SL_yes rfl ?_
                    refine pn rfl rfl (fun h => h hws) ?_
                    first | refine pu (v := .bool _) rfl rfl ?_ | refine pu rfl rfl ?_
                    refine SL_nil ?_
                    refine nx ?_
                    refine SWP_cf rfl ?_
                    refine SWP_skip ?_
                    refine nx ?_
                    refine SWP_seq ?_
                    refine SWP_region ?_
                    first | refine pu (v := .int .i64 _) rfl rfl ?_ | refine pu rfl rfl ?_
                    refine pc rfl rfl (fun c80 => ?_) (fun c80 => ?_)
                    · skip
                      refine SL_nil ?_
                      refine nx ?_
                      refine SWP_ct rfl ?_
                      refine SWP_region ?_
                      first | refine pu (v := .int .i64 _) rfl rfl ?_ | refine pu rfl rfl ?_
                      first | refine pw rfl rfl (w64 (by omega) (by omega)) ?_ | refine pu rfl rfl ?_
                      first | refine pu (v := .int .i64 _) rfl rfl ?_ | refine pu rfl rfl ?_
                      refine SL_nil ?_
                      refine nb ?_
                      refine nx ?_
                      refine SWP_region ?_
                      first | refine pw rfl rfl (w64 (by omega) (by omega)) ?_ | refine pu rfl rfl ?_
                      first | refine pu (v := .int .i64 _) rfl rfl ?_ | refine pu rfl rfl ?_
                      refine SL_nil ?_
                      refine nx ?_
                      refine ⟨by repeat (first | exact Under.upds rfl (Under.hav _ _ _) | exact Under.hav _ _ _ | refine Under.upd rfl ?_ | refine Under.upds rfl ?_ | refine Under.hav2 rfl ?_), ?_, ?_⟩
                      · have hlen2 := takeS_len most S x
                        refine ⟨i + 1, low2, lm2, takeS most S x, ?_, by omega, hrep2, hlow2, by omega, take_more hmS hx, rfl, rfl⟩
                        first
                          | (rw [takeS_one (show takeE most S x = 0 by omega)]; rfl)
                          | (rw [takeS_none (show takeE most S x ≠ 0 by omega)]; rfl)
                      · simp only [L_vals, List.map, List.getD]; show l.length - (i + 1) < l.length - i; omega
                    · skip
                      refine SL_nil ?_
                      refine nx ?_
                      refine SWP_cf rfl ?_
                      refine SWP_skip ?_
                      refine nb ?_
                      refine nx ?_
                      refine SWP_region ?_
                      first | refine pw rfl rfl (w64 (by omega) (by omega)) ?_ | refine pu rfl rfl ?_
                      first | refine pu (v := .int .i64 _) rfl rfl ?_ | refine pu rfl rfl ?_
                      refine SL_nil ?_
                      refine nx ?_
                      refine ⟨by repeat (first | exact Under.upds rfl (Under.hav _ _ _) | exact Under.hav _ _ _ | refine Under.upd rfl ?_ | refine Under.upds rfl ?_ | refine Under.hav2 rfl ?_), ?_, ?_⟩
                      · have hlen2 := takeS_len most S x
                        refine ⟨i + 1, low2, lm2, takeS most S x, ?_, by omega, hrep2, hlow2, by omega, take_more hmS hx, rfl, rfl⟩
                        first
                          | (rw [takeS_one (show takeE most S x = 0 by omega)]; rfl)
                          | (rw [takeS_none (show takeE most S x ≠ 0 by omega)]; rfl)
                      · simp only [L_vals, List.map, List.getD]; show l.length - (i + 1) < l.length - i; omega
          · skip
            refine SL_nil ?_
            refine nx ?_
            refine SWP_seq ?_
            refine SWP_cf rfl ?_
            refine SWP_exit ?_
            refine ne ?_
            refine ne ?_
            refine be rfl ?_
            refine nx ?_
            refine SWP_seq ?_
            refine SWP_region ?_
            first | refine pu (v := .pointer _) rfl rfl ?_ | refine pu rfl rfl ?_
            refine SL_call rfl rfl cb18 (guCount hrep (by omega)) rfl (fun v21_1 σ21_1 m21_1 hl21_1 hR21_1 => ?_)
            obtain ⟨rfl, rfl, hm21_1⟩ := hR21_1
            have hn21_1 := hm21_1.symm
            subst hn21_1
            first | refine pu (v := .int .i64 _) rfl rfl ?_ | refine pu rfl rfl ?_
            refine pt rfl rfl (rfl) ?_
            first | refine pu (v := .bool _) rfl rfl ?_ | refine pu rfl rfl ?_
            refine SL_yes rfl ?_
            refine SL_pcall rfl rfl cb11 (awakeOk) rfl ?_
            first | refine pu (v := .bool _) rfl rfl ?_ | refine pu rfl rfl ?_
            first | refine pu (v := .bool _) rfl rfl ?_ | refine pu rfl rfl ?_
            refine SL_nil ?_
            refine nx ?_
            refine SWP_ret ?_
            refine fin [_] ⟨rfl, trivial⟩ ?_
            rfl

end Go.Proofs.Ythejjlakmkdkeaa

