/- lotterylaw48.LedgerOrders and LedgerReverses. -/
import Derived.Test.YtadnflbohflckaaLedM
namespace Go.Proofs.Ytadnflbohflckaa
open Eng

theorem back_snoc {l : List Posting} {i : Nat} {p : Posting} (h : l[i]? = some p) : (l.drop i).reverse = (l.drop (i + 1)).reverse ++ [p] := by
  have hk := List.getElem?_eq_some_iff.1 h
  rw [List.drop_eq_getElem_cons hk.1, hk.2, List.reverse_cons]

theorem lawLedgerOrders {m : Mem} {v : Value} {l : List Posting} (h : RL m Posting.enc 3 v l) :
    CallsS Try.prog 9 [v].toArray [] m fun r _ _ => r = .bool true := by
  obtain ⟨a, cap, rfl⟩ := h.len
  refine enter Try.func9 Try.ntmps9 rfl rfl ?_
  refine SWP_seq ?_
  refine SWP_region ?_
  first | refine pu (v := .bool _) rfl rfl ?_ | refine pu rfl rfl ?_
  refine SL_nil ?_
  refine nx ?_
  refine SWP_seq ?_
  refine SWP_seq ?_
  refine SWP_region ?_
  first | refine pu (v := .slice _ _ _) rfl rfl ?_ | refine pu rfl rfl ?_
  refine pu rfl rfl ?_
  refine pc rfl rfl (fun c11 => ?_) (fun c11 => ?_)
  · skip
    refine SL_nil ?_
    refine nx ?_
    refine SWP_ct rfl ?_
    refine SWP_seq ?_
    refine SWP_region ?_
    refine SL_pcall rfl rfl cb10 (livesOk) rfl ?_
    first | refine pu (v := .bool _) rfl rfl ?_ | refine pu rfl rfl ?_
    refine SL_nil ?_
    refine nx ?_
    refine SWP_ret ?_
    refine nr ?_
    refine fin [_] ⟨rfl, trivial⟩ ?_
    rfl
  · skip
    refine SL_nil ?_
    refine nx ?_
    refine SWP_cf rfl ?_
    refine SWP_skip ?_
    refine nx ?_
    refine SWP_seq ?_
    refine SWP_region ?_
    first | refine pu (v := .slice _ _ _) rfl rfl ?_ | refine pu rfl rfl ?_
    refine SL_nil ?_
    refine nx ?_
    refine SWP_seq ?_
    refine SWP_seq ?_
    refine SWP_region ?_
    first | refine pu (v := .slice _ _ _) rfl rfl ?_ | refine pu rfl rfl ?_
    refine pu rfl rfl ?_
    first | refine pw rfl rfl (w64 (by omega) (by omega)) ?_ | refine pu rfl rfl ?_
    first | refine pu (v := .int .i64 _) rfl rfl ?_ | refine pu rfl rfl ?_
    refine SL_nil ?_
    refine nx ?_
    refine SWP_block ?_
    refine SWP_loop [3, 4, 16, 17, 18, 19, 20, 21, 22, 23, 24, 25, 26] [3, 4]
        (fun vs σ' m' => ∃ (i : Nat) (w : Value) (σe : Sig), vs = [w, .int .i64 ((i : Int) - 1)] ∧ i ≤ l.length ∧ OwnS 31 3 w ((l.drop i).reverse.flatMap Posting.enc) σe ∧ σ' = σe ∧ m = m')
        (fun vs => match vs.getD 1 undef with | .int _ x => (x + 1).toNat | _ => 0) rfl ?_ ?_
    · exact ⟨l.length, _, [], rfl, by omega, by rw [List.drop_length]; exact .nil, rfl, rfl⟩
    · intro u0 vs0 σ0 m0 hJ0 _
      obtain ⟨i, w, σe, rfl, hi, hown, rfl, rfl⟩ := hJ0
      refine SWP_seq ?_
      refine SWP_seq ?_
      refine SWP_region ?_
      first | refine pu (v := .int .i64 _) rfl rfl ?_ | refine pu rfl rfl ?_
      refine pc rfl rfl (fun c17 => ?_) (fun c17 => ?_)
      · skip
        refine SL_nil ?_
        refine nx ?_
        refine SWP_ct rfl ?_
        refine SWP_skip ?_
        refine nx ?_
        refine SWP_seq ?_
        refine SWP_block ?_
        obtain ⟨i, rfl⟩ : ∃ j, i = j + 1 := ⟨i - 1, by omega⟩
        obtain ⟨p, hp⟩ : ∃ p, l[i]? = some p := ⟨_, List.getElem?_eq_getElem (by omega)⟩
        obtain ⟨ad, cap', e1, hat⟩ := RL.at_ Posting.enc_len h hp
        cases e1
        rw [show ((((i + 1 : Nat) : Int)) - 1) = (i : Nat) by omega]
        refine SWP_region ?_
        first | refine pu (v := .slice _ _ _) rfl rfl ?_ | refine pu rfl rfl ?_
        first | refine pu (v := .slice _ _ _) rfl rfl ?_ | refine pu rfl rfl ?_
        first | refine pu (v := .int .i64 _) rfl rfl ?_ | refine pu rfl rfl ?_
        first | refine ia (es := 3) rfl rfl rfl rfl rfl rfl (by omega) rfl ?_ | refine iai (es := 3) rfl rfl rfl rfl rfl rfl (by omega) (by omega) rfl ?_
        refine ldA (v := .agg _) rfl (by assumption) rfl rfl ?_
        refine bs rfl rfl rfl rfl rfl (fun B25 => ?_)
        refine ap (e := 31) (size := 3) (bytes := 40) rfl rfl rfl rfl rfl rfl rfl hown (List.perm_append_comm (l₁ := [_])) rfl (Rd.of_cells (.head _)) rfl rfl (by rw [flatMap_len Posting.enc_len, List.length_reverse, List.length_drop]; omega) rfl rfl (fun w26 σ26 hown26 => ?_)
        refine SL_weak (List.sublist_append_left _ _) ?_
        first | refine pu (v := .slice _ _ _) rfl rfl ?_ | refine pu rfl rfl ?_
        refine SL_nil ?_
        refine nb ?_
        refine nx ?_
        refine SWP_region ?_
        first | refine pu (v := .int .i64 _) rfl rfl ?_ | refine pu rfl rfl ?_
        first | refine pw rfl rfl (w64 (by omega) (by omega)) ?_ | refine pu rfl rfl ?_
        first | refine pu (v := .int .i64 _) rfl rfl ?_ | refine pu rfl rfl ?_
        refine SL_nil ?_
        refine nx ?_
        refine ⟨by repeat (first | exact Under.upds rfl (Under.hav _ _ _) | exact Under.hav _ _ _ | refine Under.upd rfl ?_), ?_, ?_⟩
        · exact ⟨i, w26, σ26, rfl, by omega, by rw [back_snoc hp, List.flatMap_append]; exact hown26, rfl, rfl⟩
        · simp only [L_vals, List.map, List.getD]; first | (show (((i : Int) - 1) + 1).toNat < ((i : Int) + 1).toNat; omega) | (show (((i : Int) - 1) + 1).toNat < ((((i + 1 : Nat) : Int) - 1) + 1).toNat; omega)
      · skip
        refine SL_nil ?_
        refine nx ?_
        refine SWP_cf rfl ?_
        refine SWP_exit ?_
        refine ne ?_
        refine ne ?_
        refine be rfl ?_
        refine nx ?_
        refine SWP_seq ?_
        have e0 : i = 0 := by omega
        subst e0
        rw [← List.append_nil σ0]
        refine SWP_region ?_
        refine SL_freezeL (by omega) Posting.enc_len hown (fun m8 hl8 hrl => ?_)
        first | refine pu (v := .slice _ _ _) rfl rfl ?_ | refine pu rfl rfl ?_
        refine SL_call rfl rfl cb22 (ledReplay (h.mono hl8) (by omega)) rfl (fun v8_1 σ8_1 m8_1 hl8_1 hR8_1 => ?_)
        obtain ⟨rfl, w1, e, la, rfl, hrep, hfew, hw⟩ := hR8_1
        refine pu rfl rfl ?_
        first | refine pu (v := .slice _ _ _) rfl rfl ?_ | refine pu rfl rfl ?_
        first | refine pu (v := .int .i64 _) rfl rfl ?_ | refine pu rfl rfl ?_
        first | refine pu (v := .slice _ _ _) rfl rfl ?_ | refine pu rfl rfl ?_
        first | refine pu (v := .int .i64 _) rfl rfl ?_ | refine pu rfl rfl ?_
        refine SL_nil ?_
        refine nx ?_
        refine SWP_seq ?_
        refine SWP_region ?_
        first | refine pu (v := .slice _ _ _) rfl rfl ?_ | refine pu rfl rfl ?_
        refine SL_call rfl rfl cb22 (ledReplay (l := l.reverse) (by have := hrl.mono hl8_1; rwa [List.drop_zero] at this) (by rw [List.length_reverse]; omega)) rfl (fun v9_1 σ9_1 m9_1 hl9_1 hR9_1 => ?_)
        obtain ⟨rfl, w2, e2, la2, rfl, hrep2, hfew2, hw2⟩ := hR9_1
        refine pu rfl rfl ?_
        first | refine pu (v := .slice _ _ _) rfl rfl ?_ | refine pu rfl rfl ?_
        first | refine pu (v := .int .i64 _) rfl rfl ?_ | refine pu rfl rfl ?_
        first | refine pu (v := .slice _ _ _) rfl rfl ?_ | refine pu rfl rfl ?_
        first | refine pu (v := .int .i64 _) rfl rfl ?_ | refine pu rfl rfl ?_
        refine SL_nil ?_
        refine nx ?_
        refine SWP_seq ?_
        have hrv := replay_rev (l := l) (by omega)
        rw [hrep, hrep2] at hrv
        dsimp only at hrv
        have hdec : decide (e = 0) = decide (e2 = 0) := decide_eq_decide.2 hrv.1
        obtain ⟨LA, hC, hA, hB⟩ : ∃ LA : Acc, LA.length ≤ 1000 ∧ RL m9_1 balE 2 w1 LA ∧ RL m9_1 balE 2 w2 LA := by
          by_cases he : e = 0
          · have he2 := hrv.1.1 he
            rw [if_pos he] at hw
            rw [if_pos he2] at hw2
            obtain ⟨ks, hks, hw⟩ := hw
            obtain ⟨ks2, hks2, hw2⟩ := hw2
            rw [← nz_eq (hrv.2 he) hks hks2 hfew.keys hfew2.keys] at hw2
            refine ⟨_, ?_, hw.mono hl9_1, hw2⟩
            have h1 := nz_len la (sortK ks)
            have h2 := (sortK_perm ks).length_eq
            have h3 := hks.length_eq
            rw [List.length_map] at h3
            have h4 := hfew.len
            omega
          · have he2 := fun h' => he (hrv.1.2 h')
            rw [if_neg he] at hw
            rw [if_neg he2] at hw2
            subst hw
            subst hw2
            exact ⟨[], by simp, RL.nil _ _, RL.nil _ _⟩
        refine SWP_region ?_
        first | refine pu (v := .int .i64 _) rfl rfl ?_ | refine pu rfl rfl ?_
        refine pu rfl rfl ?_
        first | refine pu (v := .int .i64 _) rfl rfl ?_ | refine pu rfl rfl ?_
        refine pu rfl rfl ?_
        refine pt rfl rfl (hdec) ?_
        first | refine pu (v := .bool _) rfl rfl ?_ | refine pu rfl rfl ?_
        refine SL_yes rfl ?_
        first | refine pu (v := .slice _ _ _) rfl rfl ?_ | refine pu rfl rfl ?_
        refine SL_yes rfl ?_
        first | refine pu (v := .slice _ _ _) rfl rfl ?_ | refine pu rfl rfl ?_
        refine SL_yes rfl ?_
        refine SL_pcall rfl rfl cb18 (sameOk hA hB hC) rfl ?_
        first | refine pu (v := .bool _) rfl rfl ?_ | refine pu rfl rfl ?_
        first | refine pu (v := .bool _) rfl rfl ?_ | refine pu rfl rfl ?_
        refine SL_yes rfl ?_
        refine SL_pcall rfl rfl cb10 (livesOk) rfl ?_
        first | refine pu (v := .bool _) rfl rfl ?_ | refine pu rfl rfl ?_
        first | refine pu (v := .bool _) rfl rfl ?_ | refine pu rfl rfl ?_
        refine SL_nil ?_
        refine nx ?_
        refine SWP_ret ?_
        refine fin [_] ⟨rfl, trivial⟩ ?_
        rfl

theorem nz_len1 {la : Acc} {n : Nat} {ks : List ByteArray} (h : Few la n) (hn : n ≤ 400) (hk : ks.Perm (la.map (·.1))) : (nz la (sortK ks)).length ≤ 1000 := by
  have h1 := nz_len la (sortK ks)
  have h2 := (sortK_perm ks).length_eq
  have h3 := hk.length_eq
  rw [List.length_map] at h3
  have h4 := h.len
  omega

theorem lawLedgerReverses {m : Mem} {v : Value} {l : List Posting} (h : RL m Posting.enc 3 v l) (p : Posting) :
    CallsS Try.prog 5 [v, p.val].toArray [] m fun r _ _ => r = .bool true := by
  obtain ⟨a, cap, rfl⟩ := h.len
  obtain ⟨ps, pd, pa⟩ := p
  dsimp only [Posting.val]
  refine enter Try.func5 Try.ntmps5 rfl rfl ?_
  refine SWP_seq ?_
  refine SWP_region ?_
  refine bx (v := .agg _) rfl rfl (fun B3 => ?_)
  first | refine pu (v := .bool _) rfl rfl ?_ | refine pu rfl rfl ?_
  refine SL_nil ?_
  refine nx ?_
  refine SWP_seq ?_
  refine SWP_seq ?_
  refine SWP_region ?_
  first | refine pu (v := .slice _ _ _) rfl rfl ?_ | refine pu rfl rfl ?_
  refine pu rfl rfl ?_
  refine pc rfl rfl (fun c10 => ?_) (fun c10 => ?_)
  · skip
    refine SL_nil ?_
    refine nx ?_
    refine SWP_ct rfl ?_
    refine SWP_seq ?_
    refine SWP_region ?_
    refine SL_pcall rfl rfl cb10 (livesOk) rfl ?_
    first | refine pu (v := .bool _) rfl rfl ?_ | refine pu rfl rfl ?_
    refine SL_nil ?_
    refine nx ?_
    refine SWP_ret ?_
    refine nr ?_
    refine fin [_] ⟨rfl, trivial⟩ ?_
    rfl
  · skip
    refine SL_nil ?_
    refine nx ?_
    refine SWP_cf rfl ?_
    refine SWP_skip ?_
    refine nx ?_
    refine SWP_seq ?_
    refine SWP_region ?_
    refine SL_call rfl rfl cb11 (CallsS.frame0 ledNew) rfl (fun v3_0 σ3_0 m3_0 hl3_0 hR3_0 => ?_)
    obtain ⟨σ₁, rfl, B, M, rfl, rfl, hm3_0⟩ := hR3_0
    have hn3_0 := hm3_0.symm
    subst hn3_0
    first | refine pu (v := .pointer _) rfl rfl ?_ | refine pu rfl rfl ?_
    refine SL_nil ?_
    refine nx ?_
    refine SWP_seq ?_
    refine SWP_seq ?_
    refine SWP_region ?_
    first | refine pu (v := .int .i64 _) rfl rfl ?_ | refine pu rfl rfl ?_
    refine SL_nil ?_
    refine nx ?_
    refine SWP_block ?_
    refine SWP_loop [6, 13, 14, 15, 16, 17, 18, 19, 20, 21, 22, 23, 24] [6]
        (fun vs σ' m' => ∃ (i : Nat) (la : Acc) (t : Int), vs = [.int .i64 (i : Nat)] ∧ i ≤ l.length ∧ Inv la t i ∧ σ' = LedC B M la t ++ [(B3, Cells 31 [.string ps, .string pd, .int .i64 pa])] ∧ m = m')
        (fun vs => l.length - nOf (vs.getD 0 undef)) rfl ?_ ?_
    · exact ⟨0, [], 0, rfl, by omega, Inv.new, rfl, rfl⟩
    · intro u0 vs0 σ0 m0 hJ0 _
      obtain ⟨i, la, t, rfl, hi, hinv, rfl, rfl⟩ := hJ0
      refine SWP_seq ?_
      refine SWP_seq ?_
      refine SWP_region ?_
      first | refine pu (v := .int .i64 _) rfl rfl ?_ | refine pu rfl rfl ?_
      first | refine pu (v := .slice _ _ _) rfl rfl ?_ | refine pu rfl rfl ?_
      refine pu rfl rfl ?_
      refine pc rfl rfl (fun c16 => ?_) (fun c16 => ?_)
      · skip
        refine SL_nil ?_
        refine nx ?_
        refine SWP_ct rfl ?_
        refine SWP_skip ?_
        refine nx ?_
        refine SWP_seq ?_
        refine SWP_block ?_
        obtain ⟨q, hq⟩ : ∃ q, l[i]? = some q := ⟨_, List.getElem?_eq_getElem (by omega)⟩
        obtain ⟨ad, cap', e1, hat⟩ := RL.at_ Posting.enc_len h hq
        cases e1
        refine SWP_region ?_
        first | refine pu (v := .pointer _) rfl rfl ?_ | refine pu rfl rfl ?_
        first | refine pu (v := .slice _ _ _) rfl rfl ?_ | refine pu rfl rfl ?_
        first | refine pu (v := .int .i64 _) rfl rfl ?_ | refine pu rfl rfl ?_
        first | refine ia (es := 3) rfl rfl rfl rfl rfl rfl (by omega) rfl ?_ | refine iai (es := 3) rfl rfl rfl rfl rfl rfl (by omega) (by omega) rfl ?_
        refine ldA (v := .agg _) rfl (by assumption) rfl rfl ?_
        refine SL_call rfl rfl cb13 (CallsS.subF [_] (ledPost q) (.refl _)) rfl (fun v7_5 σ7_5 m7_5 hl7_5 hR7_5 => ?_)
        obtain ⟨σ₁, rfl, rfl, rfl, rfl⟩ := hR7_5
        rw [step_sig]
        refine SL_nil ?_
        refine nb ?_
        refine nx ?_
        refine SWP_region ?_
        first | refine pu (v := .int .i64 _) rfl rfl ?_ | refine pu rfl rfl ?_
        first | refine pw rfl rfl (w64 (by omega) (by omega)) ?_ | refine pu rfl rfl ?_
        first | refine pu (v := .int .i64 _) rfl rfl ?_ | refine pu rfl rfl ?_
        refine SL_nil ?_
        refine nx ?_
        refine ⟨by repeat (first | exact Under.upds rfl (Under.hav _ _ _) | exact Under.hav _ _ _ | refine Under.upd rfl ?_), ?_, ?_⟩
        · exact ⟨i + 1, _, _, rfl, by omega, hinv.step (by omega) q, rfl, rfl⟩
        · simp only [L_vals, List.map, List.getD]; show l.length - (i + 1) < l.length - i; omega
      · skip
        refine SL_nil ?_
        refine nx ?_
        refine SWP_cf rfl ?_
        refine SWP_exit ?_
        refine ne ?_
        refine ne ?_
        refine be rfl ?_
        refine nx ?_
        refine SWP_seq ?_
        have e0 : i = l.length := by omega
        subst e0
        have hl := hinv.len
        refine SWP_region ?_
        first | refine pu (v := .pointer _) rfl rfl ?_ | refine pu rfl rfl ?_
        refine SL_call rfl rfl cb17 (CallsS.subF [_] (ledAll (la := la) (by omega)) (.refl _)) rfl (fun v8_1 σ8_1 m8_1 hl8_1 hR8_1 => ?_)
        obtain ⟨σ₁, rfl, rfl, ks, hks, hall1⟩ := hR8_1
        have hC := nz_len1 hinv.toFew (by omega) hks
        first | refine pu (v := .slice _ _ _) rfl rfl ?_ | refine pu rfl rfl ?_
        refine SL_nil ?_
        refine nx ?_
        refine SWP_seq ?_
        refine SWP_seq ?_
        refine SWP_region ?_
        first | refine pu (v := .pointer _) rfl rfl ?_ | refine pu rfl rfl ?_
        refine ld (v := .agg _) (off := 0) (Rd.of_cells (.tail _ (.tail _ (.head _)))) rfl rfl rfl rfl ?_
        refine SL_call rfl rfl cb13 (CallsS.subF [_] (ledPost ⟨ps, pd, pa⟩) (.refl _)) rfl (fun v9_2 σ9_2 m9_2 hl9_2 hR9_2 => ?_)
        obtain ⟨σ₁, rfl, rfl, hm9_2, rfl⟩ := hR9_2
        have hn9_2 := hm9_2.symm
        subst hn9_2
        rw [step_sig]
        refine pc rfl rfl (fun c30 => ?_) (fun c30 => ?_)
        · skip
          refine SL_nil ?_
          refine nx ?_
          refine SWP_ct rfl ?_
          refine SWP_seq ?_
          have e9 : ¬ postErr la t ⟨ps, pd, pa⟩ = 0 := c30
          have es1 : stepAcc la t ⟨ps, pd, pa⟩ = la := if_neg e9
          have es2 : stepT la t ⟨ps, pd, pa⟩ = t := if_neg e9
          rw [es1, es2]
          refine SWP_region ?_
          first | refine pu (v := .pointer _) rfl rfl ?_ | refine pu rfl rfl ?_
          refine SL_call rfl rfl cb17 (CallsS.subF [_] (ledAll (la := la) (by omega)) (.refl _)) rfl (fun v10_1 σ10_1 m10_1 hl10_1 hR10_1 => ?_)
          obtain ⟨σ₁, rfl, rfl, ks2, hks2, hall2⟩ := hR10_1
          rw [nz_eq (fun _ => rfl) hks2 hks hinv.keys hinv.keys] at hall2
          first | refine pu (v := .slice _ _ _) rfl rfl ?_ | refine pu rfl rfl ?_
          refine SL_pcall rfl rfl cb18 (sameOk hall2 (hall1.mono hl10_1) hC) rfl ?_
          first | refine pu (v := .bool _) rfl rfl ?_ | refine pu rfl rfl ?_
          refine SL_yes rfl ?_
          refine SL_pcall rfl rfl cb10 (livesOk) rfl ?_
          first | refine pu (v := .bool _) rfl rfl ?_ | refine pu rfl rfl ?_
          first | refine pu (v := .bool _) rfl rfl ?_ | refine pu rfl rfl ?_
          refine SL_nil ?_
          refine nx ?_
          refine SWP_ret ?_
          refine nr ?_
          refine fin [_] ⟨rfl, trivial⟩ ?_
          rfl
        · skip
          refine SL_nil ?_
          refine nx ?_
          refine SWP_cf rfl ?_
          refine SWP_skip ?_
          refine nx ?_
          refine SWP_seq ?_
          refine SWP_seq ?_
          have e9 : postErr la t ⟨ps, pd, pa⟩ = 0 := by omega
          refine SWP_region ?_
          first | refine pu (v := .pointer _) rfl rfl ?_ | refine pu rfl rfl ?_
          refine pu rfl rfl ?_
          first | refine ld (v := .string _) (off := 1) (Rd.of_cells (.head _)) rfl rfl rfl rfl ?_ | refine ld (v := .string _) (off := 1) (Rd.of_cells (.tail _ (.head _))) rfl rfl rfl rfl ?_ | refine ld (v := .string _) (off := 1) (Rd.of_cells (.tail _ (.tail _ (.head _)))) rfl rfl rfl rfl ?_ | refine ld (v := .string _) (off := 1) (Rd.of_cells (.tail _ (.tail _ (.tail _ (.head _))))) rfl rfl rfl rfl ?_ | refine ld (v := .string _) (off := 1) (Rd.of_cells (.tail _ (.tail _ (.tail _ (.tail _ (.head _)))))) rfl rfl rfl rfl ?_ | refine ld (v := .string _) (off := 1) (Rd.of_cells (.tail _ (.tail _ (.tail _ (.tail _ (.tail _ (.head _))))))) rfl rfl rfl rfl ?_ | refine ld (v := .string _) (off := 1) (Rd.of_cells (.tail _ (.tail _ (.tail _ (.tail _ (.tail _ (.tail _ (.head _)))))))) rfl rfl rfl rfl ?_
          refine pu rfl rfl ?_
          first | refine ld (v := .string _) (off := 0) (Rd.of_cells (.head _)) rfl rfl rfl rfl ?_ | refine ld (v := .string _) (off := 0) (Rd.of_cells (.tail _ (.head _))) rfl rfl rfl rfl ?_ | refine ld (v := .string _) (off := 0) (Rd.of_cells (.tail _ (.tail _ (.head _)))) rfl rfl rfl rfl ?_ | refine ld (v := .string _) (off := 0) (Rd.of_cells (.tail _ (.tail _ (.tail _ (.head _))))) rfl rfl rfl rfl ?_ | refine ld (v := .string _) (off := 0) (Rd.of_cells (.tail _ (.tail _ (.tail _ (.tail _ (.head _)))))) rfl rfl rfl rfl ?_ | refine ld (v := .string _) (off := 0) (Rd.of_cells (.tail _ (.tail _ (.tail _ (.tail _ (.tail _ (.head _))))))) rfl rfl rfl rfl ?_ | refine ld (v := .string _) (off := 0) (Rd.of_cells (.tail _ (.tail _ (.tail _ (.tail _ (.tail _ (.tail _ (.head _)))))))) rfl rfl rfl rfl ?_
          refine pu rfl rfl ?_
          first | refine ld (v := .int .i64 _) (off := 2) (Rd.of_cells (.head _)) rfl rfl rfl rfl ?_ | refine ld (v := .int .i64 _) (off := 2) (Rd.of_cells (.tail _ (.head _))) rfl rfl rfl rfl ?_ | refine ld (v := .int .i64 _) (off := 2) (Rd.of_cells (.tail _ (.tail _ (.head _)))) rfl rfl rfl rfl ?_ | refine ld (v := .int .i64 _) (off := 2) (Rd.of_cells (.tail _ (.tail _ (.tail _ (.head _))))) rfl rfl rfl rfl ?_ | refine ld (v := .int .i64 _) (off := 2) (Rd.of_cells (.tail _ (.tail _ (.tail _ (.tail _ (.head _)))))) rfl rfl rfl rfl ?_ | refine ld (v := .int .i64 _) (off := 2) (Rd.of_cells (.tail _ (.tail _ (.tail _ (.tail _ (.tail _ (.head _))))))) rfl rfl rfl rfl ?_ | refine ld (v := .int .i64 _) (off := 2) (Rd.of_cells (.tail _ (.tail _ (.tail _ (.tail _ (.tail _ (.tail _ (.head _)))))))) rfl rfl rfl rfl ?_
          first | refine pu (v := .agg _) rfl rfl ?_ | refine pu rfl rfl ?_
          refine SL_call rfl rfl cb13 (CallsS.subF [_] (ledPost (Posting.rev ⟨ps, pd, pa⟩)) (.refl _)) rfl (fun v11_8 σ11_8 m11_8 hl11_8 hR11_8 => ?_)
          obtain ⟨σ₁, rfl, rfl, hm11_8, rfl⟩ := hR11_8
          have hn11_8 := hm11_8.symm
          subst hn11_8
          rw [step_sig, rev_err hinv (by omega) e9]
          have hi2 := (hinv.step (by omega) ⟨ps, pd, pa⟩).step (by omega) (Posting.rev ⟨ps, pd, pa⟩)
          have hl2 := hi2.len
          refine pn rfl rfl (fun h => h rfl) ?_
          refine SL_nil ?_
          refine nx ?_
          refine SWP_cf rfl ?_
          refine SWP_skip ?_
          refine nx ?_
          refine SWP_seq ?_
          refine SWP_region ?_
          first | refine pu (v := .pointer _) rfl rfl ?_ | refine pu rfl rfl ?_
          refine SL_call rfl rfl cb17 (CallsS.subF [_] (ledAll (by omega)) (.refl _)) rfl (fun v13_1 σ13_1 m13_1 hl13_1 hR13_1 => ?_)
          obtain ⟨σ₁, rfl, rfl, ks2, hks2, hall2⟩ := hR13_1
          rw [nz_eq (rev_bal hinv (by omega) e9) hks2 hks hi2.keys hinv.keys] at hall2
          first | refine pu (v := .slice _ _ _) rfl rfl ?_ | refine pu rfl rfl ?_
          refine SL_pcall rfl rfl cb18 (sameOk hall2 (hall1.mono hl13_1) hC) rfl ?_
          first | refine pu (v := .bool _) rfl rfl ?_ | refine pu rfl rfl ?_
          refine SL_yes rfl ?_
          refine SL_pcall rfl rfl cb10 (livesOk) rfl ?_
          first | refine pu (v := .bool _) rfl rfl ?_ | refine pu rfl rfl ?_
          first | refine pu (v := .bool _) rfl rfl ?_ | refine pu rfl rfl ?_
          refine SL_nil ?_
          refine nx ?_
          refine SWP_ret ?_
          refine fin [_] ⟨rfl, trivial⟩ ?_
          rfl

end Go.Proofs.Ytadnflbohflckaa

