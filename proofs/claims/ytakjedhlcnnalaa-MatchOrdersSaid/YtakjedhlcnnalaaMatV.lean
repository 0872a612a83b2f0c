/- matrix.Canon; lotterylaw32: MatchOrders, MatchResults. -/
import Derived.Test.YtakjedhlcnnalaaMatU
namespace Go.Proofs.Ytakjedhlcnnalaa
open Eng

theorem canonF {m : Mem} {v : Value} {l : List Int} (h : RL m intE 1 v l) (hl : l.length ≤ 100000) : CallsS Try.prog 30 [v].toArray [] m fun r σ' m' => σ' = [] ∧ RL m' intE 1 r (l.mergeSort leI) := by
  refine CallsS.ghost (R' := fun r σ' m' => OwnS 3 1 r ((l.mergeSort leI).flatMap intE) σ') ?_ ?h2
  case h2 =>
    intro r σ' m' hR g W hC
    obtain ⟨m2, h1, h2, h3⟩ := hR.freezeL (τ := []) (by omega) intE_len (by simpa using hC)
    exact ⟨[], m2, h2, h1, rfl, h3⟩
  refine enter Try.func30 Try.ntmps30 rfl rfl ?_
  refine SWP_seq ?_
  refine SWP_region ?_
  refine pL rfl rfl ?_
  refine SL_nil ?_
  refine nx ?_
  refine SWP_seq ?_
  refine SWP_region ?_
  first | refine pL rfl rfl ?_ | refine pu rfl rfl ?_
  refine apR (e := 3) (size := 1) (bytes := 8) rfl rfl rfl rfl rfl rfl rfl .nil (.refl _) rfl h (all_intE l) (by simp; omega) rfl rfl (fun v5 σ5 hown5 => ?_)
  rw [List.nil_append] at hown5
  first | refine pL rfl rfl ?_ | refine pu rfl rfl ?_
  refine SL_nil ?_
  refine nx ?_
  refine SWP_seq ?_
  refine SWP_region ?_
  first | refine pL rfl rfl ?_ | refine pu rfl rfl ?_
  refine SL_call rfl rfl cb20 (sortI hown5 (by omega)) rfl (fun v2_1 σ2_1 m2_1 hl2_1 hR2_1 => ?_)
  obtain ⟨hm2_1, σs, rfl, howns⟩ := hR2_1
  have hn2_1 := hm2_1.symm
  subst hn2_1
  refine SL_nil ?_
  refine nx ?_
  refine SWP_seq ?_
  refine SWP_region ?_
  first | refine pL rfl rfl ?_ | refine pu rfl rfl ?_
  first | refine pL rfl rfl ?_ | refine pu rfl rfl ?_
  refine SL_nil ?_
  refine nx ?_
  refine SWP_ret ?_
  refine fin [_] ⟨rfl, trivial⟩ ?_
  rw [List.append_nil]
  exact howns

set_option maxRecDepth 100000 in
theorem canonI {m : Mem} {l : Line} (h : l.In m) (h1 : l.main.length ≤ 100000) (h2 : l.bonus.length ≤ 100000) : CallsS Try.prog 18 [l.val].toArray [] m fun r σ' m' => σ' = [] ∧ ∃ c : Line, r = c.val ∧ c.In m' ∧ c.main = l.main.mergeSort leI ∧ c.bonus = l.bonus.mergeSort leI := by
  refine CallsS.ghost (R' := fun r σ' m' => ∃ c : Line, r = c.val ∧ c.In m' ∧ c.main = l.main.mergeSort leI ∧ c.bonus = l.bonus.mergeSort leI) ?_ ?h2
  case h2 =>
    rintro r σ' m' hr g0 W hC
    exact ⟨_, m', hC.sublist (List.nil_sublist _), Le.refl _, rfl, hr⟩
  dsimp only [Line.val]
  refine enter Try.func18 Try.ntmps18 rfl rfl ?_
  refine SWP_seq ?_
  refine SWP_region ?_
  refine bx (v := .agg _) rfl rfl (fun B1 => ?_)
  refine al rfl rfl (fun B2 => ?_)
  refine SL_nil ?_
  refine nx ?_
  refine SWP_seq ?_
  refine SWP_region ?_
  refine pu rfl rfl ?_
  refine SL_nil ?_
  refine nx ?_
  refine SWP_seq ?_
  refine SWP_drawn [(B1, Cells 29 l.enc)] [0, 1, 2, 4, 5, 6, 3, 7, 8, 9] (by kernel_rfl) (by kernel_rfl) (Sub.cons _ (Sub.refl _)) ?_
  refine pu rfl rfl ?_
  refine pu rfl rfl ?_
  refine lw (v := .slice _ _ _) B1 0 rfl rfl rfl rfl ?_
  refine pu rfl rfl ?_
  refine pu rfl rfl ?_
  refine lw (v := .slice _ _ _) B1 1 rfl rfl rfl rfl ?_
  refine SL_call rfl rfl cb30 (CallsS.frame0 (canonF h.mn h1)) rfl (fun v2_3 σ2_3 m2_3 hl2_3 hR2_3 => ?_)
  obtain ⟨σa, rfl, rfl, hra⟩ := hR2_3
  obtain ⟨aa, ac, rfl⟩ := hra.len
  refine SL_call rfl rfl cb30 (CallsS.frame0 (canonF (h.bn.mono hl2_3) h2)) rfl (fun v2_7 σ2_7 m2_7 hl2_7 hR2_7 => ?_)
  obtain ⟨σb, rfl, rfl, hrb⟩ := hR2_7
  obtain ⟨ba, bc, rfl⟩ := hrb.len
  refine pA rfl rfl ?_
  refine sw (v := .agg _) B2 0 rfl rfl rfl rfl rfl rfl rfl ?_
  refine SL_nil ?_
  refine nx ?_
  refine SWP_ret ?_
  refine fin [_] ⟨⟨_, _, rfl, Rd.of_cells (by first | exact .head _ | exact .tail _ (.head _) | exact .tail _ (.tail _ (.head _)) | simp), rfl⟩, trivial⟩ ?_
  exact ⟨⟨aa, ac, _, ba, bc, _⟩, rfl, ⟨hra.mono hl2_7, hrb⟩, rfl, rfl⟩

theorem sortP (l : List Int) : (l.mergeSort leI).Perm l := List.mergeSort_perm l leI
theorem canon_ok {g : Game} {l c : Line} (h : LineOk g l) (h1 : c.main = l.main.mergeSort leI) (h2 : c.bonus = l.bonus.mergeSort leI) : LineOk g c := by
  refine ⟨h.g0, ?_, ?_, ?_, ?_, fun hk => ?_, ?_⟩
  · rw [h1, (sortP _).length_eq]; exact h.ml
  · rw [h2, (sortP _).length_eq]; exact h.bl
  · rw [h1]; exact fun x hx => h.mi x ((sortP _).mem_iff.1 hx)
  · rw [h2]; exact fun x hx => h.bi x ((sortP _).mem_iff.1 hx)
  · rw [h1]; exact (sortP _).nodup_iff.2 (h.mn hk)
  · rw [h2]; exact (sortP _).nodup_iff.2 h.bn
theorem comN_sort (l b : List Int) : comN (l.mergeSort leI) b = comN l b := (sortP l).countP_eq _
theorem plain_step {l : List Tier} {i : Nat} {t : Tier} (h : ¬ ∃ u ∈ l.take i, u.extra = 0) (ht : l[i]? = some t) : (∃ u ∈ l.take (i + 1), u.extra = 0) ↔ t.extra = 0 := by
  rw [take_snocA ht]
  constructor
  · rintro ⟨u, hu, hux⟩
    rcases List.mem_append.1 hu with hu | hu
    · exact absurd ⟨u, hu, hux⟩ h
    · rw [List.mem_singleton.1 hu] at hux; exact hux
  · exact fun h => ⟨t, by simp, h⟩
section
variable {g : Game} {l c : Line} {r : Res}
theorem canon_chk (hz : chkErr g l r = 0) (h1 : c.main = l.main.mergeSort leI) (h2 : c.bonus = l.bonus.mergeSort leI) : chkErr g c r = 0 := chkErr_of (canon_ok (chkErr_zero hz).1 h1 h2) (chkErr_zero hz).2
theorem canon_hits (hz : chkErr g l r = 0) (hk : ¬ g.kind = 2) (h1 : c.main = l.main.mergeSort leI) (h2 : c.bonus = l.bonus.mergeSort leI) : hitR g c r = hitR g l r := by
  rw [hitR_n hz hk, hitR_n (canon_chk hz h1 h2) hk, h1, h2, comN_sort, comN_sort, comN_sort]
theorem tierV_ok (hz : chkErr g l r = 0) : tierV g l r = .tuple #[.int .i64 (tierN g l r), .int .i64 0] := by
  unfold tierV
  rw [if_neg (by omega)]
theorem canon_tier (hz : chkErr g l r = 0) (hk : ¬ g.kind = 2) (h1 : c.main = l.main.mergeSort leI) (h2 : c.bonus = l.bonus.mergeSort leI) : tierV g c r = tierV g l r := by
  have e : winB g c r = winB g l r := funext fun t => by rw [winB_n hk, winB_n hk, h1, h2, comN_sort, comN_sort, comN_sort]
  rw [tierV_ok hz, tierV_ok (canon_chk hz h1 h2)]
  unfold tierN
  rw [e]
theorem comN_two {x y : List Int} (h : ∀ z ∈ y, z ∉ x) : ∀ a : List Int, comN a x + comN a y ≤ a.length
  | [] => Nat.le_refl _
  | z :: a => by
    have ih := comN_two h a
    unfold comN at *
    rw [List.countP_cons, List.countP_cons, List.length_cons]
    by_cases hx : z ∈ x <;> by_cases hy : z ∈ y
    · exact absurd hx (h z hy)
    · simp [hx, hy]; omega
    · simp [hx, hy]; omega
    · simp [hx, hy]; omega
theorem comN_self (a : List Int) : comN a a = a.length := List.countP_eq_length.2 fun x hx => by simpa using hx
theorem tiers_each {g : Game} : ∀ (l pre : List Tier), tiersFrom g pre l = 0 → ∀ t ∈ l, tierErr g t = 0
  | [], _, _, _, h => by cases h
  | u :: l, pre, h, t, ht => by
    unfold tiersFrom at h
    by_cases h1 : tierErr g u ≠ 0
    · rw [if_pos h1] at h; exact absurd h h1
    · rw [if_neg h1] at h
      by_cases h2 : ∃ b ∈ pre, covP g b u
      · rw [if_pos h2] at h; exact absurd h (by decide)
      · rw [if_neg h2] at h
        rcases List.mem_cons.1 ht with rfl | ht
        · exact Classical.not_not.1 h1
        · exact tiers_each l _ h t ht
theorem tier_hits {g : Game} {t : Tier} (h : tierErr g t = 0) : hitsErr g.kind g.main g.bonus g.extra t = 0 := by
  unfold tierErr at h
  by_cases h1 : hitsErr g.kind g.main g.bonus g.extra t ≠ 0
  · rw [if_pos h1] at h; exact absurd h h1
  · exact Classical.not_not.1 h1
theorem gameOk_tier {g : Game} (h : GameOk g) {t : Tier} (ht : t ∈ g.tiers) : tierErr g t = 0 := by
  have h1 := h.tr
  unfold tiersErr at h1
  by_cases h2 : ¬ (1 ≤ g.tiers.length ∧ g.tiers.length ≤ 12)
  · rw [if_pos h2] at h1; exact absurd h1 (by decide)
  · rw [if_neg h2] at h1
    exact tiers_each _ _ h1 t ht
theorem res_wins {ma ba : Option Addr} {mc bc : Nat} (hz : chkErr g ⟨ma, mc, r.main, ba, bc, r.bonus⟩ r = 0) (hk : ¬ g.kind = 2) {t : Tier} (ht : t ∈ g.tiers) (hx : t.extra = 0) : winB g ⟨ma, mc, r.main, ba, bc, r.bonus⟩ r t = true := by
  rw [winB_n hk]
  have h1 := tier_hits (gameOk_tier (gameOk (chkErr_zero hz).1.g0) ht)
  have h2 := (chkErr_zero hz).2.nu
  have h3 := h2.ml
  have h4 := h2.bl
  unfold hitsErr at h1
  rw [if_neg hk] at h1
  by_cases h5 : t.mode ≠ 0
  · rw [if_pos h5] at h1; exact absurd h1 (by decide)
  · rw [if_neg h5] at h1
    by_cases h6 : ¬ (0 ≤ t.main ∧ t.main ≤ g.main) ∨ ¬ (0 ≤ t.bonus ∧ t.bonus ≤ g.bonus) ∨ ¬ (0 ≤ t.extra ∧ t.extra ≤ g.extra) ∨ (t.main = 0 ∧ t.bonus = 0 ∧ t.extra = 0)
    · rw [if_pos h6] at h1; exact absurd h1 (by decide)
    · refine decide_eq_true ?_
      show t.main ≤ (comN r.main r.main : Nat) ∧ t.bonus ≤ (comN r.bonus r.bonus : Nat) ∧ t.extra ≤ (comN r.main r.extra : Nat)
      rw [comN_self, comN_self]
      omega
end

set_option maxRecDepth 100000 in
theorem lawMatchOrders {m : Mem} {g : Game} {l : Line} {r : Res} (hin : g.In m) (hl : l.In m) (hr : r.In m) (hs : r.serial.size ≤ 9223372036854775807) : CallsS Try.prog 8 [g.val, l.val, r.val].toArray [] m fun r _ _ => r = .bool true := by
  dsimp only [Game.val, Line.val, Res.val]
  obtain ⟨a, b, c, e, hRR⟩ := hitR_form g l r
  refine enter Try.func8 Try.ntmps8 rfl rfl ?_
  refine SWP_seq ?_
  refine SWP_region ?_
  refine bx (v := .agg _) rfl rfl (fun B3 => ?_)
  refine bx (v := .agg _) rfl rfl (fun B4 => ?_)
  refine bx (v := .agg _) rfl rfl (fun B5 => ?_)
  refine pB rfl rfl ?_
  refine SL_nil ?_
  refine nx ?_
  refine SWP_seq ?_
  refine SWP_region ?_
  refine lw (v := .agg _) B3 0 rfl rfl rfl rfl ?_
  refine lw (v := .agg _) B4 0 rfl rfl rfl rfl ?_
  refine lw (v := .agg _) B5 0 rfl rfl rfl rfl ?_
  refine SL_pcall rfl rfl cb11 (HitsI hin hl hr hs) rfl ?_
  rw [hRR]
  refine pu rfl rfl ?_
  first | refine pI rfl rfl ?_ | refine pu rfl rfl ?_
  first | refine pI rfl rfl ?_ | refine pu rfl rfl ?_
  first | refine pI rfl rfl ?_ | refine pu rfl rfl ?_
  first | refine pI rfl rfl ?_ | refine pu rfl rfl ?_
  first | refine pI rfl rfl ?_ | refine pu rfl rfl ?_
  first | refine pI rfl rfl ?_ | refine pu rfl rfl ?_
  first | refine pI rfl rfl ?_ | refine pu rfl rfl ?_
  first | refine pI rfl rfl ?_ | refine pu rfl rfl ?_
  refine SL_nil ?_
  refine nx ?_
  refine SWP_seq ?_
  refine SWP_seq ?_
  refine SWP_region ?_
  first | refine pI rfl rfl ?_ | refine pu rfl rfl ?_
  refine pc rfl rfl (fun c29 => ?_) (fun c29 => ?_)
  · skip
    refine pB rfl rfl ?_
    refine SL_no rfl rfl ?_
    refine SL_no rfl rfl ?_
    refine SL_no rfl rfl ?_
    refine pB rfl rfl ?_
    refine SL_nil ?_
    refine nx ?_
    refine SWP_ct rfl ?_
    refine SWP_seq ?_
    refine SWP_region ?_
    refine SL_pcall rfl rfl cb13 (hitsL) rfl ?_
    first | refine pB rfl rfl ?_ | refine pu rfl rfl ?_
    refine SL_nil ?_
    refine nx ?_
    refine SWP_ret ?_
    refine nr ?_
    refine fin [_] ⟨rfl, trivial⟩ ?_
    rfl
  refine pB rfl rfl ?_
  refine SL_yes rfl ?_
  refine pu rfl rfl ?_
  refine SL_yes rfl ?_
  refine lw (v := .int .i64 _) B3 1 rfl rfl rfl rfl ?_
  refine SL_yes rfl ?_
  refine pc rfl rfl (fun c33 => ?_) (fun c33 => ?_)
  · skip
    refine pB rfl rfl ?_
    refine SL_nil ?_
    refine nx ?_
    refine SWP_ct rfl ?_
    refine SWP_seq ?_
    refine SWP_region ?_
    refine SL_pcall rfl rfl cb13 (hitsL) rfl ?_
    first | refine pB rfl rfl ?_ | refine pu rfl rfl ?_
    refine SL_nil ?_
    refine nx ?_
    refine SWP_ret ?_
    refine nr ?_
    refine fin [_] ⟨rfl, trivial⟩ ?_
    rfl
  refine pB rfl rfl ?_
  refine SL_nil ?_
  refine nx ?_
  refine SWP_cf rfl ?_
  refine SWP_skip ?_
  refine nx ?_
  refine SWP_seq ?_
  have he0 : e = 0 := Classical.not_not.1 c29
  have hk : ¬ g.kind = 2 := by omega
  have hz : chkErr g l r = 0 := by
    by_cases hz : chkErr g l r = 0
    · exact hz
    · have h1 := hRR
      unfold hitR at h1
      rw [if_pos hz] at h1
      simp only [Value.tuple.injEq, Array.mk.injEq, List.cons.injEq, Value.int.injEq, true_and, and_true] at h1
      omega
  have hab : a = comN l.main r.main ∧ c = comN l.main r.extra := by
    have h1 := hRR.symm.trans (hitR_n hz hk)
    simp only [Value.tuple.injEq, Array.mk.injEq, List.cons.injEq, Value.int.injEq, true_and, and_true] at h1
    exact ⟨h1.1, h1.2.2.1⟩
  obtain ⟨lo, ro⟩ := chkErr_zero hz
  have hll := lo.ml
  have hlb := lo.bl
  have hmx := (gameOk lo.g0).mx
  have hm2 := hmx.h2
  have hm7 := hmx.h7 hk
  have hsum := comN_two (ro.nu.ap hk) l.main
  refine SWP_drawn [(B5, Cells 31 r.enc), (B4, Cells 29 l.enc), (B3, Cells 27 g.enc)] [0, 1, 3, 2, 4, 5, 6, 7, 8, 9, 10, 11, 12, 13] (by kernel_rfl) (by kernel_rfl) (Sub.refl _) ?_
  refine lw (v := .agg _) B3 0 rfl rfl rfl rfl ?_
  refine lw (v := .agg _) B4 0 rfl rfl rfl rfl ?_
  refine lw (v := .agg _) B5 0 rfl rfl rfl rfl ?_
  refine SL_call rfl rfl cb18 (CallsS.frame0 (canonI (hl.mono (Le.refl _)) (by omega) (by omega))) rfl (fun v4_2 σ4_2 m4_2 hl4_2 hR4_2 => ?_)
  obtain ⟨σc, rfl, rfl, cl4_2, rfl, hcl4_2, hcm4_2, hcb4_2⟩ := hR4_2
  refine SL_pcall rfl rfl cb11 (HitsI (hin.mono hl4_2) hcl4_2 (hr.mono hl4_2) hs) rfl ?_
  rw [canon_hits hz hk hcm4_2 hcb4_2, hRR]
  refine pu rfl rfl ?_
  first | refine pI rfl rfl ?_ | refine pu rfl rfl ?_
  first | refine pI rfl rfl ?_ | refine pu rfl rfl ?_
  first | refine pI rfl rfl ?_ | refine pu rfl rfl ?_
  first | refine pI rfl rfl ?_ | refine pu rfl rfl ?_
  first | refine pI rfl rfl ?_ | refine pu rfl rfl ?_
  first | refine pI rfl rfl ?_ | refine pu rfl rfl ?_
  first | refine pI rfl rfl ?_ | refine pu rfl rfl ?_
  first | refine pI rfl rfl ?_ | refine pu rfl rfl ?_
  refine SL_nil ?_
  refine nx ?_
  refine SWP_seq ?_
  refine SWP_region ?_
  refine lw (v := .agg _) B3 0 rfl rfl rfl rfl ?_
  refine lw (v := .agg _) B4 0 rfl rfl rfl rfl ?_
  refine lw (v := .agg _) B5 0 rfl rfl rfl rfl ?_
  refine SL_pcall rfl rfl cb14 (TierI (hin.mono hl4_2) (hl.mono hl4_2) (hr.mono hl4_2) hs) rfl ?_
  rw [tierV_ok hz]
  refine pu rfl rfl ?_
  first | refine pI rfl rfl ?_ | refine pu rfl rfl ?_
  first | refine pI rfl rfl ?_ | refine pu rfl rfl ?_
  first | refine pI rfl rfl ?_ | refine pu rfl rfl ?_
  first | refine pI rfl rfl ?_ | refine pu rfl rfl ?_
  refine SL_nil ?_
  refine nx ?_
  refine SWP_seq ?_
  refine SWP_drawn [(B5, Cells 31 r.enc), (B4, Cells 29 l.enc), (B3, Cells 27 g.enc)] [0, 1, 3, 2, 4, 5, 6, 7, 8, 9] (by kernel_rfl) (by kernel_rfl) (Sub.refl _) ?_
  refine lw (v := .agg _) B3 0 rfl rfl rfl rfl ?_
  refine lw (v := .agg _) B4 0 rfl rfl rfl rfl ?_
  refine lw (v := .agg _) B5 0 rfl rfl rfl rfl ?_
  refine SL_call rfl rfl cb18 (CallsS.frame0 (canonI (hl.mono hl4_2) (by omega) (by omega))) rfl (fun v6_2 σ6_2 m6_2 hl6_2 hR6_2 => ?_)
  obtain ⟨σc, rfl, rfl, cl6_2, rfl, hcl6_2, hcm6_2, hcb6_2⟩ := hR6_2
  refine SL_pcall rfl rfl cb14 (TierI (hin.mono (hl4_2.trans hl6_2)) hcl6_2 (hr.mono (hl4_2.trans hl6_2)) hs) rfl ?_
  rw [canon_tier hz hk hcm6_2 hcb6_2, tierV_ok hz]
  refine pu rfl rfl ?_
  first | refine pI rfl rfl ?_ | refine pu rfl rfl ?_
  first | refine pI rfl rfl ?_ | refine pu rfl rfl ?_
  first | refine pI rfl rfl ?_ | refine pu rfl rfl ?_
  first | refine pI rfl rfl ?_ | refine pu rfl rfl ?_
  refine SL_nil ?_
  refine nx ?_
  refine SWP_seq ?_
  refine SWP_region ?_
  first | refine pI rfl rfl ?_ | refine pu rfl rfl ?_
  refine pt rfl rfl (he0) ?_
  refine pB rfl rfl ?_
  refine SL_yes rfl ?_
  first | refine pI rfl rfl ?_ | refine pu rfl rfl ?_
  refine SL_yes rfl ?_
  first | refine pI rfl rfl ?_ | refine pu rfl rfl ?_
  refine SL_yes rfl ?_
  refine pt rfl rfl (rfl) ?_
  refine pB rfl rfl ?_
  refine pB rfl rfl ?_
  refine SL_yes rfl ?_
  first | refine pI rfl rfl ?_ | refine pu rfl rfl ?_
  refine SL_yes rfl ?_
  first | refine pI rfl rfl ?_ | refine pu rfl rfl ?_
  refine SL_yes rfl ?_
  refine pt rfl rfl (rfl) ?_
  refine pB rfl rfl ?_
  refine pB rfl rfl ?_
  refine SL_yes rfl ?_
  first | refine pI rfl rfl ?_ | refine pu rfl rfl ?_
  refine SL_yes rfl ?_
  first | refine pI rfl rfl ?_ | refine pu rfl rfl ?_
  refine SL_yes rfl ?_
  refine pt rfl rfl (rfl) ?_
  refine pB rfl rfl ?_
  refine pB rfl rfl ?_
  refine SL_yes rfl ?_
  first | refine pI rfl rfl ?_ | refine pu rfl rfl ?_
  refine SL_yes rfl ?_
  first | refine pI rfl rfl ?_ | refine pu rfl rfl ?_
  refine SL_yes rfl ?_
  first | refine pw rfl rfl (w64 (by omega) (by omega)) ?_ | refine pu rfl rfl ?_
  refine SL_yes rfl ?_
  refine pu rfl rfl ?_
  refine SL_yes rfl ?_
  refine lw (v := .slice _ _ _) B4 0 rfl rfl rfl rfl ?_
  refine SL_yes rfl ?_
  refine pu rfl rfl ?_
  refine SL_yes rfl ?_
  refine pt rfl rfl (by omega) ?_
  refine pB rfl rfl ?_
  refine pB rfl rfl ?_
  refine SL_yes rfl ?_
  first | refine pI rfl rfl ?_ | refine pu rfl rfl ?_
  refine SL_yes rfl ?_
  refine pt rfl rfl (rfl) ?_
  refine pB rfl rfl ?_
  refine pB rfl rfl ?_
  refine SL_yes rfl ?_
  first | refine pI rfl rfl ?_ | refine pu rfl rfl ?_
  refine SL_yes rfl ?_
  refine pt rfl rfl (rfl) ?_
  refine pB rfl rfl ?_
  refine pB rfl rfl ?_
  refine SL_yes rfl ?_
  first | refine pI rfl rfl ?_ | refine pu rfl rfl ?_
  refine SL_yes rfl ?_
  first | refine pI rfl rfl ?_ | refine pu rfl rfl ?_
  refine SL_yes rfl ?_
  refine pt rfl rfl (rfl) ?_
  refine pB rfl rfl ?_
  refine pB rfl rfl ?_
  refine SL_yes rfl ?_
  refine SL_pcall rfl rfl cb13 (hitsL) rfl ?_
  refine pB rfl rfl ?_
  refine pB rfl rfl ?_
  refine SL_nil ?_
  refine nx ?_
  refine SWP_ret ?_
  refine fin [_] ⟨rfl, trivial⟩ ?_
  rfl

set_option maxRecDepth 100000 in
theorem lawMatchResults {m : Mem} {g : Game} {r : Res} (hin : g.In m) (hr : r.In m) (hs : r.serial.size ≤ 9223372036854775807) : CallsS Try.prog 6 [g.val, r.val].toArray [] m fun r _ _ => r = .bool true := by
  dsimp only [Game.val, Res.val]
  obtain ⟨n, e, hRR, hne⟩ := tierV_form g ⟨r.ma, r.mc, r.main, r.ba, r.bc, r.bonus⟩ r
  have htl := hin.trs.small
  refine enter Try.func6 Try.ntmps6 rfl rfl ?_
  refine SWP_seq ?_
  refine SWP_region ?_
  refine bx (v := .agg _) rfl rfl (fun B2 => ?_)
  refine bx (v := .agg _) rfl rfl (fun B3 => ?_)
  refine pB rfl rfl ?_
  refine SL_nil ?_
  refine nx ?_
  refine SWP_seq ?_
  refine SWP_region ?_
  refine pB rfl rfl ?_
  refine SL_nil ?_
  refine nx ?_
  refine SWP_seq ?_
  refine SWP_seq ?_
  refine SWP_region ?_
  refine pI rfl rfl ?_
  refine SL_nil ?_
  refine nx ?_
  refine SWP_block ?_
  refine SWP_loop [5, 6, 9, 10, 11, 12, 13, 14, 15, 16, 17, 18, 19, 20, 21, 22, 23, 24, 25] [5, 6]
      (fun vs σ' m' => ∃ (i : Nat), vs = [.bool (decide (∃ t ∈ g.tiers.take i, t.extra = 0)), .int .i64 (i : Nat)] ∧ i ≤ g.tiers.length ∧ σ' = [(B3, Cells 31 r.enc), (B2, Cells 27 g.enc)] ∧ m = m')
      (fun vs => g.tiers.length - nOf (vs.getD 1 undef)) rfl ?_ ?_
  · refine ⟨0, ?_, by omega, rfl, rfl⟩
    rw [decide_eq_false (by simp)]; rfl
  intro u0 vs0 σ0 m0 hJ0 _
  obtain ⟨i, rfl, hi, rfl, rfl⟩ := hJ0
  dsimp only [Res.enc, Game.enc]
  refine SWP_seq ?_
  refine SWP_seq ?_
  refine SWP_region ?_
  first | refine pI rfl rfl ?_ | refine pu rfl rfl ?_
  refine pu rfl rfl ?_
  refine lw (v := .slice _ _ _) B2 21 rfl rfl rfl rfl ?_
  refine pu rfl rfl ?_
  refine pc rfl rfl (fun c13 => ?_) (fun c13 => ?_)
  · skip
    refine SL_nil ?_
    refine nx ?_
    refine SWP_ct rfl ?_
    refine SWP_skip ?_
    refine nx ?_
    refine SWP_seq ?_
    refine SWP_block ?_
    refine SWP_region ?_
    refine pB rfl rfl ?_
    refine psp 16 rfl (fun c16 => ?_) (fun c16 => ?_)
    · skip
      first | refine pB rfl rfl ?_ | refine pu rfl rfl ?_
      refine SL_no rfl rfl ?_
      refine SL_no rfl rfl ?_
      refine SL_no rfl rfl ?_
      refine SL_no rfl rfl ?_
      refine SL_no rfl rfl ?_
      refine SL_no rfl rfl ?_
      refine SL_no rfl rfl ?_
      refine pB rfl rfl ?_
      refine pB rfl rfl ?_
      refine SL_nil ?_
      refine nb ?_
      refine nx ?_
      refine SWP_region ?_
      first | refine pI rfl rfl ?_ | refine pu rfl rfl ?_
      first | refine pw rfl rfl (w64 (by omega) (by omega)) ?_ | refine pu rfl rfl ?_
      refine pI rfl rfl ?_
      refine SL_nil ?_
      refine nx ?_
      refine ⟨by repeat (first | exact Under.upds rfl (Under.hav _ _ _) | exact Under.hav _ _ _ | refine Under.upd rfl ?_), ?_, ?_⟩
      · refine ⟨i + 1, ?_, by omega, rfl, rfl⟩
        obtain ⟨u, hu, hux⟩ := c16
        rw [decide_eq_true (show ∃ t ∈ g.tiers.take (i + 1), t.extra = 0 from ⟨u, (List.take_subset_take_left _ (Nat.le_succ i)) hu, hux⟩)]; rfl
      · simp only [L_vals, List.map, List.getD]; show g.tiers.length - (i + 1) < g.tiers.length - i; omega
    first | refine pB rfl rfl ?_ | refine pu rfl rfl ?_
    refine SL_yes rfl ?_
    refine pu rfl rfl ?_
    refine SL_yes rfl ?_
    refine lw (v := .slice _ _ _) B2 21 rfl rfl rfl rfl ?_
    refine SL_yes rfl ?_
    first | refine pI rfl rfl ?_ | refine pu rfl rfl ?_
    refine SL_yes rfl ?_
    obtain ⟨t, ht⟩ : ∃ t, g.tiers[i]? = some t := ⟨_, List.getElem?_eq_getElem (by omega)⟩
    obtain ⟨ad, e0, _, hat⟩ := hin.trs.atA Tier.enc_len ht
    rw [e0]
    refine ia (es := 6) rfl rfl rfl rfl rfl rfl (by omega) rfl ?_
    rw [← e0]
    refine SL_yes rfl ?_
    refine pu rfl rfl ?_
    refine SL_yes rfl ?_
    refine ldF (v := .int .i64 _) rfl rfl (by assumption) rfl rfl ?_
    refine SL_yes rfl ?_
    refine pu rfl rfl ?_
    refine pB rfl rfl ?_
    refine pB rfl rfl ?_
    refine SL_nil ?_
    refine nb ?_
    refine nx ?_
    refine SWP_region ?_
    first | refine pI rfl rfl ?_ | refine pu rfl rfl ?_
    first | refine pw rfl rfl (w64 (by omega) (by omega)) ?_ | refine pu rfl rfl ?_
    refine pI rfl rfl ?_
    refine SL_nil ?_
    refine nx ?_
    refine ⟨by repeat (first | exact Under.upds rfl (Under.hav _ _ _) | exact Under.hav _ _ _ | refine Under.upd rfl ?_), ?_, ?_⟩
    · refine ⟨i + 1, ?_, by omega, rfl, rfl⟩
      rw [decide_eq_decide.2 (plain_step c16 ht)]; rfl
    · simp only [L_vals, List.map, List.getD]; show g.tiers.length - (i + 1) < g.tiers.length - i; omega
  refine SL_nil ?_
  refine nx ?_
  refine SWP_cf rfl ?_
  refine SWP_exit ?_
  refine ne ?_
  refine ne ?_
  refine be rfl ?_
  refine nx ?_
  refine SWP_seq ?_
  refine SWP_region ?_
  refine lw (v := .agg _) B2 0 rfl rfl rfl rfl ?_
  refine pu rfl rfl ?_
  refine lw (v := .slice _ _ _) B3 0 rfl rfl rfl rfl ?_
  refine pu rfl rfl ?_
  refine lw (v := .slice _ _ _) B3 1 rfl rfl rfl rfl ?_
  refine pA rfl rfl ?_
  refine lw (v := .agg _) B3 0 rfl rfl rfl rfl ?_
  refine SL_pcall rfl rfl cb14 (TierI (l := ⟨r.ma, r.mc, r.main, r.ba, r.bc, r.bonus⟩) hin ⟨hr.mn, hr.bn⟩ hr hs) rfl ?_
  rw [hRR]
  refine pu rfl rfl ?_
  first | refine pI rfl rfl ?_ | refine pu rfl rfl ?_
  first | refine pI rfl rfl ?_ | refine pu rfl rfl ?_
  first | refine pI rfl rfl ?_ | refine pu rfl rfl ?_
  first | refine pI rfl rfl ?_ | refine pu rfl rfl ?_
  refine SL_nil ?_
  refine nx ?_
  refine SWP_seq ?_
  refine SWP_seq ?_
  refine SWP_region ?_
  first | refine pI rfl rfl ?_ | refine pu rfl rfl ?_
  refine pc rfl rfl (fun c38 => ?_) (fun c38 => ?_)
  · skip
    refine pB rfl rfl ?_
    refine SL_no rfl rfl ?_
    refine SL_no rfl rfl ?_
    refine SL_no rfl rfl ?_
    refine pB rfl rfl ?_
    refine pB rfl rfl ?_
    refine SL_no rfl rfl ?_
    refine SL_no rfl rfl ?_
    refine pB rfl rfl ?_
    refine SL_nil ?_
    refine nx ?_
    refine SWP_ct rfl ?_
    refine SWP_seq ?_
    refine SWP_region ?_
    refine SL_pcall rfl rfl cb16 (livesL) rfl ?_
    first | refine pB rfl rfl ?_ | refine pu rfl rfl ?_
    refine SL_nil ?_
    refine nx ?_
    refine SWP_ret ?_
    refine nr ?_
    refine fin [_] ⟨rfl, trivial⟩ ?_
    rfl
  refine pB rfl rfl ?_
  refine SL_yes rfl ?_
  refine pu rfl rfl ?_
  refine SL_yes rfl ?_
  refine lw (v := .int .i64 _) B2 1 rfl rfl rfl rfl ?_
  refine SL_yes rfl ?_
  refine pc rfl rfl (fun c42 => ?_) (fun c42 => ?_)
  · skip
    refine pB rfl rfl ?_
    refine pB rfl rfl ?_
    refine SL_no rfl rfl ?_
    refine SL_no rfl rfl ?_
    refine pB rfl rfl ?_
    refine SL_nil ?_
    refine nx ?_
    refine SWP_ct rfl ?_
    refine SWP_seq ?_
    refine SWP_region ?_
    refine SL_pcall rfl rfl cb16 (livesL) rfl ?_
    first | refine pB rfl rfl ?_ | refine pu rfl rfl ?_
    refine SL_nil ?_
    refine nx ?_
    refine SWP_ret ?_
    refine nr ?_
    refine fin [_] ⟨rfl, trivial⟩ ?_
    rfl
  refine pB rfl rfl ?_
  refine pB rfl rfl ?_
  refine SL_yes rfl ?_
  rw [List.take_of_length_le (by omega)]
  refine pu (v := .bool (decide (∃ t ∈ g.tiers, t.extra = 0))) rfl rfl ?_
  refine psp 45 rfl (fun c45 => ?_) (fun c45 => ?_)
  · skip
    refine SL_yes rfl ?_
    refine pB rfl rfl ?_
    refine pB rfl rfl ?_
    refine SL_nil ?_
    refine nx ?_
    refine SWP_cf rfl ?_
    refine SWP_skip ?_
    refine nx ?_
    refine SWP_seq ?_
    have hn : 0 ≤ n := by
      rcases hne with h | h
      · exact absurd h.1 (by assumption)
      · have ht := h.2.2
        cases ht with
        | none hno =>
          obtain ⟨t, ht, hx⟩ : ∃ t ∈ g.tiers, t.extra = 0 := by assumption
          have h1 := res_wins h.2.1 (by omega) ht hx
          rw [hno t ht] at h1
          cases h1
        | some k t h1 h2 h3 => omega
    refine SWP_region ?_
    first | refine pI rfl rfl ?_ | refine pu rfl rfl ?_
    refine pt rfl rfl (hn) ?_
    refine pB rfl rfl ?_
    refine SL_yes rfl ?_
    refine SL_pcall rfl rfl cb16 (livesL) rfl ?_
    refine pB rfl rfl ?_
    refine pB rfl rfl ?_
    refine SL_nil ?_
    refine nx ?_
    refine SWP_ret ?_
    refine fin [_] ⟨rfl, trivial⟩ ?_
    rfl
  refine SL_yes rfl ?_
  refine pB rfl rfl ?_
  refine pB rfl rfl ?_
  refine SL_nil ?_
  refine nx ?_
  refine SWP_ct rfl ?_
  refine SWP_seq ?_
  refine SWP_region ?_
  refine SL_pcall rfl rfl cb16 (livesL) rfl ?_
  first | refine pB rfl rfl ?_ | refine pu rfl rfl ?_
  refine SL_nil ?_
  refine nx ?_
  refine SWP_ret ?_
  refine nr ?_
  refine fin [_] ⟨rfl, trivial⟩ ?_
  rfl

end Go.Proofs.Ytakjedhlcnnalaa

