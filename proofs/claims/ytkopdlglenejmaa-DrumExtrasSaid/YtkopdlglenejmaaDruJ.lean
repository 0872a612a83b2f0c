/- lotterylaw28: few, the example, the laws DrumTells, DrumChecks, DrumDraws, DrumIgnores, DrumExtras. -/
import Derived.Test.YtkopdlglenejmaaDruI
namespace Go.Proofs.Ytkopdlglenejmaa
open Eng

set_option maxRecDepth 100000 in
theorem fewG {m : Mem} {g : Game} (hin : g.In m) : CallsS Try.prog 9 [g.val].toArray [] m fun r _ _ => ∃ b, r = .bool b := by
  dsimp only [Game.val]
  have hsm := hin.ads.small
  refine enter Try.func9 Try.ntmps9 rfl rfl ?_
  refine SWP_seq ?_
  refine SWP_region ?_
  refine bx (v := .agg _) rfl rfl (fun B1 => ?_)
  refine pB rfl rfl ?_
  refine SL_nil ?_
  refine nx ?_
  refine SWP_seq ?_
  refine SWP_seq ?_
  refine SWP_region ?_
  refine pu rfl rfl ?_
  refine lw (v := .slice _ _ _) B1 20 rfl rfl rfl rfl ?_
  refine pu rfl rfl ?_
  refine pc rfl rfl (fun c7 => ?_) (fun c7 => ?_)
  · skip
    refine pB rfl rfl ?_
    refine SL_no rfl rfl ?_
    refine SL_no rfl rfl ?_
    refine SL_no rfl rfl ?_
    refine SL_no rfl rfl ?_
    refine pB rfl rfl ?_
    refine SL_nil ?_
    refine nx ?_
    refine SWP_ct rfl ?_
    refine SWP_seq ?_
    refine SWP_region ?_
    refine pB rfl rfl ?_
    refine SL_nil ?_
    refine nx ?_
    refine SWP_ret ?_
    refine nr ?_
    refine fin [_] ⟨rfl, trivial⟩ ?_
    exact ⟨_, rfl⟩
  refine pB rfl rfl ?_
  refine SL_yes rfl ?_
  refine pu rfl rfl ?_
  refine SL_yes rfl ?_
  refine lw (v := .slice _ _ _) B1 21 rfl rfl rfl rfl ?_
  refine SL_yes rfl ?_
  refine pu rfl rfl ?_
  refine SL_yes rfl ?_
  refine pc rfl rfl (fun c12 => ?_) (fun c12 => ?_)
  · skip
    refine pB rfl rfl ?_
    refine SL_nil ?_
    refine nx ?_
    refine SWP_ct rfl ?_
    refine SWP_seq ?_
    refine SWP_region ?_
    refine pB rfl rfl ?_
    refine SL_nil ?_
    refine nx ?_
    refine SWP_ret ?_
    refine nr ?_
    refine fin [_] ⟨rfl, trivial⟩ ?_
    exact ⟨_, rfl⟩
  refine pB rfl rfl ?_
  refine SL_nil ?_
  refine nx ?_
  refine SWP_cf rfl ?_
  refine SWP_skip ?_
  refine nx ?_
  refine SWP_seq ?_
  refine SWP_seq ?_
  refine SWP_region ?_
  refine pu rfl rfl ?_
  refine lw (v := .slice _ _ _) B1 20 rfl rfl rfl rfl ?_
  refine pu rfl rfl ?_
  refine pI rfl rfl ?_
  refine SL_nil ?_
  refine nx ?_
  refine SWP_block ?_
  refine SWP_loop [2, 3, 17, 18, 19, 20, 21, 22, 23, 24, 25, 26, 27, 28, 29, 30, 31, 32, 33, 34, 35, 36, 37, 38] [17]
      (fun vs σ' m' => ∃ (i : Nat), vs = [.int .i64 (i : Nat)] ∧ i ≤ g.addons.length ∧ σ' = [(B1, Cells 25 g.enc)] ∧ m = m')
      (fun vs => g.addons.length - nOf (vs.getD 0 undef)) rfl ?_ ?_
  · exact ⟨0, rfl, by omega, rfl, rfl⟩
  intro u0 vs0 σ0 m0 hJ0 _
  obtain ⟨i, rfl, hi, rfl, rfl⟩ := hJ0
  refine SWP_seq ?_
  refine SWP_region ?_
  refine pc rfl rfl (fun c18 => ?_) (fun c18 => ?_)
  · skip
    refine SL_nil ?_
    refine nx ?_
    refine SWP_seq ?_
    refine SWP_ct rfl ?_
    refine SWP_skip ?_
    refine nx ?_
    refine SWP_seq ?_
    refine SWP_block ?_
    refine SWP_seq ?_
    refine SWP_region ?_
    first | refine pI rfl rfl ?_ | refine pu rfl rfl ?_
    first | refine pI rfl rfl ?_ | refine pu rfl rfl ?_
    refine SL_nil ?_
    refine nx ?_
    refine SWP_seq ?_
    obtain ⟨a, ha⟩ : ∃ a, g.addons[i]? = some a := ⟨_, List.getElem?_eq_getElem (by omega)⟩
    obtain ⟨ad, e0, _, hat⟩ := hin.ads.atA Addon.enc_len ha
    refine SWP_region ?_
    refine pu rfl rfl ?_
    refine lw (v := .slice _ _ _) B1 20 rfl rfl rfl rfl ?_
    first | refine pI rfl rfl ?_ | refine pu rfl rfl ?_
    refine ia (es := 6) (ad := ad) rfl rfl rfl rfl (by show Value.slice g.aa _ _ = _; rw [e0]) rfl (by omega) rfl ?_
    refine pu rfl rfl ?_
    refine ldF (v := .slice _ _ _) rfl rfl (by assumption) rfl rfl ?_
    refine pu rfl rfl ?_
    refine pc rfl rfl (fun c27 => ?_) (fun c27 => ?_)
    · skip
      refine pB rfl rfl ?_
      refine SL_no rfl rfl ?_
      refine SL_no rfl rfl ?_
      refine SL_no rfl rfl ?_
      refine SL_no rfl rfl ?_
      refine SL_no rfl rfl ?_
      refine SL_no rfl rfl ?_
      refine SL_no rfl rfl ?_
      refine SL_no rfl rfl ?_
      refine pB rfl rfl ?_
      refine SL_nil ?_
      refine nx ?_
      refine SWP_ct rfl ?_
      refine SWP_seq ?_
      refine SWP_region ?_
      refine pB rfl rfl ?_
      refine SL_nil ?_
      refine nx ?_
      refine SWP_ret ?_
      refine br ?_
      refine nr ?_
      refine nr ?_
      refine br ?_
      refine nr ?_
      refine fin [_] ⟨rfl, trivial⟩ ?_
      exact ⟨_, rfl⟩
    refine pB rfl rfl ?_
    refine SL_yes rfl ?_
    refine pu rfl rfl ?_
    refine SL_yes rfl ?_
    refine lw (v := .slice _ _ _) B1 20 rfl rfl rfl rfl ?_
    refine SL_yes rfl ?_
    first | refine pI rfl rfl ?_ | refine pu rfl rfl ?_
    refine SL_yes rfl ?_
    refine ia (es := 6) (ad := ad) rfl rfl rfl rfl (by show Value.slice g.aa _ _ = _; rw [e0]) rfl (by omega) rfl ?_
    refine SL_yes rfl ?_
    refine pu rfl rfl ?_
    refine SL_yes rfl ?_
    refine ldF (v := .slice _ _ _) rfl rfl (by assumption) rfl rfl ?_
    refine SL_yes rfl ?_
    refine pu rfl rfl ?_
    refine SL_yes rfl ?_
    refine pc rfl rfl (fun c36 => ?_) (fun c36 => ?_)
    · skip
      refine pB rfl rfl ?_
      refine SL_nil ?_
      refine nx ?_
      refine SWP_ct rfl ?_
      refine SWP_seq ?_
      refine SWP_region ?_
      refine pB rfl rfl ?_
      refine SL_nil ?_
      refine nx ?_
      refine SWP_ret ?_
      refine br ?_
      refine nr ?_
      refine nr ?_
      refine br ?_
      refine nr ?_
      refine fin [_] ⟨rfl, trivial⟩ ?_
      exact ⟨_, rfl⟩
    refine pB rfl rfl ?_
    refine SL_nil ?_
    refine nx ?_
    refine SWP_cf rfl ?_
    refine SWP_skip ?_
    refine nb ?_
    refine nx ?_
    refine SWP_region ?_
    first | refine pw rfl rfl (w64 (by omega) (by omega)) ?_ | refine pu rfl rfl ?_
    refine pI rfl rfl ?_
    refine SL_nil ?_
    refine nx ?_
    refine ⟨by repeat (first | exact Under.upds rfl (Under.hav _ _ _) | exact Under.hav _ _ _ | refine Under.upd rfl ?_), ?_, ?_⟩
    · exact ⟨i + 1, rfl, by omega, rfl, rfl⟩
    · simp only [L_vals, List.map, List.getD]; show g.addons.length - (i + 1) < g.addons.length - i; omega
  refine SL_nil ?_
  refine nx ?_
  refine SWP_seq ?_
  refine SWP_cf rfl ?_
  refine SWP_exit ?_
  refine ne ?_
  refine ne ?_
  refine be rfl ?_
  refine nx ?_
  refine SWP_seq ?_
  refine SWP_region ?_
  refine pB rfl rfl ?_
  refine SL_nil ?_
  refine nx ?_
  refine SWP_ret ?_
  refine fin [_] ⟨rfl, trivial⟩ ?_
  exact ⟨_, rfl⟩

def g14T : List Tier := [⟨3, 0, 0, 0, 1, 1⟩]
def g14 (B : Nat) : Game := ⟨⟨#[97]⟩, 1, 1, 3, 3, 0, 0, 0, 1, 3, 1, 0, 0, 0, 1, 0, 0, 1, 0, 0, none, 0, [], some ⟨B, 0, none⟩, 1, g14T⟩
theorem g14_ok (B : Nat) : GameOk (g14 B) := by
  refine ⟨by kernel_rfl, .inl rfl, ⟨?_, ?_, ?_, ?_, ?_, ?_, ?_, ?_, ?_, ?_, ?_, ?_, ?_, ?_, ?_, ?_⟩, ⟨?_, ?_, ?_, ?_, ?_, ?_, ?_, ?_, ?_, ?_⟩, by kernel_rfl, by kernel_rfl⟩ <;> exact of_decide_eq_true (by kernel_rfl)
theorem g14_draw (B : Nat) : drawF (g14 B) 9 = (0, ([1, 2, 3], [], [])) := by
  unfold drawF
  rw [if_neg (fun hh => hh (gameErr_of (g14_ok B))), if_neg (by show ¬ (1 : Int) = 2; decide)]
  show numF 3 3 0 0 0 9 = _
  rw [numF_one (by kernel_rfl) rfl]
  have e1 : (sampF 3 (3 + 0) 9).2.1.take (3 : Int).toNat = [2, 1, 3] := by kernel_rfl
  have e2 : (sampF 3 (3 + 0) 9).2.1.drop (3 : Int).toNat = [] := by kernel_rfl
  rw [e1, e2]
  have e3 : sortL [2, 1, 3] = [1, 2, 3] := (pw_eq (by decide) (by decide)).symm
  have e4 : sortL [] = [] := List.mergeSort_nil
  rw [e3, e4]
def g14R (B : Nat) (l : List Int) : Res := ⟨some ⟨B, 0, none⟩, 3, l, none, 0, [], none, 0, [], 0, ⟨#[]⟩⟩
theorem g14_yes (B B' : Nat) : resErr (g14 B) (g14R B' [1, 2, 3]) = 0 := resErr_of (drawn_ok (s := 9) (by rw [g14_draw]) (by rw [g14_draw]; exact ⟨rfl, rfl, rfl, rfl, rfl⟩))
theorem g14_no (B B' : Nat) : resErr (g14 B) (g14R B' [1, 3, 2]) = 1 := by
  unfold resErr
  rw [if_neg (fun hh => hh (gameErr_of (g14_ok B)))]
  have e : numsErr (g14 B) (g14R B' [1, 3, 2]) = 1 := by kernel_rfl
  rw [e, if_pos (by decide)]

set_option maxRecDepth 100000 in
theorem game14 {m : Mem} : CallsS Try.prog 19 ([] : List Value).toArray [] m fun r σ' m' => σ' = [] ∧ ∃ B, r = (g14 B).val ∧ (g14 B).In m' := by
  refine CallsS.ghost (R' := fun r σ' m' => ∃ B, r = (g14 B).val ∧ (g14 B).In m') ?_ ?h2
  case h2 =>
    rintro r σ' m' hr g0 W hC
    exact ⟨_, m', hC.sublist (List.nil_sublist _), Le.refl _, rfl, hr⟩
  refine enter Try.func19 Try.ntmps19 rfl rfl ?_
  refine SWP_seq ?_
  refine SWP_region ?_
  refine al rfl rfl (fun B0 => ?_)
  refine SL_nil ?_
  refine nx ?_
  refine SWP_seq ?_
  refine SWP_region ?_
  refine pu (v := .agg (Tier.enc ⟨3, 0, 0, 0, 1, 1⟩).toArray) (by kernel_rfl) rfl ?_
  refine bs (cs := (g14T).flatMap Tier.enc) rfl rfl rfl (by kernel_rfl) rfl (fun B2 => ?_)
  refine SL_freeze (fun m2 hl2 hat2 => ?_)
  refine pu (v := (g14 B2).val) (by kernel_rfl) rfl ?_
  refine swE B0 0 (g14 B2).enc (v := (g14 B2).val) rfl rfl rfl rfl (by kernel_rfl) (by kernel_rfl) (by kernel_rfl) (by kernel_rfl) ?_
  refine SL_nil ?_
  refine nx ?_
  refine SWP_ret ?_
  refine fin [_] ⟨⟨_, _, rfl, Rd.of_cells (MemO.mem (B := B0)), rfl⟩, trivial⟩ ?_
  exact ⟨B2, by kernel_rfl, ⟨RL.nil _ _, fun a h => (by cases h), RL.of_at Tier.enc_len g14T rfl rfl hat2⟩⟩

set_option maxRecDepth 100000 in
set_option maxHeartbeats 800000 in
theorem lives28 {m : Mem} : PureCall Try.prog 10 [] m (.bool true) := by
  refine CallsS.pure ?_
  refine enter Try.func10 Try.ntmps10 rfl rfl ?_
  refine SWP_seq ?_
  refine SWP_region ?_
  refine pB rfl rfl ?_
  refine SL_nil ?_
  refine nx ?_
  refine SWP_seq ?_
  refine SWP_region ?_
  refine SL_call rfl rfl cb19 (game14) rfl (fun v1_0 σ1_0 m1_0 hl1_0 hR1_0 => ?_)
  obtain ⟨rfl, BG, rfl, hinG⟩ := hR1_0
  refine al rfl rfl (fun B1 => ?_)
  refine swE B1 0 (g14 BG).enc (v := (g14 BG).val) rfl rfl rfl rfl (by kernel_rfl) (by kernel_rfl) (by kernel_rfl) (by kernel_rfl) ?_
  refine SL_nil ?_
  refine nx ?_
  refine SWP_seq ?_
  refine SWP_region ?_
  refine lw (v := .agg _) B1 0 rfl rfl rfl rfl ?_
  refine SL_call rfl rfl cb11 (CallsS.frame0 (drawI (g := g14 BG) hinG 9)) rfl (fun v2_1 σ2_1 m2_1 hl2_1 hR2_1 => ?_)
  obtain ⟨σa, rfl, rfl, x, rfl, hx, ox⟩ := hR2_1
  rw [g14_draw] at ox
  rw [g14_draw]
  dsimp only [Res.val]
  refine pu rfl rfl ?_
  first | refine pA rfl rfl ?_ | refine pu rfl rfl ?_
  first | refine pI rfl rfl ?_ | refine pu rfl rfl ?_
  refine al rfl rfl (fun B2 => ?_)
  refine swE B2 0 x.enc (v := x.val) rfl rfl rfl rfl rfl rfl rfl rfl ?_
  first | refine pI rfl rfl ?_ | refine pu rfl rfl ?_
  refine SL_nil ?_
  refine nx ?_
  refine SWP_seq ?_
  refine SWP_region ?_
  refine bs (cs := (([1, 2, 3] : List Int)).flatMap intE) rfl rfl rfl (by kernel_rfl) rfl (fun B11 => ?_)
  refine SL_freeze (fun m11 hl11 hat11 => ?_)
  refine pu (v := (g14R B11 [1, 2, 3]).val) rfl rfl ?_
  refine al rfl rfl (fun B4 => ?_)
  refine swE B4 0 (g14R B11 [1, 2, 3]).enc (v := (g14R B11 [1, 2, 3]).val) rfl rfl rfl rfl rfl rfl rfl rfl ?_
  refine SL_nil ?_
  refine nx ?_
  refine SWP_seq ?_
  refine SWP_region ?_
  first | refine pI rfl rfl ?_ | refine pu rfl rfl ?_
  refine pt rfl rfl (rfl) ?_
  refine pB rfl rfl ?_
  refine SL_yes rfl ?_
  refine lw (v := .agg _) B2 0 rfl rfl rfl rfl ?_
  refine SL_yes rfl ?_
  refine lw (v := .agg _) B4 0 rfl rfl rfl rfl ?_
  refine SL_yes rfl ?_
  refine SL_pcall rfl rfl cb13 (sameF (a := x) (b := g14R B11 [1, 2, 3]) (hx.mono hl11) ⟨RL.of_at intE_len [1, 2, 3] rfl rfl hat11, RL.nil _ _, RL.nil _ _⟩) rfl ?_
  rw [decide_eq_true (show sameR x (g14R B11 [1, 2, 3]) from ⟨ox.mn, ox.bn, ox.xn, ox.fc, ox.sr⟩)]
  refine pB rfl rfl ?_
  refine pB rfl rfl ?_
  refine SL_yes rfl ?_
  refine lw (v := .agg _) B1 0 rfl rfl rfl rfl ?_
  refine SL_yes rfl ?_
  refine lw (v := .agg _) B4 0 rfl rfl rfl rfl ?_
  refine SL_yes rfl ?_
  refine SL_pcall rfl rfl cb14 (resI (g := g14 BG) (r := g14R B11 [1, 2, 3]) (hinG.mono (hl2_1.trans hl11)) ⟨RL.of_at intE_len [1, 2, 3] rfl rfl hat11, RL.nil _ _, RL.nil _ _⟩ (show (ByteArray.mk #[]).size ≤ 9223372036854775807 by decide)) rfl ?_
  rw [g14_yes]
  refine SL_yes rfl ?_
  refine pt rfl rfl (rfl) ?_
  refine pB rfl rfl ?_
  refine pB rfl rfl ?_
  refine SL_yes rfl ?_
  refine lw (v := .agg _) B1 0 rfl rfl rfl rfl ?_
  refine SL_yes rfl ?_
  refine bs (cs := (([1, 3, 2] : List Int)).flatMap intE) rfl rfl rfl (by kernel_rfl) rfl (fun B28 => ?_)
  refine SL_freeze (fun m28 hl28 hat28 => ?_)
  refine SL_yes rfl ?_
  refine pu (v := (g14R B28 [1, 3, 2]).val) rfl rfl ?_
  refine SL_yes rfl ?_
  refine SL_pcall rfl rfl cb14 (resI (g := g14 BG) (r := g14R B28 [1, 3, 2]) (hinG.mono (hl2_1.trans (hl11.trans hl28))) ⟨RL.of_at intE_len [1, 3, 2] rfl rfl hat28, RL.nil _ _, RL.nil _ _⟩ (show (ByteArray.mk #[]).size ≤ 9223372036854775807 by decide)) rfl ?_
  rw [g14_no]
  refine SL_yes rfl ?_
  refine pt rfl rfl (rfl) ?_
  refine pB rfl rfl ?_
  refine pB rfl rfl ?_
  refine SL_nil ?_
  refine nx ?_
  refine SWP_ret ?_
  refine fin [_] ⟨rfl, trivial⟩ ?_
  rfl

set_option maxRecDepth 100000 in
theorem lawDrumTells {m : Mem} {g : Game} (hin : g.In m) (s : Int) : CallsS Try.prog 3 [g.val, .int .u64 s].toArray [] m fun r _ _ => r = .bool true := by
  dsimp only [Game.val]
  refine enter Try.func3 Try.ntmps3 rfl rfl ?_
  refine SWP_seq ?_
  refine SWP_region ?_
  refine bx (v := .agg _) rfl rfl (fun B2 => ?_)
  refine pB rfl rfl ?_
  refine SL_nil ?_
  refine nx ?_
  refine SWP_seq ?_
  refine SWP_seq ?_
  refine SWP_region ?_
  refine lw (v := .agg _) B2 0 rfl rfl rfl rfl ?_
  refine SL_call rfl rfl cb9 (CallsS.forget (fewG hin)) rfl (fun v1_1 σ1_1 m1_1 hl1_1 hR1_1 => ?_)
  obtain ⟨rfl, hm1_1, b, rfl⟩ := hR1_1
  have hn1_1 := hm1_1.symm
  subst hn1_1
  refine bsp 10 rfl (fun b10 => ?_) (fun b10 => ?_)
  · skip
    refine pB rfl rfl ?_
    refine SL_nil ?_
    refine nx ?_
    refine SWP_cf rfl ?_
    refine SWP_skip ?_
    refine nx ?_
    refine SWP_seq ?_
    refine SWP_region ?_
    refine lw (v := .agg _) B2 0 rfl rfl rfl rfl ?_
    first | refine pI rfl rfl ?_ | refine pu rfl rfl ?_
    refine SL_call rfl rfl cb11 (CallsS.frame0 (drawI hin s)) rfl (fun v3_2 σ3_2 m3_2 hl3_2 hR3_2 => ?_)
    obtain ⟨σx, rfl, rfl, x, rfl, hx, ox⟩ := hR3_2
    dsimp only [Res.val]
    refine pu rfl rfl ?_
    first | refine pA rfl rfl ?_ | refine pu rfl rfl ?_
    first | refine pI rfl rfl ?_ | refine pu rfl rfl ?_
    refine al rfl rfl (fun B5 => ?_)
    refine swE B5 0 x.enc (v := x.val) rfl rfl rfl rfl rfl rfl rfl rfl ?_
    first | refine pI rfl rfl ?_ | refine pu rfl rfl ?_
    refine SL_nil ?_
    refine nx ?_
    refine SWP_seq ?_
    refine SWP_region ?_
    refine lw (v := .agg _) B2 0 rfl rfl rfl rfl ?_
    first | refine pI rfl rfl ?_ | refine pu rfl rfl ?_
    refine SL_call rfl rfl cb12 (CallsS.frame0 (drawX (hin.mono hl3_2) s)) rfl (fun v4_2 σ4_2 m4_2 hl4_2 hR4_2 => ?_)
    obtain ⟨σy, rfl, rfl, y, rfl, hy, oy⟩ := hR4_2
    dsimp only [Res.val]
    refine pu rfl rfl ?_
    first | refine pA rfl rfl ?_ | refine pu rfl rfl ?_
    first | refine pI rfl rfl ?_ | refine pu rfl rfl ?_
    refine al rfl rfl (fun B7 => ?_)
    refine swE B7 0 y.enc (v := y.val) rfl rfl rfl rfl rfl rfl rfl rfl ?_
    first | refine pI rfl rfl ?_ | refine pu rfl rfl ?_
    refine SL_nil ?_
    refine nx ?_
    refine SWP_seq ?_
    refine SWP_region ?_
    first | refine pI rfl rfl ?_ | refine pu rfl rfl ?_
    first | refine pI rfl rfl ?_ | refine pu rfl rfl ?_
    refine pt rfl rfl (rfl) ?_
    refine pB rfl rfl ?_
    refine SL_yes rfl ?_
    refine lw (v := .agg _) B5 0 rfl rfl rfl rfl ?_
    refine SL_yes rfl ?_
    refine lw (v := .agg _) B7 0 rfl rfl rfl rfl ?_
    refine SL_yes rfl ?_
    refine SL_pcall rfl rfl cb13 (sameF (a := x) (b := y) (hx.mono hl4_2) hy) rfl ?_
    rw [decide_eq_true (ox.same oy)]
    refine pB rfl rfl ?_
    refine pB rfl rfl ?_
    refine SL_yes rfl ?_
    refine SL_pcall rfl rfl cb10 (lives28) rfl ?_
    refine pB rfl rfl ?_
    refine pB rfl rfl ?_
    refine SL_nil ?_
    refine nx ?_
    refine SWP_ret ?_
    refine fin [_] ⟨rfl, trivial⟩ ?_
    rfl
  refine pB rfl rfl ?_
  refine SL_nil ?_
  refine nx ?_
  refine SWP_ct rfl ?_
  refine SWP_seq ?_
  refine SWP_region ?_
  refine SL_pcall rfl rfl cb10 (lives28) rfl ?_
  first | refine pB rfl rfl ?_ | refine pu rfl rfl ?_
  refine SL_nil ?_
  refine nx ?_
  refine SWP_ret ?_
  refine nr ?_
  refine fin [_] ⟨rfl, trivial⟩ ?_
  rfl

set_option maxRecDepth 100000 in
theorem lawDrumChecks {m : Mem} {g : Game} {r : Res} (hin : g.In m) (hr : r.In m) (hs : r.serial.size ≤ 9223372036854775807) : CallsS Try.prog 4 [g.val, r.val].toArray [] m fun r _ _ => r = .bool true := by
  dsimp only [Game.val, Res.val]
  refine enter Try.func4 Try.ntmps4 rfl rfl ?_
  refine SWP_seq ?_
  refine SWP_region ?_
  refine bx (v := .agg _) rfl rfl (fun B2 => ?_)
  refine bx (v := .agg _) rfl rfl (fun B3 => ?_)
  refine pB rfl rfl ?_
  refine SL_nil ?_
  refine nx ?_
  refine SWP_seq ?_
  refine SWP_seq ?_
  refine SWP_region ?_
  refine lw (v := .agg _) B2 0 rfl rfl rfl rfl ?_
  refine SL_call rfl rfl cb9 (CallsS.forget (fewG hin)) rfl (fun v1_1 σ1_1 m1_1 hl1_1 hR1_1 => ?_)
  obtain ⟨rfl, hm1_1, b, rfl⟩ := hR1_1
  have hn1_1 := hm1_1.symm
  subst hn1_1
  refine bsp 6 rfl (fun b6 => ?_) (fun b6 => ?_)
  · skip
    refine pB rfl rfl ?_
    refine pB rfl rfl ?_
    refine SL_yes rfl ?_
    refine pu rfl rfl ?_
    refine SL_yes rfl ?_
    refine lw (v := .slice _ _ _) B3 0 rfl rfl rfl rfl ?_
    refine SL_yes rfl ?_
    refine pu rfl rfl ?_
    refine SL_yes rfl ?_
    refine pc rfl rfl (fun c12 => ?_) (fun c12 => ?_)
    · skip
      refine pB rfl rfl ?_
      refine pB rfl rfl ?_
      refine SL_no rfl rfl ?_
      refine SL_no rfl rfl ?_
      refine SL_no rfl rfl ?_
      refine SL_no rfl rfl ?_
      refine pB rfl rfl ?_
      refine pB rfl rfl ?_
      refine SL_no rfl rfl ?_
      refine SL_no rfl rfl ?_
      refine SL_no rfl rfl ?_
      refine SL_no rfl rfl ?_
      refine pB rfl rfl ?_
      refine pB rfl rfl ?_
      refine SL_no rfl rfl ?_
      refine SL_no rfl rfl ?_
      refine SL_no rfl rfl ?_
      refine SL_no rfl rfl ?_
      refine pB rfl rfl ?_
      refine SL_nil ?_
      refine nx ?_
      refine SWP_ct rfl ?_
      refine SWP_seq ?_
      refine SWP_region ?_
      refine SL_pcall rfl rfl cb10 (lives28) rfl ?_
      first | refine pB rfl rfl ?_ | refine pu rfl rfl ?_
      refine SL_nil ?_
      refine nx ?_
      refine SWP_ret ?_
      refine nr ?_
      refine fin [_] ⟨rfl, trivial⟩ ?_
      rfl
    refine pB rfl rfl ?_
    refine pB rfl rfl ?_
    refine SL_yes rfl ?_
    refine pu rfl rfl ?_
    refine SL_yes rfl ?_
    refine lw (v := .slice _ _ _) B3 1 rfl rfl rfl rfl ?_
    refine SL_yes rfl ?_
    refine pu rfl rfl ?_
    refine SL_yes rfl ?_
    refine pc rfl rfl (fun c18 => ?_) (fun c18 => ?_)
    · skip
      refine pB rfl rfl ?_
      refine pB rfl rfl ?_
      refine SL_no rfl rfl ?_
      refine SL_no rfl rfl ?_
      refine SL_no rfl rfl ?_
      refine SL_no rfl rfl ?_
      refine pB rfl rfl ?_
      refine pB rfl rfl ?_
      refine SL_no rfl rfl ?_
      refine SL_no rfl rfl ?_
      refine SL_no rfl rfl ?_
      refine SL_no rfl rfl ?_
      refine pB rfl rfl ?_
      refine SL_nil ?_
      refine nx ?_
      refine SWP_ct rfl ?_
      refine SWP_seq ?_
      refine SWP_region ?_
      refine SL_pcall rfl rfl cb10 (lives28) rfl ?_
      first | refine pB rfl rfl ?_ | refine pu rfl rfl ?_
      refine SL_nil ?_
      refine nx ?_
      refine SWP_ret ?_
      refine nr ?_
      refine fin [_] ⟨rfl, trivial⟩ ?_
      rfl
    refine pB rfl rfl ?_
    refine pB rfl rfl ?_
    refine SL_yes rfl ?_
    refine pu rfl rfl ?_
    refine SL_yes rfl ?_
    refine lw (v := .slice _ _ _) B3 2 rfl rfl rfl rfl ?_
    refine SL_yes rfl ?_
    refine pu rfl rfl ?_
    refine SL_yes rfl ?_
    refine pc rfl rfl (fun c24 => ?_) (fun c24 => ?_)
    · skip
      refine pB rfl rfl ?_
      refine pB rfl rfl ?_
      refine SL_no rfl rfl ?_
      refine SL_no rfl rfl ?_
      refine SL_no rfl rfl ?_
      refine SL_no rfl rfl ?_
      refine pB rfl rfl ?_
      refine SL_nil ?_
      refine nx ?_
      refine SWP_ct rfl ?_
      refine SWP_seq ?_
      refine SWP_region ?_
      refine SL_pcall rfl rfl cb10 (lives28) rfl ?_
      first | refine pB rfl rfl ?_ | refine pu rfl rfl ?_
      refine SL_nil ?_
      refine nx ?_
      refine SWP_ret ?_
      refine nr ?_
      refine fin [_] ⟨rfl, trivial⟩ ?_
      rfl
    refine pB rfl rfl ?_
    refine pB rfl rfl ?_
    refine SL_yes rfl ?_
    refine pu rfl rfl ?_
    refine SL_yes rfl ?_
    refine lw (v := .string _) B3 4 rfl rfl rfl rfl ?_
    refine SL_yes rfl ?_
    refine pu rfl rfl ?_
    refine SL_yes rfl ?_
    refine pc rfl rfl (fun c30 => ?_) (fun c30 => ?_)
    · skip
      refine pB rfl rfl ?_
      refine SL_nil ?_
      refine nx ?_
      refine SWP_ct rfl ?_
      refine SWP_seq ?_
      refine SWP_region ?_
      refine SL_pcall rfl rfl cb10 (lives28) rfl ?_
      first | refine pB rfl rfl ?_ | refine pu rfl rfl ?_
      refine SL_nil ?_
      refine nx ?_
      refine SWP_ret ?_
      refine nr ?_
      refine fin [_] ⟨rfl, trivial⟩ ?_
      rfl
    refine pB rfl rfl ?_
    refine SL_nil ?_
    refine nx ?_
    refine SWP_cf rfl ?_
    refine SWP_skip ?_
    refine nx ?_
    refine SWP_seq ?_
    refine SWP_draws (by kernel_rfl) (by kernel_rfl) ?_
    refine lw (v := .agg _) B2 0 rfl rfl rfl rfl ?_
    refine lw (v := .agg _) B3 0 rfl rfl rfl rfl ?_
    refine SL_pcall rfl rfl cb14 (resI hin hr hs) rfl ?_
    refine lw (v := .agg _) B2 0 rfl rfl rfl rfl ?_
    refine lw (v := .agg _) B3 0 rfl rfl rfl rfl ?_
    refine SL_pcall rfl rfl cb15 (resR hin hr hs) rfl ?_
    refine pt rfl rfl (rfl) ?_
    refine pB rfl rfl ?_
    refine SL_yes rfl ?_
    refine SL_pcall rfl rfl cb10 (lives28) rfl ?_
    refine pB rfl rfl ?_
    refine pB rfl rfl ?_
    refine SL_nil ?_
    refine nx ?_
    refine SWP_ret ?_
    refine fin [_] ⟨rfl, trivial⟩ ?_
    rfl
  refine pB rfl rfl ?_
  refine pB rfl rfl ?_
  refine SL_no rfl rfl ?_
  refine SL_no rfl rfl ?_
  refine SL_no rfl rfl ?_
  refine SL_no rfl rfl ?_
  refine pB rfl rfl ?_
  refine pB rfl rfl ?_
  refine SL_no rfl rfl ?_
  refine SL_no rfl rfl ?_
  refine SL_no rfl rfl ?_
  refine SL_no rfl rfl ?_
  refine pB rfl rfl ?_
  refine pB rfl rfl ?_
  refine SL_no rfl rfl ?_
  refine SL_no rfl rfl ?_
  refine SL_no rfl rfl ?_
  refine SL_no rfl rfl ?_
  refine pB rfl rfl ?_
  refine pB rfl rfl ?_
  refine SL_no rfl rfl ?_
  refine SL_no rfl rfl ?_
  refine SL_no rfl rfl ?_
  refine SL_no rfl rfl ?_
  refine pB rfl rfl ?_
  refine SL_nil ?_
  refine nx ?_
  refine SWP_ct rfl ?_
  refine SWP_seq ?_
  refine SWP_region ?_
  refine SL_pcall rfl rfl cb10 (lives28) rfl ?_
  first | refine pB rfl rfl ?_ | refine pu rfl rfl ?_
  refine SL_nil ?_
  refine nx ?_
  refine SWP_ret ?_
  refine nr ?_
  refine fin [_] ⟨rfl, trivial⟩ ?_
  rfl

set_option maxRecDepth 100000 in
theorem lawDrumDraws {m : Mem} {g : Game} (hin : g.In m) (s : Int) : CallsS Try.prog 5 [g.val, .int .u64 s].toArray [] m fun r _ _ => r = .bool true := by
  dsimp only [Game.val]
  refine enter Try.func5 Try.ntmps5 rfl rfl ?_
  refine SWP_seq ?_
  refine SWP_region ?_
  refine bx (v := .agg _) rfl rfl (fun B2 => ?_)
  refine pB rfl rfl ?_
  refine SL_nil ?_
  refine nx ?_
  refine SWP_seq ?_
  refine SWP_seq ?_
  refine SWP_region ?_
  refine lw (v := .agg _) B2 0 rfl rfl rfl rfl ?_
  refine SL_call rfl rfl cb9 (CallsS.forget (fewG hin)) rfl (fun v1_1 σ1_1 m1_1 hl1_1 hR1_1 => ?_)
  obtain ⟨rfl, hm1_1, b, rfl⟩ := hR1_1
  have hn1_1 := hm1_1.symm
  subst hn1_1
  refine bsp 10 rfl (fun b10 => ?_) (fun b10 => ?_)
  · skip
    refine pB rfl rfl ?_
    refine SL_nil ?_
    refine nx ?_
    refine SWP_cf rfl ?_
    refine SWP_skip ?_
    refine nx ?_
    refine SWP_seq ?_
    refine SWP_region ?_
    refine lw (v := .agg _) B2 0 rfl rfl rfl rfl ?_
    first | refine pI rfl rfl ?_ | refine pu rfl rfl ?_
    refine SL_call rfl rfl cb11 (CallsS.frame0 (drawI hin s)) rfl (fun v3_2 σ3_2 m3_2 hl3_2 hR3_2 => ?_)
    obtain ⟨σx, rfl, rfl, x, rfl, hx, ox⟩ := hR3_2
    dsimp only [Res.val]
    refine pu rfl rfl ?_
    first | refine pA rfl rfl ?_ | refine pu rfl rfl ?_
    first | refine pI rfl rfl ?_ | refine pu rfl rfl ?_
    refine al rfl rfl (fun B5 => ?_)
    refine swE B5 0 x.enc (v := x.val) rfl rfl rfl rfl rfl rfl rfl rfl ?_
    first | refine pI rfl rfl ?_ | refine pu rfl rfl ?_
    refine SL_nil ?_
    refine nx ?_
    refine SWP_seq ?_
    refine SWP_region ?_
    refine lw (v := .agg _) B2 0 rfl rfl rfl rfl ?_
    first | refine pI rfl rfl ?_ | refine pu rfl rfl ?_
    refine SL_call rfl rfl cb11 (CallsS.frame0 (drawI (hin.mono hl3_2) s)) rfl (fun v4_2 σ4_2 m4_2 hl4_2 hR4_2 => ?_)
    obtain ⟨σy, rfl, rfl, y, rfl, hy, oy⟩ := hR4_2
    dsimp only [Res.val]
    refine pu rfl rfl ?_
    first | refine pA rfl rfl ?_ | refine pu rfl rfl ?_
    first | refine pI rfl rfl ?_ | refine pu rfl rfl ?_
    refine al rfl rfl (fun B7 => ?_)
    refine swE B7 0 y.enc (v := y.val) rfl rfl rfl rfl rfl rfl rfl rfl ?_
    first | refine pI rfl rfl ?_ | refine pu rfl rfl ?_
    refine SL_nil ?_
    refine nx ?_
    refine SWP_seq ?_
    refine SWP_seq ?_
    refine SWP_region ?_
    first | refine pI rfl rfl ?_ | refine pu rfl rfl ?_
    first | refine pI rfl rfl ?_ | refine pu rfl rfl ?_
    refine pn rfl rfl (fun hh => hh rfl) ?_
    refine pB rfl rfl ?_
    refine SL_yes rfl ?_
    refine lw (v := .agg _) B5 0 rfl rfl rfl rfl ?_
    refine SL_yes rfl ?_
    refine lw (v := .agg _) B7 0 rfl rfl rfl rfl ?_
    refine SL_yes rfl ?_
    refine SL_pcall rfl rfl cb13 (sameF (a := x) (b := y) (hx.mono hl4_2) hy) rfl ?_
    rw [decide_eq_true (ox.same oy)]
    refine SL_yes rfl ?_
    refine pB rfl rfl ?_
    refine pB rfl rfl ?_
    refine SL_nil ?_
    refine nx ?_
    refine SWP_cf rfl ?_
    refine SWP_skip ?_
    refine nx ?_
    refine SWP_seq ?_
    refine SWP_seq ?_
    refine SWP_region ?_
    first | refine pI rfl rfl ?_ | refine pu rfl rfl ?_
    refine pc rfl rfl (fun c35 => ?_) (fun c35 => ?_)
    · skip
      refine SL_nil ?_
      refine nx ?_
      refine SWP_ct rfl ?_
      refine SWP_seq ?_
      refine SWP_region ?_
      refine SL_pcall rfl rfl cb10 (lives28) rfl ?_
      first | refine pB rfl rfl ?_ | refine pu rfl rfl ?_
      refine SL_nil ?_
      refine nx ?_
      refine SWP_ret ?_
      refine nr ?_
      refine fin [_] ⟨rfl, trivial⟩ ?_
      rfl
    refine SL_nil ?_
    refine nx ?_
    refine SWP_cf rfl ?_
    refine SWP_skip ?_
    refine nx ?_
    refine SWP_seq ?_
    refine SWP_seq ?_
    have hz : (drawF g s).1 = 0 := Classical.not_not.1 (by assumption)
    have hok := drawn_ok hz ox
    refine SWP_region ?_
    refine pu rfl rfl ?_
    refine lw (v := .int .i64 _) B5 3 rfl rfl rfl rfl ?_
    refine pn rfl rfl (fun hh => hh ox.fc) ?_
    refine pB rfl rfl ?_
    refine SL_yes rfl ?_
    refine pu rfl rfl ?_
    refine SL_yes rfl ?_
    refine lw (v := .string _) B5 4 rfl rfl rfl rfl ?_
    refine SL_yes rfl ?_
    refine pn rfl rfl (fun hh => hh ox.sr) ?_
    refine pB rfl rfl ?_
    refine pB rfl rfl ?_
    refine SL_yes rfl ?_
    refine lw (v := .agg _) B2 0 rfl rfl rfl rfl ?_
    refine SL_yes rfl ?_
    refine lw (v := .agg _) B5 0 rfl rfl rfl rfl ?_
    refine SL_yes rfl ?_
    refine SL_pcall rfl rfl cb14 (resI (g := g) (r := x) (hin.mono (hl3_2.trans hl4_2)) (hx.mono hl4_2) (by rw [ox.sr]; decide)) rfl ?_
    rw [resErr_of hok]
    refine SL_yes rfl ?_
    refine pn rfl rfl (fun hh => hh rfl) ?_
    refine pB rfl rfl ?_
    refine SL_nil ?_
    refine nx ?_
    refine SWP_cf rfl ?_
    refine SWP_skip ?_
    refine nx ?_
    refine SWP_seq ?_
    refine SWP_region ?_
    refine pu rfl rfl ?_
    refine lw (v := .slice _ _ _) B5 0 rfl rfl rfl rfl ?_
    refine pu rfl rfl ?_
    refine pu rfl rfl ?_
    refine lw (v := .int .i64 _) B2 3 rfl rfl rfl rfl ?_
    refine pt rfl rfl (hok.nu.ml) ?_
    refine pB rfl rfl ?_
    refine SL_yes rfl ?_
    refine pu rfl rfl ?_
    refine SL_yes rfl ?_
    refine lw (v := .slice _ _ _) B5 1 rfl rfl rfl rfl ?_
    refine SL_yes rfl ?_
    refine pu rfl rfl ?_
    refine SL_yes rfl ?_
    refine pu rfl rfl ?_
    refine SL_yes rfl ?_
    refine lw (v := .int .i64 _) B2 5 rfl rfl rfl rfl ?_
    refine SL_yes rfl ?_
    refine pt rfl rfl (hok.nu.bl) ?_
    refine pB rfl rfl ?_
    refine pB rfl rfl ?_
    refine SL_yes rfl ?_
    refine pu rfl rfl ?_
    refine SL_yes rfl ?_
    refine lw (v := .slice _ _ _) B5 2 rfl rfl rfl rfl ?_
    refine SL_yes rfl ?_
    refine pu rfl rfl ?_
    refine SL_yes rfl ?_
    refine pu rfl rfl ?_
    refine SL_yes rfl ?_
    refine lw (v := .int .i64 _) B2 7 rfl rfl rfl rfl ?_
    refine SL_yes rfl ?_
    refine pt rfl rfl (hok.nu.xl) ?_
    refine pB rfl rfl ?_
    refine pB rfl rfl ?_
    refine SL_yes rfl ?_
    refine SL_pcall rfl rfl cb10 (lives28) rfl ?_
    refine pB rfl rfl ?_
    refine pB rfl rfl ?_
    refine SL_nil ?_
    refine nx ?_
    refine SWP_ret ?_
    refine fin [_] ⟨rfl, trivial⟩ ?_
    rfl
  refine pB rfl rfl ?_
  refine SL_nil ?_
  refine nx ?_
  refine SWP_ct rfl ?_
  refine SWP_seq ?_
  refine SWP_region ?_
  refine SL_pcall rfl rfl cb10 (lives28) rfl ?_
  first | refine pB rfl rfl ?_ | refine pu rfl rfl ?_
  refine SL_nil ?_
  refine nx ?_
  refine SWP_ret ?_
  refine nr ?_
  refine fin [_] ⟨rfl, trivial⟩ ?_
  rfl

def mx1 (g h : Game) : Game := { h with kind := g.kind }
def mx2 (g h : Game) : Game := { mx1 g h with main := g.main }
def mx3 (g h : Game) : Game := { mx2 g h with of := g.of }
def mx4 (g h : Game) : Game := { mx3 g h with bonus := g.bonus }
def mx5 (g h : Game) : Game := { mx4 g h with bonusOf := g.bonusOf }
def mixG6 (g h : Game) : Game := { mx5 g h with extra := g.extra }
def lessX (g : Game) (e : Int) : Game := { g with extra := e }
theorem lessX_of {g : Game} {e : Int} (he : e = IntKind.i64.wrap (g.extra - 1)) (h : GameOk g) : lessX g e = { g with extra := g.extra - 1 } := by
  unfold lessX
  have h1 := h.mx.h10
  have h2 := h.mx.h11
  have h3 := h.mx.h12
  rw [he, w64 (by omega) (by omega)]

set_option maxRecDepth 100000 in
theorem lawDrumIgnores {m : Mem} {g h : Game} (hin : g.In m) (hih : h.In m) (s : Int) : CallsS Try.prog 6 [g.val, h.val, .int .u64 s].toArray [] m fun r _ _ => r = .bool true := by
  dsimp only [Game.val]
  have hi2 : (mixG6 g h).In m := ⟨hih.ads, hih.each, hih.trs⟩
  refine enter Try.func6 Try.ntmps6 rfl rfl ?_
  refine SWP_seq ?_
  refine SWP_region ?_
  refine bx (v := .agg _) rfl rfl (fun B3 => ?_)
  refine bx (v := .agg _) rfl rfl (fun B4 => ?_)
  refine pB rfl rfl ?_
  refine SL_nil ?_
  refine nx ?_
  refine SWP_seq ?_
  refine SWP_seq ?_
  refine SWP_region ?_
  refine lw (v := .agg _) B3 0 rfl rfl rfl rfl ?_
  refine SL_call rfl rfl cb9 (CallsS.forget (fewG hin)) rfl (fun v1_1 σ1_1 m1_1 hl1_1 hR1_1 => ?_)
  obtain ⟨rfl, hm1_1, b, rfl⟩ := hR1_1
  have hn1_1 := hm1_1.symm
  subst hn1_1
  refine bsp 16 rfl (fun b16 => ?_) (fun b16 => ?_)
  · skip
    refine pB rfl rfl ?_
    refine pB rfl rfl ?_
    refine SL_yes rfl ?_
    refine lw (v := .agg _) B4 0 rfl rfl rfl rfl ?_
    refine SL_yes rfl ?_
    refine SL_call rfl rfl cb9 (CallsS.forget (fewG hih)) rfl (fun v1_5 σ1_5 m1_5 hl1_5 hR1_5 => ?_)
    obtain ⟨rfl, hm1_5, b, rfl⟩ := hR1_5
    have hn1_5 := hm1_5.symm
    subst hn1_5
    refine bsp 20 rfl (fun b20 => ?_) (fun b20 => ?_)
    · skip
      refine SL_yes rfl ?_
      refine pB rfl rfl ?_
      refine pB rfl rfl ?_
      refine SL_nil ?_
      refine nx ?_
      refine SWP_cf rfl ?_
      refine SWP_skip ?_
      refine nx ?_
      refine SWP_seq ?_
      refine SWP_drawn [(B3, Cells 25 g.enc)] [0, 1, 2, 3, 4, 5, 6, 7, 8, 9, 10, 11, 12, 13, 14, 15, 16, 17, 18, 19, 20, 21, 22, 23] (by kernel_rfl) (by kernel_rfl) (by repeat (first | exact Sub.refl _ | exact Sub.nil _ | refine Sub.cons2 _ ?_ | refine Sub.cons _ ?_)) ?_
      refine pu rfl rfl ?_
      refine lw (v := .int .i64 _) B3 1 rfl rfl rfl rfl ?_
      refine pu rfl rfl ?_
      refine lw (v := .int .i64 _) B3 3 rfl rfl rfl rfl ?_
      refine pu rfl rfl ?_
      refine lw (v := .int .i64 _) B3 4 rfl rfl rfl rfl ?_
      refine pu rfl rfl ?_
      refine lw (v := .int .i64 _) B3 5 rfl rfl rfl rfl ?_
      refine pu rfl rfl ?_
      refine lw (v := .int .i64 _) B3 6 rfl rfl rfl rfl ?_
      refine pu rfl rfl ?_
      refine lw (v := .int .i64 _) B3 7 rfl rfl rfl rfl ?_
      refine pu rfl rfl ?_
      refine swE B4 1 (mx1 g h).enc (v := .int .i64 _) rfl rfl rfl rfl rfl rfl rfl rfl ?_
      refine pu rfl rfl ?_
      refine swE B4 3 (mx2 g h).enc (v := .int .i64 _) rfl rfl rfl rfl rfl rfl rfl rfl ?_
      refine pu rfl rfl ?_
      refine swE B4 4 (mx3 g h).enc (v := .int .i64 _) rfl rfl rfl rfl rfl rfl rfl rfl ?_
      refine pu rfl rfl ?_
      refine swE B4 5 (mx4 g h).enc (v := .int .i64 _) rfl rfl rfl rfl rfl rfl rfl rfl ?_
      refine pu rfl rfl ?_
      refine swE B4 6 (mx5 g h).enc (v := .int .i64 _) rfl rfl rfl rfl rfl rfl rfl rfl ?_
      refine pu rfl rfl ?_
      refine swE B4 7 (mixG6 g h).enc (v := .int .i64 _) rfl rfl rfl rfl rfl rfl rfl rfl ?_
      refine SL_nil ?_
      refine nx ?_
      refine SWP_seq ?_
      refine SWP_region ?_
      refine lw (v := .agg _) B3 0 rfl rfl rfl rfl ?_
      refine SL_call rfl rfl cb16 (CallsS.frame0 (checkR hin)) rfl (fun v4_1 σ4_1 m4_1 hl4_1 hR4_1 => ?_)
      obtain ⟨σc, rfl, rfl, hm4_1, s0, rfl⟩ := hR4_1
      have hn4_1 := hm4_1.symm
      subst hn4_1
      refine pu rfl rfl ?_
      first | refine pI rfl rfl ?_ | refine pu rfl rfl ?_
      first | refine pS rfl rfl ?_ | refine pu rfl rfl ?_
      first | refine pI rfl rfl ?_ | refine pu rfl rfl ?_
      first | refine pS rfl rfl ?_ | refine pu rfl rfl ?_
      refine SL_nil ?_
      refine nx ?_
      refine SWP_seq ?_
      refine SWP_region ?_
      refine lw (v := .agg _) B4 0 rfl rfl rfl rfl ?_
      refine SL_call rfl rfl cb16 (CallsS.frame0 (checkR hi2)) rfl (fun v5_1 σ5_1 m5_1 hl5_1 hR5_1 => ?_)
      obtain ⟨σc, rfl, rfl, hm5_1, s1, rfl⟩ := hR5_1
      have hn5_1 := hm5_1.symm
      subst hn5_1
      refine pu rfl rfl ?_
      first | refine pI rfl rfl ?_ | refine pu rfl rfl ?_
      first | refine pS rfl rfl ?_ | refine pu rfl rfl ?_
      first | refine pI rfl rfl ?_ | refine pu rfl rfl ?_
      first | refine pS rfl rfl ?_ | refine pu rfl rfl ?_
      refine SL_nil ?_
      refine nx ?_
      refine SWP_seq ?_
      refine SWP_seq ?_
      refine SWP_region ?_
      first | refine pI rfl rfl ?_ | refine pu rfl rfl ?_
      refine pc rfl rfl (fun c53 => ?_) (fun c53 => ?_)
      · skip
        refine pB rfl rfl ?_
        refine SL_no rfl rfl ?_
        refine SL_no rfl rfl ?_
        refine pB rfl rfl ?_
        refine SL_nil ?_
        refine nx ?_
        refine SWP_ct rfl ?_
        refine SWP_seq ?_
        refine SWP_region ?_
        refine SL_pcall rfl rfl cb10 (lives28) rfl ?_
        first | refine pB rfl rfl ?_ | refine pu rfl rfl ?_
        refine SL_nil ?_
        refine nx ?_
        refine SWP_ret ?_
        refine nr ?_
        refine fin [_] ⟨rfl, trivial⟩ ?_
        rfl
      refine pB rfl rfl ?_
      refine SL_yes rfl ?_
      first | refine pI rfl rfl ?_ | refine pu rfl rfl ?_
      refine SL_yes rfl ?_
      refine pc rfl rfl (fun c56 => ?_) (fun c56 => ?_)
      · skip
        refine pB rfl rfl ?_
        refine SL_nil ?_
        refine nx ?_
        refine SWP_ct rfl ?_
        refine SWP_seq ?_
        refine SWP_region ?_
        refine SL_pcall rfl rfl cb10 (lives28) rfl ?_
        first | refine pB rfl rfl ?_ | refine pu rfl rfl ?_
        refine SL_nil ?_
        refine nx ?_
        refine SWP_ret ?_
        refine nr ?_
        refine fin [_] ⟨rfl, trivial⟩ ?_
        rfl
      refine pB rfl rfl ?_
      refine SL_nil ?_
      refine nx ?_
      refine SWP_cf rfl ?_
      refine SWP_skip ?_
      refine nx ?_
      refine SWP_seq ?_
      have hsm : drawF (mixG6 g h) s = drawF g s := drawF_same (by first | assumption | exact Classical.not_not.1 (by assumption)) (Classical.not_not.1 (by assumption)) rfl rfl rfl rfl rfl rfl
      refine SWP_region ?_
      refine lw (v := .agg _) B3 0 rfl rfl rfl rfl ?_
      first | refine pI rfl rfl ?_ | refine pu rfl rfl ?_
      refine SL_call rfl rfl cb11 (CallsS.frame0 (drawI hin s)) rfl (fun v8_2 σ8_2 m8_2 hl8_2 hR8_2 => ?_)
      obtain ⟨σx, rfl, rfl, x, rfl, hx, ox⟩ := hR8_2
      dsimp only [Res.val]
      refine pu rfl rfl ?_
      first | refine pA rfl rfl ?_ | refine pu rfl rfl ?_
      first | refine pI rfl rfl ?_ | refine pu rfl rfl ?_
      refine al rfl rfl (fun B11 => ?_)
      refine swE B11 0 x.enc (v := x.val) rfl rfl rfl rfl rfl rfl rfl rfl ?_
      first | refine pI rfl rfl ?_ | refine pu rfl rfl ?_
      refine SL_nil ?_
      refine nx ?_
      refine SWP_seq ?_
      refine SWP_region ?_
      refine lw (v := .agg _) B4 0 rfl rfl rfl rfl ?_
      first | refine pI rfl rfl ?_ | refine pu rfl rfl ?_
      refine SL_call rfl rfl cb11 (CallsS.frame0 (drawI (hi2.mono hl8_2) s)) rfl (fun v9_2 σ9_2 m9_2 hl9_2 hR9_2 => ?_)
      obtain ⟨σy, rfl, rfl, y, rfl, hy, oy⟩ := hR9_2
      rw [hsm] at oy
      rw [hsm]
      dsimp only [Res.val]
      refine pu rfl rfl ?_
      first | refine pA rfl rfl ?_ | refine pu rfl rfl ?_
      first | refine pI rfl rfl ?_ | refine pu rfl rfl ?_
      refine al rfl rfl (fun B13 => ?_)
      refine swE B13 0 y.enc (v := y.val) rfl rfl rfl rfl rfl rfl rfl rfl ?_
      first | refine pI rfl rfl ?_ | refine pu rfl rfl ?_
      refine SL_nil ?_
      refine nx ?_
      refine SWP_seq ?_
      refine SWP_region ?_
      first | refine pI rfl rfl ?_ | refine pu rfl rfl ?_
      first | refine pI rfl rfl ?_ | refine pu rfl rfl ?_
      refine pt rfl rfl (rfl) ?_
      refine pB rfl rfl ?_
      refine SL_yes rfl ?_
      refine lw (v := .agg _) B11 0 rfl rfl rfl rfl ?_
      refine SL_yes rfl ?_
      refine lw (v := .agg _) B13 0 rfl rfl rfl rfl ?_
      refine SL_yes rfl ?_
      refine SL_pcall rfl rfl cb13 (sameF (a := x) (b := y) (hx.mono hl9_2) hy) rfl ?_
      rw [decide_eq_true (ox.same oy)]
      refine pB rfl rfl ?_
      refine pB rfl rfl ?_
      refine SL_yes rfl ?_
      refine SL_pcall rfl rfl cb10 (lives28) rfl ?_
      refine pB rfl rfl ?_
      refine pB rfl rfl ?_
      refine SL_nil ?_
      refine nx ?_
      refine SWP_ret ?_
      refine fin [_] ⟨rfl, trivial⟩ ?_
      rfl
    refine SL_yes rfl ?_
    refine pB rfl rfl ?_
    refine pB rfl rfl ?_
    refine SL_nil ?_
    refine nx ?_
    refine SWP_ct rfl ?_
    refine SWP_seq ?_
    refine SWP_region ?_
    refine SL_pcall rfl rfl cb10 (lives28) rfl ?_
    first | refine pB rfl rfl ?_ | refine pu rfl rfl ?_
    refine SL_nil ?_
    refine nx ?_
    refine SWP_ret ?_
    refine nr ?_
    refine fin [_] ⟨rfl, trivial⟩ ?_
    rfl
  refine pB rfl rfl ?_
  refine pB rfl rfl ?_
  refine SL_no rfl rfl ?_
  refine SL_no rfl rfl ?_
  refine SL_no rfl rfl ?_
  refine pB rfl rfl ?_
  refine SL_nil ?_
  refine nx ?_
  refine SWP_ct rfl ?_
  refine SWP_seq ?_
  refine SWP_region ?_
  refine SL_pcall rfl rfl cb10 (lives28) rfl ?_
  first | refine pB rfl rfl ?_ | refine pu rfl rfl ?_
  refine SL_nil ?_
  refine nx ?_
  refine SWP_ret ?_
  refine nr ?_
  refine fin [_] ⟨rfl, trivial⟩ ?_
  rfl

set_option maxRecDepth 100000 in
theorem lawDrumExtras {m : Mem} {g : Game} (hin : g.In m) (s : Int) : CallsS Try.prog 7 [g.val, .int .u64 s].toArray [] m fun r _ _ => r = .bool true := by
  dsimp only [Game.val]
  obtain ⟨e0, he0⟩ : ∃ e0, e0 = IntKind.i64.wrap (g.extra - 1) := ⟨_, rfl⟩
  have hi2 : (lessX g e0).In m := ⟨hin.ads, hin.each, hin.trs⟩
  refine enter Try.func7 Try.ntmps7 rfl rfl ?_
  refine SWP_seq ?_
  refine SWP_region ?_
  refine bx (v := .agg _) rfl rfl (fun B2 => ?_)
  refine pB rfl rfl ?_
  refine SL_nil ?_
  refine nx ?_
  refine SWP_seq ?_
  refine SWP_seq ?_
  refine SWP_region ?_
  refine lw (v := .agg _) B2 0 rfl rfl rfl rfl ?_
  refine SL_call rfl rfl cb9 (CallsS.forget (fewG hin)) rfl (fun v1_1 σ1_1 m1_1 hl1_1 hR1_1 => ?_)
  obtain ⟨rfl, hm1_1, b, rfl⟩ := hR1_1
  have hn1_1 := hm1_1.symm
  subst hn1_1
  refine bsp 13 rfl (fun b13 => ?_) (fun b13 => ?_)
  · skip
    refine pB rfl rfl ?_
    refine pB rfl rfl ?_
    refine SL_yes rfl ?_
    refine pu rfl rfl ?_
    refine SL_yes rfl ?_
    refine lw (v := .int .i64 _) B2 7 rfl rfl rfl rfl ?_
    refine SL_yes rfl ?_
    refine pc rfl rfl (fun c18 => ?_) (fun c18 => ?_)
    · skip
      refine pB rfl rfl ?_
      refine SL_nil ?_
      refine nx ?_
      refine SWP_ct rfl ?_
      refine SWP_seq ?_
      refine SWP_region ?_
      refine SL_pcall rfl rfl cb10 (lives28) rfl ?_
      first | refine pB rfl rfl ?_ | refine pu rfl rfl ?_
      refine SL_nil ?_
      refine nx ?_
      refine SWP_ret ?_
      refine nr ?_
      refine fin [_] ⟨rfl, trivial⟩ ?_
      rfl
    refine pB rfl rfl ?_
    refine SL_nil ?_
    refine nx ?_
    refine SWP_cf rfl ?_
    refine SWP_skip ?_
    refine nx ?_
    refine SWP_seq ?_
    refine SWP_region ?_
    refine lw (v := .agg _) B2 0 rfl rfl rfl rfl ?_
    refine al rfl rfl (fun B5 => ?_)
    refine swE B5 0 g.enc (v := g.val) rfl rfl rfl rfl (by kernel_rfl) (by kernel_rfl) (by kernel_rfl) (by kernel_rfl) ?_
    refine SL_nil ?_
    refine nx ?_
    refine SWP_seq ?_
    refine SWP_region ?_
    refine pu rfl rfl ?_
    refine lw (v := .int .i64 _) B2 7 rfl rfl rfl rfl ?_
    refine pu (v := .int .i64 (IntKind.i64.wrap (g.extra - 1))) rfl rfl ?_
    rw [← he0]
    refine pu rfl rfl ?_
    refine swE B5 7 (lessX g e0).enc (v := .int .i64 _) rfl rfl rfl rfl rfl rfl rfl rfl ?_
    refine SL_nil ?_
    refine nx ?_
    refine SWP_seq ?_
    refine SWP_region ?_
    refine lw (v := .agg _) B2 0 rfl rfl rfl rfl ?_
    first | refine pI rfl rfl ?_ | refine pu rfl rfl ?_
    refine SL_call rfl rfl cb11 (CallsS.frame0 (drawI hin s)) rfl (fun v5_2 σ5_2 m5_2 hl5_2 hR5_2 => ?_)
    obtain ⟨σx, rfl, rfl, x, rfl, hx, ox⟩ := hR5_2
    dsimp only [Res.val]
    refine pu rfl rfl ?_
    first | refine pA rfl rfl ?_ | refine pu rfl rfl ?_
    first | refine pI rfl rfl ?_ | refine pu rfl rfl ?_
    refine al rfl rfl (fun B6 => ?_)
    refine swE B6 0 x.enc (v := x.val) rfl rfl rfl rfl rfl rfl rfl rfl ?_
    first | refine pI rfl rfl ?_ | refine pu rfl rfl ?_
    refine SL_nil ?_
    refine nx ?_
    refine SWP_seq ?_
    refine SWP_region ?_
    refine lw (v := .agg _) B5 0 rfl rfl rfl rfl ?_
    first | refine pI rfl rfl ?_ | refine pu rfl rfl ?_
    refine SL_call rfl rfl cb11 (CallsS.frame0 (drawI (hi2.mono hl5_2) s)) rfl (fun v6_2 σ6_2 m6_2 hl6_2 hR6_2 => ?_)
    obtain ⟨σy, rfl, rfl, y, rfl, hy, oy⟩ := hR6_2
    dsimp only [Res.val]
    refine pu rfl rfl ?_
    first | refine pA rfl rfl ?_ | refine pu rfl rfl ?_
    first | refine pI rfl rfl ?_ | refine pu rfl rfl ?_
    refine al rfl rfl (fun B8 => ?_)
    refine swE B8 0 y.enc (v := y.val) rfl rfl rfl rfl rfl rfl rfl rfl ?_
    first | refine pI rfl rfl ?_ | refine pu rfl rfl ?_
    refine SL_nil ?_
    refine nx ?_
    refine SWP_seq ?_
    refine SWP_seq ?_
    refine SWP_region ?_
    first | refine pI rfl rfl ?_ | refine pu rfl rfl ?_
    refine pc rfl rfl (fun c39 => ?_) (fun c39 => ?_)
    · skip
      refine pB rfl rfl ?_
      refine SL_no rfl rfl ?_
      refine SL_no rfl rfl ?_
      refine pB rfl rfl ?_
      refine SL_nil ?_
      refine nx ?_
      refine SWP_ct rfl ?_
      refine SWP_seq ?_
      refine SWP_region ?_
      refine SL_pcall rfl rfl cb10 (lives28) rfl ?_
      first | refine pB rfl rfl ?_ | refine pu rfl rfl ?_
      refine SL_nil ?_
      refine nx ?_
      refine SWP_ret ?_
      refine nr ?_
      refine fin [_] ⟨rfl, trivial⟩ ?_
      rfl
    refine pB rfl rfl ?_
    refine SL_yes rfl ?_
    first | refine pI rfl rfl ?_ | refine pu rfl rfl ?_
    refine SL_yes rfl ?_
    refine pc rfl rfl (fun c42 => ?_) (fun c42 => ?_)
    · skip
      refine pB rfl rfl ?_
      refine SL_nil ?_
      refine nx ?_
      refine SWP_ct rfl ?_
      refine SWP_seq ?_
      refine SWP_region ?_
      refine SL_pcall rfl rfl cb10 (lives28) rfl ?_
      first | refine pB rfl rfl ?_ | refine pu rfl rfl ?_
      refine SL_nil ?_
      refine nx ?_
      refine SWP_ret ?_
      refine nr ?_
      refine fin [_] ⟨rfl, trivial⟩ ?_
      rfl
    refine pB rfl rfl ?_
    refine SL_nil ?_
    refine nx ?_
    refine SWP_cf rfl ?_
    refine SWP_skip ?_
    refine nx ?_
    refine SWP_seq ?_
    refine SWP_seq ?_
    have hza : (drawF g s).1 = 0 := by first | assumption | exact Classical.not_not.1 (by assumption)
    obtain ⟨hl1, hl2, hl3⟩ := extras_less (lessX_of he0 (drawF_zero hza).1) (by omega) hza (by first | assumption | exact Classical.not_not.1 (by assumption))
    have hl4 := hl3
    rw [← ox.xn, ← oy.xn] at hl4
    have hsm := (hx.xn).small
    have hsm2 := hy.xn.small
    refine SWP_region ?_
    refine pu rfl rfl ?_
    refine lw (v := .slice _ _ _) B8 2 rfl rfl rfl rfl ?_
    refine pu rfl rfl ?_
    first | refine pI rfl rfl ?_ | refine pu rfl rfl ?_
    refine SL_nil ?_
    refine nx ?_
    refine SWP_block ?_
    refine SWP_loop [4, 11, 48, 49, 50, 51, 52, 53, 54, 55, 56, 57] [48]
        (fun vs σ' m' => ∃ (i : Nat), vs = [.int .i64 (i : Nat)] ∧ i ≤ y.extra.length ∧ σ' = [(B8, Cells 31 y.enc), (B6, Cells 31 x.enc), (B5, Cells 25 (lessX g e0).enc), (B2, Cells 25 g.enc)] ∧ m6_2 = m')
        (fun vs => y.extra.length - nOf (vs.getD 0 undef)) rfl ?_ ?_
    · exact ⟨0, rfl, by omega, rfl, rfl⟩
    intro u0 vs0 σ0 m0 hJ0 _
    obtain ⟨i, rfl, hi, rfl, rfl⟩ := hJ0
    refine SWP_seq ?_
    refine SWP_region ?_
    refine pc rfl rfl (fun c49 => ?_) (fun c49 => ?_)
    · skip
      refine SL_nil ?_
      refine nx ?_
      refine SWP_seq ?_
      refine SWP_ct rfl ?_
      refine SWP_skip ?_
      refine nx ?_
      refine SWP_seq ?_
      refine SWP_block ?_
      refine SWP_seq ?_
      refine SWP_region ?_
      obtain ⟨z, hz⟩ : ∃ z, y.extra[i]? = some z := ⟨_, List.getElem?_eq_getElem (by omega)⟩
      obtain ⟨ad, e0, _, hat⟩ := hy.xn.atI hz
      refine ia (es := 1) (ad := ad) rfl rfl rfl (Nat.mul_one _) (by show Value.slice y.ea _ _ = _; rw [e0]) rfl (by omega) rfl ?_
      refine ldA (v := .int .i64 z) rfl hat rfl rfl ?_
      first | refine pI rfl rfl ?_ | refine pu rfl rfl ?_
      refine SL_nil ?_
      refine nx ?_
      refine SWP_seq ?_
      refine SWP_region ?_
      refine pu rfl rfl ?_
      refine lw (v := .slice _ _ _) B6 2 rfl rfl rfl rfl ?_
      first | refine pI rfl rfl ?_ | refine pu rfl rfl ?_
      refine SL_pcall rfl rfl cb17 (hasR (hx.mono hl6_2).xn z) rfl ?_
      rw [decide_eq_true (show z ∈ x.extra by rw [ox.xn]; exact hl2 z (by rw [← oy.xn]; exact List.mem_of_getElem? hz))]
      refine pB rfl rfl ?_
      refine SL_nil ?_
      refine nx ?_
      refine SWP_cf rfl ?_
      refine SWP_skip ?_
      refine nb ?_
      refine nx ?_
      refine SWP_region ?_
      first | refine pw rfl rfl (w64 (by omega) (by omega)) ?_ | refine pu rfl rfl ?_
      refine pI rfl rfl ?_
      refine SL_nil ?_
      refine nx ?_
      refine ⟨by repeat (first | exact Under.upds rfl (Under.hav _ _ _) | exact Under.hav _ _ _ | refine Under.upd rfl ?_), ?_, ?_⟩
      · exact ⟨i + 1, rfl, by omega, rfl, rfl⟩
      · simp only [L_vals, List.map, List.getD]; show y.extra.length - (i + 1) < y.extra.length - i; omega
    refine SL_nil ?_
    refine nx ?_
    refine SWP_seq ?_
    refine SWP_cf rfl ?_
    refine SWP_exit ?_
    refine ne ?_
    refine ne ?_
    refine be rfl ?_
    refine nx ?_
    refine SWP_seq ?_
    refine SWP_region ?_
    refine pu rfl rfl ?_
    refine lw (v := .slice _ _ _) B6 0 rfl rfl rfl rfl ?_
    refine pu rfl rfl ?_
    refine lw (v := .slice _ _ _) B8 0 rfl rfl rfl rfl ?_
    refine SL_pcall rfl rfl cb18 (intsR (hx.mono hl6_2).mn hy.mn) rfl ?_
    rw [decide_eq_true (show x.main = y.main by rw [ox.mn, oy.mn]; exact hl1)]
    first | refine pB rfl rfl ?_ | refine pu rfl rfl ?_
    refine SL_yes rfl ?_
    refine pu rfl rfl ?_
    refine SL_yes rfl ?_
    refine lw (v := .slice _ _ _) B8 2 rfl rfl rfl rfl ?_
    refine SL_yes rfl ?_
    refine pu rfl rfl ?_
    refine SL_yes rfl ?_
    refine pu rfl rfl ?_
    refine SL_yes rfl ?_
    refine lw (v := .slice _ _ _) B6 2 rfl rfl rfl rfl ?_
    refine SL_yes rfl ?_
    refine pu rfl rfl ?_
    refine SL_yes rfl ?_
    refine pw rfl rfl (w64 (by omega) (by omega)) ?_
    refine SL_yes rfl ?_
    refine pt rfl rfl (hl4) ?_
    refine pB rfl rfl ?_
    refine pB rfl rfl ?_
    refine SL_yes rfl ?_
    refine SL_pcall rfl rfl cb10 (lives28) rfl ?_
    refine pB rfl rfl ?_
    refine pB rfl rfl ?_
    refine SL_nil ?_
    refine nx ?_
    refine SWP_ret ?_
    refine fin [_] ⟨rfl, trivial⟩ ?_
    rfl
  refine pB rfl rfl ?_
  refine pB rfl rfl ?_
  refine SL_no rfl rfl ?_
  refine SL_no rfl rfl ?_
  refine SL_no rfl rfl ?_
  refine pB rfl rfl ?_
  refine SL_nil ?_
  refine nx ?_
  refine SWP_ct rfl ?_
  refine SWP_seq ?_
  refine SWP_region ?_
  refine SL_pcall rfl rfl cb10 (lives28) rfl ?_
  first | refine pB rfl rfl ?_ | refine pu rfl rfl ?_
  refine SL_nil ?_
  refine nx ?_
  refine SWP_ret ?_
  refine nr ?_
  refine fin [_] ⟨rfl, trivial⟩ ?_
  rfl

end Go.Proofs.Ytkopdlglenejmaa

