/- lotterylaw29: its game, its example, MechanicalReads. -/
import Derived.Test.YtnldelafemaigaaMecX
namespace Go.Proofs.Ytnldelafemaigaa
open Eng

theorem srt_of {X l : List Int} (hs : X.Pairwise (fun a b => a ≤ b)) (hp : X.Perm l) : l.mergeSort leI = X := by
  rw [← mergeSort_of_perm_i hp]
  exact List.mergeSort_of_pairwise (hs.imp fun {a b} hab => by simp only [leI, decide_eq_true_eq]; exact hab)
def p9T : List Tier := [⟨1, 0, 0, 0, 1, 0⟩]
def p9G (B : Nat) : Game := ⟨⟨#[97]⟩, 1, 1, 2, 5, 0, 0, 1, 1, 2, 1, 0, 0, 0, 1, 0, 0, 1, 0, 0, none, 0, [], some ⟨B, 0, none⟩, 1, p9T⟩
theorem p9G_ok (B : Nat) : GameOk (p9G B) := by
  refine ⟨by kernel_rfl, .inl rfl, ⟨?_, ?_, ?_, ?_, ?_, ?_, ?_, ?_, ?_, ?_, ?_, ?_, ?_, ?_, ?_, ?_⟩, ⟨?_, ?_, ?_, ?_, ?_, ?_, ?_, ?_, ?_, ?_⟩, by kernel_rfl, by kernel_rfl⟩ <;> exact of_decide_eq_true (by kernel_rfl)
def p9L : List Ball := [⟨1, 1, 4⟩, ⟨1, 3, 2⟩, ⟨1, 1, 1⟩]
theorem gameErr_of9 {g : Game} (h : GameOk g) : gameErr g = 0 := by
  unfold gameErr
  rw [if_neg (by rw [h.name]; exact Bool.noConfusion), if_neg (by have := h.kind; omega), okE_t ⟨h.mx, h.tm⟩, if_neg (by rw [h.ad]; decide)]
  exact h.tr
theorem p9E (B : Nat) : mechE (p9G B) p9L = 0 := by
  unfold mechE
  rw [if_neg (by rw [gameErr_of9 (p9G_ok B)]; decide)]
  kernel_rfl
theorem p9O (B : Nat) : mechO (p9G B) p9L = ([1, 4], [], [2]) := by
  unfold mechO
  rw [if_neg (by rw [p9E]; decide), if_pos (by rfl)]
  unfold srtO
  rw [show numsD 1 p9L = [4, 1] from rfl, show numsD 2 p9L = [] from rfl, show numsD 3 p9L = [2] from rfl, srt_of (X := [1, 4]) (l := [4, 1]) (by decide) (by decide), srt_of (X := []) (l := []) (by decide) (by decide), srt_of (X := [2]) (l := [2]) (by decide) (by decide)]
def p9R (B Bb : Nat) : Res := ⟨some ⟨B, 0, none⟩, 2, [1, 4], none, 0, [], some ⟨Bb, 0, none⟩, 1, [2], 0, ⟨#[]⟩⟩
theorem p9same {x : Res} (h : OutIs x [1, 4] [] [2]) (B Bb : Nat) : sameR x (p9R B Bb) := h.same (y := p9R B Bb) ⟨rfl, rfl, rfl, rfl, rfl⟩

set_option maxRecDepth 100000 in
theorem plain9 {m : Mem} : CallsS Try.prog 22 ([] : List Value).toArray [] m fun r σ' m' => σ' = [] ∧ ∃ B, r = (p9G B).val ∧ (p9G B).In m' := by
  refine CallsS.ghost (R' := fun r σ' m' => ∃ B, r = (p9G B).val ∧ (p9G B).In m') ?_ ?h2
  case h2 =>
    rintro r σ' m' hr g0 W hC
    exact ⟨_, m', hC.sublist (List.nil_sublist _), Le.refl _, rfl, hr⟩
  refine enter Try.func22 Try.ntmps22 rfl rfl ?_
  refine SWP_seq ?_
  refine SWP_region ?_
  refine al rfl rfl (fun B0 => ?_)
  refine SL_nil ?_
  refine nx ?_
  refine SWP_seq ?_
  refine SWP_region ?_
  refine pA rfl rfl ?_
  refine bs (cs := (p9T).flatMap Tier.enc) rfl rfl rfl (by kernel_rfl) rfl (fun B2 => ?_)
  refine SL_freeze (fun m2 hl2 hat2 => ?_)
  refine pu (v := (p9G B2).val) (by kernel_rfl) rfl ?_
  refine swE B0 0 (p9G B2).enc (v := (p9G B2).val) rfl rfl rfl rfl (by kernel_rfl) (by kernel_rfl) (by kernel_rfl) (by kernel_rfl) ?_
  refine SL_nil ?_
  refine nx ?_
  refine SWP_ret ?_
  refine fin [_] ⟨⟨_, _, rfl, Rd.of_cells (MemO.mem (B := B0)), rfl⟩, trivial⟩ ?_
  exact ⟨B2, by kernel_rfl, ⟨RL.nil _ _, fun a h => (by cases h), RL.of_at Tier.enc_len p9T rfl rfl hat2⟩⟩

set_option maxRecDepth 100000 in
theorem lives9 {m : Mem} : PureCall Try.prog 15 [] m (.bool true) := by
  refine CallsS.pure ?_
  refine enter Try.func15 Try.ntmps15 rfl rfl ?_
  refine SWP_seq ?_
  refine SWP_region ?_
  refine pB rfl rfl ?_
  refine SL_nil ?_
  refine nx ?_
  refine SWP_seq ?_
  refine SWP_region ?_
  refine SL_call rfl rfl cb22 (plain9) rfl (fun v1_0 σ1_0 m1_0 hl1_0 hR1_0 => ?_)
  obtain ⟨rfl, BG, rfl, hinG⟩ := hR1_0
  refine pA rfl rfl ?_
  refine pA rfl rfl ?_
  refine pA rfl rfl ?_
  refine bs (cs := (p9L).flatMap Ball.enc) rfl rfl rfl (by kernel_rfl) rfl (fun B8 => ?_)
  refine SL_freeze (fun m8 hl8 hat8 => ?_)
  refine SL_call rfl rfl cb16 (resultI (g := p9G BG) (l := p9L) (hinG.mono hl8) (RL.of_at Ball.enc_len p9L rfl rfl hat8) (by decide)) rfl (fun v1_5 σ1_5 m1_5 hl1_5 hR1_5 => ?_)
  obtain ⟨rfl, x, rfl, hx, ox⟩ := hR1_5
  rw [p9E]
  rw [p9O] at ox
  dsimp only [Res.val]
  refine pu rfl rfl ?_
  first | refine pA rfl rfl ?_ | refine pu rfl rfl ?_
  first | refine pI rfl rfl ?_ | refine pu rfl rfl ?_
  refine al rfl rfl (fun B1 => ?_)
  refine sw (v := .agg _) B1 0 rfl rfl rfl rfl rfl rfl rfl ?_
  first | refine pI rfl rfl ?_ | refine pu rfl rfl ?_
  refine SL_nil ?_
  refine nx ?_
  refine SWP_seq ?_
  refine SWP_region ?_
  first | refine pI rfl rfl ?_ | refine pu rfl rfl ?_
  refine pt rfl rfl (rfl) ?_
  refine pB rfl rfl ?_
  refine SL_yes rfl ?_
  refine lw (v := .agg _) B1 0 rfl rfl rfl rfl ?_
  refine SL_yes rfl ?_
  refine bs (cs := (([1, 4] : List Int)).flatMap intE) rfl rfl rfl (by kernel_rfl) rfl (fun B16 => ?_)
  refine SL_freeze (fun m16 hl16 hat16 => ?_)
  refine SL_yes rfl ?_
  refine bs (cs := (([2] : List Int)).flatMap intE) rfl rfl rfl (by kernel_rfl) rfl (fun B17 => ?_)
  refine SL_freeze (fun m17 hl17 hat17 => ?_)
  refine SL_yes rfl ?_
  refine pA rfl rfl ?_
  refine SL_yes rfl ?_
  refine SL_pcall rfl rfl cb18 (sameF (a := x) (b := p9R B16 B17) (hx.mono (hl16.trans hl17)) ⟨(RL.of_at intE_len [1, 4] rfl rfl hat16).mono hl17, RL.nil _ _, RL.of_at intE_len [2] rfl rfl hat17⟩) rfl ?_
  rw [decide_eq_true (p9same ox B16 B17)]
  refine pB rfl rfl ?_
  refine pB rfl rfl ?_
  refine SL_nil ?_
  refine nx ?_
  refine SWP_ret ?_
  refine fin [_] ⟨rfl, trivial⟩ ?_
  rfl

set_option maxRecDepth 100000 in
theorem lawMechReads {m : Mem} {g : Game} {v : Value} {l : List Ball} (hin : g.In m) (h : RL m Ball.enc 3 v l) : CallsS Try.prog 5 [g.val, v].toArray [] m fun r _ _ => r = .bool true := by
  dsimp only [Game.val]
  obtain ⟨pa, pcap, rfl⟩ := h.len
  refine enter Try.func5 Try.ntmps5 rfl rfl ?_
  refine SWP_seq ?_
  refine SWP_region ?_
  refine bx (v := .agg _) rfl rfl (fun B2 => ?_)
  refine pB rfl rfl ?_
  refine SL_nil ?_
  refine nx ?_
  refine SWP_seq ?_
  refine SWP_seq ?_
  refine SWP_region ?_
  first | refine pL rfl rfl ?_ | refine pu rfl rfl ?_
  refine pu rfl rfl ?_
  refine pc rfl rfl (fun c11 => ?_) (fun c11 => ?_)
  · skip
    refine SL_nil ?_
    refine nx ?_
    refine SWP_ct rfl ?_
    refine SWP_seq ?_
    refine SWP_region ?_
    refine SL_pcall rfl rfl cb15 (lives9) rfl ?_
    first | refine pB rfl rfl ?_ | refine pu rfl rfl ?_
    refine SL_nil ?_
    refine nx ?_
    refine SWP_ret ?_
    refine nr ?_
    refine fin [_] ⟨rfl, trivial⟩ ?_
    rfl
  refine SL_nil ?_
  refine nx ?_
  refine SWP_cf rfl ?_
  refine SWP_skip ?_
  refine nx ?_
  refine SWP_seq ?_
  refine SWP_region ?_
  refine lw (v := .agg _) B2 0 rfl rfl rfl rfl ?_
  first | refine pL rfl rfl ?_ | refine pu rfl rfl ?_
  refine SL_call rfl rfl cb16 (CallsS.frame0 (resultI hin h (by omega))) rfl (fun v3_2 σ3_2 m3_2 hl3_2 hR3_2 => ?_)
  obtain ⟨σa, rfl, rfl, x, rfl, hx, ox⟩ := hR3_2
  dsimp only [Res.val]
  refine pu rfl rfl ?_
  first | refine pA rfl rfl ?_ | refine pu rfl rfl ?_
  first | refine pI rfl rfl ?_ | refine pu rfl rfl ?_
  refine al rfl rfl (fun B5 => ?_)
  refine sw (v := .agg _) B5 0 rfl rfl rfl rfl rfl rfl rfl ?_
  first | refine pI rfl rfl ?_ | refine pu rfl rfl ?_
  refine SL_nil ?_
  refine nx ?_
  refine SWP_seq ?_
  refine SWP_region ?_
  refine lw (v := .agg _) B2 0 rfl rfl rfl rfl ?_
  first | refine pL rfl rfl ?_ | refine pu rfl rfl ?_
  refine SL_call rfl rfl cb17 (CallsS.frame0 (resultR (hin.mono hl3_2) (h.mono hl3_2) (by omega))) rfl (fun v4_2 σ4_2 m4_2 hl4_2 hR4_2 => ?_)
  obtain ⟨σb, rfl, rfl, y, rfl, hy, oy⟩ := hR4_2
  dsimp only [Res.val]
  refine pu rfl rfl ?_
  first | refine pA rfl rfl ?_ | refine pu rfl rfl ?_
  first | refine pI rfl rfl ?_ | refine pu rfl rfl ?_
  refine al rfl rfl (fun B7 => ?_)
  refine sw (v := .agg _) B7 0 rfl rfl rfl rfl rfl rfl rfl ?_
  first | refine pI rfl rfl ?_ | refine pu rfl rfl ?_
  refine SL_nil ?_
  refine nx ?_
  refine SWP_seq ?_
  refine SWP_region ?_
  first | refine pI rfl rfl ?_ | refine pu rfl rfl ?_
  first | refine pI rfl rfl ?_ | refine pu rfl rfl ?_
  refine pt rfl rfl (rfl) ?_
  refine pB rfl rfl ?_
  refine SL_yes rfl ?_
  refine lw (v := .agg _) B5 0 rfl rfl rfl rfl ?_
  refine SL_yes rfl ?_
  refine lw (v := .agg _) B7 0 rfl rfl rfl rfl ?_
  refine SL_yes rfl ?_
  refine SL_pcall rfl rfl cb18 (sameF (a := x) (b := y) (hx.mono hl4_2) hy) rfl ?_
  rw [decide_eq_true (ox.same oy)]
  refine pB rfl rfl ?_
  refine pB rfl rfl ?_
  refine SL_yes rfl ?_
  refine SL_pcall rfl rfl cb15 (lives9) rfl ?_
  refine pB rfl rfl ?_
  refine pB rfl rfl ?_
  refine SL_nil ?_
  refine nx ?_
  refine SWP_ret ?_
  refine fin [_] ⟨rfl, trivial⟩ ?_
  rfl

end Go.Proofs.Ytnldelafemaigaa

