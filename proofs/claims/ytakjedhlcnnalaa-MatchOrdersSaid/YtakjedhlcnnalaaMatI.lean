/- lotterylaw32: its game, the example of hits, MatchHits. -/
import Derived.Test.YtakjedhlcnnalaaMatH
namespace Go.Proofs.Ytakjedhlcnnalaa
open Eng

def plT : List Tier := [⟨3, 0, 0, 0, 1, 0⟩, ⟨2, 0, 0, 0, 1, 0⟩]
def plG (B : Nat) : Game := ⟨⟨#[97]⟩, 1, 1, 3, 20, 0, 0, 1, 1, 3, 1, 0, 0, 0, 1, 0, 0, 1, 0, 0, none, 0, [], some ⟨B, 0, none⟩, 2, plT⟩
theorem plG_ok (B : Nat) : GameOk (plG B) := by
  refine ⟨by kernel_rfl, .inl rfl, ⟨?_, ?_, ?_, ?_, ?_, ?_, ?_, ?_, ?_, ?_, ?_, ?_, ?_, ?_, ?_, ?_⟩, ⟨?_, ?_, ?_, ?_, ?_, ?_, ?_, ?_, ?_, ?_⟩, by kernel_rfl, by kernel_rfl⟩ <;> exact of_decide_eq_true (by kernel_rfl)
def pl3 (B : Nat) (l : List Int) : Line := ⟨some ⟨B, 0, none⟩, 3, l, none, 0, []⟩
def plR (B Bb : Nat) : Res := ⟨some ⟨B, 0, none⟩, 3, [7, 9, 11], none, 0, [], some ⟨Bb, 0, none⟩, 1, [3], 0, ⟨#[]⟩⟩
theorem plL_ok (B Bb : Nat) : LineOk (plG B) (pl3 Bb [3, 7, 9]) := ⟨gameErr_of (plG_ok B), rfl, rfl, of_decide_eq_true (by kernel_rfl), of_decide_eq_true (by kernel_rfl), fun _ => of_decide_eq_true (by kernel_rfl), of_decide_eq_true (by kernel_rfl)⟩
theorem plR_ok (B Bb Bc : Nat) : ResOk (plG B) (plR Bb Bc) := ⟨gameErr_of (plG_ok B), ⟨rfl, rfl, rfl, fun h => absurd h (by show ¬ (1 : Int) = 2; decide), fun _ => of_decide_eq_true (by kernel_rfl), fun _ => of_decide_eq_true (by kernel_rfl), fun _ => of_decide_eq_true (by kernel_rfl), fun _ => of_decide_eq_true (by kernel_rfl)⟩, by kernel_rfl⟩
theorem pl_hits (B Bb Bc Bd : Nat) : hitR (plG B) (pl3 Bb [3, 7, 9]) (plR Bc Bd) = .tuple #[.int .i64 2, .int .i64 0, .int .i64 1, .int .i64 0] := by
  unfold hitR
  rw [if_neg (by rw [chkErr_of (plL_ok B Bb) (plR_ok B Bc Bd)]; decide)]
  have e : hitV (plG B) (pl3 Bb [3, 7, 9]) (plR Bc Bd) = (2, 0, 1) := by kernel_rfl
  rw [e]; rfl
def emp1 : ByteArray := ⟨#[]⟩

set_option maxRecDepth 100000 in
theorem plainL {m : Mem} : CallsS Try.prog 28 ([] : List Value).toArray [] m fun r σ' m' => σ' = [] ∧ ∃ B, r = (plG B).val ∧ (plG B).In m' := by
  refine CallsS.ghost (R' := fun r σ' m' => ∃ B, r = (plG B).val ∧ (plG B).In m') ?_ ?h2
  case h2 =>
    rintro r σ' m' hr g0 W hC
    exact ⟨_, m', hC.sublist (List.nil_sublist _), Le.refl _, rfl, hr⟩
  refine enter Try.func28 Try.ntmps28 rfl rfl ?_
  refine SWP_seq ?_
  refine SWP_region ?_
  refine al rfl rfl (fun B0 => ?_)
  refine SL_nil ?_
  refine nx ?_
  refine SWP_seq ?_
  refine SWP_region ?_
  refine pA rfl rfl ?_
  refine pA rfl rfl ?_
  refine bs (cs := (plT).flatMap Tier.enc) rfl rfl rfl (by kernel_rfl) rfl (fun B3 => ?_)
  refine SL_freeze (fun m3 hl3 hat3 => ?_)
  refine pu (v := (plG B3).val) (by kernel_rfl) rfl ?_
  refine stE (v := (plG B3).val) (cs' := (plG B3).enc) (off := 0) (σ₁ := []) rfl rfl rfl rfl rfl (by kernel_rfl) (by kernel_rfl) (by kernel_rfl) (by kernel_rfl) ?_
  refine SL_nil ?_
  refine nx ?_
  refine SWP_ret ?_
  refine fin [_] ⟨⟨_, _, rfl, Rd.of_cells (by first | exact .head _ | exact .tail _ (.head _) | exact .tail _ (.tail _ (.head _)) | simp), rfl⟩, trivial⟩ ?_
  exact ⟨B3, by kernel_rfl, ⟨RL.nil _ _, fun a h => (by cases h), RL.of_at Tier.enc_len plT rfl rfl hat3⟩⟩

set_option maxRecDepth 100000 in
theorem hitsL {m : Mem} : PureCall Try.prog 13 [] m (.bool true) := by
  refine CallsS.pure ?_
  refine enter Try.func13 Try.ntmps13 rfl rfl ?_
  refine SWP_seq ?_
  refine SWP_region ?_
  refine pB rfl rfl ?_
  refine SL_nil ?_
  refine nx ?_
  refine SWP_seq ?_
  refine SWP_region ?_
  refine SL_call rfl rfl cb28 (plainL) rfl (fun v1_0 σ1_0 m1_0 hl1_0 hR1_0 => ?_)
  obtain ⟨rfl, BG, rfl, hinG⟩ := hR1_0
  refine bs (cs := (([3, 7, 9] : List Int)).flatMap intE) rfl rfl rfl (by kernel_rfl) rfl (fun B7 => ?_)
  refine SL_freeze (fun m7 hl7 hat7 => ?_)
  refine pA rfl rfl ?_
  refine bs (cs := (([7, 9, 11] : List Int)).flatMap intE) rfl rfl rfl (by kernel_rfl) rfl (fun B9 => ?_)
  refine SL_freeze (fun m9 hl9 hat9 => ?_)
  refine bs (cs := (([3] : List Int)).flatMap intE) rfl rfl rfl (by kernel_rfl) rfl (fun B10 => ?_)
  refine SL_freeze (fun m10 hl10 hat10 => ?_)
  refine pA rfl rfl ?_
  refine SL_pcall rfl rfl cb11 (HitsI (g := plG BG) (l := pl3 B7 [3, 7, 9]) (r := plR B9 B10) (hinG.mono (hl7.trans (hl9.trans hl10))) ⟨(RL.of_at intE_len [3, 7, 9] rfl rfl hat7).mono (hl9.trans hl10), RL.nil _ _⟩ ⟨(RL.of_at intE_len [7, 9, 11] rfl rfl hat9).mono hl10, RL.nil _ _, RL.of_at intE_len [3] rfl rfl hat10⟩ (Nat.zero_le _)) rfl ?_
  rw [pl_hits]
  refine pu rfl rfl ?_
  first | refine pI rfl rfl ?_ | refine pu rfl rfl ?_
  first | refine pI rfl rfl ?_ | refine pu rfl rfl ?_
  first | refine pI rfl rfl ?_ | refine pu rfl rfl ?_
  first | refine pI rfl rfl ?_ | refine pu rfl rfl ?_
  first | refine pI rfl rfl ?_ | refine pu rfl rfl ?_
  first | refine pI rfl rfl ?_ | refine pu rfl rfl ?_
  first | refine pI rfl rfl ?_ | refine pu rfl rfl ?_
  first | refine pI rfl rfl ?_ | refine pu rfl rfl ?_
  refine SL_nil ?_
  refine nx ?_
  refine SWP_seq ?_
  refine SWP_region ?_
  first | refine pI rfl rfl ?_ | refine pu rfl rfl ?_
  refine pt rfl rfl (rfl) ?_
  refine pB rfl rfl ?_
  refine SL_yes rfl ?_
  first | refine pI rfl rfl ?_ | refine pu rfl rfl ?_
  refine SL_yes rfl ?_
  refine pt rfl rfl (rfl) ?_
  refine pB rfl rfl ?_
  refine pB rfl rfl ?_
  refine SL_yes rfl ?_
  first | refine pI rfl rfl ?_ | refine pu rfl rfl ?_
  refine SL_yes rfl ?_
  refine pt rfl rfl (rfl) ?_
  refine pB rfl rfl ?_
  refine pB rfl rfl ?_
  refine SL_yes rfl ?_
  first | refine pI rfl rfl ?_ | refine pu rfl rfl ?_
  refine SL_yes rfl ?_
  refine pt rfl rfl (rfl) ?_
  refine pB rfl rfl ?_
  refine pB rfl rfl ?_
  refine SL_nil ?_
  refine nx ?_
  refine SWP_ret ?_
  refine fin [_] ⟨rfl, trivial⟩ ?_
  rfl

theorem hitR_form (g : Game) (l : Line) (r : Res) : ∃ a b c e : Int, hitR g l r = .tuple #[.int .i64 a, .int .i64 b, .int .i64 c, .int .i64 e] := by
  unfold hitR
  split
  · exact ⟨_, _, _, _, rfl⟩
  · exact ⟨_, _, _, _, rfl⟩

set_option maxRecDepth 100000 in
theorem lawMatchHits {m : Mem} {g : Game} {l : Line} {r : Res} (hin : g.In m) (hl : l.In m) (hr : r.In m) (hs : r.serial.size ≤ 9223372036854775807) : CallsS Try.prog 4 [g.val, l.val, r.val].toArray [] m fun r _ _ => r = .bool true := by
  dsimp only [Game.val, Line.val, Res.val]
  obtain ⟨a, b, c, e, hRR⟩ := hitR_form g l r
  refine enter Try.func4 Try.ntmps4 rfl rfl ?_
  refine SWP_seq ?_
  refine SWP_region ?_
  refine bx (v := .agg _) rfl rfl (fun B3 => ?_)
  refine bx (v := .agg _) rfl rfl (fun B4 => ?_)
  refine bx (v := .agg _) rfl rfl (fun B5 => ?_)
  refine pB rfl rfl ?_
  refine SL_nil ?_
  refine nx ?_
  refine SWP_seq ?_
  refine SWP_region ?_
  refine lw (v := .agg _) B3 0 rfl rfl rfl rfl ?_
  refine lw (v := .agg _) B4 0 rfl rfl rfl rfl ?_
  refine lw (v := .agg _) B5 0 rfl rfl rfl rfl ?_
  refine SL_pcall rfl rfl cb11 (HitsI hin hl hr hs) rfl ?_
  rw [hRR]
  refine pu rfl rfl ?_
  first | refine pI rfl rfl ?_ | refine pu rfl rfl ?_
  first | refine pI rfl rfl ?_ | refine pu rfl rfl ?_
  first | refine pI rfl rfl ?_ | refine pu rfl rfl ?_
  first | refine pI rfl rfl ?_ | refine pu rfl rfl ?_
  first | refine pI rfl rfl ?_ | refine pu rfl rfl ?_
  first | refine pI rfl rfl ?_ | refine pu rfl rfl ?_
  first | refine pI rfl rfl ?_ | refine pu rfl rfl ?_
  first | refine pI rfl rfl ?_ | refine pu rfl rfl ?_
  refine SL_nil ?_
  refine nx ?_
  refine SWP_seq ?_
  refine SWP_region ?_
  refine lw (v := .agg _) B3 0 rfl rfl rfl rfl ?_
  refine lw (v := .agg _) B4 0 rfl rfl rfl rfl ?_
  refine lw (v := .agg _) B5 0 rfl rfl rfl rfl ?_
  refine SL_pcall rfl rfl cb12 (HitsR hin hl hr hs) rfl ?_
  rw [hRR]
  refine pu rfl rfl ?_
  first | refine pI rfl rfl ?_ | refine pu rfl rfl ?_
  first | refine pI rfl rfl ?_ | refine pu rfl rfl ?_
  first | refine pI rfl rfl ?_ | refine pu rfl rfl ?_
  first | refine pI rfl rfl ?_ | refine pu rfl rfl ?_
  first | refine pI rfl rfl ?_ | refine pu rfl rfl ?_
  first | refine pI rfl rfl ?_ | refine pu rfl rfl ?_
  first | refine pI rfl rfl ?_ | refine pu rfl rfl ?_
  first | refine pI rfl rfl ?_ | refine pu rfl rfl ?_
  refine SL_nil ?_
  refine nx ?_
  refine SWP_seq ?_
  refine SWP_region ?_
  first | refine pI rfl rfl ?_ | refine pu rfl rfl ?_
  first | refine pI rfl rfl ?_ | refine pu rfl rfl ?_
  refine pt rfl rfl (rfl) ?_
  refine pB rfl rfl ?_
  refine SL_yes rfl ?_
  first | refine pI rfl rfl ?_ | refine pu rfl rfl ?_
  refine SL_yes rfl ?_
  first | refine pI rfl rfl ?_ | refine pu rfl rfl ?_
  refine SL_yes rfl ?_
  refine pt rfl rfl (rfl) ?_
  refine pB rfl rfl ?_
  refine pB rfl rfl ?_
  refine SL_yes rfl ?_
  first | refine pI rfl rfl ?_ | refine pu rfl rfl ?_
  refine SL_yes rfl ?_
  first | refine pI rfl rfl ?_ | refine pu rfl rfl ?_
  refine SL_yes rfl ?_
  refine pt rfl rfl (rfl) ?_
  refine pB rfl rfl ?_
  refine pB rfl rfl ?_
  refine SL_yes rfl ?_
  first | refine pI rfl rfl ?_ | refine pu rfl rfl ?_
  refine SL_yes rfl ?_
  first | refine pI rfl rfl ?_ | refine pu rfl rfl ?_
  refine SL_yes rfl ?_
  refine pt rfl rfl (rfl) ?_
  refine pB rfl rfl ?_
  refine pB rfl rfl ?_
  refine SL_yes rfl ?_
  refine SL_pcall rfl rfl cb13 (hitsL) rfl ?_
  refine pB rfl rfl ?_
  refine pB rfl rfl ?_
  refine SL_nil ?_
  refine nx ?_
  refine SWP_ret ?_
  refine fin [_] ⟨rfl, trivial⟩ ?_
  rfl

end Go.Proofs.Ytakjedhlcnnalaa

