/- Results of balls: what they are; mechanical.check. -/
import Derived.Test.YtnpnleapnbdllaaGamL
namespace Go.Proofs.Ytnpnleapnbdllaa
open Eng

def Ball.val (b : Ball) : Value := .agg #[.int .i64 b.wit, .int .i64 b.drum, .int .i64 b.num]
/-- A ball that is in one of the drums; two balls that are the same. -/
def inB (g : Game) (b : Ball) : Prop := (g.kind = 2 ∧ b.drum = 1 ∧ 0 ≤ b.num ∧ b.num < g.of) ∨ (g.kind ≠ 2 ∧ (((b.drum = 1 ∨ b.drum = 3) ∧ 1 ≤ b.num ∧ b.num ≤ g.of) ∨ (b.drum = 2 ∧ 1 ≤ b.num ∧ b.num ≤ g.bonusOf)))
instance (g : Game) (b : Ball) : Decidable (inB g b) := by unfold inB; infer_instance
def repB (a b : Ball) : Prop := a.num = b.num ∧ (a.drum = 2 ↔ b.drum = 2)
instance (a b : Ball) : Decidable (repB a b) := by unfold repB; infer_instance
def numsD (d : Int) (l : List Ball) : List Int := (l.filter fun b => decide (b.drum = d)).map (·.num)
def cntD (d : Int) (l : List Ball) : Nat := (numsD d l).length
def mostD (g : Game) (d : Int) : Int := if d = 1 then g.main else if d = 2 then g.bonus else g.extra
def ballErr (g : Game) (pre : List Ball) (b : Ball) : Int :=
  if ¬ inB g b then 2 else if g.kind = 1 ∧ ∃ a ∈ pre, repB a b then 6 else if mostD g b.drum ≤ cntD b.drum pre then 3 else 0
def ballsFrom (g : Game) (pre : List Ball) : List Ball → Int
  | [] => 0
  | b :: l => if ballErr g pre b ≠ 0 then ballErr g pre b else ballsFrom g (pre ++ [b]) l
def fullB (g : Game) (l : List Ball) : Prop := (cntD 1 l : Int) = g.main ∧ (cntD 2 l : Int) = g.bonus ∧ (cntD 3 l : Int) = g.extra
instance (g : Game) (l : List Ball) : Decidable (fullB g l) := by unfold fullB; infer_instance
def ballsErr (g : Game) (l : List Ball) : Int := if ballsFrom g [] l ≠ 0 then ballsFrom g [] l else if fullB g l then 0 else 8
theorem numsD_snoc (d : Int) (l : List Ball) (b : Ball) : numsD d (l ++ [b]) = if b.drum = d then numsD d l ++ [b.num] else numsD d l := by
  unfold numsD
  rw [List.filter_append, List.map_append]
  by_cases h : b.drum = d <;> simp [h]
theorem cntD_snoc (d : Int) (l : List Ball) (b : Ball) : cntD d (l ++ [b]) = if b.drum = d then cntD d l + 1 else cntD d l := by
  unfold cntD
  rw [numsD_snoc]
  split <;> simp
theorem cntD_le (d : Int) (l : List Ball) : cntD d l ≤ l.length := by
  unfold cntD numsD
  rw [List.length_map]; exact List.length_filter_le _ _
theorem ballsFrom_at {g : Game} {pre l : List Ball} {i : Nat} {b : Ball} (h : l[i]? = some b) : ballsFrom g pre (l.drop i) = if ballErr g pre b ≠ 0 then ballErr g pre b else ballsFrom g (pre ++ [b]) (l.drop (i + 1)) := by
  have hk := List.getElem?_eq_some_iff.1 h
  rw [List.drop_eq_getElem_cons hk.1, hk.2]; rfl
theorem inB_drum {g : Game} {b : Ball} (h : inB g b) : b.drum = 1 ∨ b.drum = 2 ∨ b.drum = 3 := by unfold inB at h; omega
def fallI (l : List Ball) : List Int := [0, cntD 1 l, cntD 2 l, cntD 3 l]
def mostI (g : Game) : List Int := [0, g.main, g.bonus, g.extra]
theorem fallI_at (l : List Ball) {d : Int} (h : d = 1 ∨ d = 2 ∨ d = 3) : (intsV (fallI l))[d.toNat]? = some (.int .i64 (cntD d l : Nat)) := by
  rcases h with rfl | rfl | rfl <;> rfl
theorem mostI_at (g : Game) {d : Int} (h : d = 1 ∨ d = 2 ∨ d = 3) : (intsV (mostI g))[d.toNat]? = some (.int .i64 (mostD g d)) := by
  rcases h with rfl | rfl | rfl <;> rfl
theorem fallI_set (l : List Ball) (b : Ball) (h : b.drum = 1 ∨ b.drum = 2 ∨ b.drum = 3) : (intsV (fallI l)).set b.drum.toNat (.int .i64 ((cntD b.drum l : Nat) + 1)) = intsV (fallI (l ++ [b])) := by
  unfold fallI
  rw [cntD_snoc, cntD_snoc, cntD_snoc]
  rcases h with h | h | h <;> rw [h] <;> rfl
theorem fall_most (g : Game) (l : List Ball) : fallI l = mostI g ↔ fullB g l := by
  unfold fallI mostI fullB
  simp

set_option maxRecDepth 100000 in
theorem inDrumI {m : Mem} (g : Game) (b : Ball) : PureCall Try.prog 49 [g.val, b.val] m (.bool (decide (inB g b))) := by
  refine CallsS.pure ?_
  dsimp only [Game.val, Ball.val]
  refine enter Try.func49 Try.ntmps49 rfl rfl ?_
  refine SWP_seq ?_
  refine SWP_region ?_
  refine bx (v := .agg _) rfl rfl (fun B2 => ?_)
  refine bx (v := .agg _) rfl rfl (fun B3 => ?_)
  refine pB rfl rfl ?_
  refine SL_nil ?_
  refine nx ?_
  refine SWP_seq ?_
  refine SWP_seq ?_
  refine SWP_region ?_
  refine pu rfl rfl ?_
  refine lw (v := .int .i64 _) B2 1 rfl rfl rfl rfl ?_
  refine pc rfl rfl (fun c7 => ?_) (fun c7 => ?_)
  · skip
    refine SL_nil ?_
    refine nx ?_
    refine SWP_ct rfl ?_
    refine SWP_seq ?_
    refine SWP_region ?_
    refine pu rfl rfl ?_
    refine lw (v := .int .i64 _) B3 1 rfl rfl rfl rfl ?_
    refine pc rfl rfl (fun c10 => ?_) (fun c10 => ?_)
    · skip
      refine pB rfl rfl ?_
      refine SL_yes rfl ?_
      refine pu rfl rfl ?_
      refine SL_yes rfl ?_
      refine lw (v := .int .i64 _) B3 2 rfl rfl rfl rfl ?_
      refine SL_yes rfl ?_
      refine pc rfl rfl (fun c14 => ?_) (fun c14 => ?_)
      · skip
        refine pB rfl rfl ?_
        refine pB rfl rfl ?_
        refine SL_yes rfl ?_
        refine pu rfl rfl ?_
        refine SL_yes rfl ?_
        refine lw (v := .int .i64 _) B3 2 rfl rfl rfl rfl ?_
        refine SL_yes rfl ?_
        refine pu rfl rfl ?_
        refine SL_yes rfl ?_
        refine lw (v := .int .i64 _) B2 4 rfl rfl rfl rfl ?_
        refine SL_yes rfl ?_
        refine pu rfl rfl ?_
        refine pB rfl rfl ?_
        refine pB rfl rfl ?_
        refine SL_nil ?_
        refine nx ?_
        refine SWP_ret ?_
        refine nr ?_
        refine fin [_] ⟨rfl, trivial⟩ ?_
        refine congrArg Value.bool ?_
        unfold inB
        first | exact (decide_eq_true (by omega)).symm | exact (decide_eq_false (by omega)).symm | exact decide_eq_decide.2 (by omega)
      refine pB rfl rfl ?_
      refine pB rfl rfl ?_
      refine SL_no rfl rfl ?_
      refine SL_no rfl rfl ?_
      refine SL_no rfl rfl ?_
      refine SL_no rfl rfl ?_
      refine SL_no rfl rfl ?_
      refine pB rfl rfl ?_
      refine pB rfl rfl ?_
      refine SL_nil ?_
      refine nx ?_
      refine SWP_ret ?_
      refine nr ?_
      refine fin [_] ⟨rfl, trivial⟩ ?_
      refine congrArg Value.bool ?_
      unfold inB
      first | exact (decide_eq_true (by omega)).symm | exact (decide_eq_false (by omega)).symm | exact decide_eq_decide.2 (by omega)
    refine pB rfl rfl ?_
    refine SL_no rfl rfl ?_
    refine SL_no rfl rfl ?_
    refine SL_no rfl rfl ?_
    refine pB rfl rfl ?_
    refine pB rfl rfl ?_
    refine SL_no rfl rfl ?_
    refine SL_no rfl rfl ?_
    refine SL_no rfl rfl ?_
    refine SL_no rfl rfl ?_
    refine SL_no rfl rfl ?_
    refine pB rfl rfl ?_
    refine pB rfl rfl ?_
    refine SL_nil ?_
    refine nx ?_
    refine SWP_ret ?_
    refine nr ?_
    refine fin [_] ⟨rfl, trivial⟩ ?_
    refine congrArg Value.bool ?_
    unfold inB
    first | exact (decide_eq_true (by omega)).symm | exact (decide_eq_false (by omega)).symm | exact decide_eq_decide.2 (by omega)
  refine SL_nil ?_
  refine nx ?_
  refine SWP_cf rfl ?_
  refine SWP_skip ?_
  refine nx ?_
  refine SWP_seq ?_
  refine SWP_seq ?_
  refine SWP_region ?_
  refine pu rfl rfl ?_
  refine lw (v := .int .i64 _) B3 1 rfl rfl rfl rfl ?_
  refine SL_nil ?_
  refine nx ?_
  refine SWP_block ?_
  refine SWP_seq ?_
  refine SWP_seq ?_
  refine SWP_region ?_
  refine pc rfl rfl (fun c26 => ?_) (fun c26 => ?_)
  · skip
    refine pB rfl rfl ?_
    refine SL_nil ?_
    refine nx ?_
    refine SWP_ct rfl ?_
    refine SWP_skip ?_
    refine nx ?_
    refine SWP_ct rfl ?_
    refine SWP_seq ?_
    refine SWP_region ?_
    refine pu rfl rfl ?_
    refine lw (v := .int .i64 _) B3 2 rfl rfl rfl rfl ?_
    refine pc rfl rfl (fun c30 => ?_) (fun c30 => ?_)
    · skip
      refine pB rfl rfl ?_
      refine SL_yes rfl ?_
      refine pu rfl rfl ?_
      refine SL_yes rfl ?_
      refine lw (v := .int .i64 _) B3 2 rfl rfl rfl rfl ?_
      refine SL_yes rfl ?_
      refine pu rfl rfl ?_
      refine SL_yes rfl ?_
      refine lw (v := .int .i64 _) B2 4 rfl rfl rfl rfl ?_
      refine SL_yes rfl ?_
      refine pu rfl rfl ?_
      refine pB rfl rfl ?_
      refine pB rfl rfl ?_
      refine SL_nil ?_
      refine nx ?_
      refine SWP_ret ?_
      refine br ?_
      refine nr ?_
      refine fin [_] ⟨rfl, trivial⟩ ?_
      refine congrArg Value.bool ?_
      unfold inB
      first | exact (decide_eq_true (by omega)).symm | exact (decide_eq_false (by omega)).symm | exact decide_eq_decide.2 (by omega)
    refine pB rfl rfl ?_
    refine SL_no rfl rfl ?_
    refine SL_no rfl rfl ?_
    refine SL_no rfl rfl ?_
    refine SL_no rfl rfl ?_
    refine SL_no rfl rfl ?_
    refine pB rfl rfl ?_
    refine pB rfl rfl ?_
    refine SL_nil ?_
    refine nx ?_
    refine SWP_ret ?_
    refine br ?_
    refine nr ?_
    refine fin [_] ⟨rfl, trivial⟩ ?_
    refine congrArg Value.bool ?_
    unfold inB
    first | exact (decide_eq_true (by omega)).symm | exact (decide_eq_false (by omega)).symm | exact decide_eq_decide.2 (by omega)
  refine pB rfl rfl ?_
  refine SL_nil ?_
  refine nx ?_
  refine SWP_cf rfl ?_
  refine SWP_region ?_
  refine pc rfl rfl (fun c27 => ?_) (fun c27 => ?_)
  · skip
    refine pB rfl rfl ?_
    refine SL_nil ?_
    refine nx ?_
    refine SWP_ct rfl ?_
    refine SWP_seq ?_
    refine SWP_region ?_
    refine pu rfl rfl ?_
    refine lw (v := .int .i64 _) B3 2 rfl rfl rfl rfl ?_
    refine pc rfl rfl (fun c30 => ?_) (fun c30 => ?_)
    · skip
      refine pB rfl rfl ?_
      refine SL_yes rfl ?_
      refine pu rfl rfl ?_
      refine SL_yes rfl ?_
      refine lw (v := .int .i64 _) B3 2 rfl rfl rfl rfl ?_
      refine SL_yes rfl ?_
      refine pu rfl rfl ?_
      refine SL_yes rfl ?_
      refine lw (v := .int .i64 _) B2 4 rfl rfl rfl rfl ?_
      refine SL_yes rfl ?_
      refine pu rfl rfl ?_
      refine pB rfl rfl ?_
      refine pB rfl rfl ?_
      refine SL_nil ?_
      refine nx ?_
      refine SWP_ret ?_
      refine br ?_
      refine nr ?_
      refine fin [_] ⟨rfl, trivial⟩ ?_
      refine congrArg Value.bool ?_
      unfold inB
      first | exact (decide_eq_true (by omega)).symm | exact (decide_eq_false (by omega)).symm | exact decide_eq_decide.2 (by omega)
    refine pB rfl rfl ?_
    refine SL_no rfl rfl ?_
    refine SL_no rfl rfl ?_
    refine SL_no rfl rfl ?_
    refine SL_no rfl rfl ?_
    refine SL_no rfl rfl ?_
    refine pB rfl rfl ?_
    refine pB rfl rfl ?_
    refine SL_nil ?_
    refine nx ?_
    refine SWP_ret ?_
    refine br ?_
    refine nr ?_
    refine fin [_] ⟨rfl, trivial⟩ ?_
    refine congrArg Value.bool ?_
    unfold inB
    first | exact (decide_eq_true (by omega)).symm | exact (decide_eq_false (by omega)).symm | exact decide_eq_decide.2 (by omega)
  refine pB rfl rfl ?_
  refine SL_nil ?_
  refine nx ?_
  refine SWP_cf rfl ?_
  refine SWP_seq ?_
  refine SWP_region ?_
  refine pc rfl rfl (fun c39 => ?_) (fun c39 => ?_)
  · skip
    refine pB rfl rfl ?_
    refine SL_nil ?_
    refine nx ?_
    refine SWP_ct rfl ?_
    refine SWP_seq ?_
    refine SWP_region ?_
    refine pu rfl rfl ?_
    refine lw (v := .int .i64 _) B3 2 rfl rfl rfl rfl ?_
    refine pc rfl rfl (fun c42 => ?_) (fun c42 => ?_)
    · skip
      refine pB rfl rfl ?_
      refine SL_yes rfl ?_
      refine pu rfl rfl ?_
      refine SL_yes rfl ?_
      refine lw (v := .int .i64 _) B3 2 rfl rfl rfl rfl ?_
      refine SL_yes rfl ?_
      refine pu rfl rfl ?_
      refine SL_yes rfl ?_
      refine lw (v := .int .i64 _) B2 6 rfl rfl rfl rfl ?_
      refine SL_yes rfl ?_
      refine pu rfl rfl ?_
      refine pB rfl rfl ?_
      refine pB rfl rfl ?_
      refine SL_nil ?_
      refine nx ?_
      refine SWP_ret ?_
      refine br ?_
      refine nr ?_
      refine fin [_] ⟨rfl, trivial⟩ ?_
      refine congrArg Value.bool ?_
      unfold inB
      first | exact (decide_eq_true (by omega)).symm | exact (decide_eq_false (by omega)).symm | exact decide_eq_decide.2 (by omega)
    refine pB rfl rfl ?_
    refine SL_no rfl rfl ?_
    refine SL_no rfl rfl ?_
    refine SL_no rfl rfl ?_
    refine SL_no rfl rfl ?_
    refine SL_no rfl rfl ?_
    refine pB rfl rfl ?_
    refine pB rfl rfl ?_
    refine SL_nil ?_
    refine nx ?_
    refine SWP_ret ?_
    refine br ?_
    refine nr ?_
    refine fin [_] ⟨rfl, trivial⟩ ?_
    refine congrArg Value.bool ?_
    unfold inB
    first | exact (decide_eq_true (by omega)).symm | exact (decide_eq_false (by omega)).symm | exact decide_eq_decide.2 (by omega)
  refine pB rfl rfl ?_
  refine SL_nil ?_
  refine nx ?_
  refine SWP_cf rfl ?_
  refine SWP_skip ?_
  refine nb ?_
  refine nx ?_
  refine SWP_seq ?_
  refine SWP_region ?_
  refine pB rfl rfl ?_
  refine SL_nil ?_
  refine nx ?_
  refine SWP_ret ?_
  refine fin [_] ⟨rfl, trivial⟩ ?_
  refine congrArg Value.bool ?_
  unfold inB
  first | exact (decide_eq_true (by omega)).symm | exact (decide_eq_false (by omega)).symm | exact decide_eq_decide.2 (by omega)

set_option maxRecDepth 100000 in
theorem fitsR {m : Mem} (g : Game) (b : Ball) : PureCall Try.prog 61 [g.val, b.val] m (.bool (decide (inB g b))) := by
  refine CallsS.pure ?_
  dsimp only [Game.val, Ball.val]
  refine enter Try.func61 Try.ntmps61 rfl rfl ?_
  refine SWP_seq ?_
  refine SWP_region ?_
  refine bx (v := .agg _) rfl rfl (fun B2 => ?_)
  refine bx (v := .agg _) rfl rfl (fun B3 => ?_)
  refine pB rfl rfl ?_
  refine SL_nil ?_
  refine nx ?_
  refine SWP_seq ?_
  refine SWP_seq ?_
  refine SWP_region ?_
  refine pu rfl rfl ?_
  refine lw (v := .int .i64 _) B2 1 rfl rfl rfl rfl ?_
  refine pc rfl rfl (fun c7 => ?_) (fun c7 => ?_)
  · skip
    refine SL_nil ?_
    refine nx ?_
    refine SWP_ct rfl ?_
    refine SWP_seq ?_
    refine SWP_region ?_
    refine pu rfl rfl ?_
    refine lw (v := .int .i64 _) B3 1 rfl rfl rfl rfl ?_
    refine pc rfl rfl (fun c10 => ?_) (fun c10 => ?_)
    · skip
      refine pB rfl rfl ?_
      refine SL_yes rfl ?_
      refine pu rfl rfl ?_
      refine SL_yes rfl ?_
      refine lw (v := .int .i64 _) B3 2 rfl rfl rfl rfl ?_
      refine SL_yes rfl ?_
      refine pc rfl rfl (fun c14 => ?_) (fun c14 => ?_)
      · skip
        refine pB rfl rfl ?_
        refine pB rfl rfl ?_
        refine SL_yes rfl ?_
        refine pu rfl rfl ?_
        refine SL_yes rfl ?_
        refine lw (v := .int .i64 _) B3 2 rfl rfl rfl rfl ?_
        refine SL_yes rfl ?_
        refine pu rfl rfl ?_
        refine SL_yes rfl ?_
        refine lw (v := .int .i64 _) B2 4 rfl rfl rfl rfl ?_
        refine SL_yes rfl ?_
        refine pu rfl rfl ?_
        refine pB rfl rfl ?_
        refine pB rfl rfl ?_
        refine SL_nil ?_
        refine nx ?_
        refine SWP_ret ?_
        refine nr ?_
        refine fin [_] ⟨rfl, trivial⟩ ?_
        refine congrArg Value.bool ?_
        unfold inB
        first | exact (decide_eq_true (by omega)).symm | exact (decide_eq_false (by omega)).symm | exact decide_eq_decide.2 (by omega)
      refine pB rfl rfl ?_
      refine pB rfl rfl ?_
      refine SL_no rfl rfl ?_
      refine SL_no rfl rfl ?_
      refine SL_no rfl rfl ?_
      refine SL_no rfl rfl ?_
      refine SL_no rfl rfl ?_
      refine pB rfl rfl ?_
      refine pB rfl rfl ?_
      refine SL_nil ?_
      refine nx ?_
      refine SWP_ret ?_
      refine nr ?_
      refine fin [_] ⟨rfl, trivial⟩ ?_
      refine congrArg Value.bool ?_
      unfold inB
      first | exact (decide_eq_true (by omega)).symm | exact (decide_eq_false (by omega)).symm | exact decide_eq_decide.2 (by omega)
    refine pB rfl rfl ?_
    refine SL_no rfl rfl ?_
    refine SL_no rfl rfl ?_
    refine SL_no rfl rfl ?_
    refine pB rfl rfl ?_
    refine pB rfl rfl ?_
    refine SL_no rfl rfl ?_
    refine SL_no rfl rfl ?_
    refine SL_no rfl rfl ?_
    refine SL_no rfl rfl ?_
    refine SL_no rfl rfl ?_
    refine pB rfl rfl ?_
    refine pB rfl rfl ?_
    refine SL_nil ?_
    refine nx ?_
    refine SWP_ret ?_
    refine nr ?_
    refine fin [_] ⟨rfl, trivial⟩ ?_
    refine congrArg Value.bool ?_
    unfold inB
    first | exact (decide_eq_true (by omega)).symm | exact (decide_eq_false (by omega)).symm | exact decide_eq_decide.2 (by omega)
  refine SL_nil ?_
  refine nx ?_
  refine SWP_cf rfl ?_
  refine SWP_skip ?_
  refine nx ?_
  refine SWP_seq ?_
  refine SWP_seq ?_
  refine SWP_region ?_
  refine pu rfl rfl ?_
  refine lw (v := .int .i64 _) B3 1 rfl rfl rfl rfl ?_
  refine pc rfl rfl (fun c25 => ?_) (fun c25 => ?_)
  · skip
    refine SL_nil ?_
    refine nx ?_
    refine SWP_ct rfl ?_
    refine SWP_seq ?_
    refine SWP_region ?_
    refine pu rfl rfl ?_
    refine lw (v := .int .i64 _) B3 2 rfl rfl rfl rfl ?_
    refine pc rfl rfl (fun c28 => ?_) (fun c28 => ?_)
    · skip
      refine pB rfl rfl ?_
      refine SL_yes rfl ?_
      refine pu rfl rfl ?_
      refine SL_yes rfl ?_
      refine lw (v := .int .i64 _) B3 2 rfl rfl rfl rfl ?_
      refine SL_yes rfl ?_
      refine pu rfl rfl ?_
      refine SL_yes rfl ?_
      refine lw (v := .int .i64 _) B2 6 rfl rfl rfl rfl ?_
      refine SL_yes rfl ?_
      refine pu rfl rfl ?_
      refine pB rfl rfl ?_
      refine pB rfl rfl ?_
      refine SL_nil ?_
      refine nx ?_
      refine SWP_ret ?_
      refine nr ?_
      refine fin [_] ⟨rfl, trivial⟩ ?_
      refine congrArg Value.bool ?_
      unfold inB
      first | exact (decide_eq_true (by omega)).symm | exact (decide_eq_false (by omega)).symm | exact decide_eq_decide.2 (by omega)
    refine pB rfl rfl ?_
    refine SL_no rfl rfl ?_
    refine SL_no rfl rfl ?_
    refine SL_no rfl rfl ?_
    refine SL_no rfl rfl ?_
    refine SL_no rfl rfl ?_
    refine pB rfl rfl ?_
    refine pB rfl rfl ?_
    refine SL_nil ?_
    refine nx ?_
    refine SWP_ret ?_
    refine nr ?_
    refine fin [_] ⟨rfl, trivial⟩ ?_
    refine congrArg Value.bool ?_
    unfold inB
    first | exact (decide_eq_true (by omega)).symm | exact (decide_eq_false (by omega)).symm | exact decide_eq_decide.2 (by omega)
  refine SL_nil ?_
  refine nx ?_
  refine SWP_cf rfl ?_
  refine SWP_skip ?_
  refine nx ?_
  refine SWP_seq ?_
  refine SWP_region ?_
  refine pu rfl rfl ?_
  refine lw (v := .int .i64 _) B3 1 rfl rfl rfl rfl ?_
  refine pc rfl rfl (fun c38 => ?_) (fun c38 => ?_)
  · skip
    refine pB rfl rfl ?_
    refine SL_no rfl rfl ?_
    refine SL_no rfl rfl ?_
    refine SL_no rfl rfl ?_
    refine pB rfl rfl ?_
    refine pB rfl rfl ?_
    refine SL_yes rfl ?_
    refine pu rfl rfl ?_
    refine SL_yes rfl ?_
    refine lw (v := .int .i64 _) B3 2 rfl rfl rfl rfl ?_
    refine SL_yes rfl ?_
    refine pc rfl rfl (fun c47 => ?_) (fun c47 => ?_)
    · skip
      refine pB rfl rfl ?_
      refine pB rfl rfl ?_
      refine SL_yes rfl ?_
      refine pu rfl rfl ?_
      refine SL_yes rfl ?_
      refine lw (v := .int .i64 _) B3 2 rfl rfl rfl rfl ?_
      refine SL_yes rfl ?_
      refine pu rfl rfl ?_
      refine SL_yes rfl ?_
      refine lw (v := .int .i64 _) B2 4 rfl rfl rfl rfl ?_
      refine SL_yes rfl ?_
      refine pu rfl rfl ?_
      refine pB rfl rfl ?_
      refine pB rfl rfl ?_
      refine SL_nil ?_
      refine nx ?_
      refine SWP_ret ?_
      refine fin [_] ⟨rfl, trivial⟩ ?_
      refine congrArg Value.bool ?_
      unfold inB
      first | exact (decide_eq_true (by omega)).symm | exact (decide_eq_false (by omega)).symm | exact decide_eq_decide.2 (by omega)
    refine pB rfl rfl ?_
    refine pB rfl rfl ?_
    refine SL_no rfl rfl ?_
    refine SL_no rfl rfl ?_
    refine SL_no rfl rfl ?_
    refine SL_no rfl rfl ?_
    refine SL_no rfl rfl ?_
    refine pB rfl rfl ?_
    refine pB rfl rfl ?_
    refine SL_nil ?_
    refine nx ?_
    refine SWP_ret ?_
    refine fin [_] ⟨rfl, trivial⟩ ?_
    refine congrArg Value.bool ?_
    unfold inB
    first | exact (decide_eq_true (by omega)).symm | exact (decide_eq_false (by omega)).symm | exact decide_eq_decide.2 (by omega)
  refine pB rfl rfl ?_
  refine SL_yes rfl ?_
  refine pu rfl rfl ?_
  refine SL_yes rfl ?_
  refine lw (v := .int .i64 _) B3 1 rfl rfl rfl rfl ?_
  refine SL_yes rfl ?_
  refine pc rfl rfl (fun c42 => ?_) (fun c42 => ?_)
  · skip
    refine pB rfl rfl ?_
    refine pB rfl rfl ?_
    refine SL_yes rfl ?_
    refine pu rfl rfl ?_
    refine SL_yes rfl ?_
    refine lw (v := .int .i64 _) B3 2 rfl rfl rfl rfl ?_
    refine SL_yes rfl ?_
    refine pc rfl rfl (fun c47 => ?_) (fun c47 => ?_)
    · skip
      refine pB rfl rfl ?_
      refine pB rfl rfl ?_
      refine SL_yes rfl ?_
      refine pu rfl rfl ?_
      refine SL_yes rfl ?_
      refine lw (v := .int .i64 _) B3 2 rfl rfl rfl rfl ?_
      refine SL_yes rfl ?_
      refine pu rfl rfl ?_
      refine SL_yes rfl ?_
      refine lw (v := .int .i64 _) B2 4 rfl rfl rfl rfl ?_
      refine SL_yes rfl ?_
      refine pu rfl rfl ?_
      refine pB rfl rfl ?_
      refine pB rfl rfl ?_
      refine SL_nil ?_
      refine nx ?_
      refine SWP_ret ?_
      refine fin [_] ⟨rfl, trivial⟩ ?_
      refine congrArg Value.bool ?_
      unfold inB
      first | exact (decide_eq_true (by omega)).symm | exact (decide_eq_false (by omega)).symm | exact decide_eq_decide.2 (by omega)
    refine pB rfl rfl ?_
    refine pB rfl rfl ?_
    refine SL_no rfl rfl ?_
    refine SL_no rfl rfl ?_
    refine SL_no rfl rfl ?_
    refine SL_no rfl rfl ?_
    refine SL_no rfl rfl ?_
    refine pB rfl rfl ?_
    refine pB rfl rfl ?_
    refine SL_nil ?_
    refine nx ?_
    refine SWP_ret ?_
    refine fin [_] ⟨rfl, trivial⟩ ?_
    refine congrArg Value.bool ?_
    unfold inB
    first | exact (decide_eq_true (by omega)).symm | exact (decide_eq_false (by omega)).symm | exact decide_eq_decide.2 (by omega)
  refine pB rfl rfl ?_
  refine pB rfl rfl ?_
  refine SL_no rfl rfl ?_
  refine SL_no rfl rfl ?_
  refine SL_no rfl rfl ?_
  refine pB rfl rfl ?_
  refine pB rfl rfl ?_
  refine SL_no rfl rfl ?_
  refine SL_no rfl rfl ?_
  refine SL_no rfl rfl ?_
  refine SL_no rfl rfl ?_
  refine SL_no rfl rfl ?_
  refine pB rfl rfl ?_
  refine pB rfl rfl ?_
  refine SL_nil ?_
  refine nx ?_
  refine SWP_ret ?_
  refine fin [_] ⟨rfl, trivial⟩ ?_
  refine congrArg Value.bool ?_
  unfold inB
  first | exact (decide_eq_true (by omega)).symm | exact (decide_eq_false (by omega)).symm | exact decide_eq_decide.2 (by omega)

set_option maxRecDepth 100000 in
theorem repeatsI {m : Mem} (a b : Ball) : PureCall Try.prog 50 [a.val, b.val] m (.bool (decide (repB a b))) := by
  refine CallsS.pure ?_
  dsimp only [Game.val, Ball.val]
  refine enter Try.func50 Try.ntmps50 rfl rfl ?_
  refine SWP_seq ?_
  refine SWP_region ?_
  refine bx (v := .agg _) rfl rfl (fun B2 => ?_)
  refine bx (v := .agg _) rfl rfl (fun B3 => ?_)
  refine pB rfl rfl ?_
  refine SL_nil ?_
  refine nx ?_
  refine SWP_seq ?_
  refine SWP_region ?_
  refine pu rfl rfl ?_
  refine lw (v := .int .i64 _) B2 2 rfl rfl rfl rfl ?_
  refine pu rfl rfl ?_
  refine lw (v := .int .i64 _) B3 2 rfl rfl rfl rfl ?_
  refine pc rfl rfl (fun c9 => ?_) (fun c9 => ?_)
  · skip
    refine pB rfl rfl ?_
    refine SL_yes rfl ?_
    refine pu rfl rfl ?_
    refine SL_yes rfl ?_
    refine lw (v := .int .i64 _) B2 1 rfl rfl rfl rfl ?_
    refine SL_yes rfl ?_
    refine pu rfl rfl ?_
    refine SL_yes rfl ?_
    refine pu rfl rfl ?_
    refine SL_yes rfl ?_
    refine lw (v := .int .i64 _) B3 1 rfl rfl rfl rfl ?_
    refine SL_yes rfl ?_
    refine pu rfl rfl ?_
    refine SL_yes rfl ?_
    refine pu rfl rfl ?_
    refine pB rfl rfl ?_
    refine pB rfl rfl ?_
    refine SL_nil ?_
    refine nx ?_
    refine SWP_ret ?_
    refine fin [_] ⟨rfl, trivial⟩ ?_
    refine congrArg Value.bool ?_
    unfold repB
    first | exact (decide_eq_false (by omega)).symm | (refine decide_eq_decide.2 ?_; rw [decide_eq_decide]; exact ⟨fun h => ⟨by assumption, h⟩, fun h => h.2⟩)
  refine pB rfl rfl ?_
  refine SL_no rfl rfl ?_
  refine SL_no rfl rfl ?_
  refine SL_no rfl rfl ?_
  refine SL_no rfl rfl ?_
  refine SL_no rfl rfl ?_
  refine SL_no rfl rfl ?_
  refine SL_no rfl rfl ?_
  refine pB rfl rfl ?_
  refine pB rfl rfl ?_
  refine SL_nil ?_
  refine nx ?_
  refine SWP_ret ?_
  refine fin [_] ⟨rfl, trivial⟩ ?_
  refine congrArg Value.bool ?_
  unfold repB
  first | exact (decide_eq_false (by omega)).symm | (refine decide_eq_decide.2 ?_; rw [decide_eq_decide]; exact ⟨fun h => ⟨by assumption, h⟩, fun h => h.2⟩)

theorem eA4 : EqAN Try.prog 74 3 4 := ⟨by kernel_rfl, Try.underlying74, Try.underlying3, by kernel_rfl, by kernel_rfl⟩

set_option maxRecDepth 100000 in
theorem checkB {m : Mem} {g : Game} {v : Value} {l : List Ball} (h : RL m Ball.enc 3 v l) (hl : l.length ≤ 4000000) : PureCall Try.prog 31 [g.val, v] m (.int .i64 (ballsErr g l)) := by
  refine CallsS.pure ?_
  obtain ⟨pa, pcap, rfl⟩ := h.len
  obtain ⟨hcap, _⟩ := h.capI
  dsimp only [Game.val]
  refine enter Try.func31 Try.ntmps31 rfl rfl ?_
  refine SWP_seq ?_
  refine SWP_region ?_
  refine bx (v := .agg _) rfl rfl (fun B2 => ?_)
  refine pI rfl rfl ?_
  refine SL_nil ?_
  refine nx ?_
  refine SWP_scope ?_
  refine SWP_seq ?_
  refine SWP_region ?_
  refine pu rfl rfl ?_
  refine lw (v := .int .i64 _) B2 3 rfl rfl rfl rfl ?_
  refine pu rfl rfl ?_
  refine lw (v := .int .i64 _) B2 5 rfl rfl rfl rfl ?_
  refine pu rfl rfl ?_
  refine lw (v := .int .i64 _) B2 7 rfl rfl rfl rfl ?_
  refine pu (v := .agg (intsV (mostI g)).toArray) (by kernel_rfl) rfl ?_
  refine al rfl rfl (fun B5 => ?_)
  refine swE B5 0 (intsV (mostI g)) (v := .agg (intsV (mostI g)).toArray) rfl rfl rfl rfl (by kernel_rfl) (by kernel_rfl) (by kernel_rfl) (by kernel_rfl) ?_
  refine SL_nil ?_
  refine nx ?_
  refine SWP_seq ?_
  refine SWP_region ?_
  refine al rfl rfl (fun B6 => ?_)
  refine SL_nil ?_
  refine nx ?_
  refine SWP_seq ?_
  refine SWP_region ?_
  first | refine pI rfl rfl ?_ | refine pu rfl rfl ?_
  refine SL_nil ?_
  refine nx ?_
  refine SWP_seq ?_
  refine SWP_label ?_
  refine nx ?_
  refine SWP_seq ?_
  refine SWP_seq ?_
  refine SWP_region ?_
  first | refine pL rfl rfl ?_ | refine pu rfl rfl ?_
  refine pu rfl rfl ?_
  first | refine pI rfl rfl ?_ | refine pu rfl rfl ?_
  refine SL_nil ?_
  refine nx ?_
  refine SWP_block ?_
  refine SWP_loop [7, 8, 9, 11, 21, 22, 23, 24, 25, 26, 27, 28, 29, 30, 31, 32, 33, 34, 35, 36, 37, 38, 39, 40, 41, 42, 43, 44, 45, 46, 47, 48, 49, 50, 51, 52, 53, 54, 55, 56, 57, 58, 59, 60, 61, 62] [7, 21]
      (fun vs σ' m' => ∃ (i : Nat), vs = [.int .i64 0, .int .i64 (i : Nat)] ∧ i ≤ l.length ∧ ballsFrom g [] l = ballsFrom g (l.take i) (l.drop i) ∧ σ' = [(B6, Cells 74 (intsV (fallI (l.take i)))), (B5, Cells 74 (intsV (mostI g))), (B2, Cells 25 g.enc)] ∧ m = m')
      (fun vs => l.length - nOf (vs.getD 1 undef)) rfl ?_ ?_
  · exact ⟨0, rfl, by omega, rfl, rfl, rfl⟩
  intro u0 vs0 σ0 m0 hJ0 _
  obtain ⟨i, rfl, hi, hres, rfl, rfl⟩ := hJ0
  dsimp only [Game.enc]
  refine SWP_seq ?_
  refine SWP_region ?_
  refine pc rfl rfl (fun c22 => ?_) (fun c22 => ?_)
  · skip
    refine SL_nil ?_
    refine nx ?_
    refine SWP_seq ?_
    refine SWP_ct rfl ?_
    refine SWP_skip ?_
    refine nx ?_
    refine SWP_seq ?_
    refine SWP_block ?_
    refine SWP_seq ?_
    obtain ⟨b, hb⟩ : ∃ b, l[i]? = some b := ⟨_, List.getElem?_eq_getElem (by omega)⟩
    obtain ⟨ad, e1, _, hat⟩ := h.atA Ball.enc_len hb
    rw [e1]
    rw [ballsFrom_at hb] at hres
    refine SWP_region ?_
    first | refine pI rfl rfl ?_ | refine pu rfl rfl ?_
    first | refine ia (es := 3) rfl rfl rfl rfl rfl rfl (by omega) rfl ?_ | refine iai (es := 3) rfl rfl rfl rfl rfl rfl (by omega) (by omega) rfl ?_
    refine ldA (v := .agg _) rfl (by assumption) rfl rfl ?_
    refine al rfl rfl (fun B9 => ?_)
    first | refine pI rfl rfl ?_ | refine pu rfl rfl ?_
    refine sw (v := .agg _) B9 0 rfl rfl rfl rfl rfl rfl rfl ?_
    refine SL_nil ?_
    refine nx ?_
    refine SWP_seq ?_
    refine SWP_seq ?_
    rw [← e1]
    refine SWP_region ?_
    refine lw (v := .agg _) B2 0 rfl rfl rfl rfl ?_
    refine lw (v := .agg _) B9 0 rfl rfl rfl rfl ?_
    refine SL_pcall rfl rfl cb49 (inDrumI g b) rfl ?_
    refine psp 28 rfl (fun c28 => ?_) (fun c28 => ?_)
    · skip
      refine pB rfl rfl ?_
      refine SL_nil ?_
      refine nx ?_
      refine SWP_cf rfl ?_
      refine SWP_skip ?_
      refine nx ?_
      refine SWP_seq ?_
      refine SWP_seq ?_
      refine SWP_region ?_
      first | refine pL rfl rfl ?_ | refine pu rfl rfl ?_
      first | refine pI rfl rfl ?_ | refine pu rfl rfl ?_
      refine slh (size := 3) rfl rfl rfl rfl rfl (by omega) (by omega) rfl ?_
      have hsub := RL.sub Ball.enc_len h (Nat.zero_le i) (by omega)
      rw [List.drop_zero] at hsub
      obtain ⟨qa, qcap, hsl⟩ := hsub.len
      rw [Int.toNat_natCast, hsl]
      rw [hsl] at hsub
      have hlt : (l.take i).length = i := by rw [List.length_take]; omega
      refine pu rfl rfl ?_
      first | refine pI rfl rfl ?_ | refine pu rfl rfl ?_
      refine SL_nil ?_
      refine nx ?_
      refine SWP_block ?_
      refine SWP_loop [7, 11, 34, 35, 36, 37, 38, 39, 40, 41, 42, 43, 44, 45, 46] [7, 34]
          (fun vs σ' m' => ∃ (k : Nat), vs = [.int .i64 0, .int .i64 (k : Nat)] ∧ k ≤ i ∧ (g.kind = 1 → ∀ a ∈ (l.take i).take k, ¬ repB a b) ∧ σ' = [(B9, Cells 42 b.enc), (B6, Cells 74 (intsV (fallI (l.take i)))), (B5, Cells 74 (intsV (mostI g))), (B2, Cells 25 g.enc)] ∧ m = m')
          (fun vs => i - nOf (vs.getD 1 undef)) rfl ?_ ?_
      · exact ⟨0, rfl, by omega, fun _ a ha => (by simp at ha), rfl, rfl⟩
      intro u1 vs1 σ1 m1 hJ1 _
      obtain ⟨k, rfl, hk, hno, rfl, rfl⟩ := hJ1
      dsimp only [Game.enc, Ball.enc]
      refine SWP_seq ?_
      refine SWP_region ?_
      refine pc rfl rfl (fun c35 => ?_) (fun c35 => ?_)
      · skip
        refine SL_nil ?_
        refine nx ?_
        refine SWP_seq ?_
        refine SWP_ct rfl ?_
        refine SWP_skip ?_
        refine nx ?_
        refine SWP_seq ?_
        refine SWP_block ?_
        refine SWP_seq ?_
        obtain ⟨a, ha⟩ : ∃ a, (l.take i)[k]? = some a := ⟨_, List.getElem?_eq_getElem (by omega)⟩
        obtain ⟨ad2, e2, _, hat2⟩ := hsub.atA Ball.enc_len ha
        rw [e2]
        refine SWP_region ?_
        first | refine ia (es := 3) rfl rfl rfl rfl rfl rfl (by omega) rfl ?_ | refine iai (es := 3) rfl rfl rfl rfl rfl rfl (by omega) (by omega) rfl ?_
        refine ldA (v := .agg _) rfl (by assumption) rfl rfl ?_
        refine al rfl rfl (fun B11 => ?_)
        refine sw (v := .agg _) B11 0 rfl rfl rfl rfl rfl rfl rfl ?_
        refine SL_nil ?_
        refine nx ?_
        refine SWP_seq ?_
        rw [← e2]
        refine SWP_region ?_
        refine pu rfl rfl ?_
        refine lw (v := .int .i64 _) B2 1 rfl rfl rfl rfl ?_
        refine pc rfl rfl (fun c40 => ?_) (fun c40 => ?_)
        · skip
          refine pB rfl rfl ?_
          refine SL_yes rfl ?_
          refine lw (v := .agg _) B11 0 rfl rfl rfl rfl ?_
          refine SL_yes rfl ?_
          refine lw (v := .agg _) B9 0 rfl rfl rfl rfl ?_
          refine SL_yes rfl ?_
          refine SL_pcall rfl rfl cb50 (repeatsI a b) rfl ?_
          refine psp 44 rfl (fun c44 => ?_) (fun c44 => ?_)
          · skip
            refine pB rfl rfl ?_
            refine SL_nil ?_
            refine nx ?_
            refine SWP_ct rfl ?_
            refine SWP_seq ?_
            refine SWP_region ?_
            first | refine pI rfl rfl ?_ | refine pu rfl rfl ?_
            refine SL_nil ?_
            refine nx ?_
            refine SWP_exit ?_
            refine bo rfl ?_
            refine ne ?_
            refine ne ?_
            refine bo rfl ?_
            refine ne ?_
            refine bo rfl ?_
            refine ne ?_
            refine ne ?_
            refine be rfl ?_
            refine nx ?_
            refine SWP_seq ?_
            refine SWP_seq ?_
            refine SWP_region ?_
            first | refine pI rfl rfl ?_ | refine pu rfl rfl ?_
            refine pu (v := .bool false) rfl rfl ?_
            refine pB rfl rfl ?_
            refine SL_no rfl rfl ?_
            refine SL_no rfl rfl ?_
            refine SL_no rfl rfl ?_
            refine pB rfl rfl ?_
            refine SL_nil ?_
            refine nx ?_
            refine SWP_cf rfl ?_
            refine SWP_skip ?_
            refine nx ?_
            refine SWP_seq ?_
            refine SWP_region ?_
            first | refine pI rfl rfl ?_ | refine pu rfl rfl ?_
            first | refine pI rfl rfl ?_ | refine pu rfl rfl ?_
            refine SL_nil ?_
            refine nx ?_
            refine SWP_ret ?_
            refine sr ?_
            refine fin [_] ⟨rfl, trivial⟩ ?_
            refine congrArg (Value.int .i64) ?_
            have hb9 : ballErr g (l.take i) b = 6 := by
              unfold ballErr
              rw [if_neg (Classical.not_not.2 (by assumption)), if_pos ⟨by omega, a, List.mem_of_getElem? ha, by assumption⟩]
            rw [hb9, if_pos (by decide)] at hres
            unfold ballsErr
            rw [if_pos (by rw [hres]; decide), hres]
          refine pB rfl rfl ?_
          refine SL_nil ?_
          refine nx ?_
          refine SWP_cf rfl ?_
          refine SWP_skip ?_
          refine nb ?_
          refine nx ?_
          refine SWP_weak (List.sublist_cons_self _ _) ?_
          refine SWP_region ?_
          first | refine pw rfl rfl (w64 (by omega) (by omega)) ?_ | refine pu rfl rfl ?_
          refine pI rfl rfl ?_
          refine SL_nil ?_
          refine nx ?_
          refine ⟨by repeat (first | exact Under.upds rfl (Under.hav _ _ _) | exact Under.hav _ _ _ | refine Under.upd rfl ?_ | refine Under.upds rfl ?_ | refine Under.hav2 rfl ?_), ?_, ?_⟩
          · refine ⟨k + 1, rfl, by omega, fun hk1 a2 ha2 => ?_, rfl, rfl⟩
            rw [take_snocA ha] at ha2
            rcases List.mem_append.1 ha2 with h3 | h3
            · exact hno hk1 a2 h3
            · rw [List.mem_singleton.1 h3]; first | assumption | (exfalso; omega)
          · simp only [L_vals, List.map, List.getD]; show i - (k + 1) < i - k; omega
        refine pB rfl rfl ?_
        refine SL_no rfl rfl ?_
        refine SL_no rfl rfl ?_
        refine SL_no rfl rfl ?_
        refine pB rfl rfl ?_
        refine SL_nil ?_
        refine nx ?_
        refine SWP_cf rfl ?_
        refine SWP_skip ?_
        refine nb ?_
        refine nx ?_
        refine SWP_weak (List.sublist_cons_self _ _) ?_
        refine SWP_region ?_
        first | refine pw rfl rfl (w64 (by omega) (by omega)) ?_ | refine pu rfl rfl ?_
        refine pI rfl rfl ?_
        refine SL_nil ?_
        refine nx ?_
        refine ⟨by repeat (first | exact Under.upds rfl (Under.hav _ _ _) | exact Under.hav _ _ _ | refine Under.upd rfl ?_ | refine Under.upds rfl ?_ | refine Under.hav2 rfl ?_), ?_, ?_⟩
        · refine ⟨k + 1, rfl, by omega, fun hk1 a2 ha2 => ?_, rfl, rfl⟩
          rw [take_snocA ha] at ha2
          rcases List.mem_append.1 ha2 with h3 | h3
          · exact hno hk1 a2 h3
          · rw [List.mem_singleton.1 h3]; first | assumption | (exfalso; omega)
        · simp only [L_vals, List.map, List.getD]; show i - (k + 1) < i - k; omega
      refine SL_nil ?_
      refine nx ?_
      refine SWP_seq ?_
      refine SWP_cf rfl ?_
      refine SWP_exit ?_
      refine ne ?_
      refine ne ?_
      refine be rfl ?_
      refine nx ?_
      refine SWP_seq ?_
      refine SWP_seq ?_
      skip
      have hno2 : g.kind = 1 → ∀ a ∈ l.take i, ¬ repB a b := by
        intro hk1 a ha
        have e : k = i := by omega
        rw [e, List.take_take, Nat.min_self] at hno
        exact hno hk1 a ha
      refine SWP_draws (by kernel_rfl) (by kernel_rfl) ?_
      refine pu rfl rfl ?_
      refine lw (v := .int .i64 _) B9 1 rfl rfl rfl rfl ?_
      have hd := inB_drum (by assumption : inB g b)
      refine iari (es := 1) rfl rfl rfl (Nat.mul_one _) rfl rfl (by omega) (by omega) rfl ?_
      refine ld (p := ⟨B6, 0, none⟩) (cs := intsV (fallI (l.take i))) (off := b.drum.toNat) (v := .int .i64 (cntD b.drum (l.take i) : Nat)) (Rd.of_cells (by repeat (first | exact .head _ | refine .tail _ ?_))) rfl rfl (by exact fallI_at _ hd) rfl ?_
      refine pu rfl rfl ?_
      refine lw (v := .int .i64 _) B9 1 rfl rfl rfl rfl ?_
      refine iari (es := 1) rfl rfl rfl (Nat.mul_one _) rfl rfl (by omega) (by omega) rfl ?_
      refine ld (p := ⟨B5, 0, none⟩) (cs := intsV (mostI g)) (off := b.drum.toNat) (v := .int .i64 (mostD g b.drum)) (Rd.of_cells (by repeat (first | exact .head _ | refine .tail _ ?_))) rfl rfl (by exact mostI_at g hd) rfl ?_
      refine pc rfl rfl (fun c55 => ?_) (fun c55 => ?_)
      · skip
        refine SL_nil ?_
        refine nx ?_
        refine SWP_ct rfl ?_
        refine SWP_seq ?_
        refine SWP_region ?_
        first | refine pI rfl rfl ?_ | refine pu rfl rfl ?_
        refine SL_nil ?_
        refine nx ?_
        refine SWP_exit ?_
        refine ne ?_
        refine bo rfl ?_
        refine ne ?_
        refine ne ?_
        refine be rfl ?_
        refine nx ?_
        refine SWP_seq ?_
        refine SWP_seq ?_
        refine SWP_region ?_
        first | refine pI rfl rfl ?_ | refine pu rfl rfl ?_
        refine pu (v := .bool false) rfl rfl ?_
        refine pB rfl rfl ?_
        refine SL_no rfl rfl ?_
        refine SL_no rfl rfl ?_
        refine SL_no rfl rfl ?_
        refine pB rfl rfl ?_
        refine SL_nil ?_
        refine nx ?_
        refine SWP_cf rfl ?_
        refine SWP_skip ?_
        refine nx ?_
        refine SWP_seq ?_
        refine SWP_region ?_
        first | refine pI rfl rfl ?_ | refine pu rfl rfl ?_
        first | refine pI rfl rfl ?_ | refine pu rfl rfl ?_
        refine SL_nil ?_
        refine nx ?_
        refine SWP_ret ?_
        refine sr ?_
        refine fin [_] ⟨rfl, trivial⟩ ?_
        refine congrArg (Value.int .i64) ?_
        have hb9 : ballErr g (l.take i) b = 3 := by
          unfold ballErr
          rw [if_neg (Classical.not_not.2 (by assumption)), if_neg (fun ⟨h1, a, ha, hr⟩ => hno2 h1 a ha hr), if_pos (by omega)]
        rw [hb9, if_pos (by decide)] at hres
        unfold ballsErr
        rw [if_pos (by rw [hres]; decide), hres]
      refine SL_nil ?_
      refine nx ?_
      refine SWP_cf rfl ?_
      refine SWP_skip ?_
      refine nx ?_
      refine SWP_region ?_
      refine pu rfl rfl ?_
      refine lw (v := .int .i64 _) B9 1 rfl rfl rfl rfl ?_
      refine iari (es := 1) rfl rfl rfl (Nat.mul_one _) rfl rfl (by omega) (by omega) rfl ?_
      refine ld (p := ⟨B6, 0, none⟩) (cs := intsV (fallI (l.take i))) (off := b.drum.toNat) (v := .int .i64 (cntD b.drum (l.take i) : Nat)) (Rd.of_cells (by repeat (first | exact .head _ | refine .tail _ ?_))) rfl rfl (by exact fallI_at _ hd) rfl ?_
      have hcl := cntD_le b.drum (l.take i)
      first | refine pw rfl rfl (w64 (by omega) (by omega)) ?_ | refine pu rfl rfl ?_
      refine iari (es := 1) rfl rfl rfl (Nat.mul_one _) rfl rfl (by omega) (by omega) rfl ?_
      refine st1 (off := b.drum.toNat) (cs := intsV (fallI (l.take i))) (v := .int .i64 ((cntD b.drum (l.take i) : Nat) + 1)) (σ₁ := [_]) rfl rfl rfl rfl rfl rfl rfl (by show b.drum.toNat < 4; omega) rfl ?_
      rw [fallI_set _ _ hd]
      refine SL_nil ?_
      refine nb ?_
      refine nx ?_
      refine SWP_weak (List.sublist_cons_self _ _) ?_
      refine SWP_region ?_
      first | refine pw rfl rfl (w64 (by omega) (by omega)) ?_ | refine pu rfl rfl ?_
      refine pI rfl rfl ?_
      refine SL_nil ?_
      refine nx ?_
      refine ⟨by repeat (first | exact Under.upds rfl (Under.hav _ _ _) | exact Under.hav _ _ _ | refine Under.upd rfl ?_ | refine Under.upds rfl ?_ | refine Under.hav2 rfl ?_), ?_, ?_⟩
      · refine ⟨i + 1, rfl, by omega, ?_, ?_, rfl⟩
        · rw [hres, if_neg, take_snocA hb]
          unfold ballErr
          rw [if_neg (Classical.not_not.2 (by assumption)), if_neg (fun ⟨h1, a, ha, hr⟩ => hno2 h1 a ha hr), if_neg (by omega)]
          decide
        · rw [take_snocA hb]; rfl
      · simp only [L_vals, List.map, List.getD]; show l.length - (i + 1) < l.length - i; omega
    refine pB rfl rfl ?_
    refine SL_nil ?_
    refine nx ?_
    refine SWP_ct rfl ?_
    refine SWP_seq ?_
    refine SWP_region ?_
    first | refine pI rfl rfl ?_ | refine pu rfl rfl ?_
    refine SL_nil ?_
    refine nx ?_
    refine SWP_exit ?_
    refine ne ?_
    refine bo rfl ?_
    refine ne ?_
    refine ne ?_
    refine be rfl ?_
    refine nx ?_
    refine SWP_seq ?_
    refine SWP_seq ?_
    refine SWP_region ?_
    first | refine pI rfl rfl ?_ | refine pu rfl rfl ?_
    refine pu (v := .bool false) rfl rfl ?_
    refine pB rfl rfl ?_
    refine SL_no rfl rfl ?_
    refine SL_no rfl rfl ?_
    refine SL_no rfl rfl ?_
    refine pB rfl rfl ?_
    refine SL_nil ?_
    refine nx ?_
    refine SWP_cf rfl ?_
    refine SWP_skip ?_
    refine nx ?_
    refine SWP_seq ?_
    refine SWP_region ?_
    first | refine pI rfl rfl ?_ | refine pu rfl rfl ?_
    first | refine pI rfl rfl ?_ | refine pu rfl rfl ?_
    refine SL_nil ?_
    refine nx ?_
    refine SWP_ret ?_
    refine sr ?_
    refine fin [_] ⟨rfl, trivial⟩ ?_
    refine congrArg (Value.int .i64) ?_
    have hb9 : ballErr g (l.take i) b = 2 := by
      unfold ballErr
      rw [if_pos (by assumption)]
    rw [hb9, if_pos (by decide)] at hres
    unfold ballsErr
    rw [if_pos (by rw [hres]; decide), hres]
  refine SL_nil ?_
  refine nx ?_
  refine SWP_seq ?_
  refine SWP_cf rfl ?_
  refine SWP_exit ?_
  refine ne ?_
  refine ne ?_
  refine be rfl ?_
  refine nx ?_
  refine SWP_seq ?_
  refine SWP_seq ?_
  refine SWP_region ?_
  first | refine pI rfl rfl ?_ | refine pu rfl rfl ?_
  refine pu (v := .bool true) rfl rfl ?_
  refine pB rfl rfl ?_
  refine SL_yes rfl ?_
  refine lw (v := .agg _) B6 0 rfl rfl rfl rfl ?_
  refine SL_yes rfl ?_
  refine lw (v := .agg _) B5 0 rfl rfl rfl rfl ?_
  refine SL_yes rfl ?_
  refine neqAN eA4 rfl rfl (L := fallI (l.take i)) (L' := mostI g) rfl rfl rfl rfl rfl ?_
  refine bsp 68 rfl (fun b68 => ?_) (fun b68 => ?_)
  · skip
    refine pB rfl rfl ?_
    refine SL_nil ?_
    refine nx ?_
    refine SWP_ct rfl ?_
    refine SWP_seq ?_
    refine SWP_region ?_
    first | refine pI rfl rfl ?_ | refine pu rfl rfl ?_
    refine SL_nil ?_
    refine nx ?_
    refine SWP_ret ?_
    refine nr ?_
    refine sr ?_
    refine fin [_] ⟨rfl, trivial⟩ ?_
    refine congrArg (Value.int .i64) ?_
    have e : l.take i = l := List.take_of_length_le (by omega)
    have hd0 : l.drop i = [] := List.drop_eq_nil_of_le (by omega)
    have hz : ballsFrom g [] l = 0 := by rw [hres, hd0]; rfl
    rw [e] at b68
    unfold ballsErr
    rw [if_neg (by rw [hz]; decide), if_neg (fun hf => by rw [decide_eq_true ((fall_most g l).2 hf)] at b68; cases b68)]
  refine pB rfl rfl ?_
  refine SL_nil ?_
  refine nx ?_
  refine SWP_cf rfl ?_
  refine SWP_skip ?_
  refine nx ?_
  refine SWP_seq ?_
  refine SWP_region ?_
  first | refine pI rfl rfl ?_ | refine pu rfl rfl ?_
  first | refine pI rfl rfl ?_ | refine pu rfl rfl ?_
  refine SL_nil ?_
  refine nx ?_
  refine SWP_ret ?_
  refine sr ?_
  refine fin [_] ⟨rfl, trivial⟩ ?_
  refine congrArg (Value.int .i64) ?_
  have e : l.take i = l := List.take_of_length_le (by omega)
  have hd0 : l.drop i = [] := List.drop_eq_nil_of_le (by omega)
  have hz : ballsFrom g [] l = 0 := by rw [hres, hd0]; rfl
  rw [e] at b68
  unfold ballsErr
  rw [if_neg (by rw [hz]; decide), if_pos ((fall_most g l).1 (of_decide_eq_true (by simpa using b68)))]

end Go.Proofs.Ytnpnleapnbdllaa

