/- lotteryref29.Balls; the balls of a result; MechanicalBalls, MechanicalResults. -/
import Derived.Test.YtnpnleapnbdllaaMecB
import Derived.Test.YtnpnleapnbdllaaMatH
namespace Go.Proofs.Ytnpnleapnbdllaa
open Eng

theorem b_room1 {w d : Int} {l : List Int} (h : l.length ≤ 10) (i : Nat) : ((((l.take i).map (mkB w d)).flatMap Ball.enc).length + 1 * 3) * 24 ≤ 140737488355328 * 3 := by
  rw [flatMap_len Ball.enc_len, List.length_map, List.length_take]; omega


theorem prefB3 (w : Int) (r : Res) : prefB w r 3 = r.main.map (mkB w 1) ++ r.bonus.map (mkB w 2) ++ r.extra.map (mkB w 3) := by
  rw [prefB_succ, prefB_succ, prefB_succ]; rfl
theorem b_room2 {a b : List Ball} (h : a.length ≤ 20) (h' : b.length ≤ 10) : ((a.flatMap Ball.enc).length + (b.flatMap Ball.enc).length) * 24 ≤ 140737488355328 * 3 := by
  rw [flatMap_len Ball.enc_len, flatMap_len Ball.enc_len]; omega


theorem outB_len (g : Game) (w : Int) (r : Res) : (outB g w r).length ≤ 4000000 := by
  unfold outB
  by_cases h : outE g w r ≠ 0
  · rw [if_pos h]; simp
  · rw [if_neg h]
    have h0 := Classical.not_not.1 h
    unfold outE at h0
    by_cases h1 : gameErr g ≠ 0
    · rw [if_pos h1] at h0; exact absurd h0 h1
    · rw [if_neg h1] at h0
      by_cases h2 : ¬ (1 ≤ w ∧ w ≤ 8)
      · rw [if_pos h2] at h0; exact absurd h0 (by decide)
      · rw [if_neg h2] at h0
        have := prefB_len (w := w) (smallR h0) 3
        omega


end Go.Proofs.Ytnpnleapnbdllaa

