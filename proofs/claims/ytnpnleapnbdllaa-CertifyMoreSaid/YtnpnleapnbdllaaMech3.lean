/- lotteryref29.Same, told; the laws MechanicalWitnesses and MechanicalCounts. -/
import Derived.Test.YtnpnleapnbdllaaMech2
import Derived.Test.YtnpnleapnbdllaaTop
namespace Go.Proofs.Ytnpnleapnbdllaa
open Eng

theorem eqBall : EqOk Try.prog 42 [(0, 3), (1, 3), (2, 3)] := ⟨by kernel_rfl, by kernel_rfl, by kernel_rfl, by kernel_rfl, by kernel_rfl⟩
theorem ball_eq {a b : Ball} (h : (decide (a.wit = b.wit) && (decide (a.drum = b.drum) && (decide (a.num = b.num) && true))) = true) : a = b := by
  simp only [Bool.and_eq_true, decide_eq_true_eq] at h
  obtain ⟨h1, h2, h3, _⟩ := h
  cases a; cases b; simp_all
theorem ofB_le (l : List Ball) (x : Int) : (ofB l x).length ≤ l.length := List.length_filter_le _ _
theorem take_snoc {α : Type} {l : List α} {k : Nat} {x : α} (h : l[k]? = some x) : l.take (k + 1) = l.take k ++ [x] := by
  have hk := (List.getElem?_eq_some_iff.1 h)
  rw [List.take_succ_eq_append_getElem hk.1, hk.2]




end Go.Proofs.Ytnpnleapnbdllaa

