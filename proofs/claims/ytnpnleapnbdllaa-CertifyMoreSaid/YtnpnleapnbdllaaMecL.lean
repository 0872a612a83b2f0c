/- lotterylaw29: its game, its example, MechanicalReads. -/
import Derived.Test.YtnpnleapnbdllaaMecX
namespace Go.Proofs.Ytnpnleapnbdllaa
open Eng

theorem srt_of {X l : List Int} (hs : X.Pairwise (fun a b => a ≤ b)) (hp : X.Perm l) : l.mergeSort leI = X := by
  rw [← mergeSort_of_perm_i hp]
  exact List.mergeSort_of_pairwise (hs.imp fun {a b} hab => by simp only [leI, decide_eq_true_eq]; exact hab)
def p9T : List Tier := [⟨1, 0, 0, 0, 1, 0⟩]
def p9G (B : Nat) : Game := ⟨⟨#[97]⟩, 1, 1, 2, 5, 0, 0, 1, 1, 2, 1, 0, 0, 0, 1, 0, 0, 1, 0, 0, none, 0, [], some ⟨B, 0, none⟩, 1, p9T⟩
theorem p9G_ok (B : Nat) : GameOk (p9G B) := by
  refine ⟨by kernel_rfl, .inl rfl, ⟨?_, ?_, ?_, ?_, ?_, ?_, ?_, ?_, ?_, ?_, ?_, ?_, ?_, ?_, ?_, ?_⟩, ⟨?_, ?_, ?_, ?_, ?_, ?_, ?_, ?_, ?_, ?_⟩, by kernel_rfl, by kernel_rfl⟩ <;> exact of_decide_eq_true (by kernel_rfl)
def p9L : List Ball := [⟨1, 1, 4⟩, ⟨1, 3, 2⟩, ⟨1, 1, 1⟩]
theorem gameErr_of9 {g : Game} (h : GameOk g) : gameErr g = 0 := by
  unfold gameErr
  rw [if_neg (by rw [h.name]; exact Bool.noConfusion), if_neg (by have := h.kind; omega), okE_t ⟨h.mx, h.tm⟩, if_neg (by rw [h.ad]; decide)]
  exact h.tr
theorem p9E (B : Nat) : mechE (p9G B) p9L = 0 := by
  unfold mechE
  rw [if_neg (by rw [gameErr_of9 (p9G_ok B)]; decide)]
  kernel_rfl
theorem p9O (B : Nat) : mechO (p9G B) p9L = ([1, 4], [], [2]) := by
  unfold mechO
  rw [if_neg (by rw [p9E]; decide), if_pos (by rfl)]
  unfold srtO
  rw [show numsD 1 p9L = [4, 1] from rfl, show numsD 2 p9L = [] from rfl, show numsD 3 p9L = [2] from rfl, srt_of (X := [1, 4]) (l := [4, 1]) (by decide) (by decide), srt_of (X := []) (l := []) (by decide) (by decide), srt_of (X := [2]) (l := [2]) (by decide) (by decide)]
def p9R (B Bb : Nat) : Res := ⟨some ⟨B, 0, none⟩, 2, [1, 4], none, 0, [], some ⟨Bb, 0, none⟩, 1, [2], 0, ⟨#[]⟩⟩
theorem p9same {x : Res} (h : OutIs x [1, 4] [] [2]) (B Bb : Nat) : sameR x (p9R B Bb) := h.same (y := p9R B Bb) ⟨rfl, rfl, rfl, rfl, rfl⟩




end Go.Proofs.Ytnpnleapnbdllaa

