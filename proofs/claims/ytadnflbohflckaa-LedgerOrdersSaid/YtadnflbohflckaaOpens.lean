/- How the structs among the arguments read: written by a program (opens.py). -/
import Derived.Test.YtadnflbohflckaaTop
import Derived.Test.YtadnflbohflckaaLedI
import Derived.Test.YtadnflbohflckaaProg
import Derived.KernelRfl
namespace Go.Proofs.Ytadnflbohflckaa
open Eng

theorem cells9 : Try.prog.cellsOf 9 = 1 := by kernel_rfl
theorem cells3 : Try.prog.cellsOf 3 = 1 := by kernel_rfl
theorem cells_Posting : Try.prog.cellsOf 31 = 3 := by kernel_rfl
set_option maxRecDepth 100000 in
theorem open_Posting {H : Type} {enc : TypeId × Value → H} {W : World} (n : Nat) (cs : List Value) (y : DataW H × List MemPlace) (h : DataW.trod enc Try.prog W 0 (fun _ => true) true n 31 cs = some y) : ∃ b : Posting, cs = b.enc ∧ b.Ok := by
  obtain ⟨xs, k, _, _, hlen, hxs, hf⟩ := DataW.trod_struct Try.underlying31 h
  rw [cells_Posting] at hlen
  match cs, hlen with
  | [c0, c1, c2], _ =>
  match xs, hxs with
  | [y0, y1, y2], _ =>
    have f0 : DataW.trod enc Try.prog W 0 (fun _ => true) true k 9 (([c0, c1, c2].drop 0).take (Try.prog.cellsOf 9)) = some y0 := hf 0 _ rfl
    rw [cells9] at f0
    obtain ⟨n0, e0, _, w0⟩ := DataW.trod_string Try.underlying9 f0
    have f1 : DataW.trod enc Try.prog W 0 (fun _ => true) true k 9 (([c0, c1, c2].drop 1).take (Try.prog.cellsOf 9)) = some y1 := hf 1 _ rfl
    rw [cells9] at f1
    obtain ⟨n1, e1, _, w1⟩ := DataW.trod_string Try.underlying9 f1
    have f2 : DataW.trod enc Try.prog W 0 (fun _ => true) true k 3 (([c0, c1, c2].drop 2).take (Try.prog.cellsOf 3)) = some y2 := hf 2 _ rfl
    rw [cells3] at f2
    obtain ⟨n2, e2, _, w2⟩ := DataW.trod_int Try.underlying3 f2
    simp only [List.drop, List.take, List.cons.injEq, and_true] at e0 e1 e2
    subst e0 e1 e2
    exact ⟨⟨n0, n1, n2⟩, rfl, trivial⟩

end Go.Proofs.Ytadnflbohflckaa

