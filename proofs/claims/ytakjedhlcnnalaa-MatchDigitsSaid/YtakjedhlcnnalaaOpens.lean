/- How the structs among the arguments read: written by a program (opens.py). -/
import Derived.Test.YtakjedhlcnnalaaTop
import Derived.Test.YtakjedhlcnnalaaProg
import Derived.KernelRfl
namespace Go.Proofs.Ytakjedhlcnnalaa
open Eng

theorem cells_int : Try.prog.cellsOf 3 = 1 := by kernel_rfl
theorem open_intE {H : Type} {enc : TypeId × Value → H} {W : World} (n : Nat) (cs : List Value) (y : DataW H × List MemPlace) (h : DataW.trod enc Try.prog W 0 (fun _ => true) true n 3 cs = some y) : ∃ b : Int, cs = intE b ∧ (Lit.int .i64 b).wf = true := by
  obtain ⟨n0, e0, _, w0⟩ := DataW.trod_int Try.underlying3 h
  exact ⟨n0, e0, w0⟩

end Go.Proofs.Ytakjedhlcnnalaa

