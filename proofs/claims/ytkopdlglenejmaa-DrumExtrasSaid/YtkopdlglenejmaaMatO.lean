/- Arguments that are games, lines, results. -/
import Derived.Test.YtkopdlglenejmaaOpen2
namespace Go.Proofs.Ytkopdlglenejmaa
open Eng

theorem Addon.OkM.in {m : Mem} : ∀ {a : Addon}, a.OkM m → a.In m
  | ⟨_, _, _, _, _, _, _, _, _, _⟩, ⟨_, _, _, h3, _, h5⟩ => ⟨h3.1, h5.1⟩
theorem Game.OkM.in {m : Mem} : ∀ {g : Game}, g.OkM m → g.In m
  | ⟨_, _, _, _, _, _, _, _, _, _, _, _, _, _, _, _, _, _, _, _, _, _, _, _, _, _⟩, ⟨_, _, _, _, _, _, _, _, _, _, _, _, _, _, _, _, _, _, _, _, ha, ht⟩ => ⟨ha.1, fun a h => (ha.2 a h).in, ht.1⟩
theorem Res.OkM.in {m : Mem} : ∀ {r : Res}, r.OkM m → r.In m
  | ⟨_, _, _, _, _, _, _, _, _, _, _⟩, ⟨h0, h1, h2, _, _⟩ => ⟨h0.1, h1.1, h2.1⟩
theorem Res.OkM.ser {m : Mem} : ∀ {r : Res}, r.OkM m → r.serial.size ≤ 9223372036854775807
  | ⟨_, _, _, _, _, _, _, _, _, _, _⟩, ⟨_, _, _, _, w⟩ => by unfold maxLen at w; simp only; omega

end Go.Proofs.Ytkopdlglenejmaa

