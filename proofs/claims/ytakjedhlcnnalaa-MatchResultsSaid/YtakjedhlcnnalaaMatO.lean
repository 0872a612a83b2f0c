/- Arguments that are games, lines, results. -/
import Derived.Test.YtakjedhlcnnalaaOpen2
namespace Go.Proofs.Ytakjedhlcnnalaa
open Eng

theorem Addon.Ok.in {m : Mem} : ∀ {a : Addon}, a.Ok m → a.In m
  | ⟨_, _, _, _, _, _, _, _, _, _⟩, ⟨_, _, _, h3, _, h5⟩ => ⟨h3.1, h5.1⟩
theorem Game.Ok.in {m : Mem} : ∀ {g : Game}, g.Ok m → g.In m
  | ⟨_, _, _, _, _, _, _, _, _, _, _, _, _, _, _, _, _, _, _, _, _, _, _, _, _, _⟩, ⟨_, _, _, _, _, _, _, _, _, _, _, _, _, _, _, _, _, _, _, _, ha, ht⟩ => ⟨ha.1, fun a h => (ha.2 a h).in, ht.1⟩
theorem Line.Ok.in {m : Mem} : ∀ {l : Line}, l.Ok m → l.In m
  | ⟨_, _, _, _, _, _⟩, ⟨h0, h1⟩ => ⟨h0.1, h1.1⟩
theorem Res.Ok.in {m : Mem} : ∀ {r : Res}, r.Ok m → r.In m
  | ⟨_, _, _, _, _, _, _, _, _, _, _⟩, ⟨h0, h1, h2, _, _⟩ => ⟨h0.1, h1.1, h2.1⟩
theorem Res.Ok.ser {m : Mem} : ∀ {r : Res}, r.Ok m → r.serial.size ≤ 9223372036854775807
  | ⟨_, _, _, _, _, _, _, _, _, _, _⟩, ⟨_, _, _, _, w⟩ => by unfold maxLen at w; simp only; omega

end Go.Proofs.Ytakjedhlcnnalaa

