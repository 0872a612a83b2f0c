/- The engine, part 10: quotients, remainders and shifts of whole numbers. -/
import Derived.Test.YtnpnleapnbdllaaEngMore
namespace Go.Proofs.Ytnpnleapnbdllaa
namespace Eng
section
variable {P : Program} {T : TyTab} [TyOk P T]
variable {n : Nat} {md : Mode} {Q : APost} {f : Fr} {σ : Sig} {m : Mem} {ops : Array Oper} {rest : List Oper} {d : Nat} {ty : TypeId} {pos : String} {after : Array Edge}
/-- x % y -/
theorem prm {t z : TypeId} {x y : Operand} {k : IntKind} {a b c : Int} (hx : ev f x = .int k a) (hy : ev f y = .int k b) (hb : b ≠ 0) (hc : a.tmod b = c) (hdn : Nat.blt d n = true)
    (h : SL P n md ops Q rest (upd f d (.int k c)) σ m) : SL P n md ops Q (⟨some d, .binOp .rem t x y z, ty, pos, after, none⟩ :: rest) f σ m :=
  SL_same rfl rfl hdn (fun g W _ => by
    subst hc
    simp [execOp, hx, hy, eqGuard, binOp, Op.intDiv, hb]) h
/-- x / y -/
theorem pqu {t z : TypeId} {x y : Operand} {k : IntKind} {a b c : Int} (hx : ev f x = .int k a) (hy : ev f y = .int k b) (hb : b ≠ 0) (hc : k.wrap (a.tdiv b) = c) (hdn : Nat.blt d n = true)
    (h : SL P n md ops Q rest (upd f d (.int k c)) σ m) : SL P n md ops Q (⟨some d, .binOp .quo t x y z, ty, pos, after, none⟩ :: rest) f σ m :=
  SL_same rfl rfl hdn (fun g W _ => by
    subst hc
    simp [execOp, hx, hy, eqGuard, binOp, Op.intDiv, hb]) h
/-- x << y -/
theorem pshl {t z : TypeId} {x y : Operand} {k k' : IntKind} {a b c : Int} (hx : ev f x = .int k a) (hy : ev f y = .int k' b) (hb : 0 ≤ b) (hc : k.wrap (a * 2 ^ (min b.toNat k.bits)) = c) (hdn : Nat.blt d n = true)
    (h : SL P n md ops Q rest (upd f d (.int k c)) σ m) : SL P n md ops Q (⟨some d, .binOp .shl t x y z, ty, pos, after, none⟩ :: rest) f σ m :=
  SL_same rfl rfl hdn (fun g W _ => by
    subst hc
    have hb' : ¬ b < 0 := by omega
    simp [execOp, hx, hy, eqGuard, binOp, Op.shift, hb']) h
/-- x >> y -/
theorem pshr {t z : TypeId} {x y : Operand} {k k' : IntKind} {a b c : Int} (hx : ev f x = .int k a) (hy : ev f y = .int k' b) (hb : 0 ≤ b) (hc : a.fdiv (2 ^ (min b.toNat k.bits)) = c) (hdn : Nat.blt d n = true)
    (h : SL P n md ops Q rest (upd f d (.int k c)) σ m) : SL P n md ops Q (⟨some d, .binOp .shr t x y z, ty, pos, after, none⟩ :: rest) f σ m :=
  SL_same rfl rfl hdn (fun g W _ => by
    subst hc
    have hb' : ¬ b < 0 := by omega
    simp [execOp, hx, hy, eqGuard, binOp, Op.shift, hb']) h
end
end Eng
end Go.Proofs.Ytnpnleapnbdllaa
