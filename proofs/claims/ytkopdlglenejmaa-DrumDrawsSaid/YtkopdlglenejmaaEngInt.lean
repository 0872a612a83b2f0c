/- The engine, part 10: quotients, remainders and shifts of whole numbers. -/
import Derived.Test.YtkopdlglenejmaaEngMore
namespace Go.Proofs.Ytkopdlglenejmaa
namespace Eng
section
variable {P : Program} {T : TyTab} [TyOk P T]
variable {n : Nat} {md : Mode} {Q : APost} {f : Fr} {σ : Sig} {m : Mem} {ops : Array Oper} {rest : List Oper} {d : Nat} {ty : TypeId} {pos : String} {after : Array Edge}
/-- x % y -/
theorem prm {t z : TypeId} {x y : Operand} {k : IntKind} {a b c : Int} (hx : ev f x = .int k a) (hy : ev f y = .int k b) (hb : b ≠ 0) (hc : a.tmod b = c) (hdn : Nat.blt d n = true)
    (h : SL P n md ops Q rest (upd f d (.int k c)) σ m) : SL P n md ops Q (⟨some d, .binOp .rem t x y z, ty, pos, after, none⟩ :: rest) f σ m :=
  SL_same rfl rfl hdn (fun g W _ => by
    subst hc
    simp [execOp, hx, hy, eqGuard, binOp, Op.intDiv, hb]) h
/-- x / y -/
theorem pqu {t z : TypeId} {x y : Operand} {k : IntKind} {a b c : Int} (hx : ev f x = .int k a) (hy : ev f y = .int k b) (hb : b ≠ 0) (hc : k.wrap (a.tdiv b) = c) (hdn : Nat.blt d n = true)
    (h : SL P n md ops Q rest (upd f d (.int k c)) σ m) : SL P n md ops Q (⟨some d, .binOp .quo t x y z, ty, pos, after, none⟩ :: rest) f σ m :=
  SL_same rfl rfl hdn (fun g W _ => by
    subst hc
    simp [execOp, hx, hy, eqGuard, binOp, Op.intDiv, hb]) h
/-- x << y -/
theorem pshl {t z : TypeId} {x y : Operand} {k k' : IntKind} {a b c : Int} (hx : ev f x = .int k a) (hy : ev f y = .int k' b) (hb : 0 ≤ b) (hc : k.wrap (a * 2 ^ (min b.toNat k.bits)) = c) (hdn : Nat.blt d n = true)
    (h : SL P n md ops Q rest (upd f d (.int k c)) σ m) : SL P n md ops Q (⟨some d, .binOp .shl t x y z, ty, pos, after, none⟩ :: rest) f σ m :=
  SL_same rfl rfl hdn (fun g W _ => by
    subst hc
    have hb' : ¬ b < 0 := by omega
    simp [execOp, hx, hy, eqGuard, binOp, Op.shift, hb']) h
/-- x >> y -/
theorem pshr {t z : TypeId} {x y : Operand} {k k' : IntKind} {a b c : Int} (hx : ev f x = .int k a) (hy : ev f y = .int k' b) (hb : 0 ≤ b) (hc : a.fdiv (2 ^ (min b.toNat k.bits)) = c) (hdn : Nat.blt d n = true)
    (h : SL P n md ops Q rest (upd f d (.int k c)) σ m) : SL P n md ops Q (⟨some d, .binOp .shr t x y z, ty, pos, after, none⟩ :: rest) f σ m :=
  SL_same rfl rfl hdn (fun g W _ => by
    subst hc
    have hb' : ¬ b < 0 := by omega
    simp [execOp, hx, hy, eqGuard, binOp, Op.shift, hb']) h
/-- make([]T, c), of elements that are one cell. -/
theorem mkn {t : TypeId} {e c : Nat} {ei : TI} {z : Value} {x y : Operand} {kl kq : IntKind} {ag : Bool} {ts tb : Nat} {tz : Value} (ht : tyGet T t = some ⟨.slice e, ag, ts, tb, tz⟩) (he : tyGet T e = some ei) (hsz : ei.size = 1) (hz : ei.zero.cells = #[z]) (hx : ev f x = .int kl (c : Nat)) (hy : ev f y = .int kq (c : Nat)) (hb : ei.bytes * c ≤ 281474976710656) (hc : c ≤ maxLen) (hdn : Nat.blt d n = true)
    (h : ∀ B σe, OwnS e 1 (.slice (some ⟨B, 0, none⟩) c c) (List.replicate c z) σe → SL P n md ops Q rest (upd f d (.slice (some ⟨B, 0, none⟩) c c)) (σe ++ σ) m) (hm : md.loud = true := by exact rfl) :
    SL P n md ops Q (⟨some d, .makeSlice t x y, ty, pos, after, none⟩ :: rest) f σ m :=
  SL_val hm rfl rfl rfl hdn fun g W hC hk => by
    obtain ⟨dd, hd1, hd2, _⟩ := (TyOk.get (P := P) ht).desc
    obtain rfl : dd = .slice e := by cases dd <;> simp [DescOk] at hd2 ⊢; exact hd2
    obtain ⟨info, hi, hzz, hss, hbb⟩ := (TyOk.get (P := P) he).infoEx
    have hc' := hc
    unfold maxLen at hc'
    have hb' : (info.bytes : Int) * (c : Int) ≤ 281474976710656 := by
      rw [hbb]
      have h : ((ei.bytes * c : Nat) : Int) ≤ 281474976710656 := by omega
      rwa [Int.natCast_mul] at h
    have hr := run_make (P := P) W t e info ei.zero hd1 hi hzz kl kq c c (by omega) (Int.le_refl _) hb' (by omega)
    simp only [Int.toNat_natCast, hss, hsz, Nat.mul_one, hz] at hr
    have hcells : (madeCells #[z] c).toList = List.replicate c z := by
      unfold madeCells
      refine List.ext_getElem (by simp) fun j h1 h2 => ?_
      simp [Nat.mod_one]
    refine ⟨_, W.alloc (.cells (madeCells #[z] c) e), [(W.heap.size, Row e 1 c (List.replicate c z))] ++ σ, m, by simp [execOp, hx, hy, hr], (hC.alloc _).imp (ψ := Row e 1 c (List.replicate c z)) (fun o ho => ?_), Le.refl m, Mode.keep_cons _ hk, h W.heap.size _ (.row W.heap.size c c _ (by simp) (Nat.le_refl _) hc)⟩
    subst ho
    exact ⟨_, rfl, by rw [size_madeCells, Nat.mul_one], hc, by simp, by rw [hcells, List.length_replicate, List.take_of_length_le (by simp)]⟩
/-- x[lo:] -/
theorem slo {t e : TypeId} {ei : TI} {ag : Bool} {ts tb size : Nat} {tz : Value} {x lo : Operand} {a : Option Addr} {len cap : Nat} {l : Int} (ht : tyGet T t = some ⟨.slice e, ag, ts, tb, tz⟩) (he : tyGet T e = some ei) (hsz : ei.size = size)
    (hx : ev f x = .slice a len cap) (hlo : ev f lo = .int .i64 l) (h0 : 0 ≤ l) (h2 : l ≤ len) (hdn : Nat.blt d n = true)
    (hn : SL P n md ops Q rest (upd f d (sliced a l.toNat len cap size)) σ m) : SL P n md ops Q (⟨some d, .slice t x (some lo) none none, ty, pos, after, none⟩ :: rest) f σ m :=
  SL_same rfl rfl hdn (fun g W _ => by
    obtain ⟨dd, hd1, hd2, _⟩ := (TyOk.get (P := P) ht).desc
    obtain rfl : dd = .slice e := by cases dd <;> simp [DescOk] at hd2 ⊢; exact hd2
    have hel : P.elem t = e := by simp [Program.elem, hd1]
    have hs := (TyOk.get (P := P) he).sizeOf W
    have h3 := run_slice_l (P := P) W t a len cap (by rw [hel]; exact hd1) .i64 l h0 h2
    rw [hel, hs] at h3
    simp only [Result.andThen_ok] at h3
    have h4 := run_sliceAt_slice (P := P) W t (.slice a len cap) (some (.int .i64 l)) none none (by rw [hel]; exact hd1)
    rw [h3, hsz] at h4
    simp [execOp, hx, hlo, h4]) hn
end
/-! Owned memory is lent to a call that only reads memory which stays. -/
theorem Conc.thaw {g : Gh} {W W0 : World} {m m0 : Mem} {i : Nat} {o : Obj} {φ : Chk} {σ σ' : Sig} (h0 : Conc g W0 m0 ((i, φ) :: σ)) (hm : m i = some o) (ho : φ o) (hle : Le m0 m)
    (h : Conc { g with F := g.F } W m σ') (hs : ∀ c ∈ σ', c.1 ≠ i) : Conc g W (fun k => if k = i then none else m k) ((i, φ) :: σ') := by
  have hFi : g.F i = none := by
    cases hF : g.F i with
    | none => rfl
    | some o' => exact absurd rfl ((h0.frg i o' hF).2.2 (i, φ) (List.mem_cons_self ..))
  have hbi : g.base i = none := by
    cases hB : g.base i with
    | none => rfl
    | some o' =>
      have := h0.base i o' hB
      rw [(h0.own (i, φ) (List.mem_cons_self ..)).2] at this
      cases this
  refine ⟨h.os, h.tape, h.output, fun k x hk => ?_, fun k x hk => ?_, fun k x hk => ?_, fun c hc => ?_, ?_⟩
  · have hki : k ≠ i := fun e => by rw [e, hbi] at hk; cases hk
    simp only [if_neg hki]
    exact h.base k x hk
  · split at hk
    · cases hk
    · exact h.imm k x hk
  · have hki : k ≠ i := fun e => by rw [e, hFi] at hk; cases hk
    obtain ⟨a, b, c⟩ := h.frg k x hk
    refine ⟨a, by simp only [if_neg hki]; exact b, fun c' hc' => ?_⟩
    rcases List.mem_cons.1 hc' with rfl | hc'
    · exact fun e => hki e.symm
    · exact c c' hc'
  · rcases List.mem_cons.1 hc with rfl | hc
    · exact ⟨⟨o, h.imm i o hm, ho⟩, by simp⟩
    · obtain ⟨a, b⟩ := h.own c hc
      refine ⟨a, ?_⟩
      simp only [if_neg (hs c hc)]
      exact b
  · simp only [List.map_cons, List.nodup_cons]
    refine ⟨fun hmem => ?_, h.nodup⟩
    obtain ⟨c, hc, e⟩ := List.mem_map.1 hmem
    exact hs c hc e
/-- A call whose result is known when one owned block may be read as memory that stays. -/
theorem CallsS.lend {P : Program} {F : FuncId} {args : Array Value} {m : Mem} {i : Nat} {φ : Chk} {σ : Sig} {v : Value}
    (h : ∀ o, φ o → ∀ m', m' = m.set i o → Le m m' → CallsS P F args σ m' fun u σ' m2 => u = v ∧ σ' = σ ∧ m2 = m') :
    CallsS P F args ((i, φ) :: σ) m fun u σ' m' => u = v ∧ σ' = (i, φ) :: σ ∧ m' = m := by
  intro g W hC
  obtain ⟨⟨o, ho, hφ⟩, hmi⟩ := hC.own (i, φ) (List.mem_cons_self ..)
  have hnd := hC.nodup
  simp only [List.map_cons, List.nodup_cons] at hnd
  have hni : ∀ c ∈ σ, c.1 ≠ i := fun c hc e => hnd.1 (List.mem_map.2 ⟨c, hc, e⟩)
  have hle : Le m (m.set i o) := fun k x hk => by
    unfold Mem.set
    rw [if_neg (fun e => by subst e; simp only at hmi; rw [hmi] at hk; cases hk)]; exact hk
  have hC' : Conc g W (m.set i o) σ := by
    refine ⟨hC.os, hC.tape, hC.output, hC.base.trans hle, fun k x hk => ?_, fun k x hk => ?_, fun c hc => ?_, hnd.2⟩
    · unfold Mem.set at hk
      split at hk
      · rename_i e; subst e; cases hk; exact ho
      · exact hC.imm k x hk
    · obtain ⟨a, b, c⟩ := hC.frg k x hk
      refine ⟨a, ?_, fun y hy => c y (List.mem_cons_of_mem _ hy)⟩
      unfold Mem.set
      rw [if_neg (fun e => c (i, φ) (List.mem_cons_self ..) e.symm)]; exact b
    · obtain ⟨a, d⟩ := hC.own c (List.mem_cons_of_mem _ hc)
      refine ⟨a, ?_⟩
      unfold Mem.set
      rw [if_neg (hni c hc)]; exact d
  refine (h o hφ _ rfl hle g W hC').mono fun e W' ⟨u, σ', m', he, hC2, _, h1, h2, h3⟩ => ?_
  subst h2
  subst h3
  have hset : (m.set i o) i = some o := by simp [Mem.set]
  have ht := hC.thaw (W := W') hset hφ hle hC2 hni
  have hmm : (fun k => if k = i then none else (m.set i o) k) = m := by
    funext k
    by_cases e : k = i
    · subst e; simp only [if_true]; exact hmi.symm
    · simp only [if_neg e, Mem.set]
  rw [hmm] at ht
  exact ⟨u, (i, φ) :: σ', m, he, ht, Le.refl m, h1, rfl, rfl⟩
end Eng
end Go.Proofs.Ytkopdlglenejmaa
