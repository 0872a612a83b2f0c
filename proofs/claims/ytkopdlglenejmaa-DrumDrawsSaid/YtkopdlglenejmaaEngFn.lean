/- The engine, part 4: a function's body from its head to its results; the ways out of pieces of code. -/
import Derived.Test.YtkopdlglenejmaaEngMem
import Derived.ChangeKeysEq
namespace Go.Proofs.Ytkopdlglenejmaa
namespace Eng

section
variable {P : Program} {n : Nat} {Q : APost} {f : Fr} {σ : Sig} {m : Mem} {X : Fr → Sig → Mem → Prop}

theorem nx (h : X f σ m) : thenQ X Q .normal f σ m := h
theorem ne {i : Nat} (h : Q (.exit i) f σ m) : thenQ X Q (.exit i) f σ m := h
theorem nr (h : Q .ret f σ m) : thenQ X Q .ret f σ m := h
theorem nb {id : Nat} (h : Q .normal f σ m) : inBlock id Q .normal f σ m := h
theorem br {id : Nat} (h : Q .ret f σ m) : inBlock id Q .ret f σ m := h
theorem be {i id : Nat} (he : Nat.beq i id = true) (h : Q .normal f σ m) : inBlock id Q (.exit i) f σ m := by
  simp only [inBlock, he, cond_true]; exact h
theorem bo {i id : Nat} (he : Nat.beq i id = false) (h : Q (.exit i) f σ m) : inBlock id Q (.exit i) f σ m := by
  simp only [inBlock, he, cond_false]; exact h

theorem upd_self {d : Nat} {v : Value} (h : f d = v) : upd f d v = f := by
  funext t
  rw [upd_eq]
  split
  · rename_i e; rw [e, h]
  · rfl

/-- A slot that holds a bool: one goal for each. -/
theorem bsp {ops : Array Oper} {l : List Oper} {md : Mode} (d : Nat) {b : Bool} (hb : f d = .bool b) (ht : b = true → SL P n md ops Q l (upd f d (.bool true)) σ m) (hf : b = false → SL P n md ops Q l (upd f d (.bool false)) σ m) : SL P n md ops Q l f σ m := by
  cases b with
  | true => have := ht rfl; rwa [upd_self hb] at this
  | false => have := hf rfl; rwa [upd_self hb] at this

theorem bsw {c : Code} (d : Nat) {b : Bool} (hb : f d = .bool b) (ht : b = true → SWP P n c Q (upd f d (.bool true)) σ m) (hf : b = false → SWP P n c Q (upd f d (.bool false)) σ m) : SWP P n c Q f σ m := by
  cases b with
  | true => have := ht rfl; rwa [upd_self hb] at this
  | false => have := hf rfl; rwa [upd_self hb] at this

/-- A slot may be written anew with what it holds, said otherwise. -/
theorem resay {ops : Array Oper} {l : List Oper} {md : Mode} (d : Nat) (v : Value) (hv : f d = v) (h : SL P n md ops Q l (upd f d v) σ m) : SL P n md ops Q l f σ m := by
  rwa [upd_self hv] at h

/-- A cut: what follows is proved once, for all frames that agree. -/
theorem SWP_cut {c : Code} (I : Fr → Sig → Mem → Prop) (h : SWP P n c (thenQ I Q) f σ m) (hI : ∀ f' σ' m', I f' σ' m' → X f' σ' m') : SWP P n c (thenQ X Q) f σ m :=
  SWP_mono (fun e f σ m hq => by
    cases e with
    | normal => exact hI f σ m hq
    | _ => exact hq) h

/-! ## A function's body -/

variable {T : TyTab} [TyOk P T]

def ResA (T : TyTab) (f : Fr) (σ : Sig) (m : Mem) : List ResultVar → List Value → Prop
  | [], [] => True
  | .tmp t :: r, v :: l => f t = v ∧ ResA T f σ m r l
  | .cell x t :: r, v :: l => (∃ p cs, f x = .pointer (some p) ∧ Rd σ m p cs ∧ ldV T t cs 0 = some v) ∧ ResA T f σ m r l
  | _, _ => False

def oneOr : List Value → Value
  | [v] => v
  | l => .tuple l.toArray

/-- Where the function ends. -/
def FnQ (T : TyTab) (fn : Func) (R : Value → Sig → Mem → Prop) : APost := fun e f σ m =>
  match e with
  | .ret | .normal => ∃ l, ResA T f σ m fn.results.toList l ∧ R (oneOr l) σ m
  | _ => False

theorem fin {fn : Func} {R : Value → Sig → Mem → Prop} (l : List Value) (h : ResA T f σ m fn.results.toList l) (hR : R (oneOr l) σ m) : FnQ T fn R .ret f σ m := ⟨l, h, hR⟩
theorem finn {fn : Func} {R : Value → Sig → Mem → Prop} (l : List Value) (h : ResA T f σ m fn.results.toList l) (hR : R (oneOr l) σ m) : FnQ T fn R .normal f σ m := ⟨l, h, hR⟩


def resOne (a : Act) : ResultVar → Sem Value
  | .tmp t => pure (a.tmps.getD t undef)
  | .cell x t => do loadVar t (← asAddr (a.tmps.getD x undef))

theorem results_of {fn : Func} {a : Act} {f : Fr} {n : Nat} {g : Gh} {W : World} (hF : FrOk a f n) (hC : Conc g W m σ) {l : List Value} (h : ResA T f σ m fn.results.toList l) : (results fn a.tmps).run P W = .ok (oneOr l) W := by
  have key : ∀ (rs : List ResultVar) (l : List Value), ResA T f σ m rs l → (rs.mapM (resOne a)).run P W = .ok l W := by
    intro rs
    induction rs with
    | nil =>
      intro l h
      cases l with
      | nil => simp
      | cons _ _ => exact h.elim
    | cons r rs ih =>
      intro l h
      cases l with
      | nil => cases r <;> exact h.elim
      | cons v l =>
        cases r with
        | tmp t =>
          obtain ⟨h1, h2⟩ := h
          have e := hF.get t
          simp only [List.mapM_cons, resOne, Sem.run_bind, Sem.run_pure, Result.andThen_ok, ih l h2, e, h1]
        | cell x t =>
          obtain ⟨⟨p, cs, h1, h2, h3⟩, h4⟩ := h
          have e := hF.get x
          have hl := ldV_ok (P := P) (h2 g W hC) h3
          rw [add_zero'] at hl
          simp only [List.mapM_cons, resOne, Sem.run_bind, Sem.run_pure, Result.andThen_ok, ih l h4, e, h1, asAddr, hl]
  have hk := key fn.results.toList l h
  have e0 : results fn a.tmps = (do
      let vs ← fn.results.mapM (resOne a)
      pure (if h : vs.size = 1 then vs[0] else .tuple vs)) := by
    unfold results
    congr 1
  rw [e0, Array.mapM_eq_mapM_toList]
  simp only [Sem.run_bind, Sem.run_map, hk, Result.andThen_ok, Sem.run_pure]
  cases l with
  | nil => rfl
  | cons x l => cases l with
    | nil => rfl
    | cons y l => rfl

theorem enter {F : FuncId} {fn : Func} {c : Code} {args : List Value} {R : Value → Sig → Mem → Prop} (hf : P.funcs[F]? = some fn) (hn : fn.ntmps = n) (hle : Nat.ble args.length n = true) (hb : fn.body = some c)
    (h : SWP P n c (FnQ T fn R) (ofArgs args) σ m) : CallsS P F args.toArray σ m R := by
  intro g W hC
  have hle := Nat.le_of_ble_eq_true hle
  refine calls_of_wp hf hb ?_
  have hC' : Conc { g with base := m } W m σ := ⟨hC.os, hC.tape, hC.output, Le.refl m, hC.imm, hC.frg, hC.own, hC.nodup⟩
  have hF : FrOk { tmps := args.toArray ++ Array.replicate (fn.ntmps - args.toArray.size) undef, defers := [] } (ofArgs args) n := by
    refine ⟨by simp; omega, rfl, fun t => ?_⟩
    simp only [ofArgs, Array.getD_eq_getD_getElem?, List.getD_eq_getElem?_getD, Array.getElem?_append, Array.getElem?_replicate, List.size_toArray, List.getElem?_toArray]
    by_cases ht : t < args.length
    · rw [if_pos ht]
    · rw [if_neg ht, List.getElem?_eq_none (by omega)]
      split <;> rfl
  refine wp_mono (h _ W _ hC' hF) fun e a' W' ⟨f', σ', m', hF', hC2, hq⟩ => ?_
  have fin : ∀ l, ResA T f' σ' m' fn.results.toList l → R (oneOr l) σ' m' → bodyPost P fn (fun e W' => ∃ v σ' m', e = .returned v ∧ Conc g W' m' σ' ∧ Le m m' ∧ R v σ' m') .ret a' W' := fun l h1 h2 =>
    ⟨hF'.defs, _, results_of hF' hC2 h1, _, σ', m', rfl, ⟨hC2.os, hC2.tape, hC2.output, hC.base.trans hC2.base, hC2.imm, hC2.frg, hC2.own, hC2.nodup⟩, hC2.base, h2⟩
  cases e with
  | normal => obtain ⟨l, h1, h2⟩ := hq; exact fin l h1 h2
  | ret => obtain ⟨l, h1, h2⟩ := hq; exact fin l h1 h2
  | _ => exact hq.elim

/-- Behind a function's end memory may be said otherwise: what is owned is let go. -/
theorem CallsS.ghost {F : FuncId} {args : Array Value} {R R' : Value → Sig → Mem → Prop} (h : CallsS P F args σ m R')
    (hg : ∀ v σ' m', R' v σ' m' → ∀ g W, Conc g W m' σ' → ∃ σ'' m'', Conc g W m'' σ'' ∧ Le m' m'' ∧ R v σ'' m'') : CallsS P F args σ m R :=
  fun g W hC => (h g W hC).mono fun _ _ ⟨v, σ', m', he, hC', hl, hR⟩ =>
    let ⟨σ'', m'', h1, h2, h3⟩ := hg v σ' m' hR g _ hC'
    ⟨v, σ'', m'', he, h1, hl.trans h2, h3⟩

/-- The number in a slot, for a loop's measure. -/
def nOf : Value → Nat
  | .int _ n => n.toNat
  | _ => 0

/-- Sums that stay within int. -/
theorem w64 {x : Int} (h1 : -9223372036854775808 ≤ x) (h2 : x ≤ 9223372036854775807) : IntKind.i64.wrap x = x := by
  rw [IntKind.wrap_i64]; omega

variable {md : Mode} {ops : Array Oper} {rest : List Oper} {d : Nat} {op : Op} {ty : TypeId} {pos : String} {after : Array Edge}

/-- A load from memory that stays: a whole element; a field of it. -/
theorem ldA {t : TypeId} {x : Operand} {q : Addr} {cs : List Value} {v : Value} (hx : ev f x = .pointer (some q)) (hr : At m q cs) (hv : ldV T t cs 0 = some v) (hdn : Nat.blt d n = true)
    (h : SL P n md ops Q rest (upd f d v) σ m) : SL P n md ops Q (⟨some d, .load t x, ty, pos, after, none⟩ :: rest) f σ m :=
  ld (Rd.of_at hr) hx (add_zero' q).symm hv hdn h
theorem ldF {t : TypeId} {x : Operand} {q p : Addr} {off : Nat} {cs : List Value} {v : Value} (hx : ev f x = .pointer (some q)) (hq : q = p.add off) (hr : At m p cs) (hv : ldV T t cs off = some v) (hdn : Nat.blt d n = true)
    (h : SL P n md ops Q rest (upd f d v) σ m) : SL P n md ops Q (⟨some d, .load t x, ty, pos, after, none⟩ :: rest) f σ m :=
  ld (Rd.of_at hr) hx hq hv hdn h

/-- An element of a slice that memory holds. -/
theorem RS.at_ {size k len : Nat} {v : Value} {xs : List Value} (h : RS m size v len xs) (hk : k < len) : ∃ ad cap, v = .slice (some ad) len cap ∧ At m (ad.add (k * size)) ((xs.drop (k * size)).take size) := by
  obtain ⟨a, cap, h1, h2, h3, h4, h5, h6⟩ := h
  cases a with
  | none => have := (h5 rfl).1; omega
  | some ad => exact ⟨ad, cap, h1, ((h6 ad rfl).drop _).take _⟩

theorem flatMap_seg {α : Type} {e : α → List Value} {size : Nat} (he : ∀ x, (e x).length = size) : ∀ (l : List α) (k : Nat) (x : α), l[k]? = some x → ((l.flatMap e).drop (k * size)).take size = e x
  | [], _, _, h => by simp at h
  | y :: l, 0, x, h => by
    simp only [List.getElem?_cons_zero, Option.some.injEq] at h
    subst h
    simp only [Nat.zero_mul, List.drop_zero, List.flatMap_cons]
    rw [← he y, List.take_left]
  | y :: l, k + 1, x, h => by
    simp only [List.getElem?_cons_succ] at h
    have := flatMap_seg he l k x h
    rw [List.flatMap_cons, Nat.succ_mul, Nat.add_comm, ← List.drop_drop]
    have e0 : ((e y) ++ l.flatMap e).drop size = l.flatMap e := by rw [← he y, List.drop_left]
    rw [e0]; exact this

theorem flatMap_len {α : Type} {e : α → List Value} {size : Nat} (he : ∀ x, (e x).length = size) (l : List α) : (l.flatMap e).length = l.length * size := by
  induction l with
  | nil => simp
  | cons y l ih => simp only [List.flatMap_cons, List.length_append, he, ih, List.length_cons, Nat.succ_mul, Nat.add_comm]

/-- A list whose elements are cells by themselves. -/
def RL {α : Type} (m : Mem) (e : α → List Value) (size : Nat) (v : Value) (l : List α) : Prop := RS m size v l.length (l.flatMap e)
theorem RL.mono {α : Type} {e : α → List Value} {size : Nat} {v : Value} {l : List α} {m' : Mem} (h : RL m e size v l) (hl : Le m m') : RL m' e size v l := RS.mono h hl
theorem RL.len {α : Type} {e : α → List Value} {size : Nat} {v : Value} {l : List α} (h : RL m e size v l) : ∃ a cap, v = .slice a l.length cap := by
  obtain ⟨a, cap, h1, _⟩ := h; exact ⟨a, cap, h1⟩
theorem RL.at_ {α : Type} {e : α → List Value} {size k : Nat} {v : Value} {l : List α} {x : α} (he : ∀ x, (e x).length = size) (h : RL m e size v l) (hk : l[k]? = some x) : ∃ ad cap, v = .slice (some ad) l.length cap ∧ At m (ad.add (k * size)) (e x) := by
  have hlt := (List.getElem?_eq_some_iff.1 hk).1
  obtain ⟨ad, cap, h1, h2⟩ := RS.at_ h hlt
  rw [flatMap_seg he l k x hk] at h2
  exact ⟨ad, cap, h1, h2⟩
theorem RL.at1 {α : Type} {e : α → List Value} {k : Nat} {v : Value} {l : List α} {x : α} (he : ∀ x, (e x).length = 1) (h : RL m e 1 v l) (hk : l[k]? = some x) : ∃ ad cap, v = .slice (some ad) l.length cap ∧ At m (ad.add k) (e x) := by
  have := RL.at_ he h hk
  rwa [Nat.mul_one] at this
theorem RL.nil {α : Type} (e : α → List Value) (size : Nat) : RL m e size (.slice none 0 0) [] :=
  ⟨none, 0, rfl, by simp, Nat.le_refl _, Nat.zero_le _, fun _ => ⟨rfl, rfl⟩, fun _ h => (by cases h)⟩

theorem RL.of_at {α : Type} {en : α → List Value} {size B : Nat} (he : ∀ x, (en x).length = size) (l : List α) (hn : Nat.ble l.length 65536 = true) {cs : List Value} (hc : cs = l.flatMap en) (h : At m ⟨B, 0, none⟩ cs) : RL m en size (.slice (some ⟨B, 0, none⟩) l.length l.length) l :=
  ⟨_, _, rfl, flatMap_len he l, Nat.le_refl _, by have := Nat.le_of_ble_eq_true hn; unfold maxLen; omega, fun e => (by cases e), fun ad e => by cases e; rw [← hc]; exact h⟩

/-- A built list is let go. -/
theorem OwnS.freezeL {α : Type} {g : Gh} {W : World} {e : Nat} {en : α → List Value} {size : Nat} (hsz : 0 < size) (he : ∀ x, (en x).length = size) {v : Value} {l : List α} {σe τ : Sig} (h : OwnS e size v (l.flatMap en) σe) (hC : Conc g W m (σe ++ τ)) :
    ∃ m', Le m m' ∧ Conc g W m' τ ∧ RL m' en size v l := by
  obtain ⟨m', k, h1, h2, h3⟩ := h.freeze hC
  obtain ⟨a, cap, e1, e2, r⟩ := h3
  have : k = l.length := by
    rw [flatMap_len he] at e2
    exact (Nat.eq_of_mul_eq_mul_right hsz e2).symm
  subst this
  exact ⟨m', h1, h2, a, cap, e1, e2, r⟩

/-! ## More index rules -/

theorem iai {t : TypeId} {es ea : Nat} {e len cap : Nat} {j : Int} {ei : TI} {x i : Operand} {ad : Addr} {kd : IntKind} {ag : Bool} {ts tb : Nat} {tz : Value} (ht : tyGet T t = some ⟨.slice e, ag, ts, tb, tz⟩) (he : tyGet T e = some ei) (hes : ei.size = es) (hea : j.toNat * es = ea)
    (hx : ev f x = .slice (some ad) len cap) (hi : ev f i = .int kd j) (h0 : 0 ≤ j) (hk : j < len) (hdn : Nat.blt d n = true)
    (h : SL P n md ops Q rest (upd f d (.pointer (some (ad.add ea)))) σ m) :
    SL P n md ops Q (⟨some d, .indexAddr t x i, ty, pos, after, none⟩ :: rest) f σ m := by
  obtain ⟨k, rfl⟩ := Int.eq_ofNat_of_zero_le h0
  exact ia ht he hes hea hx hi (by omega) hdn h

theorem iari {t : TypeId} {es ea : Nat} {e len : Nat} {j : Int} {ei : TI} {x i : Operand} {ad : Addr} {kd : IntKind} {ag : Bool} {ts tb : Nat} {tz : Value} (ht : tyGet T t = some ⟨.arr len e, ag, ts, tb, tz⟩) (he : tyGet T e = some ei) (hes : ei.size = es) (hea : j.toNat * es = ea)
    (hx : ev f x = .pointer (some ad)) (hi : ev f i = .int kd j) (h0 : 0 ≤ j) (hk : j < len) (hdn : Nat.blt d n = true)
    (h : SL P n md ops Q rest (upd f d (.pointer (some (ad.add ea)))) σ m) :
    SL P n md ops Q (⟨some d, .indexAddr t x i, ty, pos, after, none⟩ :: rest) f σ m := by
  obtain ⟨k, rfl⟩ := Int.eq_ofNat_of_zero_le h0
  exact iar ht he hes hea hx hi (by omega) hdn h

/-- A store of one cell at a place that is reckoned. -/
theorem st1 {t : TypeId} {x y : Operand} {B e off : Nat} {cs : List Value} {v : Value} {q : Addr} {ti : TI} {σ₁ σ₂ : Sig} (hi : tyGet T t = some ti) (hx : ev f x = .pointer (some q)) (hq : q = (⟨B, 0, none⟩ : Addr).add off) (hy : ev f y = v)
    (hσ : σ = σ₁ ++ (B, Cells e cs) :: σ₂) (hlen : Nat.beq ti.size 1 = true) (hv : v.cells.toList = [v]) (hfit : off < cs.length) (h1 : v.oneCell' = true)
    (h : SL P n md ops Q rest f (σ₁ ++ (B, Cells e (cs.set off v)) :: σ₂) m)
    (hm : md.loud = true := by exact rfl) (hk : md.keep (σ₁ ++ (B, Cells e (cs.set off v)) :: σ₂) := by first | exact True.intro | exact Sub.nil _ | (repeat (first | exact Sub.refl _ | exact Sub.nil _ | refine Sub.cons2 _ ?_ | refine Sub.cons _ ?_ | refine Sub.left _ ?_))) :
    SL P n md ops Q (⟨none, .store t x y, ty, pos, after, none⟩ :: rest) f σ m := by
  refine st (off := off) hi hx hq hy hσ ?_ ?_ ?_ ?_ hm ?_
  · rw [hv, Nat.eq_of_beq_eq_true hlen]; rfl
  · rw [hv]; exact Nat.ble_eq_true_of_le hfit
  · rw [hv]; simp [h1]
  · rw [hv]; exact h
  · rw [hv]; exact hk

/-- What is owned is let go, and read from now on. -/
theorem SL_freeze {B e : Nat} {cs : List Value} {τ : Sig} {l : List Oper} (h : ∀ m', Le m m' → At m' ⟨B, 0, none⟩ cs → SL P n md ops Q l f τ m') (hm : md.loud = true := by exact rfl) (hk : md.keep τ := by first | exact True.intro | exact Sub.nil _ | (repeat (first | exact Sub.refl _ | exact Sub.nil _ | refine Sub.cons2 _ ?_ | refine Sub.cons _ ?_ | refine Sub.left _ ?_))) : SL P n md ops Q l f ((B, Cells e cs) :: τ) m :=
  SL_ghost hm fun g W hC _ => by
    obtain ⟨o, ho, _, hl, hC'⟩ := hC.freeze
    refine ⟨τ, _, hC', hl, hk, h _ hl fun j v hj => ?_⟩
    rw [Addr.add_lit, Nat.zero_add]
    cases ho
    simp only [Mem.cell, Mem.set, if_true, objCell, Option.isSome_none, Bool.false_eq_true, if_false]
    simpa using hj
theorem SL_freezeS {e size : Nat} {v : Value} {xs : List Value} {σe τ : Sig} {l : List Oper} (hown : OwnS e size v xs σe) (h : ∀ m' k, Le m m' → RS m' size v k xs → SL P n md ops Q l f τ m') (hm : md.loud = true := by exact rfl) (hk : md.keep τ := by first | exact True.intro | exact Sub.nil _ | (repeat (first | exact Sub.refl _ | exact Sub.nil _ | refine Sub.cons2 _ ?_ | refine Sub.cons _ ?_ | refine Sub.left _ ?_))) : SL P n md ops Q l f (σe ++ τ) m :=
  SL_ghost hm fun g W hC _ => by
    obtain ⟨m', k, hl, hC', hr⟩ := hown.freeze hC
    exact ⟨τ, m', hC', hl, hk, h m' k hl hr⟩
theorem SWP_freezeS {e size : Nat} {v : Value} {xs : List Value} {σe τ : Sig} {c : Code} (hown : OwnS e size v xs σe) (h : ∀ m' k, Le m m' → RS m' size v k xs → SWP P n c Q f τ m') : SWP P n c Q f (σe ++ τ) m :=
  SWP_ghost fun g W hC => by
    obtain ⟨m', k, hl, hC', hr⟩ := hown.freeze hC
    exact ⟨τ, m', hC', h m' k hl hr⟩

/-! ## == on structs whose fields are numbers, bools, strings -/

structure EqOk (P : Program) (t : Nat) (l : List (Nat × Nat)) : Prop where
  guard : P.eqGuardType P.depth t = false
  stood : P.stoodInHeld t = false
  fields : (P.fieldsOf t).toList.map (fun f => (f.offset, f.type)) = l
  names : (P.fieldsOf t).toList.all (fun f => f.name != "_") = true
  under : P.underlying t = some (.struct (P.fieldsOf t))

def eqFieldsV (T : TyTab) (xs ys : List Value) : List (Nat × Nat) → Option Bool
  | [] => some true
  | (off, t) :: r => match tyGet T t, xs[off]?, ys[off]? with
    | some ⟨.int _, _, _, _, _⟩, some (.int k a), some (.int k' b) => bif kBeq k k' then (match eqFieldsV T xs ys r with | some c => some (decide (a = b) && c) | none => none) else none
    | some ⟨.bool, _, _, _, _⟩, some (.bool a), some (.bool b) => (match eqFieldsV T xs ys r with | some c => some (decide (a = b) && c) | none => none)
    | some ⟨.str, _, _, _, _⟩, some (.string a), some (.string b) => (match eqFieldsV T xs ys r with | some c => some (decide (a = b) && c) | none => none)
    | _, _, _ => none

theorem eqFieldsV_ok (dd : Nat) (xs ys : Array Value) (W : World) : ∀ (F : List Field) (c : Bool), F.all (fun f => f.name != "_") = true → eqFieldsV T xs.toList ys.toList (F.map fun f => (f.offset, f.type)) = some c →
    (Op.eqFields (dd + 1) xs ys F).run P W = .ok c W
  | [], c, _, h => by
    simp only [List.map_nil, eqFieldsV, Option.some.injEq] at h
    subst h; rfl
  | fd :: F, c, hn, h => by
    simp only [List.all_cons, Bool.and_eq_true] at hn
    have hne : fd.name ≠ "_" := by simpa using hn.1
    simp only [List.map_cons, eqFieldsV] at h
    have pt : ∀ {i : TI} {zs : Array Value} {v : Value}, tyGet T fd.type = some i → i.agg = false → zs.toList[fd.offset]? = some v → (part fd.type zs fd.offset).run P W = .ok v W := fun {i zs v} hi ha hz => by
      have := partV_ok (P := P) (T := T) (t := fd.type) (cs := zs.toList) (off := fd.offset) (v := v) (by unfold partV; rw [hi]; simp only [ha, cond_false]; exact hz) W
      simpa using this
    have step : ∀ {i : TI} {x y : Value} {r cc : Bool}, tyGet T fd.type = some i → i.agg = false → xs.toList[fd.offset]? = some x → ys.toList[fd.offset]? = some y → (Op.equalIn (dd + 1) fd.type x y).run P W = .ok r W →
        eqFieldsV T xs.toList ys.toList (F.map fun f => (f.offset, f.type)) = some cc → c = (r && cc) → (Op.eqFields (dd + 1) xs ys (fd :: F)).run P W = .ok c W := by
      intro i x y r cc hi ha hx hy hr hcc hc
      have ih := eqFieldsV_ok dd xs ys W F cc hn.2 hcc
      simp only [Op.eqFields, hne, ne_eq, not_false_eq_true, if_true, Sem.run_bind, pt hi ha hx, pt hi ha hy, Result.andThen_ok, hr]
      cases r
      · simp [hc]
      · simp [hc, ih]
    split at h
    · rename_i kk ag s b z k a k' b' hi hx hy
      cases hk : kBeq k k' with
      | false => rw [hk] at h; cases h
      | true =>
        rw [hk] at h
        obtain rfl := kBeq_eq hk
        simp only [cond_true] at h
        split at h
        · rename_i cc hcc
          simp only [Option.some.injEq] at h
          obtain ⟨d, h1, h2, h3⟩ := (TyOk.get (P := P) hi).desc
          have : ∃ q, d = .int q := by cases d <;> simp [DescOk] at h2 ⊢
          obtain ⟨q, rfl⟩ := this
          exact step hi h3.symm hx hy (run_equalIn_int W dd fd.type k q a b' h1) hcc (by rw [← h]; rfl)
        · cases h
    · rename_i ag s b z a b' hi hx hy
      split at h
      · rename_i cc hcc
        simp only [Option.some.injEq] at h
        obtain ⟨d, h1, h2, h3⟩ := (TyOk.get (P := P) hi).desc
        have : d = .bool := by cases d <;> simp [DescOk] at h2 ⊢
        subst this
        exact step hi h3.symm hx hy (run_equalIn_bool W dd fd.type a b' h1) hcc (by rw [← h]; cases a <;> cases b' <;> rfl)
      · cases h
    · rename_i ag s b z a b' hi hx hy
      split at h
      · rename_i cc hcc
        simp only [Option.some.injEq] at h
        obtain ⟨d, h1, h2, h3⟩ := (TyOk.get (P := P) hi).desc
        have : d = .string := by cases d <;> simp [DescOk] at h2 ⊢
        subst this
        exact step hi h3.symm hx hy (run_equalIn_string W dd fd.type a b' h1) hcc (by rw [← h, byteArray_beq])
      · cases h
    · cases h

theorem eqs {t : TypeId} {x y : Operand} {z : TypeId} {xs ys : Array Value} {c : Bool} {l : List (Nat × Nat)} (hE : EqOk P t l) (hx : ev f x = .agg xs) (hy : ev f y = .agg ys) (hc : eqFieldsV T xs.toList ys.toList l = some c) (hdn : Nat.blt d n = true)
    (h : SL P n md ops Q rest (upd f d (.bool c)) σ m) : SL P n md ops Q (⟨some d, .binOp .eql t x y z, ty, pos, after, none⟩ :: rest) f σ m :=
  SL_same rfl rfl hdn (fun g W _ => by
    have h1 := run_equalIn_struct (P := P) W 9999 t xs ys hE.under hE.stood
    rw [eqFieldsV_ok 9998 xs ys W _ c hE.names (by rw [hE.fields]; exact hc)] at h1
    simp only [execOp, hx, hy, Sem.run_bind, run_eqGuard_agg W .eql t x y xs ys hE.guard, Result.andThen_ok, run_eql_struct]
    rw [show (10000 : Nat) = 9999 + 1 from rfl, h1]
    rfl) h
theorem neqs {t : TypeId} {x y : Operand} {z : TypeId} {xs ys : Array Value} {c : Bool} {l : List (Nat × Nat)} (hE : EqOk P t l) (hx : ev f x = .agg xs) (hy : ev f y = .agg ys) (hc : eqFieldsV T xs.toList ys.toList l = some c) (hdn : Nat.blt d n = true)
    (h : SL P n md ops Q rest (upd f d (.bool (!c))) σ m) : SL P n md ops Q (⟨some d, .binOp .neq t x y z, ty, pos, after, none⟩ :: rest) f σ m :=
  SL_same rfl rfl hdn (fun g W _ => by
    have h1 := run_equalIn_struct (P := P) W 9999 t xs ys hE.under hE.stood
    rw [eqFieldsV_ok 9998 xs ys W _ c hE.names (by rw [hE.fields]; exact hc)] at h1
    simp only [execOp, hx, hy, Sem.run_bind, run_eqGuard_agg W .neq t x y xs ys hE.guard, Result.andThen_ok, run_neq_struct]
    rw [show (10000 : Nat) = 9999 + 1 from rfl, h1]
    rfl) h
/-- == on arrays of two ints. -/
structure EqA2 (P : Program) (t e : Nat) : Prop where
  guard : P.eqGuardType P.depth t = false
  under : P.underlying t = some (.array 2 e)
  elem : P.underlying e = some (.int .i64)
  info : (P.info? e).isSome = true
  cells : P.cellsOf e = 1
theorem eqA2_run {t e : TypeId} {a0 a1 b0 b1 : Int} (hE : EqA2 P t e) {i : TI} (he : tyGet T e = some i) (hag : i.agg = false) (W : World) :
    (Op.equalIn 10000 t (.agg #[.int .i64 a0, .int .i64 a1]) (.agg #[.int .i64 b0, .int .i64 b1])).run P W = .ok (decide (a0 = b0) && decide (a1 = b1)) W := by
  obtain ⟨inf, hinf⟩ := Option.isSome_iff_exists.1 hE.info
  rw [show (10000 : Nat) = 9999 + 1 from rfl, run_equalIn_array W 9999 _ _ hE.under hinf, hE.cells]
  have pt : ∀ (zs : Array Value) (k : Nat) (v : Value), zs.toList[k]? = some v → (part e zs (k * 1)).run P W = .ok v W := fun zs k v hz => by
    have := partV_ok (P := P) (T := T) (t := e) (cs := zs.toList) (off := k) (v := v) (by unfold partV; rw [he]; simp only [hag, cond_false]; exact hz) W
    simpa using this
  have e1 := pt #[.int .i64 a0, .int .i64 a1] 0 _ rfl
  have e2 := pt #[.int .i64 a0, .int .i64 a1] 1 _ rfl
  have e3 := pt #[.int .i64 b0, .int .i64 b1] 0 _ rfl
  have e4 := pt #[.int .i64 b0, .int .i64 b1] 1 _ rfl
  have e5 := run_equalIn_int W 9998 e .i64 .i64 a0 b0 hE.elem
  have e6 := run_equalIn_int W 9998 e .i64 .i64 a1 b1 hE.elem
  rw [show List.range 2 = [0, 1] from rfl]
  simp only [Op.eqItems, Sem.run_bind, e1, e3, Result.andThen_ok]
  rw [show (9999 : Nat) = 9998 + 1 from rfl, e5]
  by_cases h0 : a0 = b0
  · subst h0
    have e2' : (part e #[.int .i64 a0, .int .i64 a1] 1).run P W = .ok (.int .i64 a1) W := e2
    have e4' : (part e #[.int .i64 a0, .int .i64 b1] 1).run P W = .ok (.int .i64 b1) W := e4
    simp only [beq_self_eq_true, Result.andThen_ok, Bool.not_true, Bool.false_eq_true, if_false, Sem.run_bind, e2', e4', e6, Nat.mul_one]
    by_cases h1 : a1 = b1 <;> simp [h1]
  · simp [h0]
theorem neqA2 {t e : TypeId} {x y : Operand} {z : TypeId} {a0 a1 b0 b1 : Int} {c : Bool} (hE : EqA2 P t e) {i : TI} (he : tyGet T e = some i) (hag : i.agg = false) (hx : ev f x = .agg #[.int .i64 a0, .int .i64 a1]) (hy : ev f y = .agg #[.int .i64 b0, .int .i64 b1]) (hc : (decide (a0 = b0) && decide (a1 = b1)) = c) (hdn : Nat.blt d n = true)
    (h : SL P n md ops Q rest (upd f d (.bool (!c))) σ m) : SL P n md ops Q (⟨some d, .binOp .neq t x y z, ty, pos, after, none⟩ :: rest) f σ m :=
  SL_same rfl rfl hdn (fun g W _ => by
    have h1 := eqA2_run (P := P) (T := T) (a0 := a0) (a1 := a1) (b0 := b0) (b1 := b1) hE he hag W
    rw [hc] at h1
    simp only [execOp, hx, hy, Sem.run_bind, run_eqGuard_agg W .neq t x y _ _ hE.guard, Result.andThen_ok, run_neq_struct]
    rw [h1]
    rfl) h
/-- Division of ints, its remainder: the divisor is known not to be 0. -/
theorem quo {t z : TypeId} {x y : Operand} {a b r : Int} (hx : ev f x = .int .i64 a) (hy : ev f y = .int .i64 b) (hb : b ≠ 0) (hr : IntKind.wrap .i64 (a.tdiv b) = r) (hdn : Nat.blt d n = true)
    (h : SL P n md ops Q rest (upd f d (.int .i64 r)) σ m) : SL P n md ops Q (⟨some d, .binOp .quo t x y z, ty, pos, after, none⟩ :: rest) f σ m :=
  SL_same rfl rfl hdn (fun g W _ => by simp [execOp, hx, hy, eqGuard, binOp, Op.intDiv, hb, hr]) h
theorem rem {t z : TypeId} {x y : Operand} {a b r : Int} (hx : ev f x = .int .i64 a) (hy : ev f y = .int .i64 b) (hb : b ≠ 0) (hr : a.tmod b = r) (hdn : Nat.blt d n = true)
    (h : SL P n md ops Q rest (upd f d (.int .i64 r)) σ m) : SL P n md ops Q (⟨some d, .binOp .rem t x y z, ty, pos, after, none⟩ :: rest) f σ m :=
  SL_same rfl rfl hdn (fun g W _ => by simp [execOp, hx, hy, eqGuard, binOp, Op.intDiv, hb, hr]) h
end
section
variable {P : Program} {T : TyTab} [TyOk P T]
variable {n : Nat} {md : Mode} {Q : APost} {f : Fr} {σ : Sig} {m : Mem} {ops : Array Oper} {rest : List Oper} {d : Nat} {ty : TypeId} {pos : String} {after : Array Edge}
/-- append of an empty slice. -/
theorem ap0 {t : TypeId} {e : Nat} {ei : TI} {s x : Operand} {a : Option Addr} {len cap c' : Nat} {ag : Bool} {ts tb : Nat} {tz : Value} (ht : tyGet T t = some ⟨.slice e, ag, ts, tb, tz⟩) (he : tyGet T e = some ei)
    (hs : ev f s = .slice a len cap) (hlc : len ≤ cap) (hx : ev f x = .slice none 0 c') (hdn : Nat.blt d n = true)
    (h : SL P n md ops Q rest (upd f d (.slice a len cap)) σ m) : SL P n md ops Q (⟨some d, .call ⟨.builtin .append, #[s, x], #[t, t]⟩, ty, pos, after, none⟩ :: rest) f σ m :=
  SL_same rfl rfl hdn (fun g W _ => by
    obtain ⟨dd, hd1, hd2, _⟩ := (TyOk.get (P := P) ht).desc
    obtain rfl : dd = .slice e := by cases dd <;> simp [DescOk] at hd2 ⊢; exact hd2
    have hz := (TyOk.get (P := P) he).sizeOf W
    cases a <;> simp [execOp, resolve, invoke, builtin, Builtin.append_, hs, hx, run_underlying hd1, hz, Builtin.lenOf, Builtin.firstCells, hlc, storeCells]) h
/-- append of what memory keeps onto a slice that the running code builds. -/
theorem apR {t : TypeId} {e bytes size : Nat} {ei : TI} {s x : Operand} {v w : Value} {xs news : List Value} {σe τ : Sig} {k : Nat} {ag : Bool} {ts tb : Nat} {tz : Value}
    (ht : tyGet T t = some ⟨.slice e, ag, ts, tb, tz⟩) (he : tyGet T e = some ei) (hsz : ei.size = size) (hby : ei.bytes = bytes) (hz : Nat.beq ei.zero.cells.toList.length size = true) (hpos : Nat.blt 0 size = true)
    (hs : ev f s = v) (hown : OwnS e size v xs σe) (hσ : σ.Perm (σe ++ τ)) (hx : ev f x = w) (hw : RS m size w k news) (h1 : news.all (·.oneCell') = true)
    (hroom : (xs.length + k * size) * bytes ≤ 140737488355328 * size) (hb1 : Nat.blt 0 bytes = true) (hdn : Nat.blt d n = true)
    (h : ∀ v' σe', OwnS e size v' (xs ++ news) σe' → SL P n md ops Q rest (upd f d v') (σe' ++ τ) m)
    (hm : md.loud = true := by exact rfl) (hkt : md.keep τ := by first | exact True.intro | exact Sub.nil _ | (repeat (first | exact Sub.refl _ | exact Sub.nil _ | refine Sub.cons2 _ ?_ | refine Sub.cons _ ?_ | refine Sub.left _ ?_))) :
    SL P n md ops Q (⟨some d, .call ⟨.builtin .append, #[s, x], #[t, t]⟩, ty, pos, after, none⟩ :: rest) f σ m := by
  obtain ⟨a, cap, rfl, g1, g2, g3, g4, g5⟩ := hw
  cases a with
  | none =>
    obtain ⟨rfl, rfl⟩ := g4 rfl
    have hn : news = [] := List.eq_nil_of_length_eq_zero (by rw [g1]; simp)
    subst hn
    obtain ⟨a0, n0, cap0, e0, _, hlc⟩ := hown.len
    have hh := h v σe (by rw [List.append_nil]; exact hown)
    rw [e0] at hs hh
    exact SL_perm hσ (ap0 ht he hs hlc hx hdn hh) hm
  | some ad => exact ap ht he hsz hby hz hpos hs hown hσ hx (Rd.of_at (g5 ad rfl)) g1 h1 hroom hb1 hdn h hm hkt
/-- append of a list that the running code owns. -/
theorem apO {t : TypeId} {e bytes size : Nat} {ei : TI} {s x : Operand} {v w : Value} {xs news : List Value} {σe σ2 τ : Sig} {ag : Bool} {ts tb : Nat} {tz : Value}
    (ht : tyGet T t = some ⟨.slice e, ag, ts, tb, tz⟩) (he : tyGet T e = some ei) (hsz : ei.size = size) (hby : ei.bytes = bytes) (hz : Nat.beq ei.zero.cells.toList.length size = true) (hpos : Nat.blt 0 size = true)
    (hs : ev f s = v) (hown : OwnS e size v xs σe) (hσ : σ.Perm (σe ++ τ)) (hx : ev f x = w) (hown2 : OwnS e size w news σ2) (hsub : ∀ c ∈ σ2, c ∈ σ) (h1 : news.all (·.oneCell') = true)
    (hroom : (xs.length + news.length) * bytes ≤ 140737488355328 * size) (hb1 : Nat.blt 0 bytes = true) (hdn : Nat.blt d n = true)
    (h : ∀ v' σe', OwnS e size v' (xs ++ news) σe' → SL P n md ops Q rest (upd f d v') (σe' ++ τ) m)
    (hm : md.loud = true := by exact rfl) (hkt : md.keep τ := by first | exact True.intro | exact Sub.nil _ | (repeat (first | exact Sub.refl _ | exact Sub.nil _ | refine Sub.cons2 _ ?_ | refine Sub.cons _ ?_ | refine Sub.left _ ?_))) :
    SL P n md ops Q (⟨some d, .call ⟨.builtin .append, #[s, x], #[t, t]⟩, ty, pos, after, none⟩ :: rest) f σ m := by
  cases hown2 with
  | nil =>
    obtain ⟨a0, n0, cap0, e0, _, hlc⟩ := hown.len
    have hh := h v σe (by rw [List.append_nil]; exact hown)
    rw [e0] at hs hh
    exact SL_perm hσ (ap0 ht he hs hlc hx hdn hh) hm
  | row B k cap xs2 hx2 hn hc =>
    have hmem := hsub _ (List.mem_cons_self ..)
    have hrd : Rd σ m ⟨B, 0, none⟩ news := Rd.of_row hmem
    rw [hx2] at hroom
    exact ap ht he hsz hby hz hpos hs hown hσ hx hrd hx2 h1 hroom hb1 hdn h hm hkt
end
/-! ## Shorter words for printed walks -/
/-- Block B is owned. -/
class MemO (B : Nat) (σ : Sig) (φ : outParam Chk) : Prop where
  mem : (B, φ) ∈ σ
instance MemO.head {B : Nat} {φ : Chk} {σ : Sig} : MemO B ((B, φ) :: σ) φ := ⟨List.mem_cons_self ..⟩
instance MemO.tail {B : Nat} {φ : Chk} {c : Nat × Chk} {σ : Sig} [h : MemO B σ φ] : MemO B (c :: σ) φ := ⟨List.mem_cons_of_mem _ h.mem⟩
instance MemO.left {B : Nat} {φ : Chk} {σ τ : Sig} [h : MemO B σ φ] : MemO B (σ ++ τ) φ := ⟨List.mem_append_left _ h.mem⟩
instance MemO.right {B : Nat} {φ : Chk} {σ τ : Sig} [h : MemO B τ φ] : MemO B (σ ++ τ) φ := ⟨List.mem_append_right _ h.mem⟩
/-- Block B is owned; g says what is owned when it is looked at anew. -/
class SetO (B : Nat) (σ : Sig) (φ : outParam Chk) (g : outParam (Chk → Sig)) : Prop where
  split : ∃ σ₁ σ₂, σ = σ₁ ++ (B, φ) :: σ₂ ∧ ∀ ψ, g ψ = σ₁ ++ (B, ψ) :: σ₂
instance SetO.head {B : Nat} {φ : Chk} {σ : Sig} : SetO B ((B, φ) :: σ) φ (fun ψ => (B, ψ) :: σ) := ⟨[], σ, rfl, fun _ => rfl⟩
instance SetO.tail {B : Nat} {φ : Chk} {g : Chk → Sig} {c : Nat × Chk} {σ : Sig} [h : SetO B σ φ g] : SetO B (c :: σ) φ (fun ψ => c :: g ψ) :=
  ⟨let ⟨σ₁, σ₂, h1, h2⟩ := h.split; ⟨c :: σ₁, σ₂, by rw [h1]; rfl, fun ψ => by rw [h2]; rfl⟩⟩
instance SetO.right {B : Nat} {φ : Chk} {g : Chk → Sig} {σ τ : Sig} [h : SetO B τ φ g] : SetO B (σ ++ τ) φ (fun ψ => σ ++ g ψ) :=
  ⟨let ⟨σ₁, σ₂, h1, h2⟩ := h.split; ⟨σ ++ σ₁, σ₂, by rw [h1, List.append_assoc], fun ψ => by rw [h2, List.append_assoc]⟩⟩
instance SetO.left {B : Nat} {φ : Chk} {g : Chk → Sig} {σ τ : Sig} [h : SetO B σ φ g] : SetO B (σ ++ τ) φ (fun ψ => g ψ ++ τ) :=
  ⟨let ⟨σ₁, σ₂, h1, h2⟩ := h.split; ⟨σ₁, σ₂ ++ τ, by rw [h1, List.append_assoc]; rfl, fun ψ => by rw [h2, List.append_assoc]; rfl⟩⟩
section
variable {P : Program} {T : TyTab} [TyOk P T]
variable {n : Nat} {md : Mode} {Q : APost} {f : Fr} {σ : Sig} {m : Mem} {ops : Array Oper} {rest : List Oper} {d : Nat} {op : Op} {ty : TypeId} {pos : String} {after : Array Edge}
/-- A load from block B. -/
theorem lw {t : TypeId} {x : Operand} {q : Addr} (B off : Nat) {e : Nat} {cs : List Value} {v : Value} [hM : MemO B (md.own σ) (Cells e cs)] (hx : ev f x = .pointer (some q)) (hq : q = (⟨B, 0, none⟩ : Addr).add off) (hv : ldV T t cs off = some v) (hdn : Nat.blt d n = true)
    (h : SL P n md ops Q rest (upd f d v) σ m) : SL P n md ops Q (⟨some d, .load t x, ty, pos, after, none⟩ :: rest) f σ m := ld (Rd.of_cells hM.mem) hx hq hv hdn h
/-- A store to block B. -/
theorem sw {t : TypeId} {x y : Operand} (B off : Nat) {e : Nat} {cs : List Value} {v : Value} {q : Addr} {ti : TI} {g : Chk → Sig} [hM : SetO B σ (Cells e cs) g] (hi : tyGet T t = some ti) (hx : ev f x = .pointer (some q)) (hq : q = (⟨B, 0, none⟩ : Addr).add off) (hy : ev f y = v)
    (hlen : Nat.beq v.cells.toList.length ti.size = true) (hfit : Nat.ble (off + v.cells.toList.length) cs.length = true) (h1 : v.cells.toList.all (·.oneCell') = true)
    (h : SL P n md ops Q rest f (g (Cells e (laySeg cs off v.cells.toList))) m)
    (hm : md.loud = true := by exact rfl) (hk : md.keep (g (Cells e (laySeg cs off v.cells.toList))) := by first | exact True.intro | exact Sub.nil _ | (repeat (first | exact Sub.refl _ | exact Sub.nil _ | refine Sub.cons2 _ ?_ | refine Sub.cons _ ?_ | refine Sub.left _ ?_))) :
    SL P n md ops Q (⟨none, .store t x y, ty, pos, after, none⟩ :: rest) f σ m := by
  obtain ⟨σ₁, σ₂, h2, h3⟩ := hM.split
  rw [h3] at h hk
  exact st hi hx hq hy h2 hlen hfit h1 h hm hk
/-- The same; its outcome is said. -/
theorem swE {t : TypeId} {x y : Operand} (B off : Nat) {e : Nat} {cs : List Value} (cs' : List Value) {v : Value} {q : Addr} {ti : TI} {g : Chk → Sig} [hM : SetO B σ (Cells e cs) g] (hi : tyGet T t = some ti) (hx : ev f x = .pointer (some q)) (hq : q = (⟨B, 0, none⟩ : Addr).add off) (hy : ev f y = v)
    (hlen : Nat.beq v.cells.toList.length ti.size = true) (hfit : Nat.ble (off + v.cells.toList.length) cs.length = true) (h1 : v.cells.toList.all (·.oneCell') = true) (hres : laySeg cs off v.cells.toList = cs')
    (h : SL P n md ops Q rest f (g (Cells e cs')) m)
    (hm : md.loud = true := by exact rfl) (hk : md.keep (g (Cells e cs')) := by first | exact True.intro | exact Sub.nil _ | (repeat (first | exact Sub.refl _ | exact Sub.nil _ | refine Sub.cons2 _ ?_ | refine Sub.cons _ ?_ | refine Sub.left _ ?_))) :
    SL P n md ops Q (⟨none, .store t x y, ty, pos, after, none⟩ :: rest) f σ m := by
  subst hres
  exact sw B off hi hx hq hy hlen hfit h1 h hm hk
theorem pI {k : IntKind} {x : Int} (hv : pureV T op (ev f) = some (.int k x)) (hdn : Nat.blt d n = true) (h : SL P n md ops Q rest (upd f d (.int k x)) σ m) : SL P n md ops Q (⟨some d, op, ty, pos, after, none⟩ :: rest) f σ m := pu hv hdn h
theorem pB {x : Bool} (hv : pureV T op (ev f) = some (.bool x)) (hdn : Nat.blt d n = true) (h : SL P n md ops Q rest (upd f d (.bool x)) σ m) : SL P n md ops Q (⟨some d, op, ty, pos, after, none⟩ :: rest) f σ m := pu hv hdn h
theorem pS {x : ByteArray} (hv : pureV T op (ev f) = some (.string x)) (hdn : Nat.blt d n = true) (h : SL P n md ops Q rest (upd f d (.string x)) σ m) : SL P n md ops Q (⟨some d, op, ty, pos, after, none⟩ :: rest) f σ m := pu hv hdn h
theorem pL {a : Option Addr} {len cap : Nat} (hv : pureV T op (ev f) = some (.slice a len cap)) (hdn : Nat.blt d n = true) (h : SL P n md ops Q rest (upd f d (.slice a len cap)) σ m) : SL P n md ops Q (⟨some d, op, ty, pos, after, none⟩ :: rest) f σ m := pu hv hdn h
theorem pP {a : Option Addr} (hv : pureV T op (ev f) = some (.pointer a)) (hdn : Nat.blt d n = true) (h : SL P n md ops Q rest (upd f d (.pointer a)) σ m) : SL P n md ops Q (⟨some d, op, ty, pos, after, none⟩ :: rest) f σ m := pu hv hdn h
theorem pA {cs : Array Value} (hv : pureV T op (ev f) = some (.agg cs)) (hdn : Nat.blt d n = true) (h : SL P n md ops Q rest (upd f d (.agg cs)) σ m) : SL P n md ops Q (⟨some d, op, ty, pos, after, none⟩ :: rest) f σ m := pu hv hdn h
end
end Eng
end Go.Proofs.Ytkopdlglenejmaa
