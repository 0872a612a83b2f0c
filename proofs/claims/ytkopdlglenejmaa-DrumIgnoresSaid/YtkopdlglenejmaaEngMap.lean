/- The engine, part 5: maps. -/
import Derived.Test.YtkopdlglenejmaaEngFn
import Derived.Maps.RangeRun
namespace Go.Proofs.Ytkopdlglenejmaa
namespace Eng

def setB (w : World) (b : Nat) (o : Obj) : World := { w with heap := w.heap.setIfInBounds b o }
theorem bytes_beq' (a b : ByteArray) : (a == b) = decide (a = b) := by
  have h : (a == b) = (a.data == b.data) := by cases a; cases b; rfl
  rw [h]
  by_cases e : a = b
  · simp [e]
  · have : ¬ a.data = b.data := fun h => e (ByteArray.ext h)
    simp [e, this]

/-! ## Lists of pairs -/

section
variable {α β : Type} [DecidableEq α]
def mlookI (a : α) : List (α × β) → Nat → Option (Nat × β)
  | [], _ => none
  | p :: l, i => if a = p.1 then some (i, p.2) else mlookI a l (i + 1)
def mlook (a : α) : List (α × β) → Option β
  | [] => none
  | p :: l => if a = p.1 then some p.2 else mlook a l
def mput (a : α) (b : β) : List (α × β) → List (α × β)
  | [] => [(a, b)]
  | p :: l => if a = p.1 then (a, b) :: l else p :: mput a b l
def mdel (a : α) : List (α × β) → List (α × β)
  | [] => []
  | p :: l => if a = p.1 then l else p :: mdel a l

theorem look_of_lookI (a : α) : ∀ (l : List (α × β)) (i : Nat), mlook a l = (mlookI a l i).map (·.2)
  | [], _ => rfl
  | p :: l, i => by
    unfold mlook mlookI
    split
    · rfl
    · exact look_of_lookI a l (i + 1)
theorem lookI_lt (a : α) : ∀ (l : List (α × β)) (i j : Nat) (b : β), mlookI a l i = some (j, b) → i ≤ j ∧ l[j - i]? = some (a, b)
  | [], _, _, _, h => by cases h
  | p :: l, i, j, b, h => by
    unfold mlookI at h
    split at h
    · rename_i e
      simp only [Option.some.injEq, Prod.mk.injEq] at h
      obtain ⟨rfl, rfl⟩ := h
      subst e
      simp
    · obtain ⟨h1, h2⟩ := lookI_lt a l (i + 1) j b h
      refine ⟨by omega, ?_⟩
      rw [show j - i = (j - (i + 1)) + 1 by omega, List.getElem?_cons_succ]
      exact h2
theorem put_none (a : α) (b : β) : ∀ (l : List (α × β)) (i : Nat), mlookI a l i = none → mput a b l = l ++ [(a, b)]
  | [], _, _ => rfl
  | p :: l, i, h => by
    unfold mlookI at h
    unfold mput
    split at h
    · cases h
    · rename_i e
      rw [if_neg e, put_none a b l (i + 1) h]; rfl
theorem put_some (a : α) (b : β) : ∀ (l : List (α × β)) (i j : Nat) (c : β), mlookI a l i = some (j, c) → mput a b l = l.modify (j - i) fun _ => (a, b)
  | [], _, _, _, h => by cases h
  | p :: l, i, j, c, h => by
    have h0 := (lookI_lt a _ i j c h).1
    unfold mlookI at h
    unfold mput
    split at h
    · rename_i e
      simp only [Option.some.injEq, Prod.mk.injEq] at h
      obtain ⟨rfl, rfl⟩ := h
      rw [if_pos e, Nat.sub_self]; rfl
    · rename_i e
      have h1 := (lookI_lt a l (i + 1) j c h).1
      rw [if_neg e, put_some a b l (i + 1) j c h, show j - i = (j - (i + 1)) + 1 by omega]; rfl
theorem del_none (a : α) : ∀ (l : List (α × β)) (i : Nat), mlookI a l i = none → mdel a l = l
  | [], _, _ => rfl
  | p :: l, i, h => by
    unfold mlookI at h
    unfold mdel
    split at h
    · cases h
    · rename_i e
      rw [if_neg e, del_none a l (i + 1) h]
theorem del_some (a : α) : ∀ (l : List (α × β)) (i j : Nat) (c : β), mlookI a l i = some (j, c) → mdel a l = l.eraseIdx (j - i)
  | [], _, _, _, h => by cases h
  | p :: l, i, j, c, h => by
    unfold mlookI at h
    unfold mdel
    split at h
    · rename_i e
      simp only [Option.some.injEq, Prod.mk.injEq] at h
      obtain ⟨rfl, rfl⟩ := h
      rw [if_pos e, Nat.sub_self]; rfl
    · rename_i e
      have h1 := (lookI_lt a l (i + 1) j c h).1
      rw [if_neg e, del_some a l (i + 1) j c h, show j - i = (j - (i + 1)) + 1 by omega]; rfl

/-- How keys of a kind are compared. -/
structure KeyEnc (tk : TK) (kc : α → Value) : Prop where
  same : ∀ d, DescOk d tk → ∀ a b, Instr.sameNow d (kc a) (kc b) = some (decide (a = b))
  bits : ∀ a, Instr.sameBits 10000 (kc a) (kc a) = true
  chk : ∀ d, DescOk d tk → ∀ (P : Program) (t n : Nat) (empty : Bool) (a : α) (W : World), P.underlying t = some d → (Instr.checkKey empty (n + 1) t (kc a)).run P W = .ok () W
end

theorem keyInt (q : IntKind) : KeyEnc (α := Int) (.int q) (fun i => .int q i) where
  same := fun d hd a b => by
    cases d <;> simp only [DescOk] at hd
    simp only [Instr.sameNow, if_true]
    by_cases h : a = b <;> simp [h]
  bits := fun a => by simp [Instr.sameBits]
  chk := fun d hd P t n empty a W hu => by
    cases d <;> simp only [DescOk] at hd
    simp only [Instr.checkKey, Sem.run_bind, run_underlying hu, Result.andThen_ok]; rfl
theorem keyStr : KeyEnc (α := ByteArray) .str (fun s => .string s) where
  same := fun d hd a b => by
    cases d <;> simp only [DescOk] at hd
    simp only [Instr.sameNow, bytes_beq']
  bits := fun a => by simp [Instr.sameBits, bytes_beq']
  chk := fun d hd P t n empty a W hu => by
    cases d <;> simp only [DescOk] at hd
    simp only [Instr.checkKey, Sem.run_bind, run_underlying hu, Result.andThen_ok]; rfl

section
variable {α β : Type} {kc : α → Value} {vc : β → Value}

/-- A map's object whose entries are those of the list, in its order, with these stamps. -/
def MapB (kc : α → Value) (vc : β → Value) (l : List (α × β)) (bs : List Nat) (clock : Nat) : Chk := fun o =>
  ∃ es : Array MapEntry, o = .map es clock ∧ es.toList.map (fun e => (e.key, e.val)) = l.map (fun p => (kc p.1, vc p.2)) ∧ es.toList.map (·.born) = bs
def MapC (kc : α → Value) (vc : β → Value) (l : List (α × β)) : Chk := fun o => ∃ bs clock, MapB kc vc l bs clock o ∧ bs.Nodup ∧ ∀ b ∈ bs, b < clock

theorem modify_kv : ∀ (es : List MapEntry) (l : List (α × β)) (j : Nat) (a : α) (b : β), es.map (fun e => (e.key, e.val)) = l.map (fun p => (kc p.1, vc p.2)) →
    (es.modify j fun e => { e with key := kc a, val := vc b }).map (fun e => (e.key, e.val)) = (l.modify j fun _ => (a, b)).map (fun p => (kc p.1, vc p.2))
  | [], [], j, _, _, _ => by cases j <;> rfl
  | [], _ :: _, _, _, _, h => by cases h
  | _ :: _, [], _, _, _, h => by cases h
  | e :: es, p :: l, 0, a, b, h => by
    simp only [List.map_cons, List.cons.injEq] at h
    simp [h.2]
  | e :: es, p :: l, j + 1, a, b, h => by
    simp only [List.map_cons, List.cons.injEq] at h
    have := modify_kv es l j a b h.2
    simp only [List.modify_succ_cons, List.map_cons, this, h.1]
theorem modify_born : ∀ (es : List MapEntry) (j : Nat) (u v : Value), (es.modify j fun e => { e with key := u, val := v }).map (·.born) = es.map (·.born)
  | [], j, _, _ => by cases j <;> rfl
  | e :: es, 0, _, _ => rfl
  | e :: es, j + 1, u, v => by simp [List.modify_succ_cons, modify_born es j u v]

theorem erase_kv : ∀ (es : List MapEntry) (l : List (α × β)) (j : Nat), es.map (fun e => (e.key, e.val)) = l.map (fun p => (kc p.1, vc p.2)) →
    (es.eraseIdx j).map (fun e => (e.key, e.val)) = (l.eraseIdx j).map (fun p => (kc p.1, vc p.2))
  | [], [], j, _ => rfl
  | [], _ :: _, _, h => by cases h
  | _ :: _, [], _, h => by cases h
  | e :: es, p :: l, 0, h => by
    simp only [List.map_cons, List.cons.injEq] at h
    exact h.2
  | e :: es, p :: l, j + 1, h => by
    simp only [List.map_cons, List.cons.injEq] at h
    simp only [List.eraseIdx_cons_succ, List.map_cons, erase_kv es l j h.2, h.1]

theorem erase_born : ∀ (es : List MapEntry) (j : Nat), (es.eraseIdx j).map (·.born) = (es.map (·.born)).eraseIdx j
  | [], _ => rfl
  | _ :: _, 0 => rfl
  | e :: es, j + 1 => by simp [erase_born es j]

variable {P : Program}
theorem run_getObj' {r : Nat} {es : Array MapEntry} {c : Nat} {W : World} (h : W.heap[r]? = some (.map es c)) : (getObj r).run P W = .ok (.map es c) W := by
  simp only [getObj, Sem.run, h]
theorem run_setObj_map {W : World} {r : Nat} {es : Array MapEntry} {c : Nat} (hr : W.heap[r]? = some (.map es c)) (o' : Obj) : (setObj r o').run P W = .ok () (setB W r o') := by
  simp [setObj, Sem.run, hr, setB]
theorem setBlock_conc {g : Gh} {W : World} {m : Mem} {σ : Sig} {B : Nat} {φ ψ : Chk} {o o' : Obj} (hC : Conc g W m ((B, φ) :: σ)) (hg : W.heap[B]? = some o) (hψ : ψ o') : Conc g (setB W B o') m ((B, ψ) :: σ) := by
  have hlt := (Array.getElem?_eq_some_iff.1 hg).1
  refine hC.turn o' hψ rfl rfl rfl ?_ fun k x hk hh => ?_
  · show (W.heap.setIfInBounds B o')[B]? = _
    simp [hlt]
  · show (W.heap.setIfInBounds B o')[k]? = _
    rw [Array.getElem?_setIfInBounds_ne (fun e => hk e.symm)]; exact hh

variable {T : TyTab} [TyOk P T]
variable {n : Nat} {md : Mode} {Q : APost} {f : Fr} {σ : Sig} {m : Mem} {ops : Array Oper} {rest : List Oper} {d : Nat} {ty : TypeId} {pos : String} {after : Array Edge}
variable {t : TypeId} {k e : Nat} {ki ei : TI} {ag : Bool} {ts tb : Nat} {tz : Value} {x i y : Operand} {B : Nat} {l : List (α × β)} {a : α} {b : β}

theorem mapDesc (ht : tyGet T t = some ⟨.map k e, ag, ts, tb, tz⟩) : P.underlying t = some (.map k e) := by
  obtain ⟨dd, hd1, hd2, _⟩ := (TyOk.get (P := P) ht).desc
  cases dd <;> simp only [DescOk] at hd2
  obtain ⟨rfl, rfl⟩ := hd2
  exact hd1

/-- make(map..), without a size. -/
theorem mk (hdn : Nat.blt d n = true) (h : ∀ B, SL P n md ops Q rest (upd f d (.map (some B))) ((B, MapC kc vc []) :: σ) m) (hm : md.loud = true := by exact rfl) :
    SL P n md ops Q (⟨some d, .makeMap t none, ty, pos, after, none⟩ :: rest) f σ m :=
  SL_val hm rfl rfl rfl hdn fun g W hC hk =>
    ⟨_, W.alloc (.map #[] 0), _, _, rfl, (hC.alloc _).imp (ψ := MapC kc vc []) (fun o ho => by subst ho; exact ⟨[], 0, ⟨#[], rfl, rfl, rfl⟩, List.nodup_nil, fun b hb => by cases hb⟩), Le.refl m, Mode.keep_cons _ hk, h W.heap.size⟩

/-- len(m). -/
theorem lnm (ht : tyGet T t = some ⟨.map k e, ag, ts, tb, tz⟩) (hx : ev f x = .map (some B)) (hm : (B, MapC kc vc l) ∈ md.own σ) (hdn : Nat.blt d n = true)
    (h : SL P n md ops Q rest (upd f d (.int .i64 (l.length : Nat))) σ m) : SL P n md ops Q (⟨some d, .call ⟨.builtin .len, #[x], #[t]⟩, ty, pos, after, none⟩ :: rest) f σ m :=
  SL_same rfl rfl hdn (fun g W hC => by
    obtain ⟨⟨o, ho, bs, clock, ⟨es, rfl, h1, h2⟩, _⟩, _⟩ := hC.own _ hm
    have hlen : es.size = l.length := by
      have := congrArg List.length h1
      simpa using this
    simp [execOp, resolve, invoke, builtin, hx, Builtin.len_, run_underlying (mapDesc ht), run_getObj' ho, hlen, goInt]) h

variable [DecidableEq α]

theorem findNow_look {tk : TK} (K : KeyEnc tk kc) {d : TypeDesc} (hd : DescOk d tk) (a : α) : ∀ (es : List MapEntry) (l : List (α × β)) (i : Nat), es.map (fun e => (e.key, e.val)) = l.map (fun p => (kc p.1, vc p.2)) →
    Instr.findNow d (kc a) es i = some ((mlookI a l i).map fun p => (p.1, vc p.2))
  | [], [], _, _ => rfl
  | [], _ :: _, _, h => by cases h
  | _ :: _, [], _, h => by cases h
  | e :: es, p :: l, i, h => by
    simp only [List.map_cons, List.cons.injEq, Prod.mk.injEq] at h
    obtain ⟨⟨h1, h2⟩, h3⟩ := h
    unfold Instr.findNow mlookI
    rw [h1, K.same d hd]
    by_cases e : a = p.1
    · simp [e, h2]
    · simp only [e, decide_false, if_false]
      exact findNow_look K hd a es l (i + 1) h3

theorem run_findKey {tk : TK} (K : KeyEnc tk kc) {d : TypeDesc} (hd : DescOk d tk) {k : TypeId} (hu : P.underlying k = some d) (a : α) {es : List MapEntry} {l : List (α × β)} (h : es.map (fun e => (e.key, e.val)) = l.map (fun p => (kc p.1, vc p.2))) (W : World) :
    (Instr.findKey k (kc a) es).run P W = .ok ((mlookI a l 0).map fun p => (p.1, vc p.2)) W := by
  simp only [Instr.findKey, Sem.run_bind, run_underlying hu, Result.andThen_ok, findNow_look K hd a es l 0 h, Sem.run_pure]

theorem run_look (ht : tyGet T t = some ⟨.map k e, ag, ts, tb, tz⟩) (hk : tyGet T k = some ki) (he : tyGet T e = some ei) (K : KeyEnc ki.k kc) {g : Gh} {W : World} (hC : Conc g W m σ) (hm : (B, MapC kc vc l) ∈ σ) (ok : Bool) :
    (Instr.lookup t (.map (some B)) (kc a) ok).run P W = .ok (bif ok then .tuple #[((mlook a l).map vc).getD ei.zero, .bool (mlook a l).isSome] else ((mlook a l).map vc).getD ei.zero) W := by
  obtain ⟨⟨o, ho, bs, clock, ⟨es, rfl, h1, h2⟩, _⟩, _⟩ := hC.own _ hm
  obtain ⟨kd, hkd, hkd2, _⟩ := (TyOk.get (P := P) hk).desc
  have hz := (TyOk.get (P := P) he).zeroOf W
  have hf := run_findKey K hkd2 hkd a h1 W
  have hck := K.chk kd hkd2 P k 9999 es.isEmpty a W hkd
  unfold Instr.lookup
  simp only [Sem.run_bind, run_underlying (mapDesc ht), Result.andThen_ok, run_getObj' ho, Sem.run_pure, hck, hf]
  rw [look_of_lookI a l 0]
  cases mlookI a l 0 with
  | none => cases ok <;> simp [Sem.run_bind, hz, Sem.run_pure]
  | some p => cases ok <;> simp [Sem.run_pure]

theorem run_look_nil (ht : tyGet T t = some ⟨.map k e, ag, ts, tb, tz⟩) (hk : tyGet T k = some ki) (he : tyGet T e = some ei) (K : KeyEnc ki.k kc) (W : World) (ok : Bool) :
    (Instr.lookup t (.map none) (kc a) ok).run P W = .ok (bif ok then .tuple #[ei.zero, .bool false] else ei.zero) W := by
  obtain ⟨kd, hkd, hkd2, _⟩ := (TyOk.get (P := P) hk).desc
  have hz := (TyOk.get (P := P) he).zeroOf W
  have hf := run_findKey (β := Unit) (vc := fun _ => undef) K hkd2 hkd a (es := []) (l := []) rfl W
  have hck := K.chk kd hkd2 P k 9999 true a W hkd
  unfold Instr.lookup
  simp only [Sem.run_bind, run_underlying (mapDesc ht), Result.andThen_ok, Sem.run_pure]
  rw [show (#[] : Array MapEntry).isEmpty = true from rfl, hck]
  simp only [Result.andThen_ok, hf, mlookI, Option.map_none]
  cases ok <;> simp [Sem.run_bind, hz, Sem.run_pure]

/-- m[key]. -/
theorem lk (ht : tyGet T t = some ⟨.map k e, ag, ts, tb, tz⟩) (hk : tyGet T k = some ki) (he : tyGet T e = some ei) (K : KeyEnc ki.k kc) (hx : ev f x = .map (some B)) (hi : ev f i = kc a) (hm : (B, MapC kc vc l) ∈ md.own σ) {v : Value} (hv : ((mlook a l).map vc).getD ei.zero = v) (hdn : Nat.blt d n = true)
    (h : SL P n md ops Q rest (upd f d v) σ m) : SL P n md ops Q (⟨some d, .lookup t x i false, ty, pos, after, none⟩ :: rest) f σ m :=
  SL_same rfl rfl hdn (fun g W hC => by
    have := run_look (P := P) (a := a) ht hk he K hC hm false
    subst hv
    simp only [cond_false] at this
    simp [execOp, hx, hi, this]) h
/-- v, ok = m[key]. -/
theorem lko (ht : tyGet T t = some ⟨.map k e, ag, ts, tb, tz⟩) (hk : tyGet T k = some ki) (he : tyGet T e = some ei) (K : KeyEnc ki.k kc) (hx : ev f x = .map (some B)) (hi : ev f i = kc a) (hm : (B, MapC kc vc l) ∈ md.own σ) {v : Value} {ok : Bool} (hv : ((mlook a l).map vc).getD ei.zero = v) (ho : (mlook a l).isSome = ok) (hdn : Nat.blt d n = true)
    (h : SL P n md ops Q rest (upd f d (.tuple #[v, .bool ok])) σ m) : SL P n md ops Q (⟨some d, .lookup t x i true, ty, pos, after, none⟩ :: rest) f σ m :=
  SL_same rfl rfl hdn (fun g W hC => by
    have := run_look (P := P) (a := a) ht hk he K hC hm true
    subst hv; subst ho
    simp only [cond_true] at this
    simp [execOp, hx, hi, this]) h
theorem lkn (ht : tyGet T t = some ⟨.map k e, ag, ts, tb, tz⟩) (hk : tyGet T k = some ki) (he : tyGet T e = some ei) (K : KeyEnc ki.k kc) (hx : ev f x = .map none) (hi : ev f i = kc a) (hdn : Nat.blt d n = true)
    (h : SL P n md ops Q rest (upd f d ei.zero) σ m) : SL P n md ops Q (⟨some d, .lookup t x i false, ty, pos, after, none⟩ :: rest) f σ m :=
  SL_same rfl rfl hdn (fun g W hC => by
    have := run_look_nil (P := P) (a := a) ht hk he K W false
    simp only [cond_false] at this
    simp [execOp, hx, hi, this]) h

/-- m[key] = value. -/
theorem mu (ht : tyGet T t = some ⟨.map k e, ag, ts, tb, tz⟩) (hk : tyGet T k = some ki) (K : KeyEnc ki.k kc) (hx : ev f x = .map (some B)) (hi : ev f i = kc a) (hy : ev f y = vc b) {σ₁ σ₂ : Sig} (hσ : σ = σ₁ ++ (B, MapC kc vc l) :: σ₂)
    (h : SL P n md ops Q rest f (σ₁ ++ (B, MapC kc vc (mput a b l)) :: σ₂) m)
    (hm : md.loud = true := by exact rfl) (hkeep : md.keep (σ₁ ++ (B, MapC kc vc (mput a b l)) :: σ₂) := by first | exact True.intro | exact Sub.nil _ | (repeat (first | exact Sub.refl _ | exact Sub.nil _ | refine Sub.cons2 _ ?_ | refine Sub.cons _ ?_))) :
    SL P n md ops Q (⟨none, .mapUpdate t x i y, ty, pos, after, none⟩ :: rest) f σ m :=
  SL_skip hm rfl rfl rfl fun g W hC _ => by
    subst hσ
    have hp : (σ₁ ++ (B, MapC kc vc l) :: σ₂).Perm ((B, MapC kc vc l) :: (σ₁ ++ σ₂)) := List.perm_middle
    have hC' := hC.perm hp
    obtain ⟨⟨o, ho, bs, clock, ⟨es, rfl, h1, h2⟩, h3, h4⟩, _⟩ := hC'.own _ (List.mem_cons_self ..)
    obtain ⟨kd, hkd, hkd2, _⟩ := (TyOk.get (P := P) hk).desc
    have hf := run_findKey K hkd2 hkd a h1 W
    have hck := K.chk kd hkd2 P k 9999 false a W hkd
    have hfin : ∀ o', MapC kc vc (mput a b l) o' → (Instr.mapUpdate t (.map (some B)) (kc a) (vc b)).run P W = .ok () (setB W B o') →
        ∃ W' σ' m', (execOp (ev f) ⟨none, .mapUpdate t x i y, ty, pos, after, none⟩).run P W = .ok .skip W' ∧ Conc g W' m' σ' ∧ Le m m' ∧ md.keep σ' ∧ SL P n md ops Q rest f σ' m' := fun o' hψ hr =>
      ⟨_, _, m, by simp [execOp, hx, hi, hy, hr], (setBlock_conc hC' ho hψ).perm List.perm_middle.symm, Le.refl m, hkeep, h⟩
    cases hl : mlookI a l 0 with
    | none =>
      rw [hl] at hf
      refine hfin (.map (es.push { key := kc a, val := vc b, born := clock }) (clock + 1)) ⟨bs ++ [clock], clock + 1, ⟨_, rfl, ?_, ?_⟩, ?_, ?_⟩ ?_
      · rw [put_none a b l 0 hl]; simp [h1]
      · simp [h2]
      · rw [List.nodup_append]
        exact ⟨h3, by simp, fun u hu v hv e => by simp at hv; have := h4 u hu; omega⟩
      · intro u hu
        rcases List.mem_append.1 hu with hu | hu
        · have := h4 u hu; omega
        · simp at hu; omega
      · unfold Instr.mapUpdate
        simp only [Sem.run_bind, run_underlying (mapDesc ht), Result.andThen_ok, run_getObj' ho, hck, hf, Option.map_none, run_setObj_map ho]
    | some p =>
      obtain ⟨j, c⟩ := p
      rw [hl] at hf
      have hj := (lookI_lt a l 0 j c hl).2
      rw [Nat.sub_zero] at hj
      have hkey : (es[j]?).map (·.key) = some (kc a) := by
        have e1 := congrArg (fun z => z[j]?) h1
        simp only [List.getElem?_map, hj, Option.map_some] at e1
        cases he : es.toList[j]? with
        | none => rw [he] at e1; cases e1
        | some x =>
          rw [he] at e1
          simp only [Option.map_some, Option.some.injEq, Prod.mk.injEq] at e1
          rw [← Array.getElem?_toList, he, Option.map_some, e1.1]
      refine hfin (.map (es.modify j fun e => { e with key := kc a, val := vc b }) clock) ⟨bs, clock, ⟨_, rfl, ?_, ?_⟩, h3, h4⟩ ?_
      · rw [put_some a b l 0 j c hl, Nat.sub_zero, Array.toList_modify]
        exact modify_kv _ _ _ _ _ h1
      · rw [Array.toList_modify, modify_born]; exact h2
      · unfold Instr.mapUpdate
        simp only [Sem.run_bind, run_underlying (mapDesc ht), Result.andThen_ok, run_getObj' ho, hck, hf, Option.map_some, hkey, Option.getD_some, Instr.keyThatStays, K.bits, if_true, Sem.run_pure, run_setObj_map ho]

/-- delete(m, key). -/
theorem dl (ht : tyGet T t = some ⟨.map k e, ag, ts, tb, tz⟩) (hk : tyGet T k = some ki) (K : KeyEnc ki.k kc) (hx : ev f x = .map (some B)) (hi : ev f i = kc a) {σ₁ σ₂ : Sig} (hσ : σ = σ₁ ++ (B, MapC kc vc l) :: σ₂) (hdn : Nat.blt d n = true)
    (h : SL P n md ops Q rest (upd f d (.tuple #[])) (σ₁ ++ (B, MapC kc vc (mdel a l)) :: σ₂) m)
    (hm : md.loud = true := by exact rfl) (hkeep : md.keep (σ₁ ++ (B, MapC kc vc (mdel a l)) :: σ₂) := by first | exact True.intro | exact Sub.nil _ | (repeat (first | exact Sub.refl _ | exact Sub.nil _ | refine Sub.cons2 _ ?_ | refine Sub.cons _ ?_))) :
    SL P n md ops Q (⟨some d, .call ⟨.builtin .delete, #[x, i], #[t, k]⟩, ty, pos, after, none⟩ :: rest) f σ m :=
  SL_val hm rfl rfl rfl hdn fun g W hC _ => by
    subst hσ
    have hp : (σ₁ ++ (B, MapC kc vc l) :: σ₂).Perm ((B, MapC kc vc l) :: (σ₁ ++ σ₂)) := List.perm_middle
    have hC' := hC.perm hp
    obtain ⟨⟨o, ho, bs, clock, ⟨es, rfl, h1, h2⟩, h3, h4⟩, _⟩ := hC'.own _ (List.mem_cons_self ..)
    obtain ⟨kd, hkd, hkd2, _⟩ := (TyOk.get (P := P) hk).desc
    have hf := run_findKey K hkd2 hkd a h1 W
    have hck := K.chk kd hkd2 P k 9999 es.isEmpty a W hkd
    have hfin : ∀ o', MapC kc vc (mdel a l) o' → (Builtin.delete_ #[t, k] ty #[.map (some B), kc a]).run P W = .ok (.tuple #[]) (setB W B o') →
        ∃ v W' σ' m', (execOp (ev f) ⟨some d, .call ⟨.builtin .delete, #[x, i], #[t, k]⟩, ty, pos, after, none⟩).run P W = .ok (.value v) W' ∧ Conc g W' m' σ' ∧ Le m m' ∧ md.keep σ' ∧ SL P n md ops Q rest (upd f d v) σ' m' := fun o' hψ hr =>
      ⟨_, _, _, m, by simp [execOp, resolve, invoke, builtin, hx, hi, hr], (setBlock_conc hC' ho hψ).perm List.perm_middle.symm, Le.refl m, hkeep, h⟩
    cases hl : mlookI a l 0 with
    | none =>
      rw [hl] at hf
      refine hfin (.map es clock) ⟨bs, clock, ⟨_, rfl, ?_, h2⟩, h3, h4⟩ ?_
      · rw [del_none a l 0 hl]; exact h1
      · simp [Builtin.delete_, run_underlying (mapDesc ht), run_getObj' ho, hck, hf, run_setObj_map ho]
    | some p =>
      obtain ⟨j, c⟩ := p
      rw [hl] at hf
      refine hfin (.map (es.eraseIdxIfInBounds j) clock) ⟨bs.eraseIdx j, clock, ⟨_, rfl, ?_, ?_⟩, h3.sublist (List.eraseIdx_sublist ..), fun u hu => h4 u ((List.eraseIdx_sublist ..).subset hu)⟩ ?_
      · rw [del_some a l 0 j c hl, Nat.sub_zero]
        simp only [Array.eraseIdxIfInBounds]
        split
        · rw [Array.toList_eraseIdx]; exact erase_kv _ _ _ h1
        · rename_i hlt
          rw [← erase_kv _ _ _ h1, List.eraseIdx_of_length_le (by simpa using hlt)]
      · simp only [Array.eraseIdxIfInBounds]
        split
        · rw [Array.toList_eraseIdx, ← h2, erase_born]
        · rename_i hlt
          rw [h2, List.eraseIdx_of_length_le (by rw [← h2]; simpa using hlt)]
      · simp [Builtin.delete_, run_underlying (mapDesc ht), run_getObj' ho, hck, hf, run_setObj_map ho]
/-- delete, as a statement. -/
theorem dl0 (ht : tyGet T t = some ⟨.map k e, ag, ts, tb, tz⟩) (hk : tyGet T k = some ki) (K : KeyEnc ki.k kc) (hx : ev f x = .map (some B)) (hi : ev f i = kc a) {σ₁ σ₂ : Sig} (hσ : σ = σ₁ ++ (B, MapC kc vc l) :: σ₂)
    (h : SL P n md ops Q rest f (σ₁ ++ (B, MapC kc vc (mdel a l)) :: σ₂) m)
    (hm : md.loud = true := by exact rfl) (hkeep : md.keep (σ₁ ++ (B, MapC kc vc (mdel a l)) :: σ₂) := by first | exact True.intro | exact Sub.nil _ | (repeat (first | exact Sub.refl _ | exact Sub.nil _ | refine Sub.cons2 _ ?_ | refine Sub.cons _ ?_))) :
    SL P n md ops Q (⟨none, .call ⟨.builtin .delete, #[x, i], #[t, k]⟩, ty, pos, after, none⟩ :: rest) f σ m :=
  SL_val0 hm rfl rfl rfl fun g W hC _ => by
    subst hσ
    have hp : (σ₁ ++ (B, MapC kc vc l) :: σ₂).Perm ((B, MapC kc vc l) :: (σ₁ ++ σ₂)) := List.perm_middle
    have hC' := hC.perm hp
    obtain ⟨⟨o, ho, bs, clock, ⟨es, rfl, h1, h2⟩, h3, h4⟩, _⟩ := hC'.own _ (List.mem_cons_self ..)
    obtain ⟨kd, hkd, hkd2, _⟩ := (TyOk.get (P := P) hk).desc
    have hf := run_findKey K hkd2 hkd a h1 W
    have hck := K.chk kd hkd2 P k 9999 es.isEmpty a W hkd
    have hfin : ∀ o', MapC kc vc (mdel a l) o' → (Builtin.delete_ #[t, k] ty #[.map (some B), kc a]).run P W = .ok (.tuple #[]) (setB W B o') →
        ∃ v W' σ' m', (execOp (ev f) ⟨none, .call ⟨.builtin .delete, #[x, i], #[t, k]⟩, ty, pos, after, none⟩).run P W = .ok (.value v) W' ∧ Conc g W' m' σ' ∧ Le m m' ∧ md.keep σ' ∧ SL P n md ops Q rest f σ' m' := fun o' hψ hr =>
      ⟨.tuple #[], _, _, m, by simp [execOp, resolve, invoke, builtin, hx, hi, hr], (setBlock_conc hC' ho hψ).perm List.perm_middle.symm, Le.refl m, hkeep, h⟩
    cases hl : mlookI a l 0 with
    | none =>
      rw [hl] at hf
      refine hfin (.map es clock) ⟨bs, clock, ⟨_, rfl, ?_, h2⟩, h3, h4⟩ ?_
      · rw [del_none a l 0 hl]; exact h1
      · simp [Builtin.delete_, run_underlying (mapDesc ht), run_getObj' ho, hck, hf, run_setObj_map ho]
    | some p =>
      obtain ⟨j, c⟩ := p
      rw [hl] at hf
      refine hfin (.map (es.eraseIdxIfInBounds j) clock) ⟨bs.eraseIdx j, clock, ⟨_, rfl, ?_, ?_⟩, h3.sublist (List.eraseIdx_sublist ..), fun u hu => h4 u ((List.eraseIdx_sublist ..).subset hu)⟩ ?_
      · rw [del_some a l 0 j c hl, Nat.sub_zero]
        simp only [Array.eraseIdxIfInBounds]
        split
        · rw [Array.toList_eraseIdx]; exact erase_kv _ _ _ h1
        · rename_i hlt
          rw [← erase_kv _ _ _ h1, List.eraseIdx_of_length_le (by simpa using hlt)]
      · simp only [Array.eraseIdxIfInBounds]
        split
        · rw [Array.toList_eraseIdx, ← h2, erase_born]
        · rename_i hlt
          rw [h2, List.eraseIdx_of_length_le (by rw [← h2]; simpa using hlt)]
      · simp [Builtin.delete_, run_underlying (mapDesc ht), run_getObj' ho, hck, hf, run_setObj_map ho]
end
end Eng
end Go.Proofs.Ytkopdlglenejmaa
