/- The engine, part 9: slice expressions, parts of lists. -/
import Derived.Test.YtkopdlglenejmaaEngSort
import Derived.Test.YtkopdlglenejmaaEngOwn
import Derived.Scope
namespace Go.Proofs.Ytkopdlglenejmaa
namespace Eng
section
variable {α : Type} {en : α → List Value} {size : Nat}
theorem flatMap_drop (he : ∀ x, (en x).length = size) : ∀ (l : List α) (k : Nat), (l.drop k).flatMap en = (l.flatMap en).drop (k * size)
  | [], k => by simp
  | x :: l, 0 => by simp
  | x :: l, k + 1 => by
    rw [List.drop_succ_cons, flatMap_drop he l k, List.flatMap_cons, show (k + 1) * size = (en x).length + k * size by rw [he, Nat.succ_mul]; omega, List.drop_append]
    simp
theorem flatMap_take (he : ∀ x, (en x).length = size) : ∀ (l : List α) (k : Nat), (l.take k).flatMap en = (l.flatMap en).take (k * size)
  | [], k => by simp
  | x :: l, 0 => by simp
  | x :: l, k + 1 => by
    rw [List.take_succ_cons, List.flatMap_cons, flatMap_take he l k, List.flatMap_cons, show (k + 1) * size = (en x).length + k * size by rw [he, Nat.succ_mul]; omega, List.take_append, List.take_of_length_le (Nat.le_add_right _ _), Nat.add_sub_cancel_left]
/-- A part of a list that memory keeps. -/
theorem RL.full {m : Mem} {v : Value} {l : List α} (h : RL m en size v l) : ∃ a cap, v = .slice a l.length cap ∧ l.length ≤ cap := by
  obtain ⟨a, cap, e, _, h2, _⟩ := h
  exact ⟨a, cap, e, h2⟩
theorem RL.sub {m : Mem} {a : Option Addr} {cap lo hi : Nat} {l : List α} (he : ∀ x, (en x).length = size) (h : RL m en size (.slice a l.length cap) l) (h1 : lo ≤ hi) (h2 : hi ≤ l.length) : RL m en size (sliced a lo hi cap size) ((l.take hi).drop lo) := by
  obtain ⟨a', cap', e, g1, g2, g3, g4, g5⟩ := h
  cases e
  have hlen : ((l.take hi).drop lo).length = hi - lo := by rw [List.length_drop, List.length_take]; omega
  unfold RL
  rw [hlen]
  refine ⟨_, _, rfl, by rw [flatMap_len he, hlen], by omega, by omega, fun hn => ?_, fun ad hn => ?_⟩
  · split at hn
    · have := g4 hn; omega
    · cases ha : a with
      | none => have := g4 ha; omega
      | some ad => rw [ha] at hn; cases hn
  · split at hn
    · rename_i hc
      have hz : (l.take hi).drop lo = [] := List.eq_nil_of_length_eq_zero (by rw [hlen]; omega)
      rw [hz]
      intro j v hj
      simp at hj
    · obtain ⟨ad', ha, e⟩ := Option.map_eq_some_iff.1 hn
      subst e
      have h5 := g5 ad' ha
      rw [flatMap_drop he, flatMap_take he]
      exact (h5.take (hi * size)).drop (lo * size)
end
section
variable {P : Program} {T : TyTab} [TyOk P T]
variable {n : Nat} {md : Mode} {Q : APost} {f : Fr} {σ : Sig} {m : Mem} {ops : Array Oper} {rest : List Oper} {d : Nat} {ty : TypeId} {pos : String} {after : Array Edge}
/-- x[lo:hi] -/
theorem sli {t e : TypeId} {ei : TI} {ag : Bool} {ts tb size : Nat} {tz : Value} {x lo hi : Operand} {a : Option Addr} {len cap : Nat} {l h : Int} (ht : tyGet T t = some ⟨.slice e, ag, ts, tb, tz⟩) (he : tyGet T e = some ei) (hsz : ei.size = size)
    (hx : ev f x = .slice a len cap) (hlo : ev f lo = .int .i64 l) (hhi : ev f hi = .int .i64 h) (h0 : 0 ≤ l) (h1 : l ≤ h) (h2 : h ≤ cap) (hdn : Nat.blt d n = true)
    (hn : SL P n md ops Q rest (upd f d (sliced a l.toNat h.toNat cap size)) σ m) : SL P n md ops Q (⟨some d, .slice t x (some lo) (some hi) none, ty, pos, after, none⟩ :: rest) f σ m :=
  SL_same rfl rfl hdn (fun g W _ => by
    obtain ⟨dd, hd1, hd2, _⟩ := (TyOk.get (P := P) ht).desc
    obtain rfl : dd = .slice e := by cases dd <;> simp [DescOk] at hd2 ⊢; exact hd2
    have hel : P.elem t = e := by simp [Program.elem, hd1]
    have hs := (TyOk.get (P := P) he).sizeOf W
    have h3 := run_slice_lh (P := P) W t a len cap (by rw [hel]; exact hd1) .i64 .i64 l h h0 h1 h2
    rw [hel, hs] at h3
    simp only [Result.andThen_ok] at h3
    have h4 := run_sliceAt_slice (P := P) W t (.slice a len cap) (some (.int .i64 l)) (some (.int .i64 h)) none (by rw [hel]; exact hd1)
    rw [h3, hsz] at h4
    simp [execOp, hx, hlo, hhi, h4]) hn
theorem SL_imp {i : Nat} {φ ψ : Chk} (hi : ∀ o, φ o → ψ o) (h : SL P n md ops Q rest f ((i, ψ) :: σ) m) (hm : md.loud = true := by exact rfl) (hkeep : md.keep ((i, ψ) :: σ) := by first | exact True.intro | exact Sub.nil _ | (repeat (first | exact Sub.refl _ | exact Sub.nil _ | refine Sub.cons2 _ ?_ | refine Sub.cons _ ?_ | refine Sub.left _ ?_))) : SL P n md ops Q rest f ((i, φ) :: σ) m :=
  SL_ghost hm fun _ _ hC _ => ⟨_, m, hC.imp hi, Le.refl m, hkeep, h⟩
theorem row_nil (e size : Nat) : ∀ o, Cells e [] o → Row e size 0 [] o := fun o ho => by
  subst ho
  exact ⟨#[], rfl, by simp, Nat.zero_le _, by simp, rfl⟩
/-- x[:hi] -/
theorem slh {t e : TypeId} {ei : TI} {ag : Bool} {ts tb size : Nat} {tz : Value} {x hi : Operand} {a : Option Addr} {len cap : Nat} {h : Int} (ht : tyGet T t = some ⟨.slice e, ag, ts, tb, tz⟩) (he : tyGet T e = some ei) (hsz : ei.size = size)
    (hx : ev f x = .slice a len cap) (hhi : ev f hi = .int .i64 h) (h0 : 0 ≤ h) (h2 : h ≤ cap) (hdn : Nat.blt d n = true)
    (hn : SL P n md ops Q rest (upd f d (sliced a 0 h.toNat cap size)) σ m) : SL P n md ops Q (⟨some d, .slice t x none (some hi) none, ty, pos, after, none⟩ :: rest) f σ m :=
  SL_same rfl rfl hdn (fun g W _ => by
    obtain ⟨dd, hd1, hd2, _⟩ := (TyOk.get (P := P) ht).desc
    obtain rfl : dd = .slice e := by cases dd <;> simp [DescOk] at hd2 ⊢; exact hd2
    have hel : P.elem t = e := by simp [Program.elem, hd1]
    have hs := (TyOk.get (P := P) he).sizeOf W
    have h3 := run_slice_h (P := P) W t a len cap (by rw [hel]; exact hd1) .i64 h h0 h2
    rw [hel, hs] at h3
    simp only [Result.andThen_ok] at h3
    have h4 := run_sliceAt_slice (P := P) W t (.slice a len cap) none (some (.int .i64 h)) none (by rw [hel]; exact hd1)
    rw [h3, hsz] at h4
    simp [execOp, hx, hhi, h4]) hn
/-- A value that is true just where a statement holds. -/
theorem psp (dd : Nat) {p : Prop} {hp : Decidable p} (hb : f dd = .bool (@decide p hp)) (ht : p → SL P n md ops Q rest (upd f dd (.bool true)) σ m) (hf : ¬ p → SL P n md ops Q rest (upd f dd (.bool false)) σ m) : SL P n md ops Q rest f σ m := by
  refine bsp dd hb (fun h => ht (of_decide_eq_true h)) (fun h => hf (of_decide_eq_false h))
/-- What a scope hands on: no jump. -/
def inScope (Q : APost) : APost
  | .goto _, _, _, _ => False
  | e, f, σ, m => Q e f σ m
theorem SWP_scope {c : Code} (h : SWP P n c (inScope Q) f σ m) : SWP P n (.scope c) Q f σ m := fun g W a hC hF =>
  wp_scope_straight (wp_mono (h g W a hC hF) fun e a W ⟨f, σ, m, hF, hC, hh⟩ => by
    cases e with
    | goto l => exact hh.elim
    | _ => exact ⟨f, σ, m, hF, hC, hh⟩)
theorem sn (h : Q .normal f σ m) : inScope Q .normal f σ m := h
theorem se {i : Nat} (h : Q (.exit i) f σ m) : inScope Q (.exit i) f σ m := h
theorem sr (h : Q .ret f σ m) : inScope Q .ret f σ m := h
end
/-- A call that reads what memory keeps and whose traces are forgotten: its result is known in part. -/
theorem CallsS.forget {P : Program} {F : FuncId} {args : List Value} {m : Mem} {R : Value → Prop} (h : CallsS P F args.toArray [] m fun u _ _ => R u) {τ : Sig} : CallsS P F args.toArray τ m fun u σ' m' => σ' = τ ∧ m' = m ∧ R u := by
  intro g W hC
  have h' := CallsS.frame τ h
  rw [List.nil_append] at h'
  refine (h' g W hC).mono fun e W' ⟨u, σ', m', he, hC', hl, σ₁, h1, h2⟩ => ?_
  subst h1
  exact ⟨u, τ, m, he, (hC'.sublist (List.sublist_append_right σ₁ τ)).weaken_mem hC.base hl, Le.refl m, rfl, rfl, h2⟩
/-- Ways that meet again: what follows is proved once. S: every slot that the piece writes; L: those that J speaks of. -/
theorem SWP_merge1 {P : Program} {n : Nat} {Q : APost} {f : Fr} {σ : Sig} {m : Mem} {a r : Code} (S L : List Nat) (J : List Value → Sig → Mem → Prop) (hL : L.all (memN S) = true)
    (h : SWP P n a (thenQ (fun f' σ' m' => Under S f f' ∧ J (L_vals L f') σ' m') Q) f σ m)
    (hn : ∀ u vs σ' m', J vs σ' m' → vs.length = L.length → SWP P n r Q (upds (hav S u f) L vs) σ' m') : SWP P n (.seq a r) Q f σ m :=
  SWP_seq (SWP_mono (fun e f2 σ2 m2 hq => by
    cases e with
    | normal =>
      obtain ⟨hU, hJ⟩ := hq
      have := hn f2 (L_vals L f2) σ2 m2 hJ (by simp [L_vals])
      rw [← under_form hL hU] at this
      exact this
    | _ => exact hq) h)
/-- A store whose outcome is said. -/
theorem stE {P : Program} {T : TyTab} [TyOk P T] {n : Nat} {md : Mode} {Q : APost} {f : Fr} {σ : Sig} {m : Mem} {ops : Array Oper} {rest : List Oper} {ty : TypeId} {pos : String} {after : Array Edge} {t : TypeId} {x y : Operand} {B e off : Nat} {cs cs' : List Value} {v : Value} {q : Addr} {ti : TI} {σ₁ σ₂ : Sig} (hi : tyGet T t = some ti) (hx : ev f x = .pointer (some q)) (hq : q = (⟨B, 0, none⟩ : Addr).add off) (hy : ev f y = v)
    (hσ : σ = σ₁ ++ (B, Cells e cs) :: σ₂) (hlen : Nat.beq v.cells.toList.length ti.size = true) (hfit : Nat.ble (off + v.cells.toList.length) cs.length = true) (h1 : v.cells.toList.all (·.oneCell') = true) (hres : laySeg cs off v.cells.toList = cs')
    (h : SL P n md ops Q rest f (σ₁ ++ (B, Cells e cs') :: σ₂) m)
    (hm : md.loud = true := by exact rfl) (hk : md.keep (σ₁ ++ (B, Cells e cs') :: σ₂) := by first | exact True.intro | exact Sub.nil _ | (repeat (first | exact Sub.refl _ | exact Sub.nil _ | refine Sub.cons2 _ ?_ | refine Sub.cons _ ?_))) :
    SL P n md ops Q (⟨none, .store t x y, ty, pos, after, none⟩ :: rest) f σ m := by
  subst hres
  exact st hi hx hq hy hσ hlen hfit h1 h hm hk
section
variable {P : Program} {T : TyTab} [TyOk P T]
variable {n : Nat} {md : Mode} {Q : APost} {f : Fr} {σ : Sig} {m : Mem} {ops : Array Oper} {rest : List Oper} {d : Nat} {ty : TypeId} {pos : String} {after : Array Edge}
/-- == on arrays of ints. -/
structure EqAN (P : Program) (t e k : Nat) : Prop where
  guard : P.eqGuardType P.depth t = false
  under : P.underlying t = some (.array k e)
  elem : P.underlying e = some (.int .i64)
  info : (P.info? e).isSome = true
  cells : P.cellsOf e = 1
abbrev intsV (L : List Int) : List Value := L.map fun x => .int .i64 x
theorem eqN_items {t e k : Nat} (hE : EqAN P t e k) {i : TI} (he : tyGet T e = some i) (hag : i.agg = false) (L L' : List Int) (W : World) : ∀ is : List Nat, (∀ j ∈ is, j < L.length ∧ j < L'.length) →
    (Op.eqItems 9999 e 1 (intsV L).toArray (intsV L').toArray is).run P W = .ok (decide (∀ j ∈ is, L[j]? = L'[j]?)) W
  | [], _ => by simp [Op.eqItems]
  | j :: is, h => by
    obtain ⟨h1, h2⟩ := h j (by simp)
    have ih := eqN_items hE he hag L L' W is fun j' hj' => h j' (List.mem_cons_of_mem _ hj')
    have pt : ∀ (M : List Int) (hj : j < M.length), (part e (intsV M).toArray (j * 1)).run P W = .ok (.int .i64 M[j]) W := fun M hj => by
      have := partV_ok (P := P) (T := T) (t := e) (cs := intsV M) (off := j) (v := .int .i64 M[j]) (by unfold partV; rw [he]; simp only [hag, cond_false, intsV, List.getElem?_map, List.getElem?_eq_getElem hj, Option.map_some]) W
      rw [Nat.mul_one]; exact this
    have e3 := run_equalIn_int W 9998 e .i64 .i64 L[j] L'[j] hE.elem
    simp only [Op.eqItems, Sem.run_bind, pt L h1, pt L' h2, Result.andThen_ok]
    rw [show (9999 : Nat) = 9998 + 1 from rfl, e3]
    by_cases hx : L[j] = L'[j]
    · rw [show (9998 + 1 : Nat) = 9999 from rfl]
      simp [hx, ih, List.getElem?_eq_getElem h1, List.getElem?_eq_getElem h2]
    · simp [hx, List.getElem?_eq_getElem h1, List.getElem?_eq_getElem h2]
theorem eqN_run {t e k : Nat} (hE : EqAN P t e k) {i : TI} (he : tyGet T e = some i) (hag : i.agg = false) {L L' : List Int} (h1 : L.length = k) (h2 : L'.length = k) (W : World) :
    (Op.equalIn 10000 t (.agg (intsV L).toArray) (.agg (intsV L').toArray)).run P W = .ok (decide (L = L')) W := by
  obtain ⟨inf, hinf⟩ := Option.isSome_iff_exists.1 hE.info
  rw [show (10000 : Nat) = 9999 + 1 from rfl, run_equalIn_array W 9999 _ _ hE.under hinf, hE.cells, eqN_items hE he hag L L' W _ (fun j hj => by have := List.mem_range.1 hj; omega)]
  congr 1
  refine decide_eq_decide.2 ⟨fun h => List.ext_getElem? fun j => ?_, fun h j _ => by rw [h]⟩
  by_cases hj : j < k
  · exact h j (List.mem_range.2 hj)
  · rw [List.getElem?_eq_none (by omega), List.getElem?_eq_none (by omega)]
theorem neqAN {t e k : TypeId} {x y : Operand} {z : TypeId} {L L' : List Int} (hE : EqAN P t e k) {i : TI} (he : tyGet T e = some i) (hag : i.agg = false) (hx : ev f x = .agg (intsV L).toArray) (hy : ev f y = .agg (intsV L').toArray) (h1 : L.length = k) (h2 : L'.length = k) (hdn : Nat.blt d n = true)
    (h : SL P n md ops Q rest (upd f d (.bool (!decide (L = L')))) σ m) : SL P n md ops Q (⟨some d, .binOp .neq t x y z, ty, pos, after, none⟩ :: rest) f σ m :=
  SL_same rfl rfl hdn (fun g W _ => by
    have h1 := eqN_run (P := P) (T := T) hE he hag h1 h2 W
    simp only [execOp, hx, hy, Sem.run_bind, run_eqGuard_agg W .neq t x y _ _ hE.guard, Result.andThen_ok, run_neq_struct]
    rw [h1]
    rfl) h
theorem permX {α : Type} (a b c : List α) : (a ++ (b ++ c)).Perm (b ++ (a ++ c)) := by
  rw [← List.append_assoc, ← List.append_assoc]; exact List.perm_append_comm.append_right c
/-! Calls of function values that have captured variables. -/
theorem run_callC {dst : Option Nat} {t : TypeId} {pos : String} {after : Array Edge} {cal : Operand} {F : FuncId} {args : Array Operand} {ats : Array TypeId} {as cs all : List Value} {gd : Option (Nat × Bool)}
    (hf : ev f cal = .func (.func F) #[] cs.toArray) (hcb : Callable P F)
    (ha : args.toList.map (ev f) = as) (hall : as ++ cs = all) (W : World) : (execOp (ev f) ⟨dst, .call ⟨.value cal, args, ats⟩, t, pos, after, gd⟩).run P W = .ok (.enter F all.toArray) W := by
  obtain ⟨fn, hfn, hb, hnm⟩ := hcb
  have e1 : args.map (ev f) = as.toArray := by rw [← ha]; cases args; simp
  have e2 : ¬ fn.name = "runtime.NumGoroutine" := by simpa using hnm
  have e3 : ¬ fn.body = none := fun h => by rw [h] at hb; cases hb
  simp [execOp, resolve, Deferred.ofValue, hf, invoke, callFunc, hfn, e1, e2, e3, ← hall]
theorem SL_callC {d : Nat} {cal : Operand} {F : FuncId} {args : Array Operand} {ats : Array TypeId} {as cs all : List Value} {R : Value → Sig → Mem → Prop}
    (hdn : Nat.blt d n = true) (hf : ev f cal = .func (.func F) #[] cs.toArray) (hcb : Callable P F)
    (hc : CallsS P F all.toArray σ m R) (ha : args.toList.map (ev f) = as) (hall : as ++ cs = all)
    (hn : ∀ v σ' m', Le m m' → R v σ' m' → SL P n .plain ops Q rest (upd f d v) σ' m') :
    SL P n .plain ops Q (⟨some d, .call ⟨.value cal, args, ats⟩, ty, pos, after, none⟩ :: rest) f σ m := by
  intro g W a hC hF
  refine wpList_plain rfl fun K hK => ?_
  have hrun := run_callC (dst := some d) (t := ty) (pos := pos) (after := after) (ats := ats) (gd := none) hf hcb ha hall W
  unfold Oper.wp
  rw [hF.eval, hrun, Oper.upon_enter]
  refine (hc g W hC).mono fun e W' ⟨v, σ', m', he, hC', hl, hR⟩ => ?_
  subst he
  exact hK _ _ (hn v σ' m' hl hR g W' _ hC' (hF.put hdn v))
theorem SL_pcallC {d : Nat} {cal : Operand} {F : FuncId} {args : Array Operand} {ats : Array TypeId} {as cs all : List Value} {v : Value}
    (hdn : Nat.blt d n = true) (hf : ev f cal = .func (.func F) #[] cs.toArray) (hcb : Callable P F)
    (hc : CallsS P F all.toArray σ m fun u σ' m' => u = v ∧ σ' = σ ∧ m' = m) (ha : args.toList.map (ev f) = as) (hall : as ++ cs = all)
    (hn : SL P n .plain ops Q rest (upd f d v) σ m) :
    SL P n .plain ops Q (⟨some d, .call ⟨.value cal, args, ats⟩, ty, pos, after, none⟩ :: rest) f σ m :=
  SL_callC hdn hf hcb hc ha hall fun u σ' m' _ ⟨h1, h2, h3⟩ => by subst h1; subst h2; subst h3; exact hn
end
end Eng
end Go.Proofs.Ytkopdlglenejmaa
