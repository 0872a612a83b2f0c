/- The engine, part 3: loads, stores, new blocks, slices that the running code builds, index and slice expressions. -/
import Derived.Test.YtkopdlglenejmaaEngOps
import Derived.Maps.AppendAt
namespace Go.Proofs.Ytkopdlglenejmaa
namespace Eng

/-! ## What can be read -/

/-- A block that is known whole. -/
def Cells (e : Nat) (cs : List Value) : Chk := fun o => o = .cells cs.toArray e (0, 0)
/-- A row of which the first cells are in use. -/
def Row (e size cap : Nat) (xs : List Value) : Chk := fun o => ∃ cur : Array Value, o = .cells cur e (0, 0) ∧ cur.size = cap * size ∧ cap ≤ maxLen ∧ xs.length ≤ cap * size ∧ cur.toList.take xs.length = xs

/-- From address p on memory holds these cells, and keeps them. -/
def At (m : Mem) (p : Addr) (cs : List Value) : Prop := ∀ j v, cs[j]? = some v → m.cell (p.add j) = some v

/-- From address p on these cells can be read. -/
def Rd (σ : Sig) (m : Mem) (p : Addr) (cs : List Value) : Prop := ∀ g W, Conc g W m σ → ∀ j v, cs[j]? = some v → W.cell? (p.add j) = some v

theorem add_add (a : Addr) (i j : Nat) : (a.add i).add j = a.add (i + j) := by
  unfold Addr.add
  by_cases hi : i = 0 <;> by_cases hj : j = 0 <;> simp [hi, hj, Nat.add_assoc]
theorem add_zero' (a : Addr) : a.add 0 = a := by simp [Addr.add]

section
variable {m m' : Mem} {σ : Sig} {p : Addr} {cs : List Value}
theorem At.mono (h : At m p cs) (hl : Le m m') : At m' p cs := fun j v hj => hl.cell (h j v hj)
theorem At.drop (h : At m p cs) (k : Nat) : At m (p.add k) (cs.drop k) := fun j v hj => by
  rw [add_add]; exact h (k + j) v (by rw [← hj, List.getElem?_drop])
theorem At.take (h : At m p cs) (k : Nat) : At m p (cs.take k) := fun j v hj => by
  rw [List.getElem?_take] at hj
  split at hj
  · exact h j v hj
  · cases hj
theorem Rd.of_at (h : At m p cs) : Rd σ m p cs := fun _ _ hC j v hj => hC.cell? (h j v hj)
theorem Rd.of_cells {B e : Nat} (h : (B, Cells e cs) ∈ σ) : Rd σ m ⟨B, 0, none⟩ cs := fun g W hC j v hj => by
  obtain ⟨⟨o, h1, rfl⟩, _⟩ := hC.own _ h
  rw [Addr.add_lit, Nat.zero_add]
  simp only at h1
  simp only [World.cell?, h1]
  simpa using hj
theorem Rd.of_row {B e size cap : Nat} (h : (B, Row e size cap cs) ∈ σ) : Rd σ m ⟨B, 0, none⟩ cs := fun g W hC j v hj => by
  obtain ⟨⟨o, h1, cur, rfl, _, _, _, ht⟩, _⟩ := hC.own _ h
  rw [Addr.add_lit, Nat.zero_add]
  simp only at h1
  simp only [World.cell?, h1]
  rw [← ht, List.getElem?_take] at hj
  split at hj
  · simpa using hj
  · cases hj
theorem Rd.drop (h : Rd σ m p cs) (k : Nat) : Rd σ m (p.add k) (cs.drop k) := fun g W hC j v hj => by
  rw [add_add]; exact h g W hC (k + j) v (by rw [← hj, List.getElem?_drop])
theorem Rd.take (h : Rd σ m p cs) (k : Nat) : Rd σ m p (cs.take k) := fun g W hC j v hj => by
  rw [List.getElem?_take] at hj
  split at hj
  · exact h g W hC j v hj
  · cases hj
end

/-- The value of a variable of type t in these cells. -/
def ldV (T : TyTab) (t : Nat) (cs : List Value) (off : Nat) : Option Value :=
  match tyGet T t with
  | some i => bif i.agg then (bif Nat.ble (off + i.size) cs.length then some (.agg ((cs.drop off).take i.size).toArray) else none) else cs[off]?
  | none => none

section
variable {P : Program} {T : TyTab} [TyOk P T]

theorem run_load_some {a : Addr} {v : Value} {W : World} (h : W.cell? a = some v) : (load a).run P W = .ok v W := by
  rw [run_load, h]

theorem ldV_ok {t off : Nat} {cs : List Value} {v : Value} {W : World} {p : Addr} (hr : ∀ j v, cs[j]? = some v → W.cell? (p.add j) = some v) (h : ldV T t cs off = some v) :
    (loadVar t (p.add off)).run P W = .ok v W := by
  unfold ldV at h
  split at h
  · rename_i i hg
    have he := TyOk.get (P := P) hg
    unfold loadVar
    cases ha : i.agg with
    | true =>
      rw [ha] at h
      simp only [cond_true] at h
      cases hb : Nat.ble (off + i.size) cs.length with
      | false => rw [hb] at h; cases h
      | true =>
        rw [hb] at h
        simp only [cond_true, Option.some.injEq] at h
        subst h
        have hlen := Nat.le_of_ble_eq_true hb
        have hl := run_loadCells_list (P := P) W (p.add off) ((cs.drop off).take i.size) (fun j v hj => by
          rw [List.getElem?_take] at hj
          split at hj
          · rw [add_add]; exact hr _ _ (by rw [← hj, List.getElem?_drop])
          · cases hj)
        have e : ((cs.drop off).take i.size).length = i.size := by simp; omega
        rw [e] at hl
        simp only [Sem.run_bind, he.isAgg, Result.andThen_ok, ha, if_true, he.sizeOf, hl, Sem.run_pure]
    | false =>
      rw [ha] at h
      simp only [cond_false] at h
      simp only [Sem.run_bind, he.isAgg, Result.andThen_ok, ha, Bool.false_eq_true, if_false]
      exact run_load_some (hr _ _ h)
  · cases h

variable {n : Nat} {md : Mode} {Q : APost} {f : Fr} {σ : Sig} {m : Mem} {ops : Array Oper} {rest : List Oper} {d : Nat} {op : Op} {ty : TypeId} {pos : String} {after : Array Edge}

/-- A load. -/
theorem ld {t : TypeId} {x : Operand} {q p : Addr} {off : Nat} {cs : List Value} {v : Value} (hr : Rd (md.own σ) m p cs) (hx : ev f x = .pointer (some q)) (hq : q = p.add off) (hv : ldV T t cs off = some v) (hdn : Nat.blt d n = true)
    (h : SL P n md ops Q rest (upd f d v) σ m) : SL P n md ops Q (⟨some d, .load t x, ty, pos, after, none⟩ :: rest) f σ m :=
  SL_same rfl rfl hdn (fun g W hC => by
    subst hq
    have := ldV_ok (P := P) (hr g W hC) hv
    simp [execOp, hx, Instr.loadAt, Instr.sureAddr, this]) h

/-! ## New blocks and stores -/

/-- What is owned may be forgotten. -/
theorem SL_weak {σ' : Sig} (hs : σ'.Sublist σ) (h : SL P n md ops Q rest f σ' m) (hm : md.loud = true := by exact rfl) (hk : md.keep σ' := by first | exact True.intro | exact Sub.nil _ | (repeat (first | exact Sub.refl _ | exact Sub.nil _ | refine Sub.cons2 _ ?_ | refine Sub.cons _ ?_ | refine Sub.left _ ?_))) : SL P n md ops Q rest f σ m :=
  SL_ghost hm fun _ _ hC _ => ⟨σ', m, hC.sublist hs, Le.refl m, hk, h⟩
theorem SL_perm {σ' : Sig} (hs : σ.Perm σ') (h : SL P n md ops Q rest f σ' m) (hm : md.loud = true := by exact rfl) : SL P n md ops Q rest f σ m :=
  SL_ghost hm fun _ _ hC hk => ⟨σ', m, hC.perm hs, Le.refl m, Mode.keep_perm hs hk, h⟩
theorem SWP_weak {c : Code} {σ' : Sig} (hs : σ'.Sublist σ) (h : SWP P n c Q f σ' m) : SWP P n c Q f σ m :=
  fun g W a hC hF => h g W a (hC.sublist hs) hF
theorem SWP_perm {c : Code} {σ' : Sig} (hs : σ.Perm σ') (h : SWP P n c Q f σ' m) : SWP P n c Q f σ m :=
  fun g W a hC hF => h g W a (hC.perm hs) hF

theorem newVar_run {t : TypeId} {v : Value} (W : World) : (newVar t v).run P W = .ok ⟨W.heap.size, 0, none⟩ (W.alloc (.cells v.cells t)) := rfl

/-- A new variable. -/
theorem al {t : TypeId} {i : TI} (hi : tyGet T t = some i) (hdn : Nat.blt d n = true)
    (h : ∀ B, SL P n md ops Q rest (upd f d (.pointer (some ⟨B, 0, none⟩))) ((B, Cells t i.zero.cells.toList) :: σ) m) (hm : md.loud = true := by exact rfl) :
    SL P n md ops Q (⟨some d, .alloc t, ty, pos, after, none⟩ :: rest) f σ m :=
  SL_val hm rfl rfl rfl hdn fun g W hC hk => by
    refine ⟨_, W.alloc (.cells i.zero.cells t), _, _, ?_, (hC.alloc _).imp (ψ := Cells t i.zero.cells.toList) (fun o ho => by subst ho; simp [Cells]), Le.refl m, Mode.keep_cons _ hk, h W.heap.size⟩
    have hz := (TyOk.get (P := P) hi).zeroOf W
    simp [execOp, Instr.alloc, hz, newVar_run]

/-- A new variable with a value. -/
theorem bx {t : TypeId} {x : Operand} {v : Value} (hx : ev f x = v) (hdn : Nat.blt d n = true)
    (h : ∀ B, SL P n md ops Q rest (upd f d (.pointer (some ⟨B, 0, none⟩))) ((B, Cells t v.cells.toList) :: σ) m) (hm : md.loud = true := by exact rfl) :
    SL P n md ops Q (⟨some d, .box t x, ty, pos, after, none⟩ :: rest) f σ m :=
  SL_val hm rfl rfl rfl hdn fun g W hC hk => by
    refine ⟨_, W.alloc (.cells v.cells t), _, _, ?_, (hC.alloc _).imp (ψ := Cells t v.cells.toList) (fun o ho => by subst ho; simp [Cells]), Le.refl m, Mode.keep_cons _ hk, h W.heap.size⟩
    simp [execOp, Instr.box, hx, newVar_run]

theorem setRow_conc {g : Gh} {W : World} {B e : Nat} {φ ψ : Chk} {cur new : Array Value} (hC : Conc g W m ((B, φ) :: σ)) (hg : W.heap[B]? = some (.cells cur e (0, 0))) (hψ : ψ (.cells new e (0, 0))) :
    Conc g (W.setRow B new) m ((B, ψ) :: σ) :=
  hC.turn (.cells new e (0, 0)) hψ rfl rfl rfl (setRow_heap W B cur new e (0, 0) hg) (fun k _ hk hh => (setRow_other W B k new (fun h => hk h)).trans hh)

theorem laySeg_take (vs : List Value) : ∀ (cs : List Value) (off : Nat), off + vs.length ≤ cs.length → laySeg cs off vs = cs.take off ++ vs ++ cs.drop (off + vs.length) := by
  induction vs with
  | nil => intro cs off _; simp [laySeg]
  | cons v vs ih =>
    intro cs off h
    simp only [List.length_cons] at h
    rw [laySeg, ih _ _ (by simp; omega)]
    have := list_seg_step cs off v vs (by omega)
    rw [this]
    simp

/-- A store into an owned block that is known whole (the i-th of the list). -/
theorem st {t : TypeId} {x y : Operand} {B e off : Nat} {cs : List Value} {v : Value} {q : Addr} {ti : TI} {σ₁ σ₂ : Sig} (hi : tyGet T t = some ti) (hx : ev f x = .pointer (some q)) (hq : q = (⟨B, 0, none⟩ : Addr).add off) (hy : ev f y = v)
    (hσ : σ = σ₁ ++ (B, Cells e cs) :: σ₂) (hlen : Nat.beq v.cells.toList.length ti.size = true) (hfit : Nat.ble (off + v.cells.toList.length) cs.length = true) (h1 : v.cells.toList.all (·.oneCell') = true)
    (h : SL P n md ops Q rest f (σ₁ ++ (B, Cells e (laySeg cs off v.cells.toList)) :: σ₂) m)
    (hm : md.loud = true := by exact rfl) (hk : md.keep (σ₁ ++ (B, Cells e (laySeg cs off v.cells.toList)) :: σ₂) := by first | exact True.intro | exact Sub.nil _ | (repeat (first | exact Sub.refl _ | exact Sub.nil _ | refine Sub.cons2 _ ?_ | refine Sub.cons _ ?_ | refine Sub.left _ ?_))) :
    SL P n md ops Q (⟨none, .store t x y, ty, pos, after, none⟩ :: rest) f σ m :=
  SL_skip hm rfl rfl rfl fun g W hC _ => by
    subst hσ
    subst hq
    have hp : (σ₁ ++ (B, Cells e cs) :: σ₂).Perm ((B, Cells e cs) :: (σ₁ ++ σ₂)) := List.perm_middle
    have hC' := hC.perm hp
    obtain ⟨⟨o, hg, rfl⟩, _⟩ := hC'.own _ (List.mem_cons_self ..)
    simp only at hg
    have hl := Nat.le_of_ble_eq_true hfit
    have hs := (TyOk.get (P := P) hi).sizeOf W
    have hrun := run_storeCells_at (P := P) B off e v.cells.toList 0 cs.toArray W hg (by simpa using hl) (fun u hu => List.all_eq_true.1 h1 u hu)
    have hsz : v.cells.size = ti.size := by simpa using Nat.eq_of_beq_eq_true hlen
    refine ⟨W.setRow B (laySeg cs off v.cells.toList).toArray, σ₁ ++ (B, Cells e (laySeg cs off v.cells.toList)) :: σ₂, m, ?_, (setRow_conc (ψ := Cells e (laySeg cs off v.cells.toList)) hC' hg rfl).perm List.perm_middle.symm, Le.refl m, hk, h⟩
    rw [Addr.add_lit, Nat.zero_add] at hx
    rw [laySeg_take _ _ _ hl]
    simp only [Nat.add_zero] at hrun
    simp [execOp, hx, hy, Instr.storeAt, Instr.sureAddr, storeVar, hs, hsz, hrun]

/-! ## Slices that the running code builds -/

inductive OwnS (e size : Nat) : Value → List Value → Sig → Prop
  | nil : OwnS e size (.slice none 0 0) [] []
  | row (B n cap : Nat) (xs : List Value) (hx : xs.length = n * size) (hn : n ≤ cap) (hc : cap ≤ maxLen) : OwnS e size (.slice (some ⟨B, 0, none⟩) n cap) xs [(B, Row e size cap xs)]

/-- A slice value whose cells memory holds and keeps. -/
def RS (m : Mem) (size : Nat) (v : Value) (n : Nat) (xs : List Value) : Prop :=
  ∃ a cap, v = .slice a n cap ∧ xs.length = n * size ∧ n ≤ cap ∧ cap ≤ maxLen ∧ (a = none → n = 0 ∧ cap = 0) ∧ ∀ ad, a = some ad → At m ad xs

theorem RS.mono {m m' : Mem} {size n : Nat} {v : Value} {xs : List Value} (h : RS m size v n xs) (hl : Le m m') : RS m' size v n xs := by
  obtain ⟨a, cap, h1, h2, h3, h4, h5, h6⟩ := h
  exact ⟨a, cap, h1, h2, h3, h4, h5, fun ad e => (h6 ad e).mono hl⟩

theorem OwnS.len {e size : Nat} {v : Value} {xs : List Value} {σe : Sig} (h : OwnS e size v xs σe) : ∃ a n cap, v = .slice a n cap ∧ xs.length = n * size ∧ n ≤ cap := by
  cases h with
  | nil => exact ⟨_, 0, 0, rfl, by simp, Nat.le_refl _⟩
  | row B n cap xs hx hn hc => exact ⟨_, n, cap, rfl, hx, hn⟩

/-- A built slice can be read. -/
theorem OwnS.rd {e size : Nat} {v : Value} {xs : List Value} {σe : Sig} (h : OwnS e size v xs σe) (hs : ∀ c ∈ σe, c ∈ σ) : ∃ a n cap, v = .slice a n cap ∧ xs.length = n * size ∧ n ≤ cap ∧ (a = none → n = 0 ∧ cap = 0) ∧ ∀ ad, a = some ad → Rd σ m ad xs := by
  cases h with
  | nil => exact ⟨none, 0, 0, rfl, by simp, Nat.le_refl _, fun _ => ⟨rfl, rfl⟩, fun ad e => (by cases e)⟩
  | row B n cap xs hx hn hc =>
    refine ⟨some ⟨B, 0, none⟩, n, cap, rfl, hx, hn, (fun e => by cases e), fun ad e => ?_⟩
    cases e
    exact Rd.of_row (hs _ (List.mem_cons_self ..))

/-- A built slice is let go: memory holds it from now on. -/
theorem OwnS.freeze {g : Gh} {W : World} {e size : Nat} {v : Value} {xs : List Value} {σe τ : Sig} (h : OwnS e size v xs σe) (hC : Conc g W m (σe ++ τ)) :
    ∃ m' n, Le m m' ∧ Conc g W m' τ ∧ RS m' size v n xs := by
  cases h with
  | nil => exact ⟨m, 0, Le.refl m, hC, none, 0, rfl, by simp, Nat.le_refl _, Nat.zero_le _, fun _ => ⟨rfl, rfl⟩, fun _ e => (by cases e)⟩
  | row B n cap xs hx hn hc =>
    obtain ⟨o, ⟨cur, rfl, h1, h2, h3, h4⟩, hm, hl, hC'⟩ := Conc.freeze hC
    refine ⟨_, n, hl, hC', some ⟨B, 0, none⟩, cap, rfl, hx, hn, hc, (fun e => by cases e), fun ad e j v hj => ?_⟩
    cases e
    rw [Addr.add_lit, Nat.zero_add]
    simp only [Mem.cell, Mem.set, if_true, objCell, Option.isSome_none, Bool.false_eq_true, if_false]
    rw [← h4, List.getElem?_take] at hj
    split at hj
    · simpa using hj
    · cases hj

theorem Conc.drop_step {g : Gh} {W W' : World} {σe τ : Sig} (h : Conc g W m (σe ++ τ)) (ho : W'.os = W.os) (ht : W'.tape = W.tape) (hu : W'.output = W.output)
    (hh : ∀ (k : Nat) (o : Obj), W.heap[k]? = some o → (∀ c ∈ σe, c.1 ≠ k) → W'.heap[k]? = some o) : Conc g W' m τ := by
  have hnd := h.nodup
  rw [List.map_append, List.nodup_append] at hnd
  refine ⟨ho.trans h.os, ht.trans h.tape, hu.trans h.output, h.base, fun k o hk => hh k o (h.imm k o hk) fun c hc e => ?_, fun k o hk => ?_, fun c hc => ?_, hnd.2.1⟩
  · have := (h.own c (List.mem_append_left _ hc)).2
    rw [e, hk] at this; cases this
  · obtain ⟨a, b, c⟩ := h.frg k o hk
    exact ⟨hh k o a fun x hx => c x (List.mem_append_left _ hx), b, fun x hx => c x (List.mem_append_right _ hx)⟩
  · obtain ⟨⟨o, a, b⟩, q⟩ := h.own c (List.mem_append_right _ hc)
    exact ⟨⟨o, hh _ o a fun x hx e => hnd.2.2 _ (List.mem_map.2 ⟨x, hx, rfl⟩) _ (List.mem_map.2 ⟨c, hc, rfl⟩) e, b⟩, q⟩

theorem Conc.add_own {g : Gh} {W : World} {τ : Sig} {B : Nat} {φ : Chk} {o : Obj} (h : Conc g W m τ) (ho : W.heap[B]? = some o) (hφ : φ o) (hm : m B = none) (hF : g.F B = none) (ht : ∀ c ∈ τ, c.1 ≠ B) : Conc g W m ((B, φ) :: τ) := by
  refine ⟨h.os, h.tape, h.output, h.base, h.imm, fun k x hk => ?_, fun c hc => ?_, ?_⟩
  · obtain ⟨a, b, c⟩ := h.frg k x hk
    refine ⟨a, b, fun y hy => ?_⟩
    rcases List.mem_cons.1 hy with rfl | hy
    · exact fun e => by simp only at e; rw [← e, hF] at hk; cases hk
    · exact c y hy
  · rcases List.mem_cons.1 hc with rfl | hc
    · exact ⟨⟨o, ho, hφ⟩, hm⟩
    · exact h.own c hc
  · simp only [List.map_cons, List.nodup_cons]
    exact ⟨fun hh => by obtain ⟨c, hc, e⟩ := List.mem_map.1 hh; exact ht c hc e, h.nodup⟩

theorem OwnS.toRow {g : Gh} {W : World} {e size : Nat} {v : Value} {xs : List Value} {σe τ : Sig} (h : OwnS e size v xs σe) (hC : Conc g W m (σe ++ τ)) :
    ∃ k, W.ownsRow 0 e size v k xs ∧ ∃ a cap, v = .slice a k cap := by
  cases h with
  | nil => exact ⟨0, World.ownsRow_nil W 0 e size, _, _, rfl⟩
  | row B k cap xs hx hn hc =>
    obtain ⟨⟨o, h1, cur, rfl, h2, h3, h4, h5⟩, _⟩ := hC.own _ (List.mem_append_left _ (List.mem_cons_self ..))
    exact ⟨k, ⟨hx, .inr ⟨B, cap, cur, rfl, Nat.zero_le _, h1, hn, h3, h2, by rw [← hx]; exact h5⟩⟩, _, _, rfl⟩

/-- append onto a slice that the running code builds. -/
theorem ap {t : TypeId} {e bytes size : Nat} {ei : TI} {s x : Operand} {v : Value} {xs news : List Value} {σe τ : Sig} {ad : Addr} {k c : Nat} {ag : Bool} {ts tb : Nat} {tz : Value}
    (ht : tyGet T t = some ⟨.slice e, ag, ts, tb, tz⟩) (he : tyGet T e = some ei) (hsz : ei.size = size) (hby : ei.bytes = bytes) (hz : Nat.beq ei.zero.cells.toList.length size = true) (hpos : Nat.blt 0 size = true)
    (hs : ev f s = v) (hown : OwnS e size v xs σe) (hσ : σ.Perm (σe ++ τ)) (hx : ev f x = .slice (some ad) k c) (hr : Rd σ m ad news) (hk : news.length = k * size) (h1 : news.all (·.oneCell') = true)
    (hroom : (xs.length + k * size) * bytes ≤ 140737488355328 * size) (hb1 : Nat.blt 0 bytes = true) (hdn : Nat.blt d n = true)
    (h : ∀ v' σe', OwnS e size v' (xs ++ news) σe' → SL P n md ops Q rest (upd f d v') (σe' ++ τ) m)
    (hm : md.loud = true := by exact rfl) (hkt : md.keep τ := by first | exact True.intro | exact Sub.nil _ | (repeat (first | exact Sub.refl _ | exact Sub.nil _ | refine Sub.cons2 _ ?_ | refine Sub.cons _ ?_ | refine Sub.left _ ?_))) :
    SL P n md ops Q (⟨some d, .call ⟨.builtin .append, #[s, x], #[t, t]⟩, ty, pos, after, none⟩ :: rest) f σ m :=
  SL_val hm rfl rfl rfl hdn fun g W hC _ => by
    have hC' := hC.perm hσ
    obtain ⟨j, hrow, a0, cap0, hv⟩ := hown.toRow hC'
    obtain ⟨dd, hd1, hd2, _⟩ := (TyOk.get (P := P) ht).desc
    obtain rfl : dd = .slice e := by cases dd <;> simp [DescOk] at hd2 ⊢; exact hd2
    obtain ⟨info, hi, hzz, hss, hbb⟩ := (TyOk.get (P := P) he).infoEx
    have hlen : (xs ++ news).length = (j + k) * size := by rw [List.length_append, hrow.1, hk, Nat.add_mul]
    have hp0 : 0 < size := Nat.le_of_ble_eq_true hpos
    have hlen' : xs.length + k * size = (j + k) * size := by rw [hrow.1, Nat.add_mul]
    have hb : (j + k) * bytes ≤ 140737488355328 := by
      rw [hlen'] at hroom
      refine Nat.le_of_mul_le_mul_right (c := size) ?_ hp0
      calc (j + k) * bytes * size = (j + k) * size * bytes := by rw [Nat.mul_assoc, Nat.mul_comm bytes, ← Nat.mul_assoc]
        _ ≤ _ := hroom
    have hb0 : 0 < bytes := Nat.le_of_ble_eq_true hb1
    have hjk : j + k ≤ maxLen := by
      have h1 : (j + k) * 1 ≤ (j + k) * bytes := Nat.mul_le_mul_left _ hb0
      unfold maxLen
      omega
    obtain ⟨v', W', hrun, hown', hgr, _, hat⟩ := run_append_own_at (P := P) W 0 t ty e info ei.zero size bytes hd1 hi hzz (hss.trans hsz) (hbb.trans hby) (by simpa using Nat.eq_of_beq_eq_true hz) hp0 v j xs hrow ad k c news hk
      (fun i u hu => hr g W hC i u hu) (fun u hu => List.all_eq_true.1 h1 u hu) hjk hb (Nat.zero_le _)
    have hex : (execOp (ev f) ⟨some d, .call ⟨.builtin .append, #[s, x], #[t, t]⟩, ty, pos, after, none⟩).run P W = .ok (.value v') W' := by
      simp [execOp, resolve, invoke, builtin, hs, hx, hrun]
    have hdrop : Conc g W' m τ := hC'.drop_step hgr.os hgr.tape hgr.output fun q o hq hne => by
      have hlt : q < W.heap.size := (Array.getElem?_eq_some_iff.1 hq).1
      rw [hgr.block q hlt ?_]; exact hq
      intro e
      cases hown with
      | nil => simp [Value.ownBlock] at e
      | row B _ _ _ _ _ _ =>
        simp only [Value.ownBlock, Option.some.injEq] at e
        exact hne _ (List.mem_cons_self ..) e.symm
    obtain ⟨hl', hshape⟩ := hown'
    rcases hshape with ⟨hv', hj0⟩ | ⟨B', cap', cur', hv', _, hh', hnc, hcm, hcs, htk⟩
    · subst hv'
      have hnil : xs ++ news = [] := List.eq_nil_of_length_eq_zero (by rw [hl', hj0]; simp)
      refine ⟨_, W', [] ++ τ, m, hex, hdrop, Le.refl m, hkt, h _ [] ?_⟩
      rw [hnil]; exact .nil
    · subst hv'
      have hfree : m B' = none ∧ g.F B' = none ∧ ∀ c ∈ τ, c.1 ≠ B' := by
        rcases hat with hat | hat
        · cases hown with
          | nil => simp [Value.ownBlock] at hat
          | row B _ _ _ _ _ _ =>
            simp only [Value.ownBlock, Option.some.injEq] at hat
            subst hat
            have hnd := hC'.nodup
            simp only [List.cons_append, List.nil_append, List.map_cons, List.nodup_cons] at hnd
            refine ⟨(hC'.own _ (List.mem_append_left _ (List.mem_cons_self ..))).2, ?_, fun c hc e => hnd.1 (List.mem_map.2 ⟨c, hc, e⟩)⟩
            cases hF : g.F B' with
            | none => rfl
            | some o => exact absurd rfl ((hC'.frg _ _ hF).2.2 _ (List.mem_append_left _ (List.mem_cons_self ..)))
        · simp only [Value.ownBlock, Option.some.injEq] at hat
          subst hat
          have hnone : ∀ o, W.heap[W.heap.size]? = some o → False := fun o ho => by simp at ho
          refine ⟨?_, ?_, fun c hc e => ?_⟩
          · cases hm : m W.heap.size with
            | none => rfl
            | some o => exact (hnone o (hC.imm _ _ hm)).elim
          · cases hF : g.F W.heap.size with
            | none => rfl
            | some o => exact (hnone o (hC.frg _ _ hF).1).elim
          · obtain ⟨⟨o, ho, _⟩, _⟩ := hC'.own c (List.mem_append_right _ hc)
            rw [e] at ho
            exact hnone o ho
      refine ⟨_, W', [(B', Row e size cap' (xs ++ news))] ++ τ, m, hex, hdrop.add_own hh' ⟨cur', rfl, hcs, hcm, ?_, ?_⟩ hfree.1 hfree.2.1 hfree.2.2, Le.refl m, Mode.keep_cons _ hkt, h _ _ (.row B' (j + k) cap' _ hlen hnc hcm)⟩
      · rw [hlen]; exact Nat.mul_le_mul_right _ hnc
      · rw [hlen]; exact htk

/-- []T{..}: a new array, and a slice of all of it. -/
theorem bs {t : TypeId} {e len : Nat} {ei : TI} {parts : Array (Nat × Operand)} {cs : List Value} {ag : Bool} {ts tb : Nat} {tz : Value} (ht : tyGet T t = some ⟨.slice e, ag, ts, tb, tz⟩) (he : tyGet T e = some ei)
    (hsm : Nat.ble (len * ei.size) 16777216 = true)
    (hc : layAll (fun j => some (j * ei.size, ei.size)) (parts.toList.map fun p => (p.1, ev f p.2)) ((List.range (len * ei.size)).map fun j => ei.zero.cells.toList.getD (j % ei.zero.cells.toList.length) default) = some cs) (hdn : Nat.blt d n = true)
    (h : ∀ B, SL P n md ops Q rest (upd f d (.slice (some ⟨B, 0, none⟩) len len)) ((B, Cells e cs) :: σ) m) (hm : md.loud = true := by exact rfl) :
    SL P n md ops Q (⟨some d, .buildSlice t len parts, ty, pos, after, none⟩ :: rest) f σ m :=
  SL_val hm rfl rfl rfl hdn fun g W hC hk => by
    obtain ⟨dd, hd1, hd2, _⟩ := (TyOk.get (P := P) ht).desc
    obtain rfl : dd = .slice e := by cases dd <;> simp [DescOk] at hd2 ⊢; exact hd2
    have hs := (TyOk.get (P := P) he).sizeOf W
    have hz := (TyOk.get (P := P) he).zeroOf W
    have hle := Nat.le_of_ble_eq_true hsm
    have hfl := layAll_fill (place' := fun j => some (j * ei.size, ei.size)) (fun _ _ h => h) _ _ _ hc
    refine ⟨_, W.alloc (.cells cs.toArray e), _, _, ?_, (hC.alloc _).imp (ψ := Cells e cs) (fun o ho => by subst ho; rfl), Le.refl m, Mode.keep_cons _ hk, h W.heap.size⟩
    have e2 : (parts.map fun (x : Nat × Operand) => (x.1, ev f x.2)).toList = parts.toList.map fun p => (p.1, ev f p.2) := by simp
    have hne : ¬ (len * ei.size > 2 ^ 24) := by omega
    simp only [execOp, Instr.buildSlice, Sem.run_bind, run_underlying hd1, Result.andThen_ok, hs, hne, if_false, Sem.run_ite, Sem.run_pure]
    rw [show (fun (x : Nat × Operand) => match x with | (i, x) => (i, ev f x)) = fun p => (p.1, ev f p.2) from rfl, e2]
    by_cases h0 : len * ei.size = 0
    · rw [h0] at hfl
      simp only [List.range_zero, List.map_nil] at hfl
      have e0 : (Array.map (fun (x : Nat) => (#[] : Array Value)[x % (#[] : Array Value).size]!) (Array.range 0)) = ([] : List Value).toArray := by simp
      simp only [h0, if_true]
      rw [e0, hfl]
      rfl
    · simp only [h0, if_false, hz, Result.andThen_ok]
      have e0 : (Array.map (fun (x : Nat) => ei.zero.cells[x % ei.zero.cells.size]!) (Array.range (len * ei.size))) = ((List.range (len * ei.size)).map fun j => ei.zero.cells.toList.getD (j % ei.zero.cells.toList.length) default).toArray := by
        apply Array.ext'
        simp [Array.toList_range, getElem!_def]
        intro a _
        split <;> simp_all
      rw [e0, hfl]
      rfl

/-! ## Index and slice expressions -/

theorem ia {t : TypeId} {es ea : Nat} {e len cap k : Nat} {ei : TI} {x i : Operand} {ad : Addr} {kd : IntKind} {ag : Bool} {ts tb : Nat} {tz : Value} (ht : tyGet T t = some ⟨.slice e, ag, ts, tb, tz⟩) (he : tyGet T e = some ei) (hes : ei.size = es) (hea : k * es = ea)
    (hx : ev f x = .slice (some ad) len cap) (hi : ev f i = .int kd (k : Nat)) (hk : k < len) (hdn : Nat.blt d n = true)
    (h : SL P n md ops Q rest (upd f d (.pointer (some (ad.add ea)))) σ m) :
    SL P n md ops Q (⟨some d, .indexAddr t x i, ty, pos, after, none⟩ :: rest) f σ m :=
  SL_same rfl rfl hdn (fun g W _ => by
    obtain ⟨dd, hd1, hd2, _⟩ := (TyOk.get (P := P) ht).desc
    obtain rfl : dd = .slice e := by cases dd <;> simp [DescOk] at hd2 ⊢; exact hd2
    have hs := (TyOk.get (P := P) he).sizeOf W
    rw [hes] at hs
    subst hea
    simp [execOp, Instr.indexAt, hx, hi, asIntOf, run_underlying hd1, hs, hk]) h

theorem iar {t : TypeId} {es ea : Nat} {e len k : Nat} {ei : TI} {x i : Operand} {ad : Addr} {kd : IntKind} {ag : Bool} {ts tb : Nat} {tz : Value} (ht : tyGet T t = some ⟨.arr len e, ag, ts, tb, tz⟩) (he : tyGet T e = some ei) (hes : ei.size = es) (hea : k * es = ea)
    (hx : ev f x = .pointer (some ad)) (hi : ev f i = .int kd (k : Nat)) (hk : k < len) (hdn : Nat.blt d n = true)
    (h : SL P n md ops Q rest (upd f d (.pointer (some (ad.add ea)))) σ m) :
    SL P n md ops Q (⟨some d, .indexAddr t x i, ty, pos, after, none⟩ :: rest) f σ m :=
  SL_same rfl rfl hdn (fun g W _ => by
    obtain ⟨dd, hd1, hd2, _⟩ := (TyOk.get (P := P) ht).desc
    obtain rfl : dd = .array len e := by cases dd <;> simp [DescOk] at hd2 ⊢; exact hd2
    have hs := (TyOk.get (P := P) he).sizeOf W
    rw [hes] at hs
    subst hea
    simp [execOp, Instr.indexAt, hx, hi, asIntOf, run_underlying hd1, hs, hk, Instr.sureAddr]) h

/-- An array's element, by value. -/
theorem ix {t : TypeId} {es ea : Nat} {e len k : Nat} {ei : TI} {x i : Operand} {cs : Array Value} {v : Value} {kd : IntKind} {ag : Bool} {ts tb : Nat} {tz : Value} (ht : tyGet T t = some ⟨.arr len e, ag, ts, tb, tz⟩) (he : tyGet T e = some ei) (hes : ei.size = es) (hea : k * es = ea)
    (hx : ev f x = .agg cs) (hi : ev f i = .int kd (k : Nat)) (hk : k < len) (hv : partV T e cs.toList ea = some v) (hdn : Nat.blt d n = true)
    (h : SL P n md ops Q rest (upd f d v) σ m) :
    SL P n md ops Q (⟨some d, .index t x i, ty, pos, after, none⟩ :: rest) f σ m :=
  SL_same rfl rfl hdn (fun g W _ => by
    obtain ⟨dd, hd1, hd2, _⟩ := (TyOk.get (P := P) ht).desc
    obtain rfl : dd = .array len e := by cases dd <;> simp [DescOk] at hd2 ⊢; exact hd2
    have hs := (TyOk.get (P := P) he).sizeOf W
    rw [hes] at hs
    subst hea
    have hp := partV_ok (P := P) hv W
    simp only [Array.toArray_toList] at hp
    simp [execOp, Instr.index, hx, hi, asIntOf, run_underlying hd1, hs, hk, hp]) h

/-- A string's byte. -/
theorem ixs {t : TypeId} {k : Nat} {x i : Operand} {s : ByteArray} {b : UInt8} {kd : IntKind} {ag : Bool} {ts tb : Nat} {tz : Value} (ht : tyGet T t = some ⟨.str, ag, ts, tb, tz⟩)
    (hx : ev f x = .string s) (hi : ev f i = .int kd (k : Nat)) (hb : s.data.toList[k]? = some b) (hdn : Nat.blt d n = true)
    (h : SL P n md ops Q rest (upd f d (.int .u8 (b.toNat : Nat))) σ m) :
    SL P n md ops Q (⟨some d, .index t x i, ty, pos, after, none⟩ :: rest) f σ m :=
  SL_same rfl rfl hdn (fun g W _ => by
    obtain ⟨dd, hd1, hd2, _⟩ := (TyOk.get (P := P) ht).desc
    obtain rfl : dd = .string := by cases dd <;> simp [DescOk] at hd2 ⊢
    have hk : k < s.size := by
      have := (List.getElem?_eq_some_iff.1 hb).1
      simpa using this
    have hb' : s[k]? = some b := by
      rw [getElem?_pos s k hk]
      have := (List.getElem?_eq_some_iff.1 hb).2
      rw [← this]
      rfl
    simp [execOp, Instr.index, hx, hi, asIntOf, run_underlying hd1, hb']) h
end
end Eng
end Go.Proofs.Ytkopdlglenejmaa
