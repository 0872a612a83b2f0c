/- The engine: a symbolic executor's judgements over the model: memory that stays (Mem), memory that the running code owns (Sig), frames as functions; and the rules of control. -/
import Derived.WalkKit
import Derived.Deep.Quiet
import Derived.Deep.QuietTactic
import Derived.BigQuiet
namespace Go.Proofs.Ytnldelafemaigaa
namespace Eng

/-! ## Memory -/

/-- What is known of memory and stays so. -/
def Mem : Type := Nat → Option Obj
/-- What is owned: a block's number and what its object is. -/
abbrev Chk := Obj → Prop
abbrev Sig := List (Nat × Chk)

def Le (m m' : Mem) : Prop := ∀ k o, m k = some o → m' k = some o
theorem Le.refl (m : Mem) : Le m m := fun _ _ h => h
theorem Le.trans {a b c : Mem} (h : Le a b) (h' : Le b c) : Le a c := fun k o ho => h' k o (h k o ho)

def objCell (o : Obj) (off : Nat) : Option Value :=
  match o with
  | .cells c _ _ => c[off]?
  | _ => none

def Mem.cell (m : Mem) (a : Addr) : Option Value :=
  match m a.block with
  | some o => if a.spot.isSome then none else objCell o a.off
  | none => none

theorem Le.cell {m m' : Mem} (h : Le m m') {a : Addr} {v : Value} (hc : m.cell a = some v) : m'.cell a = some v := by
  unfold Mem.cell at *
  cases hm : m a.block with
  | none => rw [hm] at hc; simp at hc
  | some o => rw [hm] at hc; rw [h _ _ hm]; exact hc

structure Gh where
  F : Mem
  base : Mem
  w0 : World

structure Conc (g : Gh) (W : World) (m : Mem) (σ : Sig) : Prop where
  os : W.os = g.w0.os
  tape : W.tape = g.w0.tape
  output : W.output = g.w0.output
  base : Le g.base m
  imm : ∀ k o, m k = some o → W.heap[k]? = some o
  frg : ∀ k o, g.F k = some o → W.heap[k]? = some o ∧ m k = none ∧ ∀ c ∈ σ, c.1 ≠ k
  own : ∀ c ∈ σ, (∃ o, W.heap[c.1]? = some o ∧ c.2 o) ∧ m c.1 = none
  nodup : (σ.map (·.1)).Nodup

section
variable {g : Gh} {W W' : World} {m m' : Mem} {σ σ' : Sig}

theorem Conc.cell? (h : Conc g W m σ) {a : Addr} {v : Value} (hc : m.cell a = some v) : W.cell? a = some v := by
  unfold Mem.cell at hc
  cases hm : m a.block with
  | none => rw [hm] at hc; simp at hc
  | some o =>
    rw [hm] at hc
    have := h.imm _ _ hm
    unfold World.cell?
    rw [this]
    cases o <;> simp_all [objCell]

theorem Conc.lt (h : Conc g W m σ) {k : Nat} {o : Obj} (hm : m k = some o) : k < W.heap.size := by
  have := h.imm _ _ hm
  exact (Array.getElem?_eq_some_iff.1 this).1

theorem Conc.weaken_mem (h : Conc g W m σ) (hb : Le g.base m') (hl : Le m' m) : Conc g W m' σ :=
  have hn : ∀ k, m k = none → m' k = none := fun k hk => by
    cases h' : m' k with
    | none => rfl
    | some o => have := hl _ _ h'; rw [hk] at this; cases this
  ⟨h.os, h.tape, h.output, hb, fun k o hk => h.imm k o (hl k o hk), fun k o hk => let ⟨a, b, c⟩ := h.frg k o hk; ⟨a, hn k b, c⟩,
    fun c hc => let ⟨a, b⟩ := h.own c hc; ⟨a, hn _ b⟩, h.nodup⟩

theorem Conc.sublist (h : Conc g W m σ) (hs : σ'.Sublist σ) : Conc g W m σ' :=
  ⟨h.os, h.tape, h.output, h.base, h.imm, fun k o hk => let ⟨a, b, c⟩ := h.frg k o hk; ⟨a, b, fun x hx => c x (hs.subset hx)⟩,
    fun c hc => h.own c (hs.subset hc), h.nodup.sublist (hs.map _)⟩

theorem Conc.perm (h : Conc g W m σ) (hs : σ.Perm σ') : Conc g W m σ' :=
  ⟨h.os, h.tape, h.output, h.base, h.imm, fun k o hk => let ⟨a, b, c⟩ := h.frg k o hk; ⟨a, b, fun x hx => c x (hs.mem_iff.2 hx)⟩,
    fun c hc => h.own c (hs.mem_iff.2 hc), (hs.map _).nodup_iff.1 h.nodup⟩

/-- What is said of an owned block may be said in other words. -/
theorem Conc.imp {i : Nat} {φ ψ : Chk} (h : Conc g W m ((i, φ) :: σ)) (hi : ∀ o, φ o → ψ o) : Conc g W m ((i, ψ) :: σ) :=
  ⟨h.os, h.tape, h.output, h.base, h.imm, fun k o hk => let ⟨a, b, c⟩ := h.frg k o hk; ⟨a, b, fun x hx => by
      rcases List.mem_cons.1 hx with rfl | hx
      · exact c (i, φ) (List.mem_cons_self ..)
      · exact c x (List.mem_cons_of_mem _ hx)⟩,
    fun c hc => by
      rcases List.mem_cons.1 hc with rfl | hx
      · obtain ⟨⟨o, a, b⟩, d⟩ := h.own (i, φ) (List.mem_cons_self ..)
        exact ⟨⟨o, a, hi o b⟩, d⟩
      · exact h.own c (List.mem_cons_of_mem _ hx), h.nodup⟩

theorem Conc.of_heap (h : Conc g W m σ) (ho : W'.os = W.os) (ht : W'.tape = W.tape) (hu : W'.output = W.output) (hh : ∀ (k : Nat) (o : Obj), W.heap[k]? = some o → W'.heap[k]? = some o) : Conc g W' m σ :=
  ⟨ho.trans h.os, ht.trans h.tape, hu.trans h.output, h.base, fun k o hk => hh _ _ (h.imm k o hk), fun k o hk => let ⟨a, b, c⟩ := h.frg k o hk; ⟨hh _ _ a, b, c⟩,
    fun c hc => let ⟨⟨o, a, b⟩, d⟩ := h.own c hc; ⟨⟨o, hh _ _ a, b⟩, d⟩, h.nodup⟩

theorem Conc.drewN (h : Conc g W m σ) (n : Nat) : Conc g (W.drewN n) m σ := h.of_heap rfl rfl rfl fun _ _ h => h
theorem Conc.drawn (h : Conc g W m σ) (n : Nat) : Conc g { W with drawn := n } m σ := h.of_heap rfl rfl rfl fun _ _ h => h

theorem getElem?_push_some {α : Type} {xs : Array α} {k : Nat} {o x : α} (h : xs[k]? = some o) : (xs.push x)[k]? = some o := by
  have hk := (Array.getElem?_eq_some_iff.1 h).1
  rw [Array.getElem?_push, if_neg (by omega)]; exact h

theorem Conc.alloc (h : Conc g W m σ) (o : Obj) : Conc g (W.alloc o) m ((W.heap.size, (· = o)) :: σ) := by
  have hs : ∀ k x, W.heap[k]? = some x → k ≠ W.heap.size := fun k x hx => by
    have := (Array.getElem?_eq_some_iff.1 hx).1; omega
  refine ⟨h.os, h.tape, h.output, h.base, fun k x hk => getElem?_push_some (h.imm k x hk), fun k x hk => ?_, fun c hc => ?_, ?_⟩
  · obtain ⟨a, b, c⟩ := h.frg k x hk
    refine ⟨getElem?_push_some a, b, fun y hy => ?_⟩
    rcases List.mem_cons.1 hy with rfl | hy
    · exact (hs _ _ a).symm
    · exact c y hy
  · rcases List.mem_cons.1 hc with rfl | hc
    · refine ⟨⟨o, ?_, rfl⟩, ?_⟩
      · show (W.heap.push o)[W.heap.size]? = _
        simp
      · cases hm : m W.heap.size with
        | none => rfl
        | some x => exact absurd rfl (hs _ _ (h.imm _ _ hm))
    · obtain ⟨⟨x, a, b⟩, d⟩ := h.own c hc
      exact ⟨⟨x, getElem?_push_some a, b⟩, d⟩
  · simp only [List.map_cons, List.nodup_cons]
    refine ⟨fun hm => ?_, h.nodup⟩
    obtain ⟨c, hc, e⟩ := List.mem_map.1 hm
    obtain ⟨⟨x, a, _⟩, _⟩ := h.own c hc
    exact hs _ _ a e

/-- One owned block (the first of the list) turns. -/
theorem Conc.turn {i : Nat} {φ ψ : Chk} (h : Conc g W m ((i, φ) :: σ)) (o' : Obj) (hψ : ψ o') (ho : W'.os = W.os) (ht : W'.tape = W.tape) (hu : W'.output = W.output)
    (hi : W'.heap[i]? = some o') (hh : ∀ (k : Nat) (o : Obj), k ≠ i → W.heap[k]? = some o → W'.heap[k]? = some o) : Conc g W' m ((i, ψ) :: σ) := by
  obtain ⟨_, hmi⟩ := h.own (i, φ) (List.mem_cons_self ..)
  have hnd := h.nodup
  simp only [List.map_cons, List.nodup_cons] at hnd
  refine ⟨ho.trans h.os, ht.trans h.tape, hu.trans h.output, h.base, fun k o hk => hh k o (fun e => by subst e; simp only at hmi; rw [hmi] at hk; cases hk) (h.imm k o hk), fun k o hk => ?_, fun c hc => ?_, ?_⟩
  · obtain ⟨a, b, c⟩ := h.frg k o hk
    refine ⟨hh k o (fun e => c (i, φ) (List.mem_cons_self ..) e.symm) a, b, fun x hx => ?_⟩
    rcases List.mem_cons.1 hx with rfl | hx
    · exact c (i, φ) (List.mem_cons_self ..)
    · exact c x (List.mem_cons_of_mem _ hx)
  · rcases List.mem_cons.1 hc with rfl | hc
    · exact ⟨⟨o', hi, hψ⟩, hmi⟩
    · obtain ⟨⟨o, a, b⟩, d⟩ := h.own c (List.mem_cons_of_mem _ hc)
      exact ⟨⟨o, hh _ o (fun e => hnd.1 (List.mem_map.2 ⟨c, hc, e⟩)) a, b⟩, d⟩
  · simpa using hnd

/-- Memory that holds one block more. -/
def Mem.set (m : Mem) (i : Nat) (o : Obj) : Mem := fun k => if k = i then some o else m k

/-- An owned block is let go: from now on it stays as it is. -/
theorem Conc.freeze {i : Nat} {φ : Chk} (h : Conc g W m ((i, φ) :: σ)) : ∃ o, φ o ∧ m i = none ∧ Le m (m.set i o) ∧ Conc g W (m.set i o) σ := by
  obtain ⟨⟨o, hi, ho⟩, hmi⟩ := h.own (i, φ) (List.mem_cons_self ..)
  have hle : Le m (m.set i o) := fun k x hk => by
    unfold Mem.set
    rw [if_neg (fun e => by subst e; simp only at hmi; rw [hmi] at hk; cases hk)]; exact hk
  have hnd := h.nodup
  simp only [List.map_cons, List.nodup_cons] at hnd
  refine ⟨o, ho, hmi, hle, h.os, h.tape, h.output, h.base.trans hle, fun k x hk => ?_, fun k x hk => ?_, fun c hc => ?_, hnd.2⟩
  · unfold Mem.set at hk
    split at hk
    · rename_i e; subst e; cases hk; exact hi
    · exact h.imm k x hk
  · obtain ⟨a, b, c⟩ := h.frg k x hk
    refine ⟨a, ?_, fun y hy => c y (List.mem_cons_of_mem _ hy)⟩
    unfold Mem.set
    rw [if_neg (fun e => c (i, φ) (List.mem_cons_self ..) e.symm)]; exact b
  · obtain ⟨a, d⟩ := h.own c (List.mem_cons_of_mem _ hc)
    refine ⟨a, ?_⟩
    unfold Mem.set
    rw [if_neg (fun e => hnd.1 (List.mem_map.2 ⟨c, hc, e⟩))]; exact d

/-- What the caller owns beside becomes foreign. -/
theorem Conc.frame {τ : Sig} (h : Conc g W m (σ ++ τ)) : ∃ F : Mem, Conc { g with F := F } W m σ ∧
    ∀ W' m' σ', Conc { g with F := F } W' m' σ' → Conc g W' m' (σ' ++ τ) := by
  have hnd := h.nodup
  rw [List.map_append, List.nodup_append] at hnd
  refine ⟨fun k => if k ∈ τ.map (·.1) then W.heap[k]? else g.F k, ⟨h.os, h.tape, h.output, h.base, h.imm, fun k o hk => ?_, fun c hc => h.own c (List.mem_append_left _ hc), hnd.1⟩, fun W' m' σ' h' => ?_⟩
  · simp only at hk
    split at hk
    · rename_i hm
      obtain ⟨c, hc, e⟩ := List.mem_map.1 hm
      obtain ⟨_, b⟩ := h.own c (List.mem_append_right _ hc)
      refine ⟨hk, by rw [← e]; exact b, fun x hx e' => ?_⟩
      exact hnd.2.2 _ (List.mem_map.2 ⟨x, hx, rfl⟩) _ hm e'
    · obtain ⟨a, b, c⟩ := h.frg k o hk
      exact ⟨a, b, fun x hx => c x (List.mem_append_left _ hx)⟩
  · refine ⟨h'.os, h'.tape, h'.output, h'.base, h'.imm, fun k o hk => ?_, fun c hc => ?_, ?_⟩
    · have hkn : k ∉ τ.map (·.1) := fun hm => by
        obtain ⟨c, hc, e⟩ := List.mem_map.1 hm
        exact (h.frg k o hk).2.2 c (List.mem_append_right _ hc) e
      obtain ⟨a, b, c⟩ := h'.frg k o (by simp only; rw [if_neg hkn]; exact hk)
      refine ⟨a, b, fun x hx => ?_⟩
      rcases List.mem_append.1 hx with hx | hx
      · exact c x hx
      · intro e; exact hkn (List.mem_map.2 ⟨x, hx, e⟩)
    · rcases List.mem_append.1 hc with hc | hc
      · exact h'.own c hc
      · obtain ⟨⟨o, a, b⟩, d⟩ := h.own c (List.mem_append_right _ hc)
        have hm : c.1 ∈ τ.map (·.1) := List.mem_map.2 ⟨c, hc, rfl⟩
        obtain ⟨a', b', _⟩ := h'.frg c.1 o (by simp only; rw [if_pos hm]; exact a)
        exact ⟨⟨o, a', b⟩, b'⟩
    · rw [List.map_append, List.nodup_append]
      refine ⟨h'.nodup, hnd.2.1, fun a ha b hb e => ?_⟩
      subst e
      obtain ⟨c, hc, e⟩ := List.mem_map.1 ha
      obtain ⟨d, hd, e'⟩ := List.mem_map.1 hb
      obtain ⟨⟨o, a, _⟩, _⟩ := h.own d (List.mem_append_right _ hd)
      obtain ⟨_, _, q⟩ := h'.frg d.1 o (by simp only; rw [if_pos (List.mem_map.2 ⟨d, hd, rfl⟩)]; exact a)
      exact q c hc (by rw [e, e'])
end

/-! ## Frames -/

abbrev Fr := Nat → Value
def upd (f : Fr) (d : Nat) (v : Value) : Fr := fun t => bif Nat.beq t d then v else f t
def ofArgs (l : List Value) : Fr := fun t => l.getD t undef
def ev (f : Fr) : Operand → Value
  | .tmp t => f t
  | .const v => v
  | .global g => .pointer (some ⟨g, 0, none⟩)
  | .func f => .func (.func f) #[] #[]

structure FrOk (a : Act) (f : Fr) (n : Nat) : Prop where
  size : a.tmps.size = n
  defs : a.defers = []
  get : ∀ t, a.tmps.getD t undef = f t

theorem upd_eq (f : Fr) (d t : Nat) (v : Value) : upd f d v t = if t = d then v else f t := by
  unfold upd
  by_cases h : t = d
  · subst h; simp
  · rw [if_neg h]
    have : Nat.beq t d = false := by
      cases hb : Nat.beq t d with
      | false => rfl
      | true => exact absurd (Nat.eq_of_beq_eq_true hb) h
    rw [this]; rfl

theorem FrOk.eval {a : Act} {f : Fr} {n : Nat} (h : FrOk a f n) : a.eval = ev f := by
  funext x
  cases x with
  | tmp t => exact h.get t
  | const v => rfl
  | global g => rfl
  | func f => rfl

theorem FrOk.put {a : Act} {f : Fr} {n : Nat} (h : FrOk a f n) {d : Nat} (hd : Nat.blt d n = true) (v : Value) : FrOk (a.put (some d) v) (upd f d v) n := by
  have hlt : d < n := Nat.le_of_ble_eq_true hd
  refine ⟨by simp [Act.put, h.size], h.defs, fun t => ?_⟩
  rw [upd_eq]
  simp only [Act.put, Array.getD_eq_getD_getElem?, Array.getElem?_setIfInBounds]
  by_cases e : d = t
  · subst e
    rw [if_pos rfl, if_pos rfl, if_pos (by rw [h.size]; exact hlt)]; rfl
  · rw [if_neg e, if_neg (fun h => e h.symm)]
    have := h.get t
    rwa [Array.getD_eq_getD_getElem?] at this

theorem FrOk.put_none {a : Act} {f : Fr} {n : Nat} (h : FrOk a f n) (v : Value) : FrOk (a.put none v) f n := h

def boolOf : Value → Option Bool
  | .bool b => some b
  | _ => none

/-- What an operation's guard sees. -/
def yieldF (ops : Array Oper) (f : Fr) (j : Nat) : Option Bool :=
  match (ops.toList[j]?).bind (·.dst) with
  | some d => boolOf (f d)
  | none => none

theorem FrOk.yielded {a : Act} {f : Fr} {n : Nat} (h : FrOk a f n) (ops : Array Oper) : yielded ops a.tmps = yieldF ops f := by
  funext j
  unfold Go.yielded yieldF
  simp only [Array.getElem?_toList]
  cases hd : (ops[j]?).bind (·.dst) with
  | none => simp
  | some d =>
    simp only [Option.bind_some]
    have hg := h.get d
    rw [Array.getD_eq_getD_getElem?] at hg
    cases ht : a.tmps[d]? with
    | none => rw [ht] at hg; simp only [Option.getD_none] at hg; rw [← hg]; rfl
    | some v =>
      rw [ht] at hg
      simp only [Option.getD_some] at hg
      subst hg
      cases f d <;> rfl

/-! ## Judgements -/

abbrev APost := Exit → Fr → Sig → Mem → Prop

def lift (g : Gh) (n : Nat) (Q : APost) : Exit → Act → World → Prop := fun e a W => ∃ f σ m, FrOk a f n ∧ Conc g W m σ ∧ Q e f σ m

/-- A piece of code, from this frame and memory. -/
def SWP (P : Program) (n : Nat) (c : Code) (Q : APost) (f : Fr) (σ : Sig) (m : Mem) : Prop :=
  ∀ g W a, Conc g W m σ → FrOk a f n → Code.wp P c (lift g n Q) a W

/-- A region's operations, in the text's order. Mode 'true': quiet: no operation changes memory (a region that draws its order). -/
def SL (P : Program) (n : Nat) (md : Bool) (ops : Array Oper) (Q : APost) (l : List Oper) (f : Fr) (σ : Sig) (m : Mem) : Prop :=
  match md with
  | false => ∀ g W a, Conc g W m σ → FrOk a f n → wpList P ops (lift g n Q) l a W
  | true => ∀ g a, FrOk a f n → wpQuiet P ops (fun W => Conc g W m σ) (fun a' => ∃ f', FrOk a' f' n ∧ Q .normal f' σ m) l a

/-- A call. -/
def CallsS (P : Program) (F : FuncId) (args : Array Value) (σ : Sig) (m : Mem) (R : Value → Sig → Mem → Prop) : Prop :=
  ∀ g W, Conc g W m σ → Calls P F args W fun e W' => ∃ v σ' m', e = .returned v ∧ Conc g W' m' σ' ∧ Le m m' ∧ R v σ' m'

section
variable {P : Program} {n : Nat} {Q : APost} {f : Fr} {σ : Sig} {m : Mem}

theorem CallsS.mono {F : FuncId} {args : Array Value} {R R' : Value → Sig → Mem → Prop} (h : CallsS P F args σ m R) (hr : ∀ v σ' m', Le m m' → R v σ' m' → R' v σ' m') : CallsS P F args σ m R' :=
  fun g W hC => (h g W hC).mono fun _ _ ⟨v, σ', m', he, hC', hl, hR⟩ => ⟨v, σ', m', he, hC', hl, hr _ _ _ hl hR⟩

/-- The frame rule. -/
theorem CallsS.frame {F : FuncId} {args : Array Value} {R : Value → Sig → Mem → Prop} (τ : Sig) (h : CallsS P F args σ m R) :
    CallsS P F args (σ ++ τ) m fun v σ' m' => ∃ σ₁, σ' = σ₁ ++ τ ∧ R v σ₁ m' := by
  intro g W hC
  obtain ⟨Fm, h1, h2⟩ := hC.frame
  refine (h _ W h1).mono fun e W' ⟨v, σ', m', he, hC', hl, hR⟩ => ⟨v, σ' ++ τ, m', he, h2 _ _ _ hC', hl, σ', rfl, hR⟩

theorem CallsS.frame0 {F : FuncId} {args : Array Value} {R : Value → Sig → Mem → Prop} (h : CallsS P F args [] m R) :
    CallsS P F args σ m fun v σ' m' => ∃ σ₁, σ' = σ₁ ++ σ ∧ R v σ₁ m' := CallsS.frame σ h

theorem SWP_mono {c : Code} {Q' : APost} (hq : ∀ e f σ m, Q e f σ m → Q' e f σ m) (h : SWP P n c Q f σ m) : SWP P n c Q' f σ m :=
  fun g W a hC hF => wp_mono (h g W a hC hF) fun _ _ _ ⟨f, σ, m, h1, h2, h3⟩ => ⟨f, σ, m, h1, h2, hq _ _ _ _ h3⟩

/-- Memory may be looked at in other words between two steps. -/
theorem SWP_ghost {c : Code} (h : ∀ g W, Conc g W m σ → ∃ σ' m', Conc g W m' σ' ∧ SWP P n c Q f σ' m') : SWP P n c Q f σ m :=
  fun g W a hC hF => let ⟨_, _, hC', h'⟩ := h g W hC; h' g W a hC' hF

theorem SL_ghost {ops : Array Oper} {l : List Oper} (h : ∀ g W, Conc g W m σ → ∃ σ' m', Conc g W m' σ' ∧ SL P n false ops Q l f σ' m') : SL P n false ops Q l f σ m :=
  fun g W a hC hF => let ⟨_, _, hC', h'⟩ := h g W hC; h' g W a hC' hF

def thenQ (next : Fr → Sig → Mem → Prop) (Q : APost) : APost
  | .normal, f, σ, m => next f σ m
  | e, f, σ, m => Q e f σ m

theorem lift_then {g : Gh} {c : Code} : ∀ e a W, lift g n (thenQ (fun f σ m => SWP P n c Q f σ m) Q) e a W → Exit.then (c.wp P (lift g n Q)) (lift g n Q) e a W := by
  intro e a W ⟨f, σ, m, hF, hC, h⟩
  cases e with
  | normal => exact h g W a hC hF
  | _ => exact ⟨f, σ, m, hF, hC, h⟩

theorem SWP_seq {x y : Code} (h : SWP P n x (thenQ (fun f σ m => SWP P n y Q f σ m) Q) f σ m) : SWP P n (.seq x y) Q f σ m :=
  fun g W a hC hF => wp_seq (wp_mono (h g W a hC hF) fun _ _ _ hh => lift_then _ _ _ hh)

theorem SWP_skip (h : Q .normal f σ m) : SWP P n .skip Q f σ m := fun _ _ _ hC hF => wp_skip ⟨f, σ, m, hF, hC, h⟩
theorem SWP_label {l : Nat} (h : Q .normal f σ m) : SWP P n (.label l) Q f σ m := fun _ _ _ hC hF => wp_label ⟨f, σ, m, hF, hC, h⟩
theorem SWP_ret (h : Q .ret f σ m) : SWP P n .ret Q f σ m := fun _ _ _ hC hF => wp_ret ⟨f, σ, m, hF, hC, h⟩
theorem SWP_exit {id : Nat} (h : Q (.exit id) f σ m) : SWP P n (.exit id) Q f σ m := fun _ _ _ hC hF => wp_exit ⟨f, σ, m, hF, hC, h⟩

theorem SWP_cond {c : Operand} {x y : Code} {t : Bool} (hc : ev f c = .bool t) (h : SWP P n (bif t then x else y) Q f σ m) : SWP P n (.cond c x y) Q f σ m :=
  fun g W a hC hF => wp_cond (t := t) (by rw [hF.eval]; exact hc) (by
    have := h g W a hC hF
    cases t <;> exact this)
theorem SWP_ct {c : Operand} {x y : Code} (hc : ev f c = .bool true) (h : SWP P n x Q f σ m) : SWP P n (.cond c x y) Q f σ m := SWP_cond hc h
theorem SWP_cf {c : Operand} {x y : Code} (hc : ev f c = .bool false) (h : SWP P n y Q f σ m) : SWP P n (.cond c x y) Q f σ m := SWP_cond hc h

def inBlock (id : Nat) (Q : APost) : APost
  | .exit i, f, σ, m => bif Nat.beq i id then Q .normal f σ m else Q (.exit i) f σ m
  | e, f, σ, m => Q e f σ m

theorem SWP_block {id : Nat} {c : Code} (h : SWP P n c (inBlock id Q) f σ m) : SWP P n (.block id c) Q f σ m :=
  fun g W a hC hF => wp_block (wp_mono (h g W a hC hF) fun e a W ⟨f, σ, m, hF, hC, hh⟩ => by
    cases e with
    | exit i =>
      simp only [Exit.inBlock]
      by_cases hi : i = id
      · subst hi
        rw [if_pos rfl]
        have hb : Nat.beq i i = true := by simp
        simp only [inBlock, hb, cond_true] at hh
        exact ⟨f, σ, m, hF, hC, hh⟩
      · rw [if_neg hi]
        have hb : Nat.beq i id = false := by
          cases hb : Nat.beq i id with
          | false => rfl
          | true => exact absurd (Nat.eq_of_beq_eq_true hb) hi
        simp only [inBlock, hb, cond_false] at hh
        exact ⟨f, σ, m, hF, hC, hh⟩
    | _ => exact ⟨f, σ, m, hF, hC, hh⟩)

/-- A frame that is 'f' but for the slots of S. -/
def memN : List Nat → Nat → Bool
  | [], _ => false
  | x :: l, t => bif Nat.beq t x then true else memN l t
def hav (S : List Nat) (u f : Fr) : Fr := fun t => bif memN S t then u t else f t
def upds (f : Fr) : List Nat → List Value → Fr
  | d :: ds, v :: vs => upd (upds f ds vs) d v
  | _, _ => f
def Under (S : List Nat) (f f' : Fr) : Prop := ∀ t, memN S t = false → f' t = f t
theorem Under.refl (S : List Nat) (f : Fr) : Under S f f := fun _ _ => rfl
theorem Under.hav (S : List Nat) (u f : Fr) : Under S f (hav S u f) := fun t ht => by unfold Eng.hav; rw [ht]; rfl
theorem Under.upd {S : List Nat} {f f' : Fr} {d : Nat} {v : Value} (hd : memN S d = true) (h : Under S f f') : Under S f (upd f' d v) := fun t ht => by
  rw [upd_eq, if_neg (fun e => by subst e; rw [hd] at ht; cases ht)]; exact h t ht
theorem Under.upds {S : List Nat} {f f' : Fr} : ∀ {ds : List Nat} {vs : List Value}, (ds.all (memN S)) = true → Under S f f' → Under S f (upds f' ds vs)
  | [], _, _, h => by cases ‹List Value› <;> exact h
  | _ :: _, [], _, h => h
  | d :: ds, v :: vs, hd, h => by
    simp only [List.all_cons, Bool.and_eq_true] at hd
    exact Under.upd hd.1 (Under.upds hd.2 h)

def L_vals (L : List Nat) (f : Fr) : List Value := L.map f

theorem under_form {S L : List Nat} {f f' : Fr} (hL : L.all (memN S) = true) (h : Under S f f') : f' = upds (hav S f' f) L (L_vals L f') := by
  funext t
  have key : ∀ L : List Nat, L.all (memN S) = true → upds (hav S f' f) L (L.map f') t = f' t := by
    intro L
    induction L with
    | nil =>
      intro _
      show hav S f' f t = f' t
      unfold hav
      cases hm : memN S t with
      | true => rfl
      | false => exact (h t hm).symm
    | cons d L ih =>
      intro hd
      simp only [List.all_cons, Bool.and_eq_true] at hd
      show upd (upds (hav S f' f) L (L.map f')) d (f' d) t = f' t
      rw [upd_eq]
      split
      · rename_i e; rw [e]
      · exact ih hd.2
  exact (key L hL).symm

/-- A loop: 'S': every slot that a round writes; 'L': those that the invariant 'J' speaks of. -/
theorem SWP_loop {c : Code} (S L : List Nat) (J : List Value → Sig → Mem → Prop) (μ : List Value → Nat) (hL : L.all (memN S) = true)
    (h0 : J (L_vals L f) σ m)
    (hr : ∀ u vs σ' m', J vs σ' m' → vs.length = L.length → SWP P n c (thenQ (fun f' σ'' m'' => Under S f f' ∧ J (L_vals L f') σ'' m'' ∧ μ (L_vals L f') < μ vs) Q) (upds (hav S u f) L vs) σ' m') :
    SWP P n (.loop c) Q f σ m := by
  intro g W a hC hF
  refine wp_loop (fun a W => ∃ f' σ' m', FrOk a f' n ∧ Conc g W m' σ' ∧ Under S f f' ∧ J (L_vals L f') σ' m') (fun a _ => μ (L.map fun t => a.tmps.getD t undef)) ⟨f, σ, m, hF, hC, .refl S f, h0⟩ ?_
  intro a W ⟨f', σ', m', hF', hC', hU, hJ⟩
  have h1 := hr f' (L_vals L f') σ' m' hJ (by simp [L_vals])
  rw [← under_form hL hU] at h1
  refine wp_mono (h1 g W a hC' hF') fun e a2 W2 ⟨f2, σ2, m2, hF2, hC2, hh⟩ => ?_
  have e1 : ∀ {a : Act} {f : Fr}, FrOk a f n → (L.map fun t => a.tmps.getD t undef) = L_vals L f := fun h => List.map_congr_left fun t _ => h.get t
  cases e with
  | normal =>
    obtain ⟨q1, q2, q3⟩ := hh
    refine ⟨⟨f2, σ2, m2, hF2, hC2, q1, q2⟩, ?_⟩
    simp only [e1 hF2, e1 hF']
    exact q3
  | _ => exact ⟨f2, σ2, m2, hF2, hC2, hh⟩

/-! ## Regions -/

variable {md : Bool}

theorem SL_nil {ops : Array Oper} (h : Q .normal f σ m) : SL P n md ops Q [] f σ m := by
  cases md with
  | false => exact fun _ _ _ hC hF => ⟨f, σ, m, hF, hC, h⟩
  | true => exact fun _ _ hF => ⟨f, hF, h⟩

theorem SWP_region {id : Nat} {l : List Oper} (h : SL P n false l.toArray Q l f σ m) : SWP P n (.region id l.toArray false) Q f σ m :=
  fun g W a hC hF => wp_region_lit (h g W a hC hF)

/-- A region that draws its order and does not change memory. -/
theorem SWP_draws {id : Nat} {l : List Oper} (hm : P.follows .mixedOrders = true) (hB : Region.lexB .any l.toArray = true) (h : SL P n true l.toArray Q l f σ m) : SWP P n (.region id l.toArray true) Q f σ m :=
  fun g W a hC hF => wp_region_quiet (C := fun W => Conc g W m σ) hm hB (hC.drawn _)
    (by
      have h1 := h g a hF
      have key : ∀ (l' : List Oper) (a : Act), wpQuiet P l.toArray (fun W => Conc g W m σ) (fun a' => ∃ f', FrOk a' f' n ∧ Q .normal f' σ m) l' a →
          wpQuiet P l.toArray (fun W => Conc g W m σ) (fun a' => ∀ w', Conc g w' m σ → lift g n Q .normal a' w') l' a := by
        intro l'
        induction l' with
        | nil => exact fun a ⟨f', hF', hq⟩ w' hw' => ⟨f', σ, m, hF', hw', hq⟩
        | cons o l' ih =>
          intro a ha
          unfold wpQuiet at ha ⊢
          split
          · rename_i hw
            rw [if_pos hw] at ha
            obtain ⟨v, h2, h3⟩ := ha
            exact ⟨v, h2, ih _ h3⟩
          · rename_i hw
            rw [if_neg hw] at ha
            exact ih _ ha
      simpa using key l a h1)

/-- An operation that yields a value and leaves the world as it is. -/
theorem SL_same {ops : Array Oper} {rest : List Oper} {o : Oper} {d : Nat} {v : Value} (hg : o.guard = none) (hd : o.dst = some d) (hdn : Nat.blt d n = true)
    (h : ∀ g W, Conc g W m σ → (execOp (ev f) o).run P W = .ok (.value v) W) (hn : SL P n md ops Q rest (upd f d v) σ m) :
    SL P n md ops Q (o :: rest) f σ m := by
  cases md with
  | false =>
    intro g W a hC hF
    refine wpList_plain hg fun K hK => ?_
    unfold Oper.wp
    rw [hF.eval, h g W hC, Oper.upon_value]
    exact hK _ _ (hn g W _ hC (by rw [hd]; exact hF.put hdn v))
  | true =>
    intro g a hF
    unfold wpQuiet
    rw [if_pos (by simp [Region.wanted, hg])]
    refine ⟨v, fun W hC => ?_, hn g _ (by rw [hd]; exact hF.put hdn v)⟩
    unfold Oper.quietAt
    rw [hF.eval, h g W hC]
    exact ⟨rfl, rfl⟩

/-- An operation that yields a value and changes memory. -/
theorem SL_val {ops : Array Oper} {rest : List Oper} {o : Oper} {d : Nat} (hg : o.guard = none) (hd : o.dst = some d) (hdn : Nat.blt d n = true)
    (h : ∀ g W, Conc g W m σ → ∃ v W' σ' m', (execOp (ev f) o).run P W = .ok (.value v) W' ∧ Conc g W' m' σ' ∧ SL P n false ops Q rest (upd f d v) σ' m') :
    SL P n false ops Q (o :: rest) f σ m := by
  intro g W a hC hF
  obtain ⟨v, W', σ', m', hr, hC', hn⟩ := h g W hC
  refine wpList_plain hg fun K hK => ?_
  unfold Oper.wp
  rw [hF.eval, hr, Oper.upon_value]
  exact hK _ _ (hn g W' _ hC' (by rw [hd]; exact hF.put hdn v))

theorem SL_skip {ops : Array Oper} {rest : List Oper} {o : Oper} (hg : o.guard = none) (hd : o.dst = none)
    (h : ∀ g W, Conc g W m σ → ∃ W' σ' m', (execOp (ev f) o).run P W = .ok .skip W' ∧ Conc g W' m' σ' ∧ SL P n false ops Q rest f σ' m') :
    SL P n false ops Q (o :: rest) f σ m := by
  intro g W a hC hF
  obtain ⟨W', σ', m', hr, hC', hn⟩ := h g W hC
  refine wpList_plain hg fun K hK => ?_
  unfold Oper.wp
  rw [hF.eval, hr, Oper.upon_skip]
  exact hK _ _ (hn g W' _ hC' (by rw [hd]; exact hF.put_none _))

/-- A guard that says yes, or no. -/
theorem SL_yes {ops : Array Oper} {rest : List Oper} {dst : Option Nat} {op : Op} {t : TypeId} {pos : String} {after : Array Edge} {j : Nat} {want : Bool}
    (hw : yieldF ops f j = some want) (h : SL P n md ops Q (⟨dst, op, t, pos, after, none⟩ :: rest) f σ m) : SL P n md ops Q (⟨dst, op, t, pos, after, some (j, want)⟩ :: rest) f σ m := by
  cases md with
  | false =>
    intro g W a hC hF
    have h1 := h g W a hC hF
    unfold wpList at h1 ⊢
    rw [if_pos (by simp [Region.wanted])] at h1
    rw [if_pos (by simp [Region.wanted, hF.yielded, hw])]
    exact h1
  | true =>
    intro g a hF
    have h1 := h g a hF
    unfold wpQuiet at h1 ⊢
    rw [if_pos (by simp [Region.wanted])] at h1
    rw [if_pos (by simp [Region.wanted, hF.yielded, hw])]
    exact h1

theorem SL_no {ops : Array Oper} {rest : List Oper} {d : Nat} {op : Op} {t : TypeId} {pos : String} {after : Array Edge} {j : Nat} {want : Bool} (hdn : Nat.blt d n = true)
    (hw : (yieldF ops f j == some want) = false) (h : SL P n md ops Q rest (upd f d undef) σ m) : SL P n md ops Q (⟨some d, op, t, pos, after, some (j, want)⟩ :: rest) f σ m := by
  cases md with
  | false =>
    intro g W a hC hF
    unfold wpList
    rw [if_neg (by simp only [Region.wanted, hF.yielded, hw]; simp)]
    exact h g W _ hC (hF.put hdn undef)
  | true =>
    intro g a hF
    unfold wpQuiet
    rw [if_neg (by simp only [Region.wanted, hF.yielded, hw]; simp)]
    exact h g _ (hF.put hdn undef)

theorem SL_no' {ops : Array Oper} {rest : List Oper} {op : Op} {t : TypeId} {pos : String} {after : Array Edge} {j : Nat} {want : Bool}
    (hw : (yieldF ops f j == some want) = false) (h : SL P n md ops Q rest f σ m) : SL P n md ops Q (⟨none, op, t, pos, after, some (j, want)⟩ :: rest) f σ m := by
  cases md with
  | false =>
    intro g W a hC hF
    unfold wpList
    rw [if_neg (by simp only [Region.wanted, hF.yielded, hw]; simp)]
    exact h g W _ hC (hF.put_none undef)
  | true =>
    intro g a hF
    unfold wpQuiet
    rw [if_neg (by simp only [Region.wanted, hF.yielded, hw]; simp)]
    exact h g _ (hF.put_none undef)

/-! ## Calls -/

/-- A function that has a body. -/
def Callable (P : Program) (F : FuncId) : Prop := ∃ fn, P.funcs[F]? = some fn ∧ fn.body.isSome = true ∧ (fn.name == "runtime.NumGoroutine") = false

theorem run_call {dst : Option Nat} {t : TypeId} {pos : String} {after : Array Edge} {cal : Operand} {F : FuncId} {args : Array Operand} {ats : Array TypeId} {as : List Value} {gd : Option (Nat × Bool)}
    (hf : ev f cal = .func (.func F) #[] #[]) (hcb : Callable P F)
    (ha : args.toList.map (ev f) = as) (W : World) : (execOp (ev f) ⟨dst, .call ⟨.value cal, args, ats⟩, t, pos, after, gd⟩).run P W = .ok (.enter F as.toArray) W := by
  obtain ⟨fn, hfn, hb, hnm⟩ := hcb
  have e1 : args.map (ev f) = as.toArray := by rw [← ha]; cases args; simp
  have e2 : ¬ fn.name = "runtime.NumGoroutine" := by simpa using hnm
  have e3 : ¬ fn.body = none := fun h => by rw [h] at hb; cases hb
  simp [execOp, resolve, Deferred.ofValue, hf, invoke, callFunc, hfn, e1, e2, e3]

/-- A call of a function by its contract. -/
theorem SL_call {ops : Array Oper} {rest : List Oper} {d : Nat} {t : TypeId} {pos : String} {after : Array Edge} {cal : Operand} {F : FuncId} {args : Array Operand} {ats : Array TypeId} {as : List Value} {R : Value → Sig → Mem → Prop} 
    (hdn : Nat.blt d n = true) (hf : ev f cal = .func (.func F) #[] #[]) (hcb : Callable P F)
    (hc : CallsS P F as.toArray σ m R) (ha : args.toList.map (ev f) = as)
    (hn : ∀ v σ' m', Le m m' → R v σ' m' → SL P n false ops Q rest (upd f d v) σ' m') :
    SL P n false ops Q (⟨some d, .call ⟨.value cal, args, ats⟩, t, pos, after, none⟩ :: rest) f σ m := by
  intro g W a hC hF
  refine wpList_plain rfl fun K hK => ?_
  have hrun := run_call (dst := some d) (t := t) (pos := pos) (after := after) (ats := ats) (gd := none) hf hcb ha W
  unfold Oper.wp
  rw [hF.eval, hrun, Oper.upon_enter]
  refine (hc g W hC).mono fun e W' ⟨v, σ', m', he, hC', hl, hR⟩ => ?_
  subst he
  exact hK _ _ (hn v σ' m' hl hR g W' _ hC' (hF.put hdn v))

theorem SL_call0 {ops : Array Oper} {rest : List Oper} {t : TypeId} {pos : String} {after : Array Edge} {cal : Operand} {F : FuncId} {args : Array Operand} {ats : Array TypeId} {as : List Value} {R : Value → Sig → Mem → Prop} 
    (hf : ev f cal = .func (.func F) #[] #[]) (hcb : Callable P F)
    (hc : CallsS P F as.toArray σ m R) (ha : args.toList.map (ev f) = as)
    (hn : ∀ v σ' m', Le m m' → R v σ' m' → SL P n false ops Q rest f σ' m') :
    SL P n false ops Q (⟨none, .call ⟨.value cal, args, ats⟩, t, pos, after, none⟩ :: rest) f σ m := by
  intro g W a hC hF
  refine wpList_plain rfl fun K hK => ?_
  have hrun := run_call (dst := none) (t := t) (pos := pos) (after := after) (ats := ats) (gd := none) hf hcb ha W
  unfold Oper.wp
  rw [hF.eval, hrun, Oper.upon_enter]
  refine (hc g W hC).mono fun e W' ⟨v, σ', m', he, hC', hl, hR⟩ => ?_
  subst he
  exact hK _ _ (hn v σ' m' hl hR g W' _ hC' (hF.put_none v))

/-- A call whose result is known and which leaves memory as it is. -/
def PureCall (P : Program) (F : FuncId) (args : List Value) (m : Mem) (v : Value) : Prop := ∀ σ, CallsS P F args.toArray σ m fun u σ' m' => u = v ∧ σ' = σ ∧ m' = m

theorem SL_pcall {ops : Array Oper} {rest : List Oper} {d : Nat} {t : TypeId} {pos : String} {after : Array Edge} {cal : Operand} {F : FuncId} {args : Array Operand} {ats : Array TypeId} {as : List Value} {v : Value} 
    (hdn : Nat.blt d n = true) (hf : ev f cal = .func (.func F) #[] #[]) (hcb : Callable P F)
    (hc : PureCall P F as m v) (ha : args.toList.map (ev f) = as)
    (hn : SL P n md ops Q rest (upd f d v) σ m) :
    SL P n md ops Q (⟨some d, .call ⟨.value cal, args, ats⟩, t, pos, after, none⟩ :: rest) f σ m := by
  cases md with
  | false => exact SL_call hdn hf hcb (hc σ) ha fun u σ' m' _ ⟨h1, h2, h3⟩ => by subst h1; subst h2; subst h3; exact hn
  | true =>
    intro g a hF
    unfold wpQuiet
    rw [if_pos (by simp [Region.wanted])]
    refine ⟨v, fun W hC => ?_, hn g _ (hF.put hdn v)⟩
    have hrun := run_call (dst := some d) (t := t) (pos := pos) (after := after) (ats := ats) (gd := none) hf hcb ha W
    unfold Oper.quietAt
    rw [hF.eval, hrun]
    refine ⟨rfl, ?_⟩
    refine (hc σ g W hC).mono fun e W' ⟨u, σ', m', he, hC', hl, h1, h2, h3⟩ => ?_
    subst h1; subst h2; subst h3
    exact ⟨he, hC'⟩

/-- At the end of a function whose result is known: what it made is forgotten. -/
theorem CallsS.pure {F : FuncId} {args : List Value} {v : Value} (h : CallsS P F args.toArray [] m fun u _ _ => u = v) : PureCall P F args m v := by
  intro τ g W hC
  have h' := CallsS.frame τ h
  rw [List.nil_append] at h'
  refine (h' g W hC).mono fun e W' ⟨u, σ', m', he, hC', hl, σ₁, h1, h2⟩ => ?_
  subst h1
  exact ⟨u, τ, m, he, (hC'.sublist (List.sublist_append_right σ₁ τ)).weaken_mem hC.base hl, Le.refl m, h2, rfl, rfl⟩
end
end Eng
end Go.Proofs.Ytnldelafemaigaa
