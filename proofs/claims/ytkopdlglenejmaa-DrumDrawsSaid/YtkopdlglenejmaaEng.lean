/- The engine: a symbolic executor's judgements over the model: memory that stays (Mem), memory that the running code owns (Sig), frames as functions; and the rules of control. -/
import Derived.WalkKit
import Derived.Deep.Quiet
import Derived.Deep.QuietTactic
import Derived.BigQuiet
import Derived.OrdersHeld
import Derived.StillTail
namespace Go.Proofs.Ytkopdlglenejmaa
namespace Eng

/-! ## Memory -/

/-- What is known of memory and stays so. -/
def Mem : Type := Nat → Option Obj
/-- What is owned: a block's number and what its object is. -/
abbrev Chk := Obj → Prop
abbrev Sig := List (Nat × Chk)

def Le (m m' : Mem) : Prop := ∀ k o, m k = some o → m' k = some o
theorem Le.refl (m : Mem) : Le m m := fun _ _ h => h
theorem Le.trans {a b c : Mem} (h : Le a b) (h' : Le b c) : Le a c := fun k o ho => h' k o (h k o ho)

def objCell (o : Obj) (off : Nat) : Option Value :=
  match o with
  | .cells c _ _ => c[off]?
  | _ => none

def Mem.cell (m : Mem) (a : Addr) : Option Value :=
  match m a.block with
  | some o => if a.spot.isSome then none else objCell o a.off
  | none => none

theorem Le.cell {m m' : Mem} (h : Le m m') {a : Addr} {v : Value} (hc : m.cell a = some v) : m'.cell a = some v := by
  unfold Mem.cell at *
  cases hm : m a.block with
  | none => rw [hm] at hc; simp at hc
  | some o => rw [hm] at hc; rw [h _ _ hm]; exact hc

structure Gh where
  F : Mem
  base : Mem
  w0 : World

structure Conc (g : Gh) (W : World) (m : Mem) (σ : Sig) : Prop where
  os : W.os = g.w0.os
  tape : W.tape = g.w0.tape
  output : W.output = g.w0.output
  base : Le g.base m
  imm : ∀ k o, m k = some o → W.heap[k]? = some o
  frg : ∀ k o, g.F k = some o → W.heap[k]? = some o ∧ m k = none ∧ ∀ c ∈ σ, c.1 ≠ k
  own : ∀ c ∈ σ, (∃ o, W.heap[c.1]? = some o ∧ c.2 o) ∧ m c.1 = none
  nodup : (σ.map (·.1)).Nodup

section
variable {g : Gh} {W W' : World} {m m' : Mem} {σ σ' : Sig}

theorem Conc.cell? (h : Conc g W m σ) {a : Addr} {v : Value} (hc : m.cell a = some v) : W.cell? a = some v := by
  unfold Mem.cell at hc
  cases hm : m a.block with
  | none => rw [hm] at hc; simp at hc
  | some o =>
    rw [hm] at hc
    have := h.imm _ _ hm
    unfold World.cell?
    rw [this]
    cases o <;> simp_all [objCell]

theorem Conc.lt (h : Conc g W m σ) {k : Nat} {o : Obj} (hm : m k = some o) : k < W.heap.size := by
  have := h.imm _ _ hm
  exact (Array.getElem?_eq_some_iff.1 this).1

theorem Conc.weaken_mem (h : Conc g W m σ) (hb : Le g.base m') (hl : Le m' m) : Conc g W m' σ :=
  have hn : ∀ k, m k = none → m' k = none := fun k hk => by
    cases h' : m' k with
    | none => rfl
    | some o => have := hl _ _ h'; rw [hk] at this; cases this
  ⟨h.os, h.tape, h.output, hb, fun k o hk => h.imm k o (hl k o hk), fun k o hk => let ⟨a, b, c⟩ := h.frg k o hk; ⟨a, hn k b, c⟩,
    fun c hc => let ⟨a, b⟩ := h.own c hc; ⟨a, hn _ b⟩, h.nodup⟩

theorem Conc.sublist (h : Conc g W m σ) (hs : σ'.Sublist σ) : Conc g W m σ' :=
  ⟨h.os, h.tape, h.output, h.base, h.imm, fun k o hk => let ⟨a, b, c⟩ := h.frg k o hk; ⟨a, b, fun x hx => c x (hs.subset hx)⟩,
    fun c hc => h.own c (hs.subset hc), h.nodup.sublist (hs.map _)⟩

theorem Conc.perm (h : Conc g W m σ) (hs : σ.Perm σ') : Conc g W m σ' :=
  ⟨h.os, h.tape, h.output, h.base, h.imm, fun k o hk => let ⟨a, b, c⟩ := h.frg k o hk; ⟨a, b, fun x hx => c x (hs.mem_iff.2 hx)⟩,
    fun c hc => h.own c (hs.mem_iff.2 hc), (hs.map _).nodup_iff.1 h.nodup⟩

/-- What is said of an owned block may be said in other words. -/
theorem Conc.imp {i : Nat} {φ ψ : Chk} (h : Conc g W m ((i, φ) :: σ)) (hi : ∀ o, φ o → ψ o) : Conc g W m ((i, ψ) :: σ) :=
  ⟨h.os, h.tape, h.output, h.base, h.imm, fun k o hk => let ⟨a, b, c⟩ := h.frg k o hk; ⟨a, b, fun x hx => by
      rcases List.mem_cons.1 hx with rfl | hx
      · exact c (i, φ) (List.mem_cons_self ..)
      · exact c x (List.mem_cons_of_mem _ hx)⟩,
    fun c hc => by
      rcases List.mem_cons.1 hc with rfl | hx
      · obtain ⟨⟨o, a, b⟩, d⟩ := h.own (i, φ) (List.mem_cons_self ..)
        exact ⟨⟨o, a, hi o b⟩, d⟩
      · exact h.own c (List.mem_cons_of_mem _ hx), h.nodup⟩

theorem Conc.of_heap (h : Conc g W m σ) (ho : W'.os = W.os) (ht : W'.tape = W.tape) (hu : W'.output = W.output) (hh : ∀ (k : Nat) (o : Obj), W.heap[k]? = some o → W'.heap[k]? = some o) : Conc g W' m σ :=
  ⟨ho.trans h.os, ht.trans h.tape, hu.trans h.output, h.base, fun k o hk => hh _ _ (h.imm k o hk), fun k o hk => let ⟨a, b, c⟩ := h.frg k o hk; ⟨hh _ _ a, b, c⟩,
    fun c hc => let ⟨⟨o, a, b⟩, d⟩ := h.own c hc; ⟨⟨o, hh _ _ a, b⟩, d⟩, h.nodup⟩

theorem Conc.drewN (h : Conc g W m σ) (n : Nat) : Conc g (W.drewN n) m σ := h.of_heap rfl rfl rfl fun _ _ h => h
theorem Conc.drawn (h : Conc g W m σ) (n : Nat) : Conc g { W with drawn := n } m σ := h.of_heap rfl rfl rfl fun _ _ h => h

theorem getElem?_push_some {α : Type} {xs : Array α} {k : Nat} {o x : α} (h : xs[k]? = some o) : (xs.push x)[k]? = some o := by
  have hk := (Array.getElem?_eq_some_iff.1 h).1
  rw [Array.getElem?_push, if_neg (by omega)]; exact h

theorem Conc.alloc (h : Conc g W m σ) (o : Obj) : Conc g (W.alloc o) m ((W.heap.size, (· = o)) :: σ) := by
  have hs : ∀ k x, W.heap[k]? = some x → k ≠ W.heap.size := fun k x hx => by
    have := (Array.getElem?_eq_some_iff.1 hx).1; omega
  refine ⟨h.os, h.tape, h.output, h.base, fun k x hk => getElem?_push_some (h.imm k x hk), fun k x hk => ?_, fun c hc => ?_, ?_⟩
  · obtain ⟨a, b, c⟩ := h.frg k x hk
    refine ⟨getElem?_push_some a, b, fun y hy => ?_⟩
    rcases List.mem_cons.1 hy with rfl | hy
    · exact (hs _ _ a).symm
    · exact c y hy
  · rcases List.mem_cons.1 hc with rfl | hc
    · refine ⟨⟨o, ?_, rfl⟩, ?_⟩
      · show (W.heap.push o)[W.heap.size]? = _
        simp
      · cases hm : m W.heap.size with
        | none => rfl
        | some x => exact absurd rfl (hs _ _ (h.imm _ _ hm))
    · obtain ⟨⟨x, a, b⟩, d⟩ := h.own c hc
      exact ⟨⟨x, getElem?_push_some a, b⟩, d⟩
  · simp only [List.map_cons, List.nodup_cons]
    refine ⟨fun hm => ?_, h.nodup⟩
    obtain ⟨c, hc, e⟩ := List.mem_map.1 hm
    obtain ⟨⟨x, a, _⟩, _⟩ := h.own c hc
    exact hs _ _ a e

/-- One owned block (the first of the list) turns. -/
theorem Conc.turn {i : Nat} {φ ψ : Chk} (h : Conc g W m ((i, φ) :: σ)) (o' : Obj) (hψ : ψ o') (ho : W'.os = W.os) (ht : W'.tape = W.tape) (hu : W'.output = W.output)
    (hi : W'.heap[i]? = some o') (hh : ∀ (k : Nat) (o : Obj), k ≠ i → W.heap[k]? = some o → W'.heap[k]? = some o) : Conc g W' m ((i, ψ) :: σ) := by
  obtain ⟨_, hmi⟩ := h.own (i, φ) (List.mem_cons_self ..)
  have hnd := h.nodup
  simp only [List.map_cons, List.nodup_cons] at hnd
  refine ⟨ho.trans h.os, ht.trans h.tape, hu.trans h.output, h.base, fun k o hk => hh k o (fun e => by subst e; simp only at hmi; rw [hmi] at hk; cases hk) (h.imm k o hk), fun k o hk => ?_, fun c hc => ?_, ?_⟩
  · obtain ⟨a, b, c⟩ := h.frg k o hk
    refine ⟨hh k o (fun e => c (i, φ) (List.mem_cons_self ..) e.symm) a, b, fun x hx => ?_⟩
    rcases List.mem_cons.1 hx with rfl | hx
    · exact c (i, φ) (List.mem_cons_self ..)
    · exact c x (List.mem_cons_of_mem _ hx)
  · rcases List.mem_cons.1 hc with rfl | hc
    · exact ⟨⟨o', hi, hψ⟩, hmi⟩
    · obtain ⟨⟨o, a, b⟩, d⟩ := h.own c (List.mem_cons_of_mem _ hc)
      exact ⟨⟨o, hh _ o (fun e => hnd.1 (List.mem_map.2 ⟨c, hc, e⟩)) a, b⟩, d⟩
  · simpa using hnd

/-- Memory that holds one block more. -/
def Mem.set (m : Mem) (i : Nat) (o : Obj) : Mem := fun k => if k = i then some o else m k

/-- An owned block is let go: from now on it stays as it is. -/
theorem Conc.freeze {i : Nat} {φ : Chk} (h : Conc g W m ((i, φ) :: σ)) : ∃ o, φ o ∧ m i = none ∧ Le m (m.set i o) ∧ Conc g W (m.set i o) σ := by
  obtain ⟨⟨o, hi, ho⟩, hmi⟩ := h.own (i, φ) (List.mem_cons_self ..)
  have hle : Le m (m.set i o) := fun k x hk => by
    unfold Mem.set
    rw [if_neg (fun e => by subst e; simp only at hmi; rw [hmi] at hk; cases hk)]; exact hk
  have hnd := h.nodup
  simp only [List.map_cons, List.nodup_cons] at hnd
  refine ⟨o, ho, hmi, hle, h.os, h.tape, h.output, h.base.trans hle, fun k x hk => ?_, fun k x hk => ?_, fun c hc => ?_, hnd.2⟩
  · unfold Mem.set at hk
    split at hk
    · rename_i e; subst e; cases hk; exact hi
    · exact h.imm k x hk
  · obtain ⟨a, b, c⟩ := h.frg k x hk
    refine ⟨a, ?_, fun y hy => c y (List.mem_cons_of_mem _ hy)⟩
    unfold Mem.set
    rw [if_neg (fun e => c (i, φ) (List.mem_cons_self ..) e.symm)]; exact b
  · obtain ⟨a, d⟩ := h.own c (List.mem_cons_of_mem _ hc)
    refine ⟨a, ?_⟩
    unfold Mem.set
    rw [if_neg (fun e => hnd.1 (List.mem_map.2 ⟨c, hc, e⟩))]; exact d

/-- What the caller owns beside becomes foreign. -/
theorem Conc.frame {τ : Sig} (h : Conc g W m (σ ++ τ)) : ∃ F : Mem, Conc { g with F := F } W m σ ∧
    ∀ W' m' σ', Conc { g with F := F } W' m' σ' → Conc g W' m' (σ' ++ τ) := by
  have hnd := h.nodup
  rw [List.map_append, List.nodup_append] at hnd
  refine ⟨fun k => if k ∈ τ.map (·.1) then W.heap[k]? else g.F k, ⟨h.os, h.tape, h.output, h.base, h.imm, fun k o hk => ?_, fun c hc => h.own c (List.mem_append_left _ hc), hnd.1⟩, fun W' m' σ' h' => ?_⟩
  · simp only at hk
    split at hk
    · rename_i hm
      obtain ⟨c, hc, e⟩ := List.mem_map.1 hm
      obtain ⟨_, b⟩ := h.own c (List.mem_append_right _ hc)
      refine ⟨hk, by rw [← e]; exact b, fun x hx e' => ?_⟩
      exact hnd.2.2 _ (List.mem_map.2 ⟨x, hx, rfl⟩) _ hm e'
    · obtain ⟨a, b, c⟩ := h.frg k o hk
      exact ⟨a, b, fun x hx => c x (List.mem_append_left _ hx)⟩
  · refine ⟨h'.os, h'.tape, h'.output, h'.base, h'.imm, fun k o hk => ?_, fun c hc => ?_, ?_⟩
    · have hkn : k ∉ τ.map (·.1) := fun hm => by
        obtain ⟨c, hc, e⟩ := List.mem_map.1 hm
        exact (h.frg k o hk).2.2 c (List.mem_append_right _ hc) e
      obtain ⟨a, b, c⟩ := h'.frg k o (by simp only; rw [if_neg hkn]; exact hk)
      refine ⟨a, b, fun x hx => ?_⟩
      rcases List.mem_append.1 hx with hx | hx
      · exact c x hx
      · intro e; exact hkn (List.mem_map.2 ⟨x, hx, e⟩)
    · rcases List.mem_append.1 hc with hc | hc
      · exact h'.own c hc
      · obtain ⟨⟨o, a, b⟩, d⟩ := h.own c (List.mem_append_right _ hc)
        have hm : c.1 ∈ τ.map (·.1) := List.mem_map.2 ⟨c, hc, rfl⟩
        obtain ⟨a', b', _⟩ := h'.frg c.1 o (by simp only; rw [if_pos hm]; exact a)
        exact ⟨⟨o, a', b⟩, b'⟩
    · rw [List.map_append, List.nodup_append]
      refine ⟨h'.nodup, hnd.2.1, fun a ha b hb e => ?_⟩
      subst e
      obtain ⟨c, hc, e⟩ := List.mem_map.1 ha
      obtain ⟨d, hd, e'⟩ := List.mem_map.1 hb
      obtain ⟨⟨o, a, _⟩, _⟩ := h.own d (List.mem_append_right _ hd)
      obtain ⟨_, _, q⟩ := h'.frg d.1 o (by simp only; rw [if_pos (List.mem_map.2 ⟨d, hd, rfl⟩)]; exact a)
      exact q c hc (by rw [e, e'])
end

/-! ## Frames -/

abbrev Fr := Nat → Value
def upd (f : Fr) (d : Nat) (v : Value) : Fr := fun t => bif Nat.beq t d then v else f t
def ofArgs (l : List Value) : Fr := fun t => l.getD t undef
def ev (f : Fr) : Operand → Value
  | .tmp t => f t
  | .const v => v
  | .global g => .pointer (some ⟨g, 0, none⟩)
  | .func f => .func (.func f) #[] #[]

structure FrOk (a : Act) (f : Fr) (n : Nat) : Prop where
  size : a.tmps.size = n
  defs : a.defers = []
  get : ∀ t, a.tmps.getD t undef = f t

theorem upd_eq (f : Fr) (d t : Nat) (v : Value) : upd f d v t = if t = d then v else f t := by
  unfold upd
  by_cases h : t = d
  · subst h; simp
  · rw [if_neg h]
    have : Nat.beq t d = false := by
      cases hb : Nat.beq t d with
      | false => rfl
      | true => exact absurd (Nat.eq_of_beq_eq_true hb) h
    rw [this]; rfl

theorem FrOk.eval {a : Act} {f : Fr} {n : Nat} (h : FrOk a f n) : a.eval = ev f := by
  funext x
  cases x with
  | tmp t => exact h.get t
  | const v => rfl
  | global g => rfl
  | func f => rfl

theorem FrOk.put {a : Act} {f : Fr} {n : Nat} (h : FrOk a f n) {d : Nat} (hd : Nat.blt d n = true) (v : Value) : FrOk (a.put (some d) v) (upd f d v) n := by
  have hlt : d < n := Nat.le_of_ble_eq_true hd
  refine ⟨by simp [Act.put, h.size], h.defs, fun t => ?_⟩
  rw [upd_eq]
  simp only [Act.put, Array.getD_eq_getD_getElem?, Array.getElem?_setIfInBounds]
  by_cases e : d = t
  · subst e
    rw [if_pos rfl, if_pos rfl, if_pos (by rw [h.size]; exact hlt)]; rfl
  · rw [if_neg e, if_neg (fun h => e h.symm)]
    have := h.get t
    rwa [Array.getD_eq_getD_getElem?] at this

theorem FrOk.put_none {a : Act} {f : Fr} {n : Nat} (h : FrOk a f n) (v : Value) : FrOk (a.put none v) f n := h

def boolOf : Value → Option Bool
  | .bool b => some b
  | _ => none

/-- What an operation's guard sees. -/
def yieldF (ops : Array Oper) (f : Fr) (j : Nat) : Option Bool :=
  match (ops.toList[j]?).bind (·.dst) with
  | some d => boolOf (f d)
  | none => none

theorem FrOk.yielded {a : Act} {f : Fr} {n : Nat} (h : FrOk a f n) (ops : Array Oper) : yielded ops a.tmps = yieldF ops f := by
  funext j
  unfold Go.yielded yieldF
  simp only [Array.getElem?_toList]
  cases hd : (ops[j]?).bind (·.dst) with
  | none => simp
  | some d =>
    simp only [Option.bind_some]
    have hg := h.get d
    rw [Array.getD_eq_getD_getElem?] at hg
    cases ht : a.tmps[d]? with
    | none => rw [ht] at hg; simp only [Option.getD_none] at hg; rw [← hg]; rfl
    | some v =>
      rw [ht] at hg
      simp only [Option.getD_some] at hg
      subst hg
      cases f d <;> rfl

/-! ## Judgements -/

abbrev APost := Exit → Fr → Sig → Mem → Prop

def lift (g : Gh) (n : Nat) (Q : APost) : Exit → Act → World → Prop := fun e a W => ∃ f σ m, FrOk a f n ∧ Conc g W m σ ∧ Q e f σ m

/-- A piece of code, from this frame and memory. -/
def SWP (P : Program) (n : Nat) (c : Code) (Q : APost) (f : Fr) (σ : Sig) (m : Mem) : Prop :=
  ∀ g W a, Conc g W m σ → FrOk a f n → Code.wp P c (lift g n Q) a W

/-- What the rules of a region's operations may rely on, and must keep. plain: the text's order. quiet: no operation changes memory, the order is drawn. still: the order is drawn, and the world is one and the same for all. drawn σ₀: the order is drawn, and no operation touches the blocks of σ₀. -/
inductive Mode where
  | plain
  | quiet
  | still
  | drawn (σ₀ : Sig)

@[reducible] def Mode.own : Mode → Sig → Sig
  | .plain, σ => σ
  | .quiet, σ => σ
  | .still, σ => σ
  | .drawn σ₀, _ => σ₀

def Sub (σ₀ σ : Sig) : Prop := ∃ τ, σ.Perm (σ₀ ++ τ)
theorem Sub.refl (σ : Sig) : Sub σ σ := ⟨[], by simp⟩
theorem Sub.nil (σ : Sig) : Sub [] σ := ⟨σ, by simp⟩
theorem Sub.cons {σ₀ σ : Sig} (c : Nat × Chk) (h : Sub σ₀ σ) : Sub σ₀ (c :: σ) := let ⟨τ, hτ⟩ := h; ⟨c :: τ, (hτ.cons c).trans (List.perm_middle (l₁ := σ₀) (l₂ := τ)).symm⟩
theorem Sub.cons2 {σ₀ σ : Sig} (c : Nat × Chk) (h : Sub σ₀ σ) : Sub (c :: σ₀) (c :: σ) := let ⟨τ, hτ⟩ := h; ⟨τ, hτ.cons c⟩
theorem Sub.left {σ₀ σ : Sig} (τ : Sig) (h : Sub σ₀ σ) : Sub σ₀ (τ ++ σ) := let ⟨ρ, hρ⟩ := h; ⟨ρ ++ τ, ((hρ.append_left τ).trans List.perm_append_comm).trans (by rw [List.append_assoc])⟩
theorem Sub.right {σ₀ σ : Sig} (τ : Sig) (h : Sub σ₀ σ) : Sub σ₀ (σ ++ τ) := let ⟨ρ, hρ⟩ := h; ⟨ρ ++ τ, by rw [← List.append_assoc]; exact hρ.append_right τ⟩
theorem Sub.perm {σ₀ σ σ' : Sig} (h : Sub σ₀ σ) (hp : σ.Perm σ') : Sub σ₀ σ' := let ⟨τ, hτ⟩ := h; ⟨τ, hp.symm.trans hτ⟩
theorem Sub.conc {g : Gh} {W : World} {m : Mem} {σ₀ σ : Sig} (h : Sub σ₀ σ) (hC : Conc g W m σ) : Conc g W m σ₀ := let ⟨τ, hτ⟩ := h; (hC.perm hτ).sublist (List.sublist_append_left σ₀ τ)

def Mode.keep : Mode → Sig → Prop
  | .plain, _ => True
  | .quiet, _ => True
  | .still, _ => True
  | .drawn σ₀, σ' => Sub σ₀ σ'
theorem Mode.keep_cons {md : Mode} {σ : Sig} (c : Nat × Chk) (h : md.keep σ) : md.keep (c :: σ) := by
  cases md with
  | drawn σ₀ => exact Sub.cons c h
  | _ => exact True.intro
theorem Mode.keep_perm {md : Mode} {σ σ' : Sig} (hp : σ.Perm σ') (h : md.keep σ) : md.keep σ' := by
  cases md with
  | drawn σ₀ => exact Sub.perm h hp
  | _ => exact True.intro

def Mode.loud : Mode → Bool
  | .quiet => false
  | .still => false
  | _ => true

def Mode.isStill : Mode → Bool
  | .still => true
  | _ => false

/-- An operation that may change memory, or reads what such a one changes in its own way. -/
def effB (o : Oper) : Bool :=
  match o.op with
  | .move _ | .assign _ | .pick .. | .build .. | .load .. | .nilCheck _ | .binOp .. | .unOp .. | .convert .. | .sliceToArrayPointer .. | .makeInterface .. | .makeFunc .. | .slice .. | .fieldAddr .. | .field .. | .indexAddr .. | .index .. | .typeAssert .. | .extract .. => false
  | .call ⟨.builtin .len, _, _⟩ | .call ⟨.builtin .cap, _, _⟩ | .call ⟨.builtin .min, _, _⟩ | .call ⟨.builtin .max, _, _⟩ => false
  | _ => true

def wantedF (ops : Array Oper) (o : Oper) (f : Fr) : Bool := Region.wanted o (yieldF ops f)
def updO (f : Fr) : Option Nat → Value → Fr
  | some d, v => upd f d v
  | none, _ => f

theorem FrOk.putO {a : Act} {f : Fr} {n : Nat} (h : FrOk a f n) {o : Option Nat} (hd : ∀ d, o = some d → Nat.blt d n = true) (v : Value) : FrOk (a.put o v) (updO f o v) n := by
  cases o with
  | none => exact h
  | some d => exact h.put (hd d rfl) v

/-- One operation of a region that draws its order: it stays what it is whatever comes before it, or it is the only one that can come up now. -/
def SLD (P : Program) (n : Nat) (ops : Array Oper) (σ₀ : Sig) (Q : APost) : List Oper → Fr → Sig → Mem → Prop
  | [], f, σ, m => ∀ g W, Conc g W m σ → ∃ σ' m', Conc g W m' σ' ∧ Le m m' ∧ Sub σ₀ σ' ∧ Q .normal f σ' m'
  | o :: rest, f, σ, m => ∀ g W, Conc g W m σ → ∃ σ' m', Conc g W m' σ' ∧ Le m m' ∧ Sub σ₀ σ' ∧ (∀ d, o.dst = some d → Nat.blt d n = true) ∧
      ((∃ v, ((wantedF ops o f = true ∧ ∀ g W, Conc g W m' σ₀ → (execOp (ev f) o).run P W = .ok (.value v) W) ∨ (wantedF ops o f = false ∧ v = undef)) ∧ SLD P n ops σ₀ Q rest (updO f o.dst v) σ' m') ∨
       (effB o = true ∧ wantedF ops o f = true ∧ ∀ a, FrOk a f n → o.wp P a W (fun a' W' => ∃ v σ'' m'', FrOk a' (updO f o.dst v) n ∧ Conc g W' m'' σ'' ∧ Le m' m'' ∧ Sub σ₀ σ'' ∧ SLD P n ops σ₀ Q rest (updO f o.dst v) σ'' m'') (fun _ _ _ => False)))

/-- A region's operations, one by one. -/
def SL (P : Program) (n : Nat) (md : Mode) (ops : Array Oper) (Q : APost) (l : List Oper) (f : Fr) (σ : Sig) (m : Mem) : Prop :=
  match md with
  | .plain => ∀ g W a, Conc g W m σ → FrOk a f n → wpList P ops (lift g n Q) l a W
  | .quiet => ∀ g a, FrOk a f n → wpQuiet P ops (fun W => Conc g W m σ) (fun a' => ∃ f', FrOk a' f' n ∧ Q .normal f' σ m) l a
  | .still => ∀ g W a, Conc g W m σ → FrOk a f n → wpStill P ops W (fun a' => ∃ f', FrOk a' f' n ∧ Q .normal f' σ m) l a
  | .drawn σ₀ => Sub σ₀ σ → SLD P n ops σ₀ Q l f σ m

/-- A call. -/
def CallsS (P : Program) (F : FuncId) (args : Array Value) (σ : Sig) (m : Mem) (R : Value → Sig → Mem → Prop) : Prop :=
  ∀ g W, Conc g W m σ → Calls P F args W fun e W' => ∃ v σ' m', e = .returned v ∧ Conc g W' m' σ' ∧ Le m m' ∧ R v σ' m'

section
variable {P : Program} {n : Nat} {Q : APost} {f : Fr} {σ : Sig} {m : Mem}

theorem CallsS.mono {F : FuncId} {args : Array Value} {R R' : Value → Sig → Mem → Prop} (h : CallsS P F args σ m R) (hr : ∀ v σ' m', Le m m' → R v σ' m' → R' v σ' m') : CallsS P F args σ m R' :=
  fun g W hC => (h g W hC).mono fun _ _ ⟨v, σ', m', he, hC', hl, hR⟩ => ⟨v, σ', m', he, hC', hl, hr _ _ _ hl hR⟩

/-- The frame rule. -/
theorem CallsS.frame {F : FuncId} {args : Array Value} {R : Value → Sig → Mem → Prop} (τ : Sig) (h : CallsS P F args σ m R) :
    CallsS P F args (σ ++ τ) m fun v σ' m' => ∃ σ₁, σ' = σ₁ ++ τ ∧ R v σ₁ m' := by
  intro g W hC
  obtain ⟨Fm, h1, h2⟩ := hC.frame
  refine (h _ W h1).mono fun e W' ⟨v, σ', m', he, hC', hl, hR⟩ => ⟨v, σ' ++ τ, m', he, h2 _ _ _ hC', hl, σ', rfl, hR⟩

theorem CallsS.frame0 {F : FuncId} {args : Array Value} {R : Value → Sig → Mem → Prop} (h : CallsS P F args [] m R) :
    CallsS P F args σ m fun v σ' m' => ∃ σ₁, σ' = σ₁ ++ σ ∧ R v σ₁ m' := CallsS.frame σ h

theorem SWP_mono {c : Code} {Q' : APost} (hq : ∀ e f σ m, Q e f σ m → Q' e f σ m) (h : SWP P n c Q f σ m) : SWP P n c Q' f σ m :=
  fun g W a hC hF => wp_mono (h g W a hC hF) fun _ _ _ ⟨f, σ, m, h1, h2, h3⟩ => ⟨f, σ, m, h1, h2, hq _ _ _ _ h3⟩

/-- Memory may be looked at in other words between two steps. -/
theorem SWP_ghost {c : Code} (h : ∀ g W, Conc g W m σ → ∃ σ' m', Conc g W m' σ' ∧ SWP P n c Q f σ' m') : SWP P n c Q f σ m :=
  fun g W a hC hF => let ⟨_, _, hC', h'⟩ := h g W hC; h' g W a hC' hF

theorem SLD_ghost {ops : Array Oper} {σ₀ : Sig} : ∀ {l : List Oper} (_ : ∀ g W, Conc g W m σ → ∃ σ' m', Conc g W m' σ' ∧ Le m m' ∧ SLD P n ops σ₀ Q l f σ' m'), SLD P n ops σ₀ Q l f σ m
  | [], h => fun g W hC => by
    obtain ⟨σ', m', hC', hl, h'⟩ := h g W hC
    obtain ⟨σ'', m'', h1, h2, h3⟩ := h' g W hC'
    exact ⟨σ'', m'', h1, hl.trans h2, h3⟩
  | o :: rest, h => fun g W hC => by
    obtain ⟨σ', m', hC', hl, h'⟩ := h g W hC
    obtain ⟨σ'', m'', h1, h2, h3⟩ := h' g W hC'
    exact ⟨σ'', m'', h1, hl.trans h2, h3⟩

theorem SL_ghost {md : Mode} {ops : Array Oper} {l : List Oper} (hm : md.loud = true) (h : ∀ g W, Conc g W m σ → md.keep σ → ∃ σ' m', Conc g W m' σ' ∧ Le m m' ∧ md.keep σ' ∧ SL P n md ops Q l f σ' m') : SL P n md ops Q l f σ m := by
  cases md with
  | plain => exact fun g W a hC hF => let ⟨_, _, hC', _, _, h'⟩ := h g W hC True.intro; h' g W a hC' hF
  | quiet => cases hm
  | still => cases hm
  | drawn σ₀ => exact fun hs => SLD_ghost fun g W hC => let ⟨σ', m', hC', hl, hk, h'⟩ := h g W hC hs; ⟨σ', m', hC', hl, h' hk⟩

def thenQ (next : Fr → Sig → Mem → Prop) (Q : APost) : APost
  | .normal, f, σ, m => next f σ m
  | e, f, σ, m => Q e f σ m

theorem lift_then {g : Gh} {c : Code} : ∀ e a W, lift g n (thenQ (fun f σ m => SWP P n c Q f σ m) Q) e a W → Exit.then (c.wp P (lift g n Q)) (lift g n Q) e a W := by
  intro e a W ⟨f, σ, m, hF, hC, h⟩
  cases e with
  | normal => exact h g W a hC hF
  | _ => exact ⟨f, σ, m, hF, hC, h⟩

theorem SWP_seq {x y : Code} (h : SWP P n x (thenQ (fun f σ m => SWP P n y Q f σ m) Q) f σ m) : SWP P n (.seq x y) Q f σ m :=
  fun g W a hC hF => wp_seq (wp_mono (h g W a hC hF) fun _ _ _ hh => lift_then _ _ _ hh)

theorem SWP_skip (h : Q .normal f σ m) : SWP P n .skip Q f σ m := fun _ _ _ hC hF => wp_skip ⟨f, σ, m, hF, hC, h⟩
theorem SWP_label {l : Nat} (h : Q .normal f σ m) : SWP P n (.label l) Q f σ m := fun _ _ _ hC hF => wp_label ⟨f, σ, m, hF, hC, h⟩
theorem SWP_ret (h : Q .ret f σ m) : SWP P n .ret Q f σ m := fun _ _ _ hC hF => wp_ret ⟨f, σ, m, hF, hC, h⟩
theorem SWP_exit {id : Nat} (h : Q (.exit id) f σ m) : SWP P n (.exit id) Q f σ m := fun _ _ _ hC hF => wp_exit ⟨f, σ, m, hF, hC, h⟩

theorem SWP_cond {c : Operand} {x y : Code} {t : Bool} (hc : ev f c = .bool t) (h : SWP P n (bif t then x else y) Q f σ m) : SWP P n (.cond c x y) Q f σ m :=
  fun g W a hC hF => wp_cond (t := t) (by rw [hF.eval]; exact hc) (by
    have := h g W a hC hF
    cases t <;> exact this)
theorem SWP_ct {c : Operand} {x y : Code} (hc : ev f c = .bool true) (h : SWP P n x Q f σ m) : SWP P n (.cond c x y) Q f σ m := SWP_cond hc h
theorem SWP_cf {c : Operand} {x y : Code} (hc : ev f c = .bool false) (h : SWP P n y Q f σ m) : SWP P n (.cond c x y) Q f σ m := SWP_cond hc h

def inBlock (id : Nat) (Q : APost) : APost
  | .exit i, f, σ, m => bif Nat.beq i id then Q .normal f σ m else Q (.exit i) f σ m
  | e, f, σ, m => Q e f σ m

theorem SWP_block {id : Nat} {c : Code} (h : SWP P n c (inBlock id Q) f σ m) : SWP P n (.block id c) Q f σ m :=
  fun g W a hC hF => wp_block (wp_mono (h g W a hC hF) fun e a W ⟨f, σ, m, hF, hC, hh⟩ => by
    cases e with
    | exit i =>
      simp only [Exit.inBlock]
      by_cases hi : i = id
      · subst hi
        rw [if_pos rfl]
        have hb : Nat.beq i i = true := by simp
        simp only [inBlock, hb, cond_true] at hh
        exact ⟨f, σ, m, hF, hC, hh⟩
      · rw [if_neg hi]
        have hb : Nat.beq i id = false := by
          cases hb : Nat.beq i id with
          | false => rfl
          | true => exact absurd (Nat.eq_of_beq_eq_true hb) hi
        simp only [inBlock, hb, cond_false] at hh
        exact ⟨f, σ, m, hF, hC, hh⟩
    | _ => exact ⟨f, σ, m, hF, hC, hh⟩)

/-- A frame that is 'f' but for the slots of S. -/
def memN : List Nat → Nat → Bool
  | [], _ => false
  | x :: l, t => bif Nat.beq t x then true else memN l t
def hav (S : List Nat) (u f : Fr) : Fr := fun t => bif memN S t then u t else f t
def upds (f : Fr) : List Nat → List Value → Fr
  | d :: ds, v :: vs => upd (upds f ds vs) d v
  | _, _ => f
def Under (S : List Nat) (f f' : Fr) : Prop := ∀ t, memN S t = false → f' t = f t
theorem Under.refl (S : List Nat) (f : Fr) : Under S f f := fun _ _ => rfl
theorem Under.hav (S : List Nat) (u f : Fr) : Under S f (hav S u f) := fun t ht => by unfold Eng.hav; rw [ht]; rfl
theorem memN_sub {S : List Nat} : ∀ {S' : List Nat} {t : Nat}, S'.all (memN S) = true → memN S' t = true → memN S t = true
  | [], _, _, h => by cases h
  | x :: S', t, ha, h => by
    rw [List.all_cons, Bool.and_eq_true] at ha
    unfold memN at h
    cases hx : Nat.beq t x with
    | true => have e : t = x := Nat.eq_of_beq_eq_true hx; subst e; exact ha.1
    | false => rw [hx] at h; exact memN_sub ha.2 h
theorem Under.hav2 {S S' : List Nat} {f f' u : Fr} (h : S'.all (memN S) = true) (h' : Under S f f') : Under S f (Eng.hav S' u f') := fun t ht => by
  unfold Eng.hav
  cases hm : memN S' t with
  | false => exact h' t ht
  | true => rw [memN_sub h hm] at ht; cases ht
theorem Under.upd {S : List Nat} {f f' : Fr} {d : Nat} {v : Value} (hd : memN S d = true) (h : Under S f f') : Under S f (upd f' d v) := fun t ht => by
  rw [upd_eq, if_neg (fun e => by subst e; rw [hd] at ht; cases ht)]; exact h t ht
theorem Under.upds {S : List Nat} {f f' : Fr} : ∀ {ds : List Nat} {vs : List Value}, (ds.all (memN S)) = true → Under S f f' → Under S f (upds f' ds vs)
  | [], _, _, h => by cases ‹List Value› <;> exact h
  | _ :: _, [], _, h => h
  | d :: ds, v :: vs, hd, h => by
    simp only [List.all_cons, Bool.and_eq_true] at hd
    exact Under.upd hd.1 (Under.upds hd.2 h)

def L_vals (L : List Nat) (f : Fr) : List Value := L.map f

theorem under_form {S L : List Nat} {f f' : Fr} (hL : L.all (memN S) = true) (h : Under S f f') : f' = upds (hav S f' f) L (L_vals L f') := by
  funext t
  have key : ∀ L : List Nat, L.all (memN S) = true → upds (hav S f' f) L (L.map f') t = f' t := by
    intro L
    induction L with
    | nil =>
      intro _
      show hav S f' f t = f' t
      unfold hav
      cases hm : memN S t with
      | true => rfl
      | false => exact (h t hm).symm
    | cons d L ih =>
      intro hd
      simp only [List.all_cons, Bool.and_eq_true] at hd
      show upd (upds (hav S f' f) L (L.map f')) d (f' d) t = f' t
      rw [upd_eq]
      split
      · rename_i e; rw [e]
      · exact ih hd.2
  exact (key L hL).symm

/-- A loop: 'S': every slot that a round writes; 'L': those that the invariant 'J' speaks of. -/
theorem SWP_loop {c : Code} (S L : List Nat) (J : List Value → Sig → Mem → Prop) (μ : List Value → Nat) (hL : L.all (memN S) = true)
    (h0 : J (L_vals L f) σ m)
    (hr : ∀ u vs σ' m', J vs σ' m' → vs.length = L.length → SWP P n c (thenQ (fun f' σ'' m'' => Under S f f' ∧ J (L_vals L f') σ'' m'' ∧ μ (L_vals L f') < μ vs) Q) (upds (hav S u f) L vs) σ' m') :
    SWP P n (.loop c) Q f σ m := by
  intro g W a hC hF
  refine wp_loop (fun a W => ∃ f' σ' m', FrOk a f' n ∧ Conc g W m' σ' ∧ Under S f f' ∧ J (L_vals L f') σ' m') (fun a _ => μ (L.map fun t => a.tmps.getD t undef)) ⟨f, σ, m, hF, hC, .refl S f, h0⟩ ?_
  intro a W ⟨f', σ', m', hF', hC', hU, hJ⟩
  have h1 := hr f' (L_vals L f') σ' m' hJ (by simp [L_vals])
  rw [← under_form hL hU] at h1
  refine wp_mono (h1 g W a hC' hF') fun e a2 W2 ⟨f2, σ2, m2, hF2, hC2, hh⟩ => ?_
  have e1 : ∀ {a : Act} {f : Fr}, FrOk a f n → (L.map fun t => a.tmps.getD t undef) = L_vals L f := fun h => List.map_congr_left fun t _ => h.get t
  cases e with
  | normal =>
    obtain ⟨q1, q2, q3⟩ := hh
    refine ⟨⟨f2, σ2, m2, hF2, hC2, q1, q2⟩, ?_⟩
    simp only [e1 hF2, e1 hF']
    exact q3
  | _ => exact ⟨f2, σ2, m2, hF2, hC2, hh⟩

theorem exists_least {p : Nat → Prop} (h : ∃ k, p k) : ∃ k, p k ∧ ∀ j, p j → k ≤ j := by
  obtain ⟨k, hk⟩ := h
  induction k using Nat.strongRecOn with
  | _ k ih =>
    by_cases hx : ∃ j, j < k ∧ p j
    · obtain ⟨j, hj, hpj⟩ := hx
      exact ih j hj hpj
    · exact ⟨k, hk, fun j hj => Nat.le_of_not_lt fun hlt => hx ⟨j, hlt, hj⟩⟩
/-- A loop whose rounds are counted by a number that the invariant names. -/
theorem SWP_loopN {c : Code} (S L : List Nat) (J : Nat → List Value → Sig → Mem → Prop) (hL : L.all (memN S) = true) (k0 : Nat)
    (h0 : J k0 (L_vals L f) σ m)
    (hr : ∀ k u vs σ' m', J k vs σ' m' → vs.length = L.length → SWP P n c (thenQ (fun f' σ'' m'' => Under S f f' ∧ ∃ k', k' < k ∧ J k' (L_vals L f') σ'' m'') Q) (upds (hav S u f) L vs) σ' m') :
    SWP P n (.loop c) Q f σ m := by
  intro g W a hC hF
  let St : Nat → Act → World → Prop := fun k a W => ∃ f' σ' m', FrOk a f' n ∧ Conc g W m' σ' ∧ Under S f f' ∧ J k (L_vals L f') σ' m'
  have hex : ∀ a W, ∃ k, (∃ k, St k a W) → St k a W ∧ ∀ j, St j a W → k ≤ j := fun a W => by
    by_cases h : ∃ k, St k a W
    · obtain ⟨k, hk⟩ := exists_least h
      exact ⟨k, fun _ => hk⟩
    · exact ⟨0, fun h' => absurd h' h⟩
  have hmu : ∃ μ : Act → World → Nat, ∀ a W, (∃ k, St k a W) → St (μ a W) a W ∧ ∀ j, St j a W → μ a W ≤ j :=
    ⟨fun a W => Classical.choose (hex a W), fun a W => Classical.choose_spec (hex a W)⟩
  obtain ⟨μ, hμ⟩ := hmu
  refine wp_loop (fun a W => ∃ k, St k a W) μ ⟨k0, f, σ, m, hF, hC, .refl S f, h0⟩ ?_
  intro a W hI
  obtain ⟨⟨f', σ', m', hF', hC', hU, hJ⟩, _⟩ := hμ a W hI
  have h1 := hr (μ a W) f' (L_vals L f') σ' m' hJ (by simp [L_vals])
  rw [← under_form hL hU] at h1
  refine wp_mono (h1 g W a hC' hF') fun e a2 W2 ⟨f2, σ2, m2, hF2, hC2, hh⟩ => ?_
  cases e with
  | normal =>
    obtain ⟨q1, k', hk', q2⟩ := hh
    have hs : St k' a2 W2 := ⟨f2, σ2, m2, hF2, hC2, q1, q2⟩
    refine ⟨⟨k', hs⟩, ?_⟩
    have := (hμ a2 W2 ⟨k', hs⟩).2 k' hs
    omega
  | _ => exact ⟨f2, σ2, m2, hF2, hC2, hh⟩

/-! ## Regions -/

variable {md : Mode}

theorem SL_nil {ops : Array Oper} (h : Q .normal f σ m) : SL P n md ops Q [] f σ m := by
  cases md with
  | plain => exact fun _ _ _ hC hF => ⟨f, σ, m, hF, hC, h⟩
  | quiet => exact fun _ _ hF => ⟨f, hF, h⟩
  | still => exact fun _ _ _ _ hF => ⟨f, hF, h⟩
  | drawn σ₀ => exact fun hs g W hC => ⟨σ, m, hC, Le.refl m, hs, h⟩

theorem SWP_region {id : Nat} {l : List Oper} (h : SL P n .plain l.toArray Q l f σ m) : SWP P n (.region id l.toArray false) Q f σ m :=
  fun g W a hC hF => wp_region_lit (h g W a hC hF)

/-- A region that draws its order and does not change memory. -/
theorem SWP_draws {id : Nat} {l : List Oper} (hm : P.follows .mixedOrders = true) (hB : Region.lexB .any l.toArray = true) (h : SL P n .quiet l.toArray Q l f σ m) : SWP P n (.region id l.toArray true) Q f σ m :=
  fun g W a hC hF => wp_region_quiet (C := fun W => Conc g W m σ) hm hB (hC.drawn _)
    (by
      have h1 := h g a hF
      have key : ∀ (l' : List Oper) (a : Act), wpQuiet P l.toArray (fun W => Conc g W m σ) (fun a' => ∃ f', FrOk a' f' n ∧ Q .normal f' σ m) l' a →
          wpQuiet P l.toArray (fun W => Conc g W m σ) (fun a' => ∀ w', Conc g w' m σ → lift g n Q .normal a' w') l' a := by
        intro l'
        induction l' with
        | nil => exact fun a ⟨f', hF', hq⟩ w' hw' => ⟨f', σ, m, hF', hw', hq⟩
        | cons o l' ih =>
          intro a ha
          unfold wpQuiet at ha ⊢
          split
          · rename_i hw
            rw [if_pos hw] at ha
            obtain ⟨v, h2, h3⟩ := ha
            exact ⟨v, h2, ih _ h3⟩
          · rename_i hw
            rw [if_neg hw] at ha
            exact ih _ ha
      simpa using key l a h1)

/-- The operations in the order of these numbers. -/
def pick (ops : List Oper) : List Nat → List Oper
  | [] => []
  | k :: js => match ops[k]? with
    | some o => o :: pick ops js
    | none => pick ops js

/-- In this order each operation can come up at its turn; one that changes memory is then the only one that can; another one is apart from all that do not wait for it. -/
def schedB (ops : Array Oper) : List Nat → Array Bool → Bool
  | [], listed => (Region.ready .any ops listed).isEmpty
  | k :: js, listed => (match ops[k]? with
      | some o => bif effB o then Region.ready .any ops listed == [k] else ((Region.ready .any ops listed).contains k && Region.free .any ops listed k)
      | none => false) && schedB ops js (listed.setIfInBounds k true)

def Icls (g : Gh) (σ₀ : Sig) (m : Mem) (W : World) : Prop := ∃ m' σ', Le m m' ∧ Sub σ₀ σ' ∧ Conc g W m' σ'
theorem Icls.mono {g : Gh} {σ₀ : Sig} {m m' : Mem} {W : World} (h : Icls g σ₀ m' W) (hl : Le m m') : Icls g σ₀ m W := let ⟨a, b, c, d⟩ := h; ⟨a, b, hl.trans c, d⟩
theorem Icls.conc {g : Gh} {σ₀ : Sig} {m : Mem} {W : World} (h : Icls g σ₀ m W) : Conc { g with base := m } W m σ₀ := by
  obtain ⟨m', σ', hl, hs, hC⟩ := h
  have h1 := hs.conc hC
  have h2 : Conc { g with base := m } W m' σ₀ := ⟨h1.os, h1.tape, h1.output, hl, h1.imm, h1.frg, h1.own, h1.nodup⟩
  exact h2.weaken_mem (Le.refl m) hl

theorem wpAnyH_mono {md : Region.Mode} {ops : Array Oper} {Q : Exit → Act → World → Prop} {S S' : World → Prop} (hs : ∀ w, S w → S' w) : ∀ (fuel : Nat) (listed : Array Bool) (a : Act) (w : World), wpAnyH P md ops Q S fuel listed a w → wpAnyH P md ops Q S' fuel listed a w
  | 0, _, _, _, h => h
  | fuel + 1, _, _, _, h => ⟨h.1, fun i hi => wpOp_mono (fun a' w' h' => ⟨hs _ h'.1, wpAnyH_mono hs fuel _ a' w' h'.2⟩) (h.2 i hi)⟩

def onlyN (Q : APost) : APost
  | .normal, f, σ, m => Q .normal f σ m
  | _, _, _, _ => False

theorem wp_onQ {o : Oper} {a : Act} {w : World} {K : Act → World → Prop} {Q' : Exit → Act → World → Prop} (h : o.wp P a w K (fun _ _ _ => False)) : o.wp P a w K Q' := by
  unfold Oper.wp at *
  generalize (execOp a.eval o).run P w = r at *
  cases r with
  | ok n w' =>
    cases n <;> simp only [Oper.upon] at h ⊢ <;> first
      | exact h
      | exact Calls.mono h (fun e w'' he => by cases e <;> first | exact he | exact he.elim | exact (let ⟨_, _, h⟩ := he; h.elim))
      | exact Rows.mono h (fun _ _ he => he)
  | halt x w' => cases x <;> simp only [Oper.upon] at h ⊢ <;> first | exact h | exact h.elim

theorem SLD_any {ops : List Oper} {σ₀ : Sig} (hsel : Region.noSelect ops.toArray = true) : ∀ (js : List Nat) (listed : Array Bool) (f : Fr) (σ : Sig) (m : Mem), schedB ops.toArray js listed = true → SLD P n ops.toArray σ₀ Q (pick ops js) f σ m →
    ∀ g W a, Conc g W m σ → FrOk a f n → wpAnyH P .any ops.toArray (lift g n (onlyN Q)) (Icls g σ₀ m) js.length listed a W
  | [], listed, f, σ, m, hB, h, g, W, a, hC, hF => by
    obtain ⟨σ', m', hC', _, _, hq⟩ := h g W hC
    exact ⟨by simpa [schedB] using hB, f, σ', m', hF, hC', hq⟩
  | k :: js, listed, f, σ, m, hB, h, g, W, a, hC, hF => by
    simp only [schedB, Bool.and_eq_true] at hB
    obtain ⟨hk, hB'⟩ := hB
    cases hok : ops[k]? with
    | none => simp [hok] at hk
    | some o =>
      have hok' : ops.toArray[k]? = some o := by simpa using hok
      simp only [hok'] at hk
      simp only [pick, hok] at h
      obtain ⟨σ', m', hC', hl, hs, hd, hh⟩ := h g W hC
      have hI : ∀ {W m' σ'}, Conc g W m' σ' → Le m m' → Sub σ₀ σ' → Icls g σ₀ m W := fun a b c => ⟨_, _, b, c, a⟩
      have hwant : Region.wanted o (yielded ops.toArray a.tmps) = wantedF ops.toArray o f := by unfold wantedF; rw [hF.yielded]
      rcases hh with ⟨v, hv, hn⟩ | ⟨he, hw, hx⟩
      · have hrest := SLD_any hsel js _ _ σ' m' hB' hn g W (a.put o.dst v) hC' (hF.putO hd v)
        have hy : YieldsIf P ops.toArray (Icls g σ₀ m') o v a := by
          rcases hv with ⟨h1, h2⟩ | ⟨h1, h2⟩
          · exact .inl ⟨hwant.trans h1, fun w hw => by rw [hF.eval]; exact h2 _ _ hw.conc⟩
          · exact .inr ⟨hwant.trans h1, h2⟩
        have hIm : Icls g σ₀ m' W := ⟨m', σ', Le.refl m', hs, hC'⟩
        refine wpAnyH_mono (S := Icls g σ₀ m') (fun w hw => hw.mono hl) _ _ _ _ ?_
        cases hb : effB o with
        | true =>
          rw [hb] at hk
          simp only [cond_true, beq_iff_eq] at hk
          exact wpAnyH_all hk (by simp) fun i hi => by
            obtain rfl : i = k := by simpa using hi
            exact hy.wpOp hok' hIm ⟨hIm, hrest⟩
        | false =>
          rw [hb] at hk
          simp only [cond_false, Bool.and_eq_true] at hk
          exact wpAnyH_take hok' hsel hk.2 hk.1 (fun c a w hq => by obtain ⟨_, _, _, _, _, hq⟩ := hq; exact hq.elim) hy hIm hrest
      · rw [he] at hk
        simp only [cond_true, beq_iff_eq] at hk
        refine wpAnyH_all hk (by simp) fun i hi => ?_
        obtain rfl : i = k := by simpa using hi
        unfold wpOp
        simp only [hok', hwant, hw, if_true]
        refine .inl (wp_onQ (Oper.wp_mono (fun a' W' ⟨v, σ'', m'', q1, q2, q3, q4, q5⟩ => ?_) (hx a hF)))
        have hl2 := hl.trans q3
        exact ⟨hI q2 hl2 q4, wpAnyH_mono (S := Icls g σ₀ m'') (fun w hw => hw.mono hl2) _ _ _ _ (SLD_any hsel js _ _ σ'' m'' hB' q5 g W' a' q2 q1)⟩

/-- A region that draws its order: σ₀: the owned blocks that none of its operations touches; js: an order. -/
theorem SWP_drawn {id : Nat} {l : List Oper} (σ₀ : Sig) (js : List Nat) (hm : P.follows .mixedOrders = true)
    (hB : (Region.noSelect l.toArray && Nat.beq js.length l.length && schedB l.toArray js (Array.replicate l.length false)) = true)
    (hs : Sub σ₀ σ) (h : SL P n (.drawn σ₀) l.toArray Q (pick l js) f σ m) : SWP P n (.region id l.toArray true) Q f σ m :=
  fun g W a hC hF => by
    simp only [Bool.and_eq_true] at hB
    have hlen := Nat.eq_of_beq_eq_true hB.1.2
    have h1 := SLD_any hB.1.1 js _ f σ m hB.2 (h hs) g { W with drawn := W.drawn + 1 } a (hC.drawn _) hF
    refine wp_mono (wp_region_held hm (Q := lift g n (onlyN Q)) (S := Icls g σ₀ m) (by simpa [hlen] using h1)) fun e a W ⟨f, σ, m, q1, q2, q3⟩ => ?_
    cases e <;> first | exact ⟨f, σ, m, q1, q2, q3⟩ | exact q3.elim


/-! A region in which several operations that change memory may come up in any order: a tree of orders. -/
inductive Sch where
  | fin
  | one (k : Nat) (r : Sch)
  | fork (s : Sch)
  | alt (k : Nat) (r s : Sch)
  | none
  | tail (ks : List Nat)

/-- What is to be shown of a tree of orders. -/
def SLT (P : Program) (n : Nat) (ops : List Oper) (σ₀ : Sig) (Q : APost) : Sch → Fr → Sig → Mem → Prop
  | .fin, f, σ, m => Q .normal f σ m
  | .one k r, f, σ, m => match ops[k]? with
    | some o => SL P n (.drawn σ₀) ops.toArray (fun _ f' σ' m' => SLT P n ops σ₀ Q r f' σ' m') [o] f σ m
    | _ => False
  | .fork s, f, σ, m => SLT P n ops σ₀ Q s f σ m
  | .alt k r s, f, σ, m => (match ops[k]? with
    | some o => SL P n (.drawn σ₀) ops.toArray (fun _ f' σ' m' => SLT P n ops σ₀ Q r f' σ' m') [o] f σ m
    | _ => False) ∧ SLT P n ops σ₀ Q s f σ m
  | .none, _, _, _ => True
  | .tail ks, f, σ, m => SL P n .plain ops.toArray (onlyN Q) (pick ops ks) f σ m

def headsT : Sch → List Nat
  | .alt k _ s => k :: headsT s
  | _ => []
def goodT : Sch → Bool
  | .alt .. => false
  | .none => false
  | _ => true
def waitsB (ops : Array Oper) (k0 k : Nat) : Bool := Nat.ble ops.size k0 || (match ops[k0]? with | some o => o.after.any (fun e => Region.binds .any e && Nat.beq e.on k) && !Nat.beq k k0 | _ => false)
def tailB (ops : Array Oper) (k0 : Nat) : List Nat → Nat → Array Bool → Bool
  | [], fuel, listed => Nat.beq fuel 0 && (Region.ready .any ops listed).isEmpty
  | k :: ks, fuel + 1, listed => (Region.ready .any ops listed == [k]) && ops[k]?.isSome && (listed.setIfInBounds k true).getD k0 false && tailB ops k0 ks fuel (listed.setIfInBounds k true)
  | _, _, _ => false
def schedT (ops : Array Oper) (k0 : Nat) : Sch → Nat → Array Bool → Bool
  | .fin, fuel, listed => Nat.beq fuel 0 && (Region.ready .any ops listed).isEmpty
  | .one k r, fuel + 1, listed => (match ops[k]? with
      | some o => bif effB o then Region.ready .any ops listed == [k] else ((Region.ready .any ops listed).contains k && Region.free .any ops listed k && waitsB ops k0 k && !listed.getD k0 false)
      | _ => false) && goodT r && schedT ops k0 r fuel (listed.setIfInBounds k true)
  | .fork s, fuel + 1, listed => !(Region.ready .any ops listed).isEmpty && (Region.ready .any ops listed).all (headsT s).contains && schedT ops k0 s fuel listed
  | .alt k r s, fuel, listed => (match ops[k]? with | some o => effB o | _ => false) && goodT r && schedT ops k0 r fuel (listed.setIfInBounds k true) && schedT ops k0 s fuel listed
  | .none, _, _ => true
  | .tail ks, fuel, listed => tailB ops k0 ks fuel listed
  | _, _, _ => false

/-- Whatever order is picked from here on; S holds behind every operation until operation k0 has come up, for which all others wait that lean on S. -/
def wpAnyL (P : Program) (ops : Array Oper) (Q : Exit → Act → World → Prop) (S : World → Prop) (k0 : Nat) : Nat → Array Bool → Act → World → Prop
  | 0, listed, a, w => Region.ready .any ops listed = [] ∧ Q .normal a w
  | fuel + 1, listed, a, w =>
    (Region.ready .any ops listed = [] → Q .normal a w) ∧
    ∀ i ∈ Region.ready .any ops listed, wpOp P ops Q i (fun a' w' => ((listed.setIfInBounds i true).getD k0 false = false → S w') ∧ wpAnyL P ops Q S k0 fuel (listed.setIfInBounds i true) a' w') a w
theorem wpAny_of_L {ops : Array Oper} {Q : Exit → Act → World → Prop} {S : World → Prop} {k0 : Nat} : ∀ (fuel : Nat) (listed : Array Bool) (a : Act) (w : World), wpAnyL P ops Q S k0 fuel listed a w → wpAny P .any ops Q fuel listed a w
  | 0, _, _, _, h => h
  | fuel + 1, _, _, _, h => ⟨h.1, fun i hi => wpOp_mono (fun a' w' h' => wpAny_of_L fuel _ a' w' h'.2) (h.2 i hi)⟩
theorem wpAnyL_mono {ops : Array Oper} {Q : Exit → Act → World → Prop} {S S' : World → Prop} {k0 : Nat} (hs : ∀ w, S w → S' w) : ∀ (fuel : Nat) (listed : Array Bool) (a : Act) (w : World), wpAnyL P ops Q S k0 fuel listed a w → wpAnyL P ops Q S' k0 fuel listed a w
  | 0, _, _, _, h => h
  | fuel + 1, _, _, _, h => ⟨h.1, fun i hi => wpOp_mono (fun a' w' h' => ⟨fun he => hs _ (h'.1 he), wpAnyL_mono hs fuel _ a' w' h'.2⟩) (h.2 i hi)⟩
theorem wpAnyL_all {ops : Array Oper} {Q : Exit → Act → World → Prop} {S : World → Prop} {k0 : Nat} {rs : List Nat} {fuel : Nat} {listed : Array Bool} {a : Act} {w : World} (hr : Region.ready .any ops listed = rs) (hne : rs ≠ [])
    (h : ∀ i ∈ rs, wpOp P ops Q i (fun a' w' => ((listed.setIfInBounds i true).getD k0 false = false → S w') ∧ wpAnyL P ops Q S k0 fuel (listed.setIfInBounds i true) a' w') a w) : wpAnyL P ops Q S k0 (fuel + 1) listed a w :=
  ⟨fun h0 => absurd (hr ▸ h0) hne, hr ▸ h⟩
theorem wpAnyL_first {ops : Array Oper} {Q : Exit → Act → World → Prop} {S : World → Prop} {k0 i : Nat} {oi : Oper} {v : Value} (hi : ops[i]? = some oi) (hsel : ∀ (j : Nat) (o : Oper) cs b, ops[j]? = some o → o.op ≠ .select cs b)
    (hQ : ∀ c a w, Q (.panic c) (a.put oi.dst v) w → Q (.panic c) a w) (hw0 : waitsB ops k0 i = true) :
    ∀ (fuel : Nat) (listed : Array Bool) (a : Act) (w : World),
      (∀ j oj, ops[j]? = some oj → j ≠ i → listed.getD j true = false → (∀ e ∈ oj.after, Region.binds .any e = true → e.on ≠ i) → oi.apart ops oj = true) →
      i ∈ Region.ready .any ops listed → listed.getD k0 false = false → YieldsIf P ops S oi v a → S w →
      wpAnyL P ops Q S k0 fuel (listed.setIfInBounds i true) (a.put oi.dst v) w → wpAnyL P ops Q S k0 (fuel + 1) listed a w := by
  have hk0 : ∀ (listed : Array Bool) (j : Nat), i ∈ Region.ready .any ops listed → j ∈ Region.ready .any ops listed → j ≠ i → listed.getD k0 false = false → (listed.setIfInBounds j true).getD k0 false = false := by
    intro listed j hr hj hji he
    obtain ⟨hjun, oj, hoj, hall⟩ := mem_ready.1 hj
    have hne : j ≠ k0 := by
      intro e
      subst e
      unfold waitsB at hw0
      simp only [Bool.or_eq_true] at hw0
      rcases hw0 with h | h
      · have := Nat.le_of_ble_eq_true h
        have := (Array.getElem?_eq_some_iff.1 hoj).1
        omega
      · rw [hoj] at h
        simp only [Bool.and_eq_true, Array.any_eq_true] at h
        obtain ⟨⟨q, hq, h1⟩, _⟩ := h
        have h2 := hall _ (Array.getElem_mem hq) h1.1
        rw [Nat.eq_of_beq_eq_true h1.2] at h2
        have h0 := (mem_ready.1 hr).1
        rcases Nat.lt_or_ge i listed.size with h' | h'
        · simp [h'] at h0 h2; rw [h0] at h2; cases h2
        · simp [Array.getElem?_eq_none h'] at h2
    rw [getD_set_ne false hne]; exact he
  intro fuel
  induction fuel with
  | zero =>
    intro listed a w _ hr he hy hS H
    refine ⟨fun h => (by rw [h] at hr; cases hr), fun j hj => ?_⟩
    by_cases hji : j = i
    · subst hji; exact hy.wpOp hi hS ⟨fun _ => hS, H⟩
    · have := ready_mono hj hji
      rw [H.1] at this
      cases this
  | succ fuel ih =>
    intro listed a w hfree hr he hy hS H
    refine ⟨fun h => (by rw [h] at hr; cases hr), fun j hj => ?_⟩
    by_cases hji : j = i
    · subst hji; exact hy.wpOp hi hS ⟨fun _ => hS, H⟩
    · have h1 := H.2 j (ready_mono hj hji)
      obtain ⟨hjun, oj, hoj, hall⟩ := mem_ready.1 hj
      have hnot : ∀ e ∈ oj.after, Region.binds .any e = true → e.on ≠ i := fun e hee hb heq => by
        have h1 := hall e hee hb
        have h0 := (mem_ready.1 hr).1
        rw [heq] at h1
        rcases Nat.lt_or_ge i listed.size with h' | h'
        · simp [h'] at h0 h1; rw [h0] at h1; cases h1
        · simp [Array.getElem?_eq_none h'] at h1
      have h2 := wpOp_putIf hoj (hfree j oj hoj hji hjun hnot) (fun cs b => hsel i oi cs b hi) (fun cs b => hsel j oj cs b hoj) hQ hy h1
      have hfree' : ∀ k ok, ops[k]? = some ok → k ≠ i → (listed.setIfInBounds j true).getD k true = false →
          (∀ e ∈ ok.after, Region.binds .any e = true → e.on ≠ i) → oi.apart ops ok = true := fun k ok hk hki hun hno => by
        refine hfree k ok hk hki ?_ hno
        by_cases hjk : j = k
        · subst hjk; exact hjun
        · rw [getD_set_ne true hjk] at hun; exact hun
      have hej := hk0 listed j hr hj hji he
      have hne0 : i ≠ k0 := by
        intro e
        subst e
        unfold waitsB at hw0
        simp only [Bool.or_eq_true] at hw0
        rcases hw0 with h | h
        · have := Nat.le_of_ble_eq_true h
          have := (Array.getElem?_eq_some_iff.1 hi).1
          omega
        · rw [hi] at h
          simp at h
      refine wpOp_mono (fun a' w' h3 => ?_) h2
      have hS' : S w' := h3.2.1 (by rw [Array.setIfInBounds_comm _ _ (Ne.symm hji), getD_set_ne false hne0]; exact hej)
      refine ⟨fun _ => hS', ih (listed.setIfInBounds j true) a' w' hfree' (ready_mono hr (Ne.symm hji)) hej h3.1 hS' ?_⟩
      rw [Array.setIfInBounds_comm _ _ hji]
      exact h3.2.2

theorem SLT_step {ops : List Oper} {k0 : Nat} {σ₀ : Sig} (hsel : Region.noSelect ops.toArray = true) {k : Nat} {o : Oper} {r : Sch} {fuel : Nat} {listed : Array Bool} (hok : ops[k]? = some o)
    (hx : SL P n (.drawn σ₀) ops.toArray (fun _ f' σ' m' => SLT P n ops σ₀ Q r f' σ' m') [o] f σ m) (hs0 : Sub σ₀ σ)
    (hrec : ∀ f σ m, Sub σ₀ σ → SLT P n ops σ₀ Q r f σ m → ∀ g W a, Conc g W m σ → FrOk a f n → wpAnyL P ops.toArray (lift g n (onlyN Q)) (Icls g σ₀ m) k0 fuel (listed.setIfInBounds k true) a W)
    (g : Gh) (W : World) (a : Act) (hC : Conc g W m σ) (hF : FrOk a f n) :
    (effB o = true → wpOp P ops.toArray (lift g n (onlyN Q)) k (fun a' w' => ((listed.setIfInBounds k true).getD k0 false = false → Icls g σ₀ m w') ∧ wpAnyL P ops.toArray (lift g n (onlyN Q)) (Icls g σ₀ m) k0 fuel (listed.setIfInBounds k true) a' w') a W) ∧
    (effB o = false → (Region.ready .any ops.toArray listed).contains k = true → Region.free .any ops.toArray listed k = true → waitsB ops.toArray k0 k = true → listed.getD k0 false = false → wpAnyL P ops.toArray (lift g n (onlyN Q)) (Icls g σ₀ m) k0 (fuel + 1) listed a W) := by
  have hok' : ops.toArray[k]? = some o := by simpa using hok
  have hwant : Region.wanted o (yielded ops.toArray a.tmps) = wantedF ops.toArray o f := by unfold wantedF; rw [hF.yielded]
  obtain ⟨σ', m', hC', hl, hs, hd, hh⟩ := hx hs0 g W hC
  rcases hh with ⟨v, hv, hn⟩ | ⟨he, hw, hx⟩
  · obtain ⟨σ2, m2, hC2, hl2, hs2, hq⟩ := hn g W hC'
    have hrest := hrec _ σ2 m2 hs2 hq g W (a.put o.dst v) hC2 (hF.putO hd v)
    have hll := hl.trans hl2
    have hy : YieldsIf P ops.toArray (Icls g σ₀ m') o v a := by
      rcases hv with ⟨h1, h2⟩ | ⟨h1, h2⟩
      · exact .inl ⟨hwant.trans h1, fun w hw => by rw [hF.eval]; exact h2 _ _ hw.conc⟩
      · exact .inr ⟨hwant.trans h1, h2⟩
    have hIm : Icls g σ₀ m' W := ⟨m', σ', Le.refl m', hs, hC'⟩
    refine ⟨fun _ => ?_, fun _ h1 h2 h3 h4 => ?_⟩
    · exact hy.wpOp hok' hIm ⟨fun _ => hIm.mono hl, wpAnyL_mono (S := Icls g σ₀ m2) (fun w hw => hw.mono hll) _ _ _ _ hrest⟩
    · refine wpAnyL_mono (S := Icls g σ₀ m') (fun w hw => hw.mono hl) _ _ _ _ ?_
      exact wpAnyL_first hok' (Region.noSelect_spec hsel) (fun c a w hq => by obtain ⟨_, _, _, _, _, hq⟩ := hq; exact hq.elim) h3 _ _ _ _ (Region.free_spec hok' h2) (by simpa using h1) h4 hy hIm (wpAnyL_mono (S := Icls g σ₀ m2) (fun w hw => hw.mono hl2) _ _ _ _ hrest)
  · refine ⟨fun _ => ?_, fun h => by rw [he] at h; cases h⟩
    unfold wpOp
    simp only [hok', hwant, hw, if_true]
    refine .inl (wp_onQ (Oper.wp_mono (fun a' W' ⟨v, σ'', m'', q1, q2, q3, q4, q5⟩ => ?_) (hx a hF)))
    obtain ⟨σ2, m2, hC2, hl2, hs2, hq⟩ := q5 g W' q2
    exact ⟨fun _ => ⟨m'', σ'', hl.trans q3, q4, q2⟩, wpAnyL_mono (S := Icls g σ₀ m2) (fun w hw => hw.mono (hl.trans (q3.trans hl2))) _ _ _ _ (hrec _ σ2 m2 hs2 hq g W' a' hC2 q1)⟩

theorem tail_any {ops : List Oper} {k0 : Nat} {S : World → Prop} {g : Gh} : ∀ (ks : List Nat) (fuel : Nat) (listed : Array Bool) (a : Act) (W : World), tailB ops.toArray k0 ks fuel listed = true →
    wpList P ops.toArray (lift g n (onlyN Q)) (pick ops ks) a W → wpAnyL P ops.toArray (lift g n (onlyN Q)) S k0 fuel listed a W
  | [], fuel, listed, a, W, hB, h => by
    simp only [tailB, Bool.and_eq_true] at hB
    obtain rfl := Nat.eq_of_beq_eq_true hB.1
    exact ⟨by simpa using hB.2, h⟩
  | k :: ks, 0, listed, a, W, hB, h => by simp [tailB] at hB
  | k :: ks, fuel + 1, listed, a, W, hB, h => by
    simp only [tailB, Bool.and_eq_true, beq_iff_eq] at hB
    obtain ⟨⟨⟨h1, h2⟩, h3⟩, h4⟩ := hB
    refine wpAnyL_all h1 (by simp) fun i hi => ?_
    obtain rfl : i = k := by simpa using hi
    cases hok : ops[i]? with
    | none => simp [hok] at h2
    | some o =>
      have hok' : ops.toArray[i]? = some o := by simpa using hok
      simp only [pick, hok] at h
      unfold wpList at h
      unfold wpOp
      simp only [hok']
      have key : ∀ a' w', wpList P ops.toArray (lift g n (onlyN Q)) (pick ops ks) a' w' → ((listed.setIfInBounds i true).getD k0 false = false → S w') ∧ wpAnyL P ops.toArray (lift g n (onlyN Q)) S k0 fuel (listed.setIfInBounds i true) a' w' :=
        fun a' w' h' => ⟨fun he => (by rw [h3] at he; cases he), tail_any ks fuel _ a' w' h4 h'⟩
      split
      · rename_i hw
        rw [if_pos hw] at h
        exact h.imp (Oper.wp_mono key) id
      · rename_i hw
        rw [if_neg hw] at h
        exact key _ _ h

theorem SLT_any {ops : List Oper} {k0 : Nat} {σ₀ : Sig} (hsel : Region.noSelect ops.toArray = true) : ∀ (T : Sch),
    (∀ (fuel : Nat) (listed : Array Bool) (f : Fr) (σ : Sig) (m : Mem), schedT ops.toArray k0 T fuel listed = true → (headsT T = [] ∧ T ≠ .none) → Sub σ₀ σ → SLT P n ops σ₀ Q T f σ m →
      ∀ g W a, Conc g W m σ → FrOk a f n → wpAnyL P ops.toArray (lift g n (onlyN Q)) (Icls g σ₀ m) k0 fuel listed a W) ∧
    (∀ (fuel : Nat) (listed : Array Bool) (f : Fr) (σ : Sig) (m : Mem), schedT ops.toArray k0 T fuel listed = true → Sub σ₀ σ → SLT P n ops σ₀ Q T f σ m →
      ∀ g W a, Conc g W m σ → FrOk a f n → ∀ k ∈ headsT T, wpOp P ops.toArray (lift g n (onlyN Q)) k (fun a' w' => ((listed.setIfInBounds k true).getD k0 false = false → Icls g σ₀ m w') ∧ wpAnyL P ops.toArray (lift g n (onlyN Q)) (Icls g σ₀ m) k0 fuel (listed.setIfInBounds k true) a' w') a W)
  | .fin => ⟨fun fuel listed f σ m hB _ hs h g W a hC hF => by
      simp only [schedT, Bool.and_eq_true] at hB
      obtain rfl := Nat.eq_of_beq_eq_true hB.1
      exact ⟨by simpa using hB.2, f, σ, m, hF, hC, h⟩, fun _ _ _ _ _ _ _ _ _ _ _ _ _ k hk => by cases hk⟩
  | .tail ks => ⟨fun fuel listed f σ m hB _ hs h g W a hC hF => tail_any ks fuel listed a W hB (h g W a hC hF), fun _ _ _ _ _ _ _ _ _ _ _ _ _ k hk => by cases hk⟩
  | .none => ⟨fun _ _ _ _ _ _ h => absurd rfl h.2, fun _ _ _ _ _ _ _ _ _ _ _ _ _ k hk => by cases hk⟩
  | .one k r => ⟨fun fuel listed f σ m hB _ hs h g W a hC hF => by
      cases fuel with
      | zero => simp [schedT] at hB
      | succ fuel =>
        simp only [schedT, Bool.and_eq_true] at hB
        simp only [SLT] at h
        cases hok : ops[k]? with
        | none => rw [hok] at h; exact h.elim
        | some o =>
          rw [hok] at h
          have hok' : ops.toArray[k]? = some o := by simpa using hok
          simp only [hok'] at hB
          obtain ⟨hk, hB'⟩ := hB
          have hnh : headsT r = [] ∧ r ≠ .none := by
            have hg := hk.2
            cases r with
            | fin => exact ⟨rfl, fun h => by cases h⟩
            | one => exact ⟨rfl, fun h => by cases h⟩
            | fork => exact ⟨rfl, fun h => by cases h⟩
            | alt => cases hg
            | none => cases hg
            | tail => exact ⟨rfl, fun h => by cases h⟩
          have := SLT_step hsel hok h hs (fun f σ m hs h => (SLT_any hsel r).1 fuel _ f σ m hB' hnh hs h) g W a hC hF
          cases he : effB o with
          | true =>
            have hk := hk.1
            rw [he] at hk
            simp only [cond_true, beq_iff_eq] at hk
            exact wpAnyL_all hk (by simp) fun i hi => by
              obtain rfl : i = k := by simpa using hi
              exact this.1 he
          | false =>
            have hk := hk.1
            rw [he] at hk
            simp only [cond_false, Bool.and_eq_true] at hk
            exact this.2 he hk.1.1.1 hk.1.1.2 hk.1.2 (by simpa using hk.2), fun _ _ _ _ _ _ _ _ _ _ _ _ _ k hk => by cases hk⟩
  | .fork s => ⟨fun fuel listed f σ m hB _ hs h g W a hC hF => by
      cases fuel with
      | zero => simp [schedT] at hB
      | succ fuel =>
        simp only [schedT, Bool.and_eq_true, Bool.not_eq_true'] at hB
        have h2 := (SLT_any hsel s).2 fuel listed f σ m hB.2 hs h g W a hC hF
        refine wpAnyL_all rfl (fun e => by rw [e] at hB; simp at hB) fun i hi => h2 i ?_
        have := List.all_eq_true.1 hB.1.2 i hi
        simpa using this, fun _ _ _ _ _ _ _ _ _ _ _ _ _ k hk => by cases hk⟩
  | .alt k r s => ⟨fun _ _ _ _ _ _ h => by simp [headsT] at h, fun fuel listed f σ m hB hs h g W a hC hF i hi => by
      simp only [schedT, Bool.and_eq_true] at hB
      obtain ⟨h1, h2⟩ := h
      simp only [headsT, List.mem_cons] at hi
      rcases hi with rfl | hi
      · cases hok : ops[i]? with
        | none => rw [hok] at h1; exact h1.elim
        | some o =>
          rw [hok] at h1
          have hok' : ops.toArray[i]? = some o := by simpa using hok
          simp only [hok'] at hB
          have hnh : headsT r = [] ∧ r ≠ .none := by
            have hg := hB.1.1.2
            cases r with
            | fin => exact ⟨rfl, fun h => by cases h⟩
            | one => exact ⟨rfl, fun h => by cases h⟩
            | fork => exact ⟨rfl, fun h => by cases h⟩
            | alt => cases hg
            | none => cases hg
            | tail => exact ⟨rfl, fun h => by cases h⟩
          exact (SLT_step hsel hok h1 hs (fun f σ m hs h => (SLT_any hsel r).1 fuel _ f σ m hB.1.2 hnh hs h) g W a hC hF).1 hB.1.1.1
      · exact (SLT_any hsel s).2 fuel listed f σ m hB.2 hs h2 g W a hC hF i hi⟩

theorem SWP_tree {id : Nat} {l : List Oper} (σ₀ : Sig) (k0 : Nat) (T : Sch) (hm : P.follows .mixedOrders = true)
    (hB : (Region.noSelect l.toArray && goodT T && schedT l.toArray k0 T l.length (Array.replicate l.length false)) = true)
    (hs : Sub σ₀ σ) (h : SLT P n l σ₀ Q T f σ m) : SWP P n (.region id l.toArray true) Q f σ m :=
  fun g W a hC hF => by
    simp only [Bool.and_eq_true] at hB
    have hnh : headsT T = [] ∧ T ≠ .none := by
      have hg := hB.1.2
      cases T with
      | fin => exact ⟨rfl, fun h => by cases h⟩
      | one => exact ⟨rfl, fun h => by cases h⟩
      | fork => exact ⟨rfl, fun h => by cases h⟩
      | alt => cases hg
      | none => cases hg
      | tail => exact ⟨rfl, fun h => by cases h⟩
    have h1 := (SLT_any (k0 := k0) hB.1.1 T).1 _ _ f σ m hB.2 hnh hs h g { W with drawn := W.drawn + 1 } a (hC.drawn _) hF
    have h2 := wpAny_of_L _ _ _ _ h1
    refine wp_mono (wp_region_any hm (Q := lift g n (onlyN Q)) (by simpa using h2)) fun e a W ⟨f, σ, m, q1, q2, q3⟩ => ?_
    cases e <;> first | exact ⟨f, σ, m, q1, q2, q3⟩ | exact q3.elim
theorem TT {ops : List Oper} {σ₀ : Sig} {ks : List Nat} (h : SL P n .plain ops.toArray (onlyN Q) (pick ops ks) f σ m) : SLT P n ops σ₀ Q (.tail ks) f σ m := h
theorem on_ (h : Q .normal f σ m) : onlyN Q .normal f σ m := h
theorem T1 {ops : List Oper} {σ₀ : Sig} {k : Nat} {r : Sch} {o : Oper} (ho : ops[k]? = some o) (h : SL P n (.drawn σ₀) ops.toArray (fun _ f' σ' m' => SLT P n ops σ₀ Q r f' σ' m') [o] f σ m) : SLT P n ops σ₀ Q (.one k r) f σ m := by
  simp only [SLT, ho]; exact h
theorem TF {ops : List Oper} {σ₀ : Sig} {s : Sch} (h : SLT P n ops σ₀ Q s f σ m) : SLT P n ops σ₀ Q (.fork s) f σ m := h
theorem TA {ops : List Oper} {σ₀ : Sig} {k : Nat} {r s : Sch} {o : Oper} (ho : ops[k]? = some o) (h : SL P n (.drawn σ₀) ops.toArray (fun _ f' σ' m' => SLT P n ops σ₀ Q r f' σ' m') [o] f σ m) (h' : SLT P n ops σ₀ Q s f σ m) : SLT P n ops σ₀ Q (.alt k r s) f σ m := by
  refine ⟨?_, h'⟩
  simp only [ho]; exact h

theorem wpStill_mono {ops : Array Oper} {W : World} {K K' : Act → Prop} (hk : ∀ a, K a → K' a) : ∀ (l : List Oper) (a : Act), wpStill P ops W K l a → wpStill P ops W K' l a
  | [], a, h => hk a h
  | o :: rest, a, h => by
    unfold wpStill at h ⊢
    split
    · rename_i hw; rw [if_pos hw] at h; exact Oper.still_mono (fun a => wpStill_mono hk rest a) h
    · rename_i hw; rw [if_neg hw] at h; exact wpStill_mono hk rest _ h

/-- A region that draws its order: the operations from number k on wait for all before them, and come one after another. -/
theorem SWP_tail {id : Nat} {l : List Oper} (k : Nat) (hm : P.follows .mixedOrders = true) (hB : Region.lexTailB .any l.toArray k = true)
    (h : SL P n .still l.toArray (fun _ f σ m => SL P n .plain l.toArray Q (l.drop k) f σ m) (l.take k) f σ m) : SWP P n (.region id l.toArray true) Q f σ m :=
  fun g W a hC hF => wp_region_still_tail k hm hB (wpStill_mono (fun a' ⟨f', hF', h'⟩ => h' g _ a' (hC.drawn _) hF') _ _ (h g _ a (hC.drawn _) hF))

/-- An operation that yields a value and leaves the world as it is. -/
theorem SL_same {ops : Array Oper} {rest : List Oper} {o : Oper} {d : Nat} {v : Value} (hg : o.guard = none) (hd : o.dst = some d) (hdn : Nat.blt d n = true)
    (h : ∀ g W, Conc g W m (md.own σ) → (execOp (ev f) o).run P W = .ok (.value v) W) (hn : SL P n md ops Q rest (upd f d v) σ m) :
    SL P n md ops Q (o :: rest) f σ m := by
  cases md with
  | plain =>
    intro g W a hC hF
    refine wpList_plain hg fun K hK => ?_
    unfold Oper.wp
    rw [hF.eval, h g W hC, Oper.upon_value]
    exact hK _ _ (hn g W _ hC (by rw [hd]; exact hF.put hdn v))
  | quiet =>
    intro g a hF
    unfold wpQuiet
    rw [if_pos (by simp [Region.wanted, hg])]
    refine ⟨v, fun W hC => ?_, hn g _ (by rw [hd]; exact hF.put hdn v)⟩
    unfold Oper.quietAt
    rw [hF.eval, h g W hC]
    exact ⟨rfl, rfl⟩
  | still =>
    intro g W a hC hF
    unfold wpStill
    rw [if_pos (by simp [Region.wanted, hg])]
    unfold Oper.still
    rw [hF.eval, h g W hC]
    exact ⟨rfl, hn g W _ hC (by rw [hd]; exact hF.put hdn v)⟩
  | drawn σ₀ =>
    intro hs g W hC
    refine ⟨σ, m, hC, Le.refl m, hs, fun d' e => by rw [hd] at e; cases e; exact hdn, .inl ⟨v, .inl ⟨by simp [wantedF, Region.wanted, hg], h⟩, ?_⟩⟩
    rw [hd]; exact hn hs

/-- An operation that yields a value and changes memory. -/
theorem SL_val {ops : Array Oper} {rest : List Oper} {o : Oper} {d : Nat} (hm : md.loud = true) (he : effB o = true) (hg : o.guard = none) (hd : o.dst = some d) (hdn : Nat.blt d n = true)
    (h : ∀ g W, Conc g W m σ → md.keep σ → ∃ v W' σ' m', (execOp (ev f) o).run P W = .ok (.value v) W' ∧ Conc g W' m' σ' ∧ Le m m' ∧ md.keep σ' ∧ SL P n md ops Q rest (upd f d v) σ' m') :
    SL P n md ops Q (o :: rest) f σ m := by
  cases md with
  | quiet => cases hm
  | still => cases hm
  | plain =>
    intro g W a hC hF
    obtain ⟨v, W', σ', m', hr, hC', _, _, hn⟩ := h g W hC True.intro
    refine wpList_plain hg fun K hK => ?_
    unfold Oper.wp
    rw [hF.eval, hr, Oper.upon_value]
    exact hK _ _ (hn g W' _ hC' (by rw [hd]; exact hF.put hdn v))
  | drawn σ₀ =>
    intro hs g W hC
    have hdd : ∀ d', o.dst = some d' → Nat.blt d' n = true := fun d' e => by rw [hd] at e; cases e; exact hdn
    refine ⟨σ, m, hC, Le.refl m, hs, hdd, .inr ⟨he, by simp [wantedF, Region.wanted, hg], fun a hF => ?_⟩⟩
    obtain ⟨v, W', σ', m', hr, hC', hl, hk, hn⟩ := h g W hC hs
    unfold Oper.wp
    rw [hF.eval, hr, Oper.upon_value]
    exact ⟨v, σ', m', hF.putO hdd v, hC', hl, hk, by rw [hd]; exact hn hk⟩

theorem SL_skip {ops : Array Oper} {rest : List Oper} {o : Oper} (hm : md.loud = true) (he : effB o = true) (hg : o.guard = none) (hd : o.dst = none)
    (h : ∀ g W, Conc g W m σ → md.keep σ → ∃ W' σ' m', (execOp (ev f) o).run P W = .ok .skip W' ∧ Conc g W' m' σ' ∧ Le m m' ∧ md.keep σ' ∧ SL P n md ops Q rest f σ' m') :
    SL P n md ops Q (o :: rest) f σ m := by
  cases md with
  | quiet => cases hm
  | still => cases hm
  | plain =>
    intro g W a hC hF
    obtain ⟨W', σ', m', hr, hC', _, _, hn⟩ := h g W hC True.intro
    refine wpList_plain hg fun K hK => ?_
    unfold Oper.wp
    rw [hF.eval, hr, Oper.upon_skip]
    exact hK _ _ (hn g W' _ hC' (by rw [hd]; exact hF.put_none _))
  | drawn σ₀ =>
    intro hs g W hC
    have hdd : ∀ d', o.dst = some d' → Nat.blt d' n = true := fun d' e => by rw [hd] at e; cases e
    refine ⟨σ, m, hC, Le.refl m, hs, hdd, .inr ⟨he, by simp [wantedF, Region.wanted, hg], fun a hF => ?_⟩⟩
    obtain ⟨W', σ', m', hr, hC', hl, hk, hn⟩ := h g W hC hs
    unfold Oper.wp
    rw [hF.eval, hr, Oper.upon_skip]
    exact ⟨undef, σ', m', hF.putO hdd undef, hC', hl, hk, by rw [hd]; exact hn hk⟩

/-- An operation with a value that nobody takes. -/
theorem SL_val0 {ops : Array Oper} {rest : List Oper} {o : Oper} (hm : md.loud = true) (he : effB o = true) (hg : o.guard = none) (hd : o.dst = none)
    (h : ∀ g W, Conc g W m σ → md.keep σ → ∃ v W' σ' m', (execOp (ev f) o).run P W = .ok (.value v) W' ∧ Conc g W' m' σ' ∧ Le m m' ∧ md.keep σ' ∧ SL P n md ops Q rest f σ' m') :
    SL P n md ops Q (o :: rest) f σ m := by
  cases md with
  | quiet => cases hm
  | still => cases hm
  | plain =>
    intro g W a hC hF
    obtain ⟨v, W', σ', m', hr, hC', _, _, hn⟩ := h g W hC True.intro
    refine wpList_plain hg fun K hK => ?_
    unfold Oper.wp
    rw [hF.eval, hr, Oper.upon_value]
    exact hK _ _ (hn g W' _ hC' (by rw [hd]; exact hF.put_none _))
  | drawn σ₀ =>
    intro hs g W hC
    have hdd : ∀ d', o.dst = some d' → Nat.blt d' n = true := fun d' e => by rw [hd] at e; cases e
    refine ⟨σ, m, hC, Le.refl m, hs, hdd, .inr ⟨he, by simp [wantedF, Region.wanted, hg], fun a hF => ?_⟩⟩
    obtain ⟨v, W', σ', m', hr, hC', hl, hk, hn⟩ := h g W hC hs
    unfold Oper.wp
    rw [hF.eval, hr, Oper.upon_value]
    exact ⟨v, σ', m', hF.putO hdd v, hC', hl, hk, by rw [hd]; exact hn hk⟩

/-- A guard that says yes, or no. -/
theorem SL_yes {ops : Array Oper} {rest : List Oper} {dst : Option Nat} {op : Op} {t : TypeId} {pos : String} {after : Array Edge} {j : Nat} {want : Bool}
    (hw : yieldF ops f j = some want) (h : SL P n md ops Q (⟨dst, op, t, pos, after, none⟩ :: rest) f σ m) : SL P n md ops Q (⟨dst, op, t, pos, after, some (j, want)⟩ :: rest) f σ m := by
  cases md with
  | plain =>
    intro g W a hC hF
    have h1 := h g W a hC hF
    unfold wpList at h1 ⊢
    rw [if_pos (by simp [Region.wanted])] at h1
    rw [if_pos (by simp [Region.wanted, hF.yielded, hw])]
    exact h1
  | quiet =>
    intro g a hF
    have h1 := h g a hF
    unfold wpQuiet at h1 ⊢
    rw [if_pos (by simp [Region.wanted])] at h1
    rw [if_pos (by simp [Region.wanted, hF.yielded, hw])]
    exact h1
  | still =>
    intro g W a hC hF
    have h1 := h g W a hC hF
    unfold wpStill at h1 ⊢
    rw [if_pos (by simp [Region.wanted])] at h1
    rw [if_pos (by simp [Region.wanted, hF.yielded, hw])]
    exact h1
  | drawn σ₀ =>
    intro hs g W hC
    obtain ⟨σ', m', h1, h2, h3, h4, h5⟩ := h hs g W hC
    have hwt : wantedF ops ⟨dst, op, t, pos, after, some (j, want)⟩ f = true := by simp [wantedF, Region.wanted, hw]
    refine ⟨σ', m', h1, h2, h3, h4, ?_⟩
    rcases h5 with ⟨v, hv, hn⟩ | ⟨he, _, hx⟩
    · refine .inl ⟨v, .inl ⟨hwt, ?_⟩, hn⟩
      rcases hv with ⟨_, hv⟩ | ⟨hv, _⟩
      · exact hv
      · simp [wantedF, Region.wanted] at hv
    · exact .inr ⟨he, hwt, hx⟩

theorem SL_no {ops : Array Oper} {rest : List Oper} {d : Nat} {op : Op} {t : TypeId} {pos : String} {after : Array Edge} {j : Nat} {want : Bool} (hdn : Nat.blt d n = true)
    (hw : (yieldF ops f j == some want) = false) (h : SL P n md ops Q rest (upd f d undef) σ m) : SL P n md ops Q (⟨some d, op, t, pos, after, some (j, want)⟩ :: rest) f σ m := by
  cases md with
  | plain =>
    intro g W a hC hF
    unfold wpList
    rw [if_neg (by simp only [Region.wanted, hF.yielded, hw]; simp)]
    exact h g W _ hC (hF.put hdn undef)
  | quiet =>
    intro g a hF
    unfold wpQuiet
    rw [if_neg (by simp only [Region.wanted, hF.yielded, hw]; simp)]
    exact h g _ (hF.put hdn undef)
  | still =>
    intro g W a hC hF
    unfold wpStill
    rw [if_neg (by simp only [Region.wanted, hF.yielded, hw]; simp)]
    exact h g W _ hC (hF.put hdn undef)
  | drawn σ₀ =>
    intro hs g W hC
    exact ⟨σ, m, hC, Le.refl m, hs, fun d' e => by cases e; exact hdn, .inl ⟨undef, .inr ⟨by simp only [wantedF, Region.wanted, hw], rfl⟩, h hs⟩⟩

theorem SL_no' {ops : Array Oper} {rest : List Oper} {op : Op} {t : TypeId} {pos : String} {after : Array Edge} {j : Nat} {want : Bool}
    (hw : (yieldF ops f j == some want) = false) (h : SL P n md ops Q rest f σ m) : SL P n md ops Q (⟨none, op, t, pos, after, some (j, want)⟩ :: rest) f σ m := by
  cases md with
  | plain =>
    intro g W a hC hF
    unfold wpList
    rw [if_neg (by simp only [Region.wanted, hF.yielded, hw]; simp)]
    exact h g W _ hC (hF.put_none undef)
  | quiet =>
    intro g a hF
    unfold wpQuiet
    rw [if_neg (by simp only [Region.wanted, hF.yielded, hw]; simp)]
    exact h g _ (hF.put_none undef)
  | still =>
    intro g W a hC hF
    unfold wpStill
    rw [if_neg (by simp only [Region.wanted, hF.yielded, hw]; simp)]
    exact h g W _ hC (hF.put_none undef)
  | drawn σ₀ =>
    intro hs g W hC
    exact ⟨σ, m, hC, Le.refl m, hs, fun d' e => (by cases e), .inl ⟨undef, .inr ⟨by simp only [wantedF, Region.wanted, hw], rfl⟩, h hs⟩⟩

/-! ## Calls -/

/-- A function that has a body. -/
def Callable (P : Program) (F : FuncId) : Prop := ∃ fn, P.funcs[F]? = some fn ∧ fn.body.isSome = true ∧ (fn.name == "runtime.NumGoroutine") = false

theorem run_call {dst : Option Nat} {t : TypeId} {pos : String} {after : Array Edge} {cal : Operand} {F : FuncId} {args : Array Operand} {ats : Array TypeId} {as : List Value} {gd : Option (Nat × Bool)}
    (hf : ev f cal = .func (.func F) #[] #[]) (hcb : Callable P F)
    (ha : args.toList.map (ev f) = as) (W : World) : (execOp (ev f) ⟨dst, .call ⟨.value cal, args, ats⟩, t, pos, after, gd⟩).run P W = .ok (.enter F as.toArray) W := by
  obtain ⟨fn, hfn, hb, hnm⟩ := hcb
  have e1 : args.map (ev f) = as.toArray := by rw [← ha]; cases args; simp
  have e2 : ¬ fn.name = "runtime.NumGoroutine" := by simpa using hnm
  have e3 : ¬ fn.body = none := fun h => by rw [h] at hb; cases hb
  simp [execOp, resolve, Deferred.ofValue, hf, invoke, callFunc, hfn, e1, e2, e3]

/-- A call of a function by its contract. -/
theorem SL_call {ops : Array Oper} {rest : List Oper} {d : Nat} {t : TypeId} {pos : String} {after : Array Edge} {cal : Operand} {F : FuncId} {args : Array Operand} {ats : Array TypeId} {as : List Value} {R : Value → Sig → Mem → Prop} 
    (hdn : Nat.blt d n = true) (hf : ev f cal = .func (.func F) #[] #[]) (hcb : Callable P F)
    (hc : CallsS P F as.toArray σ m R) (ha : args.toList.map (ev f) = as)
    (hn : ∀ v σ' m', Le m m' → R v σ' m' → SL P n md ops Q rest (upd f d v) σ' m')
    (hm : md.loud = true := by exact rfl) (hk : ∀ v σ' m', md.keep σ → R v σ' m' → md.keep σ' := by first | exact fun _ _ _ _ _ => True.intro | exact fun _ _ _ _ _ => Sub.nil _ | exact fun _ _ _ h ⟨_, e, _⟩ => by rw [e]; exact Sub.left _ h) :
    SL P n md ops Q (⟨some d, .call ⟨.value cal, args, ats⟩, t, pos, after, none⟩ :: rest) f σ m := by
  cases md with
  | quiet => cases hm
  | still => cases hm
  | plain =>
    intro g W a hC hF
    refine wpList_plain rfl fun K hK => ?_
    have hrun := run_call (dst := some d) (t := t) (pos := pos) (after := after) (ats := ats) (gd := none) hf hcb ha W
    unfold Oper.wp
    rw [hF.eval, hrun, Oper.upon_enter]
    refine (hc g W hC).mono fun e W' ⟨v, σ', m', he, hC', hl, hR⟩ => ?_
    subst he
    exact hK _ _ (hn v σ' m' hl hR g W' _ hC' (hF.put hdn v))
  | drawn σ₀ =>
    intro hs g W hC
    refine ⟨σ, m, hC, Le.refl m, hs, fun d' e => (by cases e; exact hdn), .inr ⟨rfl, rfl, fun a hF => ?_⟩⟩
    have hrun := run_call (dst := some d) (t := t) (pos := pos) (after := after) (ats := ats) (gd := none) hf hcb ha W
    unfold Oper.wp
    rw [hF.eval, hrun, Oper.upon_enter]
    refine (hc g W hC).mono fun e W' ⟨v, σ', m', he, hC', hl, hR⟩ => ?_
    subst he
    have := hk v σ' m' hs hR
    exact ⟨v, σ', m', hF.put hdn v, hC', hl, this, hn v σ' m' hl hR this⟩

theorem SL_call0 {ops : Array Oper} {rest : List Oper} {t : TypeId} {pos : String} {after : Array Edge} {cal : Operand} {F : FuncId} {args : Array Operand} {ats : Array TypeId} {as : List Value} {R : Value → Sig → Mem → Prop} 
    (hf : ev f cal = .func (.func F) #[] #[]) (hcb : Callable P F)
    (hc : CallsS P F as.toArray σ m R) (ha : args.toList.map (ev f) = as)
    (hn : ∀ v σ' m', Le m m' → R v σ' m' → SL P n md ops Q rest f σ' m')
    (hm : md.loud = true := by exact rfl) (hk : ∀ v σ' m', md.keep σ → R v σ' m' → md.keep σ' := by first | exact fun _ _ _ _ _ => True.intro | exact fun _ _ _ _ _ => Sub.nil _ | exact fun _ _ _ h ⟨_, e, _⟩ => by rw [e]; exact Sub.left _ h) :
    SL P n md ops Q (⟨none, .call ⟨.value cal, args, ats⟩, t, pos, after, none⟩ :: rest) f σ m := by
  cases md with
  | quiet => cases hm
  | still => cases hm
  | plain =>
    intro g W a hC hF
    refine wpList_plain rfl fun K hK => ?_
    have hrun := run_call (dst := none) (t := t) (pos := pos) (after := after) (ats := ats) (gd := none) hf hcb ha W
    unfold Oper.wp
    rw [hF.eval, hrun, Oper.upon_enter]
    refine (hc g W hC).mono fun e W' ⟨v, σ', m', he, hC', hl, hR⟩ => ?_
    subst he
    exact hK _ _ (hn v σ' m' hl hR g W' _ hC' (hF.put_none v))
  | drawn σ₀ =>
    intro hs g W hC
    refine ⟨σ, m, hC, Le.refl m, hs, fun d' e => (by cases e), .inr ⟨rfl, rfl, fun a hF => ?_⟩⟩
    have hrun := run_call (dst := none) (t := t) (pos := pos) (after := after) (ats := ats) (gd := none) hf hcb ha W
    unfold Oper.wp
    rw [hF.eval, hrun, Oper.upon_enter]
    refine (hc g W hC).mono fun e W' ⟨v, σ', m', he, hC', hl, hR⟩ => ?_
    subst he
    have := hk v σ' m' hs hR
    exact ⟨v, σ', m', hF.put_none v, hC', hl, this, hn v σ' m' hl hR this⟩

/-- A call whose result is known and which leaves memory as it is. -/
def PureCall (P : Program) (F : FuncId) (args : List Value) (m : Mem) (v : Value) : Prop := ∀ σ, CallsS P F args.toArray σ m fun u σ' m' => u = v ∧ σ' = σ ∧ m' = m

theorem SL_pcallS {ops : Array Oper} {rest : List Oper} {d : Nat} {t : TypeId} {pos : String} {after : Array Edge} {cal : Operand} {F : FuncId} {args : Array Operand} {ats : Array TypeId} {as : List Value} {v : Value} 
    (hdn : Nat.blt d n = true) (hf : ev f cal = .func (.func F) #[] #[]) (hcb : Callable P F)
    (hc : CallsS P F as.toArray σ m fun u σ' m' => u = v ∧ σ' = σ ∧ m' = m) (ha : args.toList.map (ev f) = as)
    (hn : SL P n md ops Q rest (upd f d v) σ m) (hst : md.isStill = false := by exact rfl) :
    SL P n md ops Q (⟨some d, .call ⟨.value cal, args, ats⟩, t, pos, after, none⟩ :: rest) f σ m := by
  cases md with
  | plain => exact SL_call hdn hf hcb hc ha fun u σ' m' _ ⟨h1, h2, h3⟩ => by subst h1; subst h2; subst h3; exact hn
  | still => cases hst
  | quiet =>
    intro g a hF
    unfold wpQuiet
    rw [if_pos (by simp [Region.wanted])]
    refine ⟨v, fun W hC => ?_, hn g _ (hF.put hdn v)⟩
    have hrun := run_call (dst := some d) (t := t) (pos := pos) (after := after) (ats := ats) (gd := none) hf hcb ha W
    unfold Oper.quietAt
    rw [hF.eval, hrun]
    refine ⟨rfl, ?_⟩
    refine (hc g W hC).mono fun e W' ⟨u, σ', m', he, hC', hl, h1, h2, h3⟩ => ?_
    subst h1; subst h2; subst h3
    exact ⟨he, hC'⟩
  | drawn σ₀ =>
    intro hs
    exact SL_call (md := .drawn σ₀) hdn hf hcb hc ha (fun u σ' m' _ ⟨h1, h2, h3⟩ => by subst h1; subst h2; subst h3; exact hn) rfl (fun u σ' m' hl ⟨h1, h2, h3⟩ => by subst h2; exact hs) hs

theorem SL_pcall {ops : Array Oper} {rest : List Oper} {d : Nat} {t : TypeId} {pos : String} {after : Array Edge} {cal : Operand} {F : FuncId} {args : Array Operand} {ats : Array TypeId} {as : List Value} {v : Value} 
    (hdn : Nat.blt d n = true) (hf : ev f cal = .func (.func F) #[] #[]) (hcb : Callable P F)
    (hc : PureCall P F as m v) (ha : args.toList.map (ev f) = as)
    (hn : SL P n md ops Q rest (upd f d v) σ m) (hst : md.isStill = false := by exact rfl) :
    SL P n md ops Q (⟨some d, .call ⟨.value cal, args, ats⟩, t, pos, after, none⟩ :: rest) f σ m :=
  SL_pcallS hdn hf hcb (hc σ) ha hn hst

/-- A call that reads some of what is owned, and changes nothing. -/
theorem CallsS.pureIn {F : FuncId} {args : Array Value} {v : Value} {σ₀ : Sig} (h : CallsS P F args σ₀ m fun u σ' m' => u = v ∧ σ' = σ₀ ∧ m' = m) (hs : Sub σ₀ σ) : CallsS P F args σ m fun u σ' m' => u = v ∧ σ' = σ ∧ m' = m := by
  obtain ⟨τ, hτ⟩ := hs
  intro g W hC
  refine (CallsS.frame τ h g W (hC.perm hτ)).mono fun e W' ⟨u, σ', m', he, hC', hl, σ₁, h1, h2, h3, h4⟩ => ?_
  subst h1; subst h3; subst h4
  exact ⟨u, σ, m', he, hC'.perm hτ.symm, Le.refl _, h2, rfl, rfl⟩

theorem CallsS.perm1 {F : FuncId} {args : Array Value} {σ₀ : Sig} {R : Value → Sig → Mem → Prop} (h : CallsS P F args σ₀ m R) (hs : σ.Perm σ₀) : CallsS P F args σ m R :=
  fun g W hC => h g W (hC.perm hs)

/-- A call that works on some of what is owned. -/
theorem CallsS.subF {F : FuncId} {args : Array Value} {σ₀ : Sig} {R : Value → Sig → Mem → Prop} (τ : Sig) (h : CallsS P F args σ₀ m R) (hs : σ.Perm (σ₀ ++ τ)) : CallsS P F args σ m fun u σ' m' => ∃ σ₁, σ' = σ₁ ++ τ ∧ R u σ₁ m' :=
  fun g W hC => CallsS.frame τ h g W (hC.perm hs)

/-- At the end of a function whose result is known: what it made is forgotten. -/
theorem CallsS.pure {F : FuncId} {args : List Value} {v : Value} (h : CallsS P F args.toArray [] m fun u _ _ => u = v) : PureCall P F args m v := by
  intro τ g W hC
  have h' := CallsS.frame τ h
  rw [List.nil_append] at h'
  refine (h' g W hC).mono fun e W' ⟨u, σ', m', he, hC', hl, σ₁, h1, h2⟩ => ?_
  subst h1
  exact ⟨u, τ, m, he, (hC'.sublist (List.sublist_append_right σ₁ τ)).weaken_mem hC.base hl, Le.refl m, h2, rfl, rfl⟩
end
end Eng
end Go.Proofs.Ytkopdlglenejmaa
