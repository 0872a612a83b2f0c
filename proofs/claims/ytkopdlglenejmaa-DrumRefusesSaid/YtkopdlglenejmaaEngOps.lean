/- The engine, part 2: the types' table, and the operations that leave memory as it is; loads, stores, new blocks. -/
import Derived.Test.YtkopdlglenejmaaEng
import Derived.ChangeKeysEq
namespace Go.Proofs.Ytkopdlglenejmaa
namespace Eng

/-! ## The types' table -/

inductive TK where
  | bool | int (k : IntKind) | str
  | slice (e : Nat) | arr (len e : Nat) | struct (fs : List (Nat × Nat))
  | ptr (e : Nat) | map (k e : Nat) | other

structure TI where
  k : TK
  agg : Bool
  size : Nat
  bytes : Nat
  zero : Value

def DescOk : TypeDesc → TK → Prop
  | .bool, .bool => True
  | .int k, .int k' => k = k'
  | .string, .str => True
  | .slice e, .slice e' => e = e'
  | .array n e, .arr n' e' => n = n' ∧ e = e'
  | .struct fs, .struct l => fs.toList.map (fun f => (f.offset, f.type)) = l
  | .pointer e, .ptr e' => e = e'
  | .map k e, .map k' e' => k = k' ∧ e = e'
  | _, .other => True
  | _, _ => False

structure TyEntry (P : Program) (t : Nat) (i : TI) : Prop where
  desc : ∃ d, P.underlying t = some d ∧ DescOk d i.k ∧ (match d with | .struct _ | .array _ _ => true | _ => false) = i.agg
  info : (P.info? t).map (fun x => (x.zero, x.size, x.bytes)) = some (some i.zero, i.size, i.bytes)

abbrev TyTab := List (Nat × TI)
def tyGet : TyTab → Nat → Option TI
  | [], _ => none
  | (k, i) :: r, t => bif Nat.beq t k then some i else tyGet r t

class TyOk (P : Program) (T : outParam TyTab) : Prop where
  ok : ∀ x ∈ T, TyEntry P x.1 x.2

theorem TyOk.get {P : Program} {T : TyTab} [h : TyOk P T] {t : Nat} {i : TI} (hg : tyGet T t = some i) : TyEntry P t i := by
  have key : ∀ l : TyTab, (∀ x ∈ l, TyEntry P x.1 x.2) → tyGet l t = some i → TyEntry P t i := by
    intro l
    induction l with
    | nil => intro _ h; cases h
    | cons x l ih =>
      intro hx h
      obtain ⟨k, j⟩ := x
      simp only [tyGet] at h
      cases hb : Nat.beq t k with
      | true =>
        rw [hb] at h
        simp only [cond_true, Option.some.injEq] at h
        subst h
        rw [Nat.eq_of_beq_eq_true hb]
        exact hx (k, j) (List.mem_cons_self ..)
      | false =>
        rw [hb] at h
        exact ih (fun x hx' => hx x (List.mem_cons_of_mem _ hx')) h
  exact key T h.ok hg

section
variable {P : Program} {t : Nat} {i : TI}
theorem TyEntry.isAgg (h : TyEntry P t i) (W : World) : (isAgg t).run P W = .ok i.agg W := by
  obtain ⟨d, h1, _, h3⟩ := h.desc
  unfold Go.isAgg
  simp only [Sem.run_bind, run_underlying h1, Result.andThen_ok, ← h3]
  cases d <;> rfl
theorem TyEntry.infoEx (h : TyEntry P t i) : ∃ x, P.info? t = some x ∧ x.zero = some i.zero ∧ x.size = i.size ∧ x.bytes = i.bytes := by
  obtain ⟨x, hx, hh⟩ := Option.map_eq_some_iff.1 h.info
  simp only [Prod.mk.injEq] at hh
  exact ⟨x, hx, hh.1, hh.2.1, hh.2.2⟩
theorem run_tinfo {x : TypeInfo} (h : P.info? t = some x) (W : World) : (typeInfo t).run P W = .ok x W := by
  simp [typeInfo, program, Sem.run, h]
theorem TyEntry.sizeOf (h : TyEntry P t i) (W : World) : (sizeOf t).run P W = .ok i.size W := by
  obtain ⟨x, hx, _, hs, _⟩ := h.infoEx
  unfold Go.sizeOf
  simp only [Sem.run_bind, run_tinfo hx, Result.andThen_ok, Sem.run_pure, hs]
theorem TyEntry.zeroOf (h : TyEntry P t i) (W : World) : (zeroValue t).run P W = .ok i.zero W := by
  obtain ⟨x, hx, hz, _, _⟩ := h.infoEx
  unfold Go.zeroValue
  simp only [Sem.run_bind, run_tinfo hx, Result.andThen_ok, hz, Sem.run_pure]
end

/-! ## Operations that only compute -/

def kBeq : IntKind → IntKind → Bool
  | .i8, .i8 | .i16, .i16 | .i32, .i32 | .i64, .i64 | .u8, .u8 | .u16, .u16 | .u32, .u32 | .u64, .u64 => true
  | _, _ => false
theorem kBeq_eq {a b : IntKind} (h : kBeq a b = true) : a = b := by cases a <;> cases b <;> first | rfl | cases h

def intV (op : BinOp) (k : IntKind) (a b : Int) : Option Value :=
  match op with
  | .add => some (.int k (k.wrap (a + b)))
  | .sub => some (.int k (k.wrap (a - b)))
  | .mul => some (.int k (k.wrap (a * b)))
  | .and | .or | .xor | .andNot => some (.int k (bits op k a b))
  | .eql => some (.bool (decide (a = b)))
  | .neq => some (.bool (decide (a ≠ b)))
  | .lss => some (.bool (decide (a < b)))
  | .leq => some (.bool (decide (a ≤ b)))
  | .gtr => some (.bool (decide (b < a)))
  | .geq => some (.bool (decide (b ≤ a)))
  | _ => none

def strV (op : BinOp) (a b : ByteArray) : Option Value :=
  match op with
  | .eql => some (.bool (decide (a = b)))
  | .neq => some (.bool (decide (a ≠ b)))
  | .lss => some (.bool (Op.bytesLess a.toList b.toList))
  | .leq => some (.bool (Op.bytesLess a.toList b.toList || decide (a = b)))
  | .gtr => some (.bool (!(Op.bytesLess a.toList b.toList || decide (a = b))))
  | .geq => some (.bool (!Op.bytesLess a.toList b.toList))
  | _ => none

def isBoolTy (T : TyTab) (t : Nat) : Bool := match tyGet T t with | some ⟨.bool, _, _, _, _⟩ => true | _ => false
def isStrTy (T : TyTab) (t : Nat) : Bool := match tyGet T t with | some ⟨.str, _, _, _, _⟩ => true | _ => false
def isSliceTy (T : TyTab) (t : Nat) : Bool := match tyGet T t with | some ⟨.slice _, _, _, _, _⟩ => true | _ => false
def isMapTy (T : TyTab) (t : Nat) : Bool := match tyGet T t with | some ⟨.map _ _, _, _, _, _⟩ => true | _ => false

def binV (T : TyTab) (op : BinOp) (t : Nat) (x y : Value) : Option Value :=
  match x, y with
  | .int k a, .int k' b => bif kBeq k k' then intV op k a b else none
  | .string a, .string b => strV op a b
  | .bool a, .bool b => bif isBoolTy T t then (match op with | .eql => some (.bool (decide (a = b))) | .neq => some (.bool (decide (a ≠ b))) | _ => none) else none
  | .pointer a, .pointer none => (match op, tyGet T t with | .eql, some ⟨.ptr _, _, _, _, _⟩ => some (.bool a.isNone) | .neq, some ⟨.ptr _, _, _, _, _⟩ => some (.bool (!a.isNone)) | _, _ => none)
  | .slice a _ _, .slice none _ _ => bif isSliceTy T t then (match op with | .eql => some (.bool a.isNone) | .neq => some (.bool (!a.isNone)) | _ => none) else none
  | .map a, .map none => bif isMapTy T t then (match op with | .eql => some (.bool a.isNone) | .neq => some (.bool (!a.isNone)) | _ => none) else none
  | _, _ => none

def partV (T : TyTab) (t : Nat) (cs : List Value) (off : Nat) : Option Value :=
  match tyGet T t with
  | some i => bif i.agg then some (.agg ((cs.drop off).take i.size).toArray) else cs[off]?
  | none => none

def fieldV (T : TyTab) (t : Nat) (cs : List Value) (j : Nat) : Option Value :=
  match tyGet T t with
  | some ⟨.struct fs, _, _, _, _⟩ => match fs[j]? with
    | some (off, ft) => partV T ft cs off
    | none => none
  | _ => none

/-- Parts are laid into a row of cells. -/
def laySeg : List Value → Nat → List Value → List Value
  | cs, _, [] => cs
  | cs, off, v :: r => laySeg (cs.set off v) (off + 1) r
def layAll (place : Nat → Option (Nat × Nat)) : List (Nat × Value) → List Value → Option (List Value)
  | [], cs => some cs
  | (i, v) :: r, cs => match place i with
    | some (off, size) => bif Nat.beq v.cells.toList.length size && Nat.ble (off + size) cs.length then layAll place r (laySeg cs off v.cells.toList) else none
    | none => none
def fieldPlaces (T : TyTab) (fs : List (Nat × Nat)) (j : Nat) : Option (Nat × Nat) :=
  match fs[j]? with
  | some (off, ft) => match tyGet T ft with | some i => some (off, i.size) | none => none
  | none => none
def fieldsKnown (T : TyTab) : List (Nat × Nat) → Bool
  | [] => true
  | (_, ft) :: r => (tyGet T ft).isSome && fieldsKnown T r
def buildV (T : TyTab) (t : Nat) (parts : List (Nat × Value)) : Option Value :=
  match tyGet T t with
  | some ⟨.struct fs, _, _, _, z⟩ => bif fieldsKnown T fs then (match layAll (fieldPlaces T fs) parts z.cells.toList with | some cs => some (.agg cs.toArray) | none => none) else none
  | some ⟨.arr _ e, _, _, _, z⟩ => (match tyGet T e with
    | some i => (match layAll (fun j => some (j * i.size, i.size)) parts z.cells.toList with | some cs => some (.agg cs.toArray) | none => none)
    | none => none)
  | _ => none

def lenV (T : TyTab) (t : Nat) (x : Value) : Option Value :=
  match tyGet T t, x with
  | some ⟨.str, _, _, _, _⟩, .string s => some (.int .i64 (s.size : Nat))
  | some ⟨.slice _, _, _, _, _⟩, .slice _ n _ => some (.int .i64 (n : Nat))
  | some ⟨.arr n _, _, _, _, _⟩, _ => some (.int .i64 (n : Nat))
  | some ⟨.map _ _, _, _, _, _⟩, .map none => some (.int .i64 (0 : Nat))
  | _, _ => none

def fieldAddrV (T : TyTab) (t : Nat) (x : Value) (j : Nat) : Option Value :=
  match tyGet T t, x with
  | some ⟨.struct fs, _, _, _, _⟩, .pointer (some a) => match fs[j]? with
    | some (off, ft) => match tyGet T ft with
      | some i => bif Nat.beq i.size 0 then none else some (.pointer (some (a.add off)))
      | none => none
    | none => none
  | _, _ => none

def pureV (T : TyTab) (op : Op) (ρ : Operand → Value) : Option Value :=
  match op with
  | .move x | .assign x => some (ρ x)
  | .pick c a b => match ρ c with | .bool t => some (bif t then ρ a else ρ b) | _ => none
  | .binOp op t x y _ => binV T op t (ρ x) (ρ y)
  | .unOp .not _ x => match ρ x with | .bool b => some (.bool (!b)) | _ => none
  | .unOp .neg _ x => match ρ x with | .int k n => some (.int k (k.wrap (0 - n))) | _ => none
  | .convert s d x => match tyGet T s, tyGet T d, ρ x with
    | some _, some ⟨.int k, _, _, _, _⟩, .int _ n => some (.int k (k.wrap n))
    | some _, some ⟨.str, _, _, _, _⟩, .string s => some (.string s)
    | _, _, _ => none
  | .field t x j => match ρ x with | .agg cs => fieldV T t cs.toList j | _ => none
  | .fieldAddr t x j => fieldAddrV T t (ρ x) j
  | .build t parts => buildV T t (parts.toList.map fun p => (p.1, ρ p.2))
  | .extract x j => match ρ x with | .tuple vs => vs.toList[j]? | _ => none
  | .nilCheck x => match ρ x with | .pointer (some a) => some (.pointer (some a)) | _ => none
  | .makeFunc fn first captured => some (.func fn (first.toList.map ρ).toArray (captured.toList.map ρ).toArray)
  | .call ⟨.builtin .len, args, ats⟩ => match ats.toList, args.toList with
    | t :: _, x :: _ => lenV T t (ρ x)
    | _, _ => none
  | .call ⟨.builtin .max, args, _⟩ => match args.toList with
    | [x, y] => (match ρ x, ρ y with | .int k a, .int _ b => some (.int k (max a b)) | _, _ => none)
    | _ => none
  | .call ⟨.builtin .min, args, _⟩ => match args.toList with
    | [x, y] => (match ρ x, ρ y with | .int k a, .int _ b => some (.int k (min a b)) | _, _ => none)
    | _ => none
  | _ => none

section
variable {P : Program} {T : TyTab} [TyOk P T]

theorem run_eqGuard_of (op : BinOp) (t : TypeId) (x y : Operand) {a b : Value} (h : (match a, b with | .nilIface, .nilIface => false | .agg _, .agg _ => false | _, _ => true) = true) (W : World) :
    (eqGuard op t x y a b).run P W = .ok () W := by
  cases op <;> first | rfl | (cases a <;> cases b <;> first | rfl | cases h)

theorem byteArray_beq (a b : ByteArray) : (a.toList == b.toList) = decide (a = b) := by
  rw [ByteArray.toList_eq, ByteArray.toList_eq]
  by_cases h : a = b
  · subst h; simp
  · have : ¬ a.data = b.data := fun e => h (ByteArray.ext e)
    simp [h, this]

theorem run_equal_of {t : TypeId} {x y : Value} {b : Bool} {W : World} (h : ∀ d, (Op.equalIn (d + 1) t x y).run P W = .ok b W) : (Op.equal t x y).run P W = .ok b W := h 9999

theorem binOp_eql_of {t : TypeId} {x y : Value} {b : Bool} {W : World} (h : ∀ d, (Op.equalIn (d + 1) t x y).run P W = .ok b W)
    (hx : (match x, y with | .bool _, .bool _ => true | .pointer _, .pointer _ => true | .slice _ _ _, .slice _ _ _ => true | .map _, .map _ => true | .agg _, .agg _ => true | .nilFunc, _ => true | .func _ _ _, _ => true | _, _ => false) = true) :
    (binOp .eql t x y).run P W = .ok (.bool b) W ∧ (binOp .neq t x y).run P W = .ok (.bool (!b)) W := by
  have h1 := run_equal_of h
  constructor <;> cases x <;> (first | cases hx | skip) <;> cases y <;> first | (cases hx; done) | (simp only [binOp, Sem.run_bind, h1, Result.andThen_ok, Sem.run_pure])

theorem binV_ok {op : BinOp} {t : Nat} {xo yo : Operand} {x y v : Value} (h : binV T op t x y = some v) (W : World) :
    (do eqGuard op t xo yo x y; binOp op t x y : Sem Value).run P W = .ok v W := by
  unfold binV at h
  split at h
  · rename_i k a k' b
    cases hk : kBeq k k' with
    | false => rw [hk] at h; cases h
    | true =>
      rw [hk] at h
      obtain rfl := kBeq_eq hk
      simp only [cond_true] at h
      rw [Sem.run_bind, run_eqGuard_of op t xo yo rfl]
      simp only [Result.andThen_ok]
      cases op <;> simp only [intV, Option.some.injEq, reduceCtorEq] at h <;> (try subst h) <;>
        simp [binOp, Op.intArith, Op.intCmp, Op.intBits, bits, bne] <;> (try rfl)
      all_goals (try (by_cases e : a = b <;> simp [e]))
  · rename_i a b
    rw [Sem.run_bind, run_eqGuard_of op t xo yo rfl]
    simp only [Result.andThen_ok]
    cases op <;> simp only [strV, Option.some.injEq, reduceCtorEq] at h <;> (try subst h) <;> simp [binOp, Op.stringOp, byteArray_beq]
  · rename_i a b
    unfold isBoolTy at h
    split at h
    · rename_i hg
      obtain ⟨d, h1, h2, _⟩ := (TyOk.get (P := P) hg).desc
      have : d = .bool := by cases d <;> simp [DescOk] at h2 ⊢
      subst this
      rw [Sem.run_bind, run_eqGuard_of op t xo yo rfl]
      simp only [Result.andThen_ok]
      simp only [cond_true] at h
      have hb := binOp_eql_of (P := P) (W := W) (t := t) (x := .bool a) (y := .bool b) (b := a == b) (fun d => run_equalIn_bool W d t a b h1) rfl
      cases op <;> simp only [Option.some.injEq, reduceCtorEq] at h <;> subst h
      · rw [hb.1]; cases a <;> cases b <;> rfl
      · rw [hb.2]; cases a <;> cases b <;> rfl
    · cases h
  · rename_i a
    have key : ∀ {e : Nat} {ag : Bool} {s b : Nat} {z : Value}, tyGet T t = some ⟨.ptr e, ag, s, b, z⟩ → (binOp .eql t (.pointer a) (.pointer none)).run P W = .ok (.bool a.isNone) W ∧ (binOp .neq t (.pointer a) (.pointer none)).run P W = .ok (.bool (!a.isNone)) W := by
      intro e ag s b z hg
      obtain ⟨d, h1, h2, _⟩ := (TyOk.get (P := P) hg).desc
      have : ∃ e, d = .pointer e := by cases d <;> simp [DescOk] at h2 ⊢
      obtain ⟨e, rfl⟩ := this
      refine binOp_eql_of (fun d => ?_) rfl
      cases a <;> simp [Op.equalIn, run_underlying h1]
    rw [Sem.run_bind, run_eqGuard_of _ t xo yo rfl]
    simp only [Result.andThen_ok]
    split at h
    · rename_i hg
      simp only [Option.some.injEq] at h
      subst h
      exact (key hg).1
    · rename_i hg
      simp only [Option.some.injEq] at h
      subst h
      exact (key hg).2
    · cases h
  · rename_i a n1 c1 n2 c2
    unfold isSliceTy at h
    split at h
    · rename_i hg
      obtain ⟨d, h1, h2, _⟩ := (TyOk.get (P := P) hg).desc
      have : ∃ e, d = .slice e := by cases d <;> simp [DescOk] at h2 ⊢
      obtain ⟨e, rfl⟩ := this
      have hb := binOp_eql_of (P := P) (W := W) (t := t) (x := .slice a n1 c1) (y := .slice none n2 c2) (b := a.isNone) (fun d => by cases a <;> simp [Op.equalIn, run_underlying h1]) rfl
      rw [Sem.run_bind, run_eqGuard_of op t xo yo rfl]
      simp only [Result.andThen_ok]
      simp only [cond_true] at h
      cases op <;> simp only [Option.some.injEq, reduceCtorEq] at h <;> subst h
      · exact hb.1
      · exact hb.2
    · cases h
  · rename_i a
    unfold isMapTy at h
    split at h
    · rename_i hg
      obtain ⟨d, h1, h2, _⟩ := (TyOk.get (P := P) hg).desc
      have : ∃ k e, d = .map k e := by cases d <;> simp [DescOk] at h2 ⊢
      obtain ⟨k, e, rfl⟩ := this
      have hb := binOp_eql_of (P := P) (W := W) (t := t) (x := .map a) (y := .map none) (b := a.isNone) (fun d => by cases a <;> simp [Op.equalIn, run_underlying h1]) rfl
      rw [Sem.run_bind, run_eqGuard_of op t xo yo rfl]
      simp only [Result.andThen_ok]
      simp only [cond_true] at h
      cases op <;> simp only [Option.some.injEq, reduceCtorEq] at h <;> subst h
      · exact hb.1
      · exact hb.2
    · cases h
  · cases h

theorem partV_ok {t : Nat} {cs : List Value} {off : Nat} {v : Value} (h : partV T t cs off = some v) (W : World) : (part t cs.toArray off).run P W = .ok v W := by
  unfold partV at h
  split at h
  · rename_i i hg
    have he := TyOk.get (P := P) hg
    unfold part
    cases ha : i.agg with
    | true =>
      rw [ha] at h
      simp only [cond_true, Option.some.injEq] at h
      subst h
      simp [Sem.run_bind, he.isAgg, ha, he.sizeOf, List.extract_eq_take_drop]
    | false =>
      rw [ha] at h
      simp only [cond_false] at h
      simp [Sem.run_bind, he.isAgg, ha, h]
  · cases h

theorem fieldV_ok {t : Nat} {cs : Array Value} {j : Nat} {v : Value} (h : fieldV T t cs.toList j = some v) (W : World) : (Instr.field t (.agg cs) j).run P W = .ok v W := by
  unfold fieldV at h
  split at h
  · rename_i fs _ _ _ _ hg
    obtain ⟨d, h1, h2, _⟩ := (TyOk.get (P := P) hg).desc
    have : ∃ F : Array Field, d = .struct F ∧ F.toList.map (fun f => (f.offset, f.type)) = fs := by cases d <;> simp [DescOk] at h2 ⊢; exact h2
    obtain ⟨F, rfl, hF⟩ := this
    split at h
    · rename_i off ft hf
      rw [← hF, List.getElem?_map] at hf
      obtain ⟨fld, hfl, he⟩ := Option.map_eq_some_iff.1 hf
      simp only [Prod.mk.injEq] at he
      obtain ⟨rfl, rfl⟩ := he
      have hfl' : F[j]? = some fld := by simpa using hfl
      have hp := partV_ok (P := P) h W
      simp only [Array.toArray_toList] at hp
      simp [Instr.field, run_underlying h1, hfl', asAgg, hp]
    · cases h
  · cases h

theorem laySeg_fold (l : List Value) : ∀ (cs : List Value) (off i : Nat), (l.zipIdx i).foldl (fun (cs : Array Value) (x : Value × Nat) => cs.setIfInBounds (off + x.2) x.1) cs.toArray = (laySeg cs (off + i) l).toArray := by
  induction l with
  | nil => intro cs off i; rfl
  | cons v l ih =>
    intro cs off i
    simp only [List.zipIdx_cons, List.foldl_cons, laySeg]
    rw [List.setIfInBounds_toArray, ih]
    rfl

theorem laySeg_length (l : List Value) : ∀ (cs : List Value) (off : Nat), (laySeg cs off l).length = cs.length := by
  induction l with
  | nil => intro cs off; rfl
  | cons v l ih => intro cs off; simp [laySeg, ih]

theorem layAll_fill {place place' : Nat → Option (Nat × Nat)} (hp : ∀ j x, place j = some x → place' j = some x) : ∀ (parts : List (Nat × Value)) (cs cs' : List Value), layAll place parts cs = some cs' →
    Instr.fill place' cs.toArray parts = some cs'.toArray := by
  intro parts
  induction parts with
  | nil => intro cs cs' h; simp only [layAll, Option.some.injEq] at h; subst h; rfl
  | cons x parts ih =>
    intro cs cs' h
    obtain ⟨i, v⟩ := x
    simp only [layAll] at h
    split at h
    · rename_i off size hpl
      cases hb : (Nat.beq v.cells.toList.length size && Nat.ble (off + size) cs.length) with
      | false => rw [hb] at h; cases h
      | true =>
        rw [hb] at h
        simp only [cond_true] at h
        simp only [Bool.and_eq_true] at hb
        have hs : v.cells.size = size := by simpa using Nat.eq_of_beq_eq_true hb.1
        have hsz := Nat.le_of_ble_eq_true hb.2
        simp only [Instr.fill, hp _ _ hpl]
        rw [if_neg (by simp [hs]; omega)]
        have := laySeg_fold v.cells.toList cs off 0
        have e : (v.cells.zipIdx.foldl (fun (cs : Array Value) (x : Value × Nat) => cs.setIfInBounds (off + x.2) x.1) cs.toArray) = (laySeg cs off v.cells.toList).toArray := by
          rw [← Array.foldl_toList, Array.toList_zipIdx]
          exact this
        exact (congrArg (fun z => Instr.fill place' z parts) e).trans (ih _ _ h)
    · cases h

theorem fieldsKnown_places {F : List Field} (h : fieldsKnown T (F.map fun f => (f.offset, f.type)) = true) (W : World) :
    ∃ pl : List (Nat × Nat), (F.mapM fun f => do pure (f.offset, ← sizeOf f.type) : Sem (List (Nat × Nat))).run P W = .ok pl W ∧ ∀ j x, fieldPlaces T (F.map fun f => (f.offset, f.type)) j = some x → pl[j]? = some x := by
  induction F with
  | nil => exact ⟨[], by simp, fun j x hx => by simp [fieldPlaces] at hx⟩
  | cons f F ih =>
    simp only [List.map_cons, fieldsKnown, Bool.and_eq_true] at h
    obtain ⟨pl, h1, h2⟩ := ih h.2
    obtain ⟨i, hi⟩ := Option.isSome_iff_exists.1 h.1
    have he := TyOk.get (P := P) hi
    refine ⟨(f.offset, i.size) :: pl, by simp only [List.mapM_cons, Sem.run_bind, he.sizeOf, Result.andThen_ok, Sem.run_pure, h1], fun j x hx => ?_⟩
    cases j with
    | zero => simpa [fieldPlaces, hi] using hx
    | succ j =>
      simp only [List.getElem?_cons_succ]
      refine h2 j x ?_
      simpa [fieldPlaces] using hx

theorem buildV_ok {t : Nat} {parts : List (Nat × Value)} {v : Value} (h : buildV T t parts = some v) (W : World) : (Instr.build t parts.toArray).run P W = .ok v W := by
  unfold buildV at h
  split at h
  · rename_i fs _ _ _ z hg
    have hE := TyOk.get (P := P) hg
    obtain ⟨d, h1, h2, _⟩ := hE.desc
    have : ∃ F : Array Field, d = .struct F ∧ F.toList.map (fun f => (f.offset, f.type)) = fs := by cases d <;> simp [DescOk] at h2 ⊢; exact h2
    obtain ⟨F, rfl, hF⟩ := this
    cases hk : fieldsKnown T fs with
    | false => rw [hk] at h; cases h
    | true =>
      rw [hk] at h
      simp only [cond_true] at h
      split at h
      · rename_i cs hl
        simp only [Option.some.injEq] at h
        subst h
        rw [← hF] at hk hl
        obtain ⟨pl, hp1, hp2⟩ := fieldsKnown_places (P := P) hk W
        have hz := hE.zeroOf W
        have hfl := layAll_fill (place' := fun j => (pl.toArray)[j]?) (fun j x hx => by simpa using hp2 j x hx) _ _ _ hl
        simp only [Array.toArray_toList] at hfl
        unfold Instr.build
        simp only [Sem.run_bind, hz, Result.andThen_ok, run_underlying h1, Array.mapM_eq_mapM_toList, Sem.run_map, hp1]
        rw [hfl]
        rfl
      · cases h
  · rename_i e _ _ _ z hg
    have hE := TyOk.get (P := P) hg
    obtain ⟨d, h1, h2, _⟩ := hE.desc
    have : ∃ n, d = .array n e := by cases d <;> simp [DescOk] at h2 ⊢; exact h2.2
    obtain ⟨n, rfl⟩ := this
    split at h
    · rename_i i hi
      split at h
      · rename_i cs hl
        simp only [Option.some.injEq] at h
        subst h
        have hz := hE.zeroOf W
        have hs := (TyOk.get (P := P) hi).sizeOf W
        have hfl := layAll_fill (place' := fun j => some (j * i.size, i.size)) (fun j x hx => hx) _ _ _ hl
        simp only [Array.toArray_toList] at hfl
        unfold Instr.build
        simp only [Sem.run_bind, hz, Result.andThen_ok, run_underlying h1, hs]
        simp [hfl]
      · cases h
    · cases h
  · cases h

theorem lenV_ok {t : Nat} {x v : Value} (h : lenV T t x = some v) (W : World) (ty : TypeId) (ts : List TypeId) (xs : List Value) :
    (Builtin.len_ (t :: ts).toArray ty (x :: xs).toArray).run P W = .ok v W := by
  unfold lenV at h
  split at h
  all_goals first
    | (rename_i hg
       obtain ⟨d, h1, h2, _⟩ := (TyOk.get (P := P) hg).desc
       simp only [Option.some.injEq] at h
       subst h
       cases d <;> simp [DescOk] at h2
       simp [Builtin.len_, run_underlying h1, goInt]
       try (have := h2.1; omega))
    | (cases h; done)

theorem fieldAddrV_ok {t : Nat} {x v : Value} {j : Nat} (h : fieldAddrV T t x j = some v) (W : World) : (Instr.fieldAt t x j).run P W = .ok v W := by
  unfold fieldAddrV at h
  split at h
  · rename_i fs _ _ _ _ a hg
    obtain ⟨d, h1, h2, _⟩ := (TyOk.get (P := P) hg).desc
    have : ∃ F : Array Field, d = .struct F ∧ F.toList.map (fun f => (f.offset, f.type)) = fs := by cases d <;> simp [DescOk] at h2 ⊢; exact h2
    obtain ⟨F, rfl, hF⟩ := this
    split at h
    · rename_i off ft hf
      rw [← hF, List.getElem?_map] at hf
      obtain ⟨fld, hfl, he⟩ := Option.map_eq_some_iff.1 hf
      simp only [Prod.mk.injEq] at he
      obtain ⟨rfl, rfl⟩ := he
      have hfl' : F[j]? = some fld := by simpa using hfl
      split at h
      · rename_i i hi
        have hs := (TyOk.get (P := P) hi).sizeOf W
        cases hz : Nat.beq i.size 0 with
        | true => rw [hz] at h; cases h
        | false =>
          rw [hz] at h
          simp only [cond_false, Option.some.injEq] at h
          subst h
          have hne : ¬ i.size = 0 := fun e => by rw [e] at hz; cases hz
          simp [Instr.fieldAt, run_underlying h1, hfl', Instr.sureAddr, fieldPlace, hs, hne]
      · cases h
    · cases h
  · cases h

theorem pureV_ok {op : Op} {ρ : Operand → Value} {v : Value} (h : pureV T op ρ = some v) (dst : Option Tmp) (ty : TypeId) (pos : String) (after : Array Edge) (gd : Option (Nat × Bool)) (W : World) :
    (execOp ρ ⟨dst, op, ty, pos, after, gd⟩).run P W = .ok (.value v) W := by
  unfold pureV at h
  split at h
  · simp only [Option.some.injEq] at h; subst h; rfl
  · simp only [Option.some.injEq] at h; subst h; rfl
  · rename_i c a b
    split at h
    · rename_i t ht
      simp only [Option.some.injEq] at h
      subst h
      cases t <;> simp [execOp, ht, asBool]
    · cases h
  · rename_i op t x y z
    have := binV_ok (P := P) (xo := x) (yo := y) h W
    simp only [execOp]
    simp only [Sem.run_bind] at this ⊢
    rw [this]
    rfl
  · rename_i t x
    split at h
    · rename_i b hx
      simp only [Option.some.injEq] at h
      subst h
      simp [execOp, hx, Op.unary]
    · cases h
  · rename_i t x
    split at h
    · rename_i k n hx
      simp only [Option.some.injEq] at h
      subst h
      simp [execOp, hx, Op.unary, Op.intArith]
    · cases h
  · rename_i sT dT x
    split at h
    · rename_i _ _ _ _ _ _ _ _ hs hd hx
      obtain ⟨d1, h1, _, _⟩ := (TyOk.get (P := P) hs).desc
      obtain ⟨d2, h2, h3, _⟩ := (TyOk.get (P := P) hd).desc
      simp only [Option.some.injEq] at h
      subst h
      cases d2 <;> simp [DescOk] at h3
      subst h3
      simp [execOp, hx, convert, run_underlying h1, run_underlying h2, Conv.intToInt]
    · rename_i hs hd hx
      obtain ⟨d1, h1, _, _⟩ := (TyOk.get (P := P) hs).desc
      obtain ⟨d2, h2, h3, _⟩ := (TyOk.get (P := P) hd).desc
      simp only [Option.some.injEq] at h
      subst h
      cases d2 <;> simp [DescOk] at h3
      simp [execOp, hx, convert, run_underlying h1, run_underlying h2]
    · cases h
  · rename_i t x j
    split at h
    · rename_i cs hx
      have := fieldV_ok (P := P) h W
      simp [execOp, hx, this]
    · cases h
  · have := fieldAddrV_ok (P := P) h W
    simp [execOp, this]
  · rename_i t parts
    have := buildV_ok (P := P) h W
    have e : (parts.toList.map fun p => (p.1, ρ p.2)).toArray = parts.map fun p => (p.1, ρ p.2) := by cases parts; simp
    rw [e] at this
    simp only [execOp, Sem.run_bind]
    rw [show (fun (x : Nat × Operand) => match x with | (i, x) => (i, ρ x)) = fun p => (p.1, ρ p.2) from rfl, this]
    rfl
  · rename_i x j
    split at h
    · rename_i vs hx
      have h' : vs[j]? = some v := by simpa using h
      simp [execOp, hx, Instr.extract, h']
    · cases h
  · rename_i x
    split at h
    · rename_i a hx
      simp only [Option.some.injEq] at h
      subst h
      simp [execOp, hx]
    · cases h
  · rename_i fn first captured
    simp only [Option.some.injEq] at h
    subst h
    have e1 : (first.toList.map ρ).toArray = first.map ρ := by cases first; simp
    have e2 : (captured.toList.map ρ).toArray = captured.map ρ := by cases captured; simp
    simp [execOp, Instr.makeFunc, e1, e2]
  · rename_i args ats
    split at h
    · rename_i t ts x xs ht hx
      have ea : ats = (t :: ts).toArray := by rw [← ht]
      have eb : args.map ρ = (ρ x :: xs.map ρ).toArray := by
        have : args = (x :: xs).toArray := by rw [← hx]
        rw [this]; simp
      have := lenV_ok (P := P) h W ty ts (xs.map ρ)
      simp only [execOp, resolve, Sem.run_bind, Sem.run_pure, Result.andThen_ok, invoke, builtin, eb, ea, this]
    · cases h
  · rename_i args ats
    split at h
    · rename_i x y hx
      split at h
      · rename_i k a k' b h1 h2
        simp only [Option.some.injEq] at h
        subst h
        have eb : args = #[x, y] := by cases args; simpa using hx
        subst eb
        have e : (if b > a then b else a) = max a b := by omega
        simp [execOp, resolve, invoke, builtin, Builtin.max_, Builtin.max2, h1, h2, e]
      · cases h
    · cases h
  · rename_i args ats
    split at h
    · rename_i x y hx
      split at h
      · rename_i k a k' b h1 h2
        simp only [Option.some.injEq] at h
        subst h
        have eb : args = #[x, y] := by cases args; simpa using hx
        subst eb
        have e : (if b < a then b else a) = min a b := by omega
        simp [execOp, resolve, invoke, builtin, Builtin.min_, Builtin.min2, h1, h2, e]
      · cases h
    · cases h
  · cases h

/-! ## The rules -/

variable {n : Nat} {md : Mode} {Q : APost} {f : Fr} {σ : Sig} {m : Mem} {ops : Array Oper} {rest : List Oper} {d : Nat} {op : Op} {ty : TypeId} {pos : String} {after : Array Edge}

/-- An operation that only computes. -/
theorem pu {v : Value} (hv : pureV T op (ev f) = some v) (hdn : Nat.blt d n = true) (h : SL P n md ops Q rest (upd f d v) σ m) : SL P n md ops Q (⟨some d, op, ty, pos, after, none⟩ :: rest) f σ m :=
  SL_same rfl rfl hdn (fun _ W _ => pureV_ok hv _ _ _ _ _ W) h

/-- A sum (a difference ..) that does not leave its kind. -/
theorem pw {k : IntKind} {x : Int} (hv : pureV T op (ev f) = some (.int k (k.wrap x))) (hdn : Nat.blt d n = true) (hx : k.wrap x = x) (h : SL P n md ops Q rest (upd f d (.int k x)) σ m) :
    SL P n md ops Q (⟨some d, op, ty, pos, after, none⟩ :: rest) f σ m := by
  rw [hx] at hv
  exact pu hv hdn h

/-- A test: one goal for yes, one for no. -/
theorem pc {p : Prop} {hp : Decidable p} (hv : pureV T op (ev f) = some (.bool (@decide p hp))) (hdn : Nat.blt d n = true)
    (ht : p → SL P n md ops Q rest (upd f d (.bool true)) σ m) (hf : ¬ p → SL P n md ops Q rest (upd f d (.bool false)) σ m) :
    SL P n md ops Q (⟨some d, op, ty, pos, after, none⟩ :: rest) f σ m := by
  by_cases hh : p
  · refine pu (v := .bool true) ?_ hdn (ht hh)
    rw [hv]; simp [hh]
  · refine pu (v := .bool false) ?_ hdn (hf hh)
    rw [hv]; simp [hh]

/-- A test that is known. -/
theorem pt {p : Prop} {hp : Decidable p} (hv : pureV T op (ev f) = some (.bool (@decide p hp))) (hdn : Nat.blt d n = true) (hh : p) (ht : SL P n md ops Q rest (upd f d (.bool true)) σ m) :
    SL P n md ops Q (⟨some d, op, ty, pos, after, none⟩ :: rest) f σ m := by
  refine pu (v := .bool true) ?_ hdn ht
  rw [hv]; simp [hh]
theorem pn {p : Prop} {hp : Decidable p} (hv : pureV T op (ev f) = some (.bool (@decide p hp))) (hdn : Nat.blt d n = true) (hh : ¬ p) (ht : SL P n md ops Q rest (upd f d (.bool false)) σ m) :
    SL P n md ops Q (⟨some d, op, ty, pos, after, none⟩ :: rest) f σ m := by
  refine pu (v := .bool false) ?_ hdn ht
  rw [hv]; simp [hh]
end
end Eng
end Go.Proofs.Ytkopdlglenejmaa
