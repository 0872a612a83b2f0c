/- drum.Check: the error of a result. -/
import Derived.Test.YtkopdlglenejmaaGamM
namespace Go.Proofs.Ytkopdlglenejmaa
open Eng

structure Res where
  ma : Option Addr
  mc : Nat
  main : List Int
  ba : Option Addr
  bc : Nat
  bonus : List Int
  ea : Option Addr
  ec : Nat
  extra : List Int
  factor : Int
  serial : ByteArray
def Res.enc (r : Res) : List Value := [.slice r.ma r.main.length r.mc, .slice r.ba r.bonus.length r.bc, .slice r.ea r.extra.length r.ec, .int .i64 r.factor, .string r.serial]
def Res.val (r : Res) : Value := .agg #[.slice r.ma r.main.length r.mc, .slice r.ba r.bonus.length r.bc, .slice r.ea r.extra.length r.ec, .int .i64 r.factor, .string r.serial]
structure Res.In (m : Mem) (r : Res) : Prop where
  mn : RL m intE 1 (.slice r.ma r.main.length r.mc) r.main
  bn : RL m intE 1 (.slice r.ba r.bonus.length r.bc) r.bonus
  xn : RL m intE 1 (.slice r.ea r.extra.length r.ec) r.extra
theorem Res.In.mono {m m' : Mem} {r : Res} (h : r.In m) (hl : Le m m') : r.In m' := ⟨h.mn.mono hl, h.bn.mono hl, h.xn.mono hl⟩
def firstE : List Int → Int
  | [] => 0
  | e :: r => if e ≠ 0 then e else firstE r
theorem firstE_at {f : Nat → Int} {e : Int} (he : e ≠ 0) : ∀ {n i : Nat} (s : Nat), (∀ j, j < i → f (s + j) = 0) → i < n → f (s + i) = e → firstE ((List.range' s n).map f) = e
  | 0, i, _, _, hi, _ => absurd hi (Nat.not_lt_zero i)
  | n + 1, 0, s, _, _, hf => by
    rw [List.range'_succ, List.map_cons, firstE, if_pos (by rw [Nat.add_zero] at hf; rw [hf]; exact he)]
    exact hf
  | n + 1, i + 1, s, h, hi, hf => by
    rw [List.range'_succ, List.map_cons, firstE, if_neg (by have := h 0 (by omega); rw [Nat.add_zero] at this; omega)]
    exact firstE_at (i := i) he (s + 1) (fun j hj => by have := h (j + 1) (by omega); rw [show s + 1 + j = s + (j + 1) by omega]; exact this) (by omega) (by rw [show s + 1 + i = s + (i + 1) by omega]; exact hf)
theorem firstE_zero {f : Nat → Int} : ∀ {n : Nat} (s : Nat), (firstE ((List.range' s n).map f) = 0 ↔ ∀ j, j < n → f (s + j) = 0)
  | 0, s => by simp [firstE]
  | n + 1, s => by
    rw [List.range'_succ, List.map_cons, firstE]
    by_cases h0 : f s = 0
    · rw [if_neg (by omega), firstE_zero (s + 1)]
      constructor
      · intro h j hj
        cases j with
        | zero => exact h0
        | succ j => have := h j (by omega); rw [show s + (j + 1) = s + 1 + j by omega]; exact this
      · intro h j hj
        have := h (j + 1) (by omega); rw [show s + 1 + j = s + (j + 1) by omega]; exact this
    · rw [if_pos h0]
      exact ⟨fun h => absurd h h0, fun h => h 0 (by omega)⟩
/-- The error of one place of a list; the first error of a list. -/
def leAt (lo hi : Int) (o : Bool) (l : List Int) (i : Nat) : Int :=
  if ¬ (lo ≤ l.getD i 0 ∧ l.getD i 0 ≤ hi) then 2 else if o = true ∧ 0 < i ∧ l.getD i 0 ≤ l.getD (i - 1) 0 then 1 else 0
def listErr (lo hi : Int) (o : Bool) (l : List Int) : Int := firstE ((List.range' 0 l.length).map (leAt lo hi o l))
theorem listErr_at {lo hi : Int} {o : Bool} {l : List Int} {e : Int} {i : Nat} (he : e ≠ 0) (h : ∀ j, j < i → leAt lo hi o l j = 0) (hi' : i < l.length) (hf : leAt lo hi o l i = e) : listErr lo hi o l = e :=
  firstE_at he 0 (fun j hj => by rw [Nat.zero_add]; exact h j hj) hi' (by rw [Nat.zero_add]; exact hf)
theorem listErr_zero {lo hi : Int} {o : Bool} {l : List Int} : listErr lo hi o l = 0 ↔ ∀ j, j < l.length → leAt lo hi o l j = 0 := by
  unfold listErr
  rw [firstE_zero]
  constructor
  · intro h j hj; have := h j hj; rwa [Nat.zero_add] at this
  · intro h j hj; have := h j hj; rwa [Nat.zero_add]
theorem getD_at {l : List Int} {i : Nat} {x : Int} (h : l[i]? = some x) : l.getD i 0 = x := by rw [List.getD_eq_getElem?_getD, h]; rfl
theorem leAt_in {lo hi : Int} {o : Bool} {l : List Int} {i : Nat} (h : leAt lo hi o l i = 0) : lo ≤ l.getD i 0 ∧ l.getD i 0 ≤ hi := by
  unfold leAt at h
  split at h
  · cases h
  · rename_i h'; exact Classical.not_not.1 h'
theorem listErr_in {lo hi : Int} {o : Bool} {l : List Int} (h : listErr lo hi o l = 0) : allIn lo hi l := fun x hx => by
  obtain ⟨i, hi'⟩ := List.getElem?_of_mem hx
  have := leAt_in (listErr_zero.1 h i (List.getElem?_eq_some_iff.1 hi').1)
  rwa [getD_at hi'] at this
def numsErr (g : Game) (r : Res) : Int :=
  if (r.main.length : Int) ≠ g.main ∨ (r.bonus.length : Int) ≠ g.bonus ∨ (r.extra.length : Int) ≠ g.extra then 3
  else if g.kind = 2 then listErr 0 (g.of - 1) false r.main
  else if listErr 1 g.of true r.main ≠ 0 then listErr 1 g.of true r.main
  else if listErr 1 g.bonusOf true r.bonus ≠ 0 then listErr 1 g.bonusOf true r.bonus
  else if listErr 1 g.of true r.extra ≠ 0 then listErr 1 g.of true r.extra
  else if ∃ x ∈ r.extra, x ∈ r.main then 6 else 0
def findA (k : Int) (l : List Addon) : Option Addon := l.find? fun a => decide (a.kind = k)
def digB (b : UInt8) : Bool := decide (48 ≤ b.toNat ∧ b.toNat ≤ 57)
def serErr (g : Game) (s : ByteArray) : Int :=
  match findA 2 g.addons with
  | none => 3
  | some a => if (s.size : Int) ≠ a.digits then 3 else if s.data.toList.all digB = true then 0 else 1
def xtraErr (g : Game) (r : Res) : Int :=
  if r.factor ≠ 0 ∧ ¬ (∃ a, findA 1 g.addons = some a ∧ r.factor ∈ a.factors) then 2
  else if r.serial = ByteArray.empty then 0 else serErr g r.serial
open Classical in
noncomputable def resErr (g : Game) (r : Res) : Int := if gameErr g ≠ 0 then gameErr g else if numsErr g r ≠ 0 then numsErr g r else xtraErr g r
theorem findA_none {k : Int} {l : List Addon} (h : ∀ a ∈ l, a.kind ≠ k) : findA k l = none := List.find?_eq_none.2 fun a ha => by simpa using h a ha
theorem findA_at {k : Int} : ∀ {l : List Addon} {i : Nat} {a : Addon}, (∀ b ∈ l.take i, b.kind ≠ k) → l[i]? = some a → a.kind = k → findA k l = some a
  | [], i, a, _, h, _ => by simp at h
  | b :: l, 0, a, _, h, hk => by
    simp only [List.getElem?_cons_zero, Option.some.injEq] at h
    subst h
    unfold findA
    rw [List.find?_cons, decide_eq_true hk]
  | b :: l, i + 1, a, hb, h, hk => by
    unfold findA
    rw [List.find?_cons, decide_eq_false (hb b (by simp))]
    exact findA_at (fun c hc => hb c (by rw [List.take_succ_cons]; exact List.mem_cons_of_mem _ hc)) (by simpa using h) hk
theorem findA_mem {k : Int} {l : List Addon} {a : Addon} (h : findA k l = some a) : a ∈ l ∧ a.kind = k := ⟨List.mem_of_find?_eq_some h, by have := List.find?_some h; simpa using this⟩
def zeroA : Addon := ⟨ByteArray.empty, 0, 0, none, 0, [], 0, none, 0, []⟩
theorem zeroA_in (m : Mem) : zeroA.In m := ⟨RL.nil _ _, RL.nil _ _⟩
def seenC (s : List Int) : List Value := (List.range 81).map fun (k : Nat) => .bool (decide ((k : Int) ∈ s))
theorem seenC_len (s : List Int) : (seenC s).length = 81 := by simp [seenC]
theorem seenC_at (s : List Int) {k : Nat} (h : k < 81) : (seenC s)[k]? = some (.bool (decide ((k : Int) ∈ s))) := by unfold seenC; rw [List.getElem?_map, List.getElem?_range h]; rfl
theorem seenC_set {s : List Int} {x : Int} (h0 : 0 ≤ x) (h1 : x ≤ 80) : (seenC s).set x.toNat (.bool true) = seenC (s ++ [x]) := by
  apply List.ext_getElem?
  intro k
  rw [List.getElem?_set]
  by_cases hk : k < 81
  · rw [seenC_at _ hk, seenC_at _ hk, seenC_len]
    by_cases e : x.toNat = k
    · rw [if_pos e, if_pos (by omega)]
      have : (k : Int) = x := by omega
      simp [this]
    · rw [if_neg e]
      have : ¬ (k : Int) = x := by omega
      simp [this]
  · have h2 := seenC_len (s ++ [x])
    have h3 := seenC_len s
    rw [List.getElem?_eq_none (l := seenC (s ++ [x])) (by omega)]
    split
    · rw [if_neg (by omega)]
    · exact List.getElem?_eq_none (by omega)

set_option maxRecDepth 100000 in
theorem listI {m : Mem} {v : Value} {l : List Int} (h : RL m intE 1 v l) (lo hi : Int) (o : Bool) : PureCall Try.prog 53 [v, .int .i64 lo, .int .i64 hi, .bool o] m (.int .i64 (listErr lo hi o l)) := by
  refine CallsS.pure ?_
  have hsm := h.small
  obtain ⟨pa, pcap, rfl⟩ := h.len
  refine enter Try.func53 Try.ntmps53 rfl rfl ?_
  refine SWP_seq ?_
  refine SWP_region ?_
  refine pI rfl rfl ?_
  refine SL_nil ?_
  refine nx ?_
  refine SWP_seq ?_
  refine SWP_seq ?_
  refine SWP_region ?_
  first | refine pL rfl rfl ?_ | refine pu rfl rfl ?_
  refine pu rfl rfl ?_
  refine pI rfl rfl ?_
  refine SL_nil ?_
  refine nx ?_
  refine SWP_block ?_
  refine SWP_loop [8, 9, 10, 13, 14, 15, 16, 17, 18, 19, 20, 21, 22, 23, 24, 25, 26, 27, 28, 29, 30, 31, 32, 33, 34, 35, 36, 37, 38, 39, 40] [13]
      (fun vs σ' m' => ∃ (i : Nat), vs = [.int .i64 (i : Nat)] ∧ i ≤ l.length ∧ (∀ j, j < i → leAt lo hi o l j = 0) ∧ σ' = [] ∧ m = m')
      (fun vs => l.length - nOf (vs.getD 0 undef)) rfl ?_ ?_
  · exact ⟨0, rfl, by omega, fun j hj => (by omega), rfl, rfl⟩
  intro u0 vs0 σ0 m0 hJ0 _
  obtain ⟨i, rfl, hi, hall, rfl, rfl⟩ := hJ0
  refine SWP_seq ?_
  refine SWP_region ?_
  refine pc rfl rfl (fun c14 => ?_) (fun c14 => ?_)
  · skip
    refine SL_nil ?_
    refine nx ?_
    refine SWP_seq ?_
    refine SWP_ct rfl ?_
    refine SWP_skip ?_
    refine nx ?_
    refine SWP_seq ?_
    refine SWP_block ?_
    refine SWP_seq ?_
    obtain ⟨x, hx⟩ : ∃ x, l[i]? = some x := ⟨_, List.getElem?_eq_getElem (by omega)⟩
    obtain ⟨ad, e0, _, hat⟩ := h.atI hx
    cases e0
    have gx := getD_at hx
    refine SWP_region ?_
    first | refine pI rfl rfl ?_ | refine pu rfl rfl ?_
    first | refine ia (es := 1) rfl rfl rfl (Nat.mul_one _) rfl rfl (by omega) rfl ?_ | refine iai (es := 1) rfl rfl rfl (Nat.mul_one _) rfl rfl (by omega) (by omega) rfl ?_
    refine ldA (v := .int .i64 _) rfl (by assumption) rfl rfl ?_
    first | refine pI rfl rfl ?_ | refine pu rfl rfl ?_
    refine pI rfl rfl ?_
    refine SL_nil ?_
    refine nx ?_
    refine SWP_seq ?_
    refine SWP_seq ?_
    refine SWP_region ?_
    refine pI rfl rfl ?_
    first | refine pI rfl rfl ?_ | refine pu rfl rfl ?_
    refine pc rfl rfl (fun c20 => ?_) (fun c20 => ?_)
    · skip
      refine pB rfl rfl ?_
      refine SL_no rfl rfl ?_
      refine SL_no rfl rfl ?_
      refine SL_no rfl rfl ?_
      refine pB rfl rfl ?_
      refine SL_nil ?_
      refine nx ?_
      refine SWP_ct rfl ?_
      refine SWP_seq ?_
      refine SWP_region ?_
      refine pI rfl rfl ?_
      refine SL_nil ?_
      refine nx ?_
      refine SWP_ret ?_
      refine nr ?_
      refine br ?_
      refine nr ?_
      refine nr ?_
      refine br ?_
      refine nr ?_
      refine fin [_] ⟨rfl, trivial⟩ ?_
      refine congrArg (Value.int .i64) (listErr_at (by omega) hall (by omega) ?_).symm
      unfold leAt
      rw [gx]
      exact if_pos (by omega)
    refine pB rfl rfl ?_
    refine SL_yes rfl ?_
    refine pI rfl rfl ?_
    refine SL_yes rfl ?_
    first | refine pI rfl rfl ?_ | refine pu rfl rfl ?_
    refine SL_yes rfl ?_
    refine pc rfl rfl (fun c24 => ?_) (fun c24 => ?_)
    · skip
      refine pB rfl rfl ?_
      refine SL_nil ?_
      refine nx ?_
      refine SWP_ct rfl ?_
      refine SWP_seq ?_
      refine SWP_region ?_
      refine pI rfl rfl ?_
      refine SL_nil ?_
      refine nx ?_
      refine SWP_ret ?_
      refine nr ?_
      refine br ?_
      refine nr ?_
      refine nr ?_
      refine br ?_
      refine nr ?_
      refine fin [_] ⟨rfl, trivial⟩ ?_
      refine congrArg (Value.int .i64) (listErr_at (by omega) hall (by omega) ?_).symm
      unfold leAt
      rw [gx]
      exact if_pos (by omega)
    refine pB rfl rfl ?_
    refine SL_nil ?_
    refine nx ?_
    refine SWP_cf rfl ?_
    refine SWP_skip ?_
    refine nx ?_
    refine SWP_seq ?_
    refine SWP_region ?_
    refine pu (v := .bool o) rfl rfl ?_
    refine bsp 26 rfl (fun b26 => ?_) (fun b26 => ?_)
    · skip
      first | refine pB rfl rfl ?_ | refine pu rfl rfl ?_
      refine SL_yes rfl ?_
      first | refine pI rfl rfl ?_ | refine pu rfl rfl ?_
      refine SL_yes rfl ?_
      refine pc rfl rfl (fun c29 => ?_) (fun c29 => ?_)
      · skip
        refine pB rfl rfl ?_
        refine pB rfl rfl ?_
        refine SL_yes rfl ?_
        refine pI rfl rfl ?_
        refine SL_yes rfl ?_
        first | refine pL rfl rfl ?_ | refine pu rfl rfl ?_
        refine SL_yes rfl ?_
        first | refine pI rfl rfl ?_ | refine pu rfl rfl ?_
        refine SL_yes rfl ?_
        refine pw rfl rfl (w64 (by omega) (by omega)) ?_
        have h0i : 0 < i := by omega
        rw [show (i : Int) - 1 = ((i - 1 : Nat) : Int) by omega]
        obtain ⟨y, hy⟩ : ∃ y, l[i - 1]? = some y := ⟨_, List.getElem?_eq_getElem (by omega)⟩
        obtain ⟨ad2, e2, _, hat2⟩ := h.atI hy
        cases e2
        have gy := getD_at hy
        refine SL_yes rfl ?_
        first | refine ia (es := 1) rfl rfl rfl (Nat.mul_one _) rfl rfl (by omega) rfl ?_ | refine iai (es := 1) rfl rfl rfl (Nat.mul_one _) rfl rfl (by omega) (by omega) rfl ?_
        refine SL_yes rfl ?_
        refine ldA (v := .int .i64 _) rfl (by assumption) rfl rfl ?_
        refine SL_yes rfl ?_
        refine pc rfl rfl (fun c38 => ?_) (fun c38 => ?_)
        · skip
          refine pB rfl rfl ?_
          refine SL_nil ?_
          refine nx ?_
          refine SWP_ct rfl ?_
          refine SWP_seq ?_
          refine SWP_region ?_
          refine pI rfl rfl ?_
          refine SL_nil ?_
          refine nx ?_
          refine SWP_ret ?_
          refine br ?_
          refine nr ?_
          refine nr ?_
          refine br ?_
          refine nr ?_
          refine fin [_] ⟨rfl, trivial⟩ ?_
          refine congrArg (Value.int .i64) (listErr_at (by omega) hall (by omega) ?_).symm
          unfold leAt
          rw [gx, gy]
          exact (if_neg (by omega)).trans (if_pos ⟨b26, h0i, by omega⟩)
        refine pB rfl rfl ?_
        refine SL_nil ?_
        refine nx ?_
        refine SWP_cf rfl ?_
        refine SWP_skip ?_
        refine nb ?_
        refine nx ?_
        refine SWP_region ?_
        first | refine pw rfl rfl (w64 (by omega) (by omega)) ?_ | refine pu rfl rfl ?_
        refine pI rfl rfl ?_
        refine SL_nil ?_
        refine nx ?_
        refine ⟨by repeat (first | exact Under.upds rfl (Under.hav _ _ _) | exact Under.hav _ _ _ | refine Under.upd rfl ?_), ?_, ?_⟩
        · refine ⟨i + 1, rfl, by omega, fun j hj => ?_, rfl, rfl⟩
          by_cases e : j = i
          · subst e
            unfold leAt
            rw [gx]
            refine (if_neg (by omega)).trans (if_neg ?_)
            rintro ⟨h1, h2, h3⟩
            first
              | exact absurd (b26.symm.trans h1) (by decide)
              | omega
              | (rw [gy] at h3; omega)
          · exact hall j (by omega)
        · simp only [L_vals, List.map, List.getD]; show l.length - (i + 1) < l.length - i; omega
      refine pB rfl rfl ?_
      refine pB rfl rfl ?_
      refine SL_no rfl rfl ?_
      refine SL_no rfl rfl ?_
      refine SL_no rfl rfl ?_
      refine SL_no rfl rfl ?_
      refine SL_no rfl rfl ?_
      refine SL_no rfl rfl ?_
      refine SL_no rfl rfl ?_
      refine pB rfl rfl ?_
      refine SL_nil ?_
      refine nx ?_
      refine SWP_cf rfl ?_
      refine SWP_skip ?_
      refine nb ?_
      refine nx ?_
      refine SWP_region ?_
      first | refine pw rfl rfl (w64 (by omega) (by omega)) ?_ | refine pu rfl rfl ?_
      refine pI rfl rfl ?_
      refine SL_nil ?_
      refine nx ?_
      refine ⟨by repeat (first | exact Under.upds rfl (Under.hav _ _ _) | exact Under.hav _ _ _ | refine Under.upd rfl ?_), ?_, ?_⟩
      · refine ⟨i + 1, rfl, by omega, fun j hj => ?_, rfl, rfl⟩
        by_cases e : j = i
        · subst e
          unfold leAt
          rw [gx]
          refine (if_neg (by omega)).trans (if_neg ?_)
          rintro ⟨h1, h2, h3⟩
          first
            | exact absurd (b26.symm.trans h1) (by decide)
            | omega
            | (rw [gy] at h3; omega)
        · exact hall j (by omega)
      · simp only [L_vals, List.map, List.getD]; show l.length - (i + 1) < l.length - i; omega
    first | refine pB rfl rfl ?_ | refine pu rfl rfl ?_
    refine SL_no rfl rfl ?_
    refine SL_no rfl rfl ?_
    refine pB rfl rfl ?_
    refine pB rfl rfl ?_
    refine SL_no rfl rfl ?_
    refine SL_no rfl rfl ?_
    refine SL_no rfl rfl ?_
    refine SL_no rfl rfl ?_
    refine SL_no rfl rfl ?_
    refine SL_no rfl rfl ?_
    refine SL_no rfl rfl ?_
    refine pB rfl rfl ?_
    refine SL_nil ?_
    refine nx ?_
    refine SWP_cf rfl ?_
    refine SWP_skip ?_
    refine nb ?_
    refine nx ?_
    refine SWP_region ?_
    first | refine pw rfl rfl (w64 (by omega) (by omega)) ?_ | refine pu rfl rfl ?_
    refine pI rfl rfl ?_
    refine SL_nil ?_
    refine nx ?_
    refine ⟨by repeat (first | exact Under.upds rfl (Under.hav _ _ _) | exact Under.hav _ _ _ | refine Under.upd rfl ?_), ?_, ?_⟩
    · refine ⟨i + 1, rfl, by omega, fun j hj => ?_, rfl, rfl⟩
      by_cases e : j = i
      · subst e
        unfold leAt
        rw [gx]
        refine (if_neg (by omega)).trans (if_neg ?_)
        rintro ⟨h1, h2, h3⟩
        first
          | exact absurd (b26.symm.trans h1) (by decide)
          | omega
          | (rw [gy] at h3; omega)
      · exact hall j (by omega)
    · simp only [L_vals, List.map, List.getD]; show l.length - (i + 1) < l.length - i; omega
  refine SL_nil ?_
  refine nx ?_
  refine SWP_seq ?_
  refine SWP_cf rfl ?_
  refine SWP_exit ?_
  refine ne ?_
  refine ne ?_
  refine be rfl ?_
  refine nx ?_
  refine SWP_seq ?_
  refine SWP_region ?_
  refine pI rfl rfl ?_
  refine SL_nil ?_
  refine nx ?_
  refine SWP_ret ?_
  refine fin [_] ⟨rfl, trivial⟩ ?_
  exact congrArg (Value.int .i64) (listErr_zero.2 fun j hj => hall j (by omega)).symm

set_option maxRecDepth 100000 in
theorem addonF {m : Mem} {g : Game} (hin : g.In m) (k : Int) : CallsS Try.prog 29 [g.val, .int .i64 k].toArray [] m fun r σ' m' => σ' = [] ∧ m' = m ∧ r = .tuple #[((findA k g.addons).getD zeroA).val, .bool (findA k g.addons).isSome] := by
  refine CallsS.forget (R := fun r => r = .tuple #[((findA k g.addons).getD zeroA).val, .bool (findA k g.addons).isSome]) ?_
  dsimp only [Game.val]
  have hsm := hin.ads.small
  refine enter Try.func29 Try.ntmps29 rfl rfl ?_
  refine SWP_seq ?_
  refine SWP_region ?_
  refine bx (v := .agg _) rfl rfl (fun B2 => ?_)
  refine al rfl rfl (fun B4 => ?_)
  refine pB rfl rfl ?_
  refine SL_nil ?_
  refine nx ?_
  refine SWP_seq ?_
  refine SWP_seq ?_
  refine SWP_region ?_
  refine pu rfl rfl ?_
  refine lw (v := .slice _ _ _) B2 20 rfl rfl rfl rfl ?_
  refine pu rfl rfl ?_
  refine pI rfl rfl ?_
  refine SL_nil ?_
  refine nx ?_
  refine SWP_block ?_
  refine SWP_loop [5, 7, 11, 12, 13, 14, 15, 16, 17, 18, 19, 20] [11]
      (fun vs σ' m' => ∃ (i : Nat), vs = [.int .i64 (i : Nat)] ∧ i ≤ g.addons.length ∧ (∀ b ∈ g.addons.take i, b.kind ≠ k) ∧ σ' = [(B4, Cells 47 zeroA.enc), (B2, Cells 25 g.enc)] ∧ m = m')
      (fun vs => g.addons.length - nOf (vs.getD 0 undef)) rfl ?_ ?_
  · exact ⟨0, rfl, by omega, by simp, rfl, rfl⟩
  intro u0 vs0 σ0 m0 hJ0 _
  obtain ⟨i, rfl, hi, hno, rfl, rfl⟩ := hJ0
  refine SWP_seq ?_
  refine SWP_region ?_
  refine pc rfl rfl (fun c12 => ?_) (fun c12 => ?_)
  · skip
    refine SL_nil ?_
    refine nx ?_
    refine SWP_seq ?_
    refine SWP_ct rfl ?_
    refine SWP_skip ?_
    refine nx ?_
    refine SWP_seq ?_
    refine SWP_block ?_
    refine SWP_seq ?_
    obtain ⟨a, ha⟩ : ∃ a, g.addons[i]? = some a := ⟨_, List.getElem?_eq_getElem (by omega)⟩
    obtain ⟨ad, e0, _, hat⟩ := hin.ads.atA Addon.enc_len ha
    rw [e0]
    refine SWP_region ?_
    first | refine ia (es := 6) rfl rfl rfl rfl rfl rfl (by omega) rfl ?_ | refine iai (es := 6) rfl rfl rfl rfl rfl rfl (by omega) (by omega) rfl ?_
    refine ldA (v := .agg _) rfl (by assumption) rfl rfl ?_
    refine al rfl rfl (fun B7 => ?_)
    refine sw (v := .agg _) B7 0 rfl rfl rfl rfl rfl rfl rfl ?_
    refine SL_nil ?_
    refine nx ?_
    refine SWP_seq ?_
    refine SWP_region ?_
    refine pu rfl rfl ?_
    refine lw (v := .int .i64 _) B7 1 rfl rfl rfl rfl ?_
    first | refine pI rfl rfl ?_ | refine pu rfl rfl ?_
    refine pc rfl rfl (fun c18 => ?_) (fun c18 => ?_)
    · skip
      refine SL_nil ?_
      refine nx ?_
      refine SWP_ct rfl ?_
      refine SWP_seq ?_
      refine SWP_region ?_
      refine lw (v := .agg _) B7 0 rfl rfl rfl rfl ?_
      refine sw (v := .agg _) B4 0 rfl rfl rfl rfl rfl rfl rfl ?_
      refine pB rfl rfl ?_
      refine SL_nil ?_
      refine nx ?_
      refine SWP_ret ?_
      refine br ?_
      refine nr ?_
      refine nr ?_
      refine br ?_
      refine nr ?_
      refine fin [_, _] ⟨⟨_, _, rfl, Rd.of_cells (MemO.mem (B := B4)), rfl⟩, rfl, trivial⟩ ?_
      rw [findA_at hno ha c18]; rfl
    refine SL_nil ?_
    refine nx ?_
    refine SWP_cf rfl ?_
    refine SWP_skip ?_
    refine nb ?_
    refine nx ?_
    refine SWP_weak (List.sublist_cons_self _ _) ?_
    rw [← e0]
    refine SWP_region ?_
    first | refine pw rfl rfl (w64 (by omega) (by omega)) ?_ | refine pu rfl rfl ?_
    refine pI rfl rfl ?_
    refine SL_nil ?_
    refine nx ?_
    refine ⟨by repeat (first | exact Under.upds rfl (Under.hav _ _ _) | exact Under.hav _ _ _ | refine Under.upd rfl ?_), ?_, ?_⟩
    · refine ⟨i + 1, rfl, by omega, fun b hb => ?_, rfl, rfl⟩
      rw [take_snocA ha] at hb
      rcases List.mem_append.1 hb with hb | hb
      · exact hno b hb
      · rw [List.mem_singleton.1 hb]; exact c18
    · simp only [L_vals, List.map, List.getD]; show g.addons.length - (i + 1) < g.addons.length - i; omega
  refine SL_nil ?_
  refine nx ?_
  refine SWP_seq ?_
  refine SWP_cf rfl ?_
  refine SWP_exit ?_
  refine ne ?_
  refine ne ?_
  refine be rfl ?_
  refine nx ?_
  refine SWP_seq ?_
  refine SWP_region ?_
  refine pA rfl rfl ?_
  refine sw (v := .agg _) B4 0 rfl rfl rfl rfl rfl rfl rfl ?_
  refine pB rfl rfl ?_
  refine SL_nil ?_
  refine nx ?_
  refine SWP_ret ?_
  refine fin [_, _] ⟨⟨_, _, rfl, Rd.of_cells (MemO.mem (B := B4)), rfl⟩, rfl, trivial⟩ ?_
  rw [findA_none (fun a ha => hno a (by rw [List.take_of_length_le (by omega)]; exact ha))]; rfl

set_option maxRecDepth 100000 in
theorem serialI {m : Mem} {g : Game} (hin : g.In m) (s : ByteArray) (hs : s.size ≤ 9223372036854775807) : PureCall Try.prog 31 [g.val, .string s] m (.int .i64 (serErr g s)) := by
  refine CallsS.pure ?_
  dsimp only [Game.val]
  refine enter Try.func31 Try.ntmps31 rfl rfl ?_
  refine SWP_seq ?_
  refine SWP_region ?_
  refine bx (v := .agg _) rfl rfl (fun B2 => ?_)
  refine pI rfl rfl ?_
  refine SL_nil ?_
  refine nx ?_
  refine SWP_seq ?_
  refine SWP_region ?_
  refine lw (v := .agg _) B2 0 rfl rfl rfl rfl ?_
  refine SL_call rfl rfl cb29 (CallsS.frame0 (addonF hin 2)) rfl (fun v1_1 σ1_1 m1_1 hl1_1 hR1_1 => ?_)
  obtain ⟨σa, rfl, rfl, hm1_1, rfl⟩ := hR1_1
  have hn1_1 := hm1_1.symm
  subst hn1_1
  dsimp only [Addon.val]
  refine pu rfl rfl ?_
  first | refine pA rfl rfl ?_ | refine pu rfl rfl ?_
  refine pu rfl rfl ?_
  refine al rfl rfl (fun B5 => ?_)
  refine sw (v := .agg _) B5 0 rfl rfl rfl rfl rfl rfl rfl ?_
  first | refine pB rfl rfl ?_ | refine pu rfl rfl ?_
  refine SL_nil ?_
  refine nx ?_
  refine SWP_merge1 [4, 13, 14, 15, 16, 17, 18, 19, 20, 21] []
      (fun vs σ' m' => vs = [] ∧ (∃ a, findA 2 g.addons = some a ∧ (s.size : Int) = a.digits) ∧ σ' = [(B5, Cells 47 ((findA 2 g.addons).getD zeroA).enc), (B2, Cells 25 g.enc)] ∧ m = m')
      rfl ?_ ?_
  · skip
    refine SWP_seq ?_
    refine SWP_region ?_
    refine pu rfl rfl ?_
    refine bsp 13 rfl (fun b13 => ?_) (fun b13 => ?_)
    · skip
      refine pB rfl rfl ?_
      refine pB rfl rfl ?_
      refine SL_yes rfl ?_
      first | refine pS rfl rfl ?_ | refine pu rfl rfl ?_
      refine SL_yes rfl ?_
      refine pu rfl rfl ?_
      refine SL_yes rfl ?_
      refine pu rfl rfl ?_
      refine SL_yes rfl ?_
      refine lw (v := .int .i64 _) B5 4 rfl rfl rfl rfl ?_
      refine SL_yes rfl ?_
      refine pc rfl rfl (fun c20 => ?_) (fun c20 => ?_)
      · skip
        refine pB rfl rfl ?_
        refine SL_nil ?_
        refine nx ?_
        refine SWP_ct rfl ?_
        refine SWP_seq ?_
        refine SWP_region ?_
        refine pI rfl rfl ?_
        refine SL_nil ?_
        refine nx ?_
        refine SWP_ret ?_
        refine nr ?_
        refine fin [_] ⟨rfl, trivial⟩ ?_
        refine congrArg (Value.int .i64) ?_
        unfold serErr
        cases hf : findA 2 g.addons with
        | none => rfl
        | some a => rw [hf] at c20; exact (if_pos c20).symm
      refine pB rfl rfl ?_
      refine SL_nil ?_
      refine nx ?_
      refine SWP_cf rfl ?_
      refine SWP_skip ?_
      refine nx ?_
      refine ⟨by repeat (first | with_reducible exact Under.refl _ _ | exact Under.upds rfl (Under.hav _ _ _) | exact Under.hav _ _ _ | refine Under.upd rfl ?_ | refine Under.upds rfl ?_ | refine Under.hav2 rfl ?_), ?_⟩
      refine ⟨rfl, ?_, rfl, rfl⟩
      cases hf : findA 2 g.addons with
      | none => rw [hf] at b13; cases b13
      | some a => rw [hf] at c20; exact ⟨a, rfl, Classical.not_not.1 c20⟩
    refine pB rfl rfl ?_
    refine pB rfl rfl ?_
    refine SL_no rfl rfl ?_
    refine SL_no rfl rfl ?_
    refine SL_no rfl rfl ?_
    refine SL_no rfl rfl ?_
    refine SL_no rfl rfl ?_
    refine pB rfl rfl ?_
    refine SL_nil ?_
    refine nx ?_
    refine SWP_ct rfl ?_
    refine SWP_seq ?_
    refine SWP_region ?_
    refine pI rfl rfl ?_
    refine SL_nil ?_
    refine nx ?_
    refine SWP_ret ?_
    refine nr ?_
    refine fin [_] ⟨rfl, trivial⟩ ?_
    refine congrArg (Value.int .i64) ?_
    unfold serErr
    cases hf : findA 2 g.addons with
    | none => rfl
    | some a => rw [hf] at b13; cases b13
  intro uM0 vM0 σM0 mM0 hM0 _
  obtain ⟨rfl, ⟨a, hfa, hsz⟩, rfl, rfl⟩ := hM0
  refine SWP_seq ?_
  refine SWP_seq ?_
  refine SWP_region ?_
  first | refine pS rfl rfl ?_ | refine pu rfl rfl ?_
  refine pu rfl rfl ?_
  refine pI rfl rfl ?_
  refine SL_nil ?_
  refine nx ?_
  refine SWP_block ?_
  refine SWP_loop [4, 7, 24, 25, 26, 27, 28, 29, 30, 31, 32, 33, 34, 35, 36, 37] [24]
      (fun vs σ' m' => ∃ (i : Nat), vs = [.int .i64 (i : Nat)] ∧ i ≤ s.size ∧ (s.data.toList.take i).all digB = true ∧ σ' = [(B5, Cells 47 ((findA 2 g.addons).getD zeroA).enc), (B2, Cells 25 g.enc)] ∧ m = m')
      (fun vs => s.size - nOf (vs.getD 0 undef)) rfl ?_ ?_
  · exact ⟨0, rfl, by omega, by simp, rfl, rfl⟩
  intro u0 vs0 σ0 m0 hJ0 _
  obtain ⟨i, rfl, hi, hall, rfl, rfl⟩ := hJ0
  refine SWP_seq ?_
  refine SWP_region ?_
  refine pc rfl rfl (fun c25 => ?_) (fun c25 => ?_)
  · skip
    refine SL_nil ?_
    refine nx ?_
    refine SWP_seq ?_
    refine SWP_ct rfl ?_
    refine SWP_skip ?_
    refine nx ?_
    refine SWP_seq ?_
    refine SWP_block ?_
    refine SWP_seq ?_
    refine SWP_region ?_
    first | refine pI rfl rfl ?_ | refine pu rfl rfl ?_
    first | refine pI rfl rfl ?_ | refine pu rfl rfl ?_
    refine SL_nil ?_
    refine nx ?_
    refine SWP_seq ?_
    refine SWP_region ?_
    first | refine pS rfl rfl ?_ | refine pu rfl rfl ?_
    first | refine pI rfl rfl ?_ | refine pu rfl rfl ?_
    obtain ⟨b, hb⟩ := bytes_at s i (by omega)
    refine ixs (k := i) rfl rfl rfl hb rfl ?_
    refine pc rfl rfl (fun c30 => ?_) (fun c30 => ?_)
    · skip
      refine pB rfl rfl ?_
      refine SL_no rfl rfl ?_
      refine SL_no rfl rfl ?_
      refine SL_no rfl rfl ?_
      refine SL_no rfl rfl ?_
      refine pB rfl rfl ?_
      refine SL_nil ?_
      refine nx ?_
      refine SWP_ct rfl ?_
      refine SWP_seq ?_
      refine SWP_region ?_
      refine pI rfl rfl ?_
      refine SL_nil ?_
      refine nx ?_
      refine SWP_ret ?_
      refine br ?_
      refine nr ?_
      refine nr ?_
      refine br ?_
      refine nr ?_
      refine fin [_] ⟨rfl, trivial⟩ ?_
      refine congrArg (Value.int .i64) ?_
      unfold serErr
      rw [hfa]
      exact ((if_neg (by omega)).trans (if_neg (by rw [all_no hb (decide_eq_false (by omega))]; exact Bool.noConfusion))).symm
    refine pB rfl rfl ?_
    refine SL_yes rfl ?_
    first | refine pS rfl rfl ?_ | refine pu rfl rfl ?_
    refine SL_yes rfl ?_
    first | refine pI rfl rfl ?_ | refine pu rfl rfl ?_
    refine SL_yes rfl ?_
    refine ixs (k := i) rfl rfl rfl hb rfl ?_
    refine SL_yes rfl ?_
    refine pc rfl rfl (fun c35 => ?_) (fun c35 => ?_)
    · skip
      refine pB rfl rfl ?_
      refine SL_nil ?_
      refine nx ?_
      refine SWP_ct rfl ?_
      refine SWP_seq ?_
      refine SWP_region ?_
      refine pI rfl rfl ?_
      refine SL_nil ?_
      refine nx ?_
      refine SWP_ret ?_
      refine br ?_
      refine nr ?_
      refine nr ?_
      refine br ?_
      refine nr ?_
      refine fin [_] ⟨rfl, trivial⟩ ?_
      refine congrArg (Value.int .i64) ?_
      unfold serErr
      rw [hfa]
      exact ((if_neg (by omega)).trans (if_neg (by rw [all_no hb (decide_eq_false (by omega))]; exact Bool.noConfusion))).symm
    refine pB rfl rfl ?_
    refine SL_nil ?_
    refine nx ?_
    refine SWP_cf rfl ?_
    refine SWP_skip ?_
    refine nb ?_
    refine nx ?_
    refine SWP_region ?_
    first | refine pw rfl rfl (w64 (by omega) (by omega)) ?_ | refine pu rfl rfl ?_
    refine pI rfl rfl ?_
    refine SL_nil ?_
    refine nx ?_
    refine ⟨by repeat (first | exact Under.upds rfl (Under.hav _ _ _) | exact Under.hav _ _ _ | refine Under.upd rfl ?_ | refine Under.upds rfl ?_ | refine Under.hav2 rfl ?_), ?_, ?_⟩
    · refine ⟨i + 1, rfl, by omega, ?_, rfl, rfl⟩
      rw [all_snoc hb, hall]
      exact decide_eq_true (by omega)
    · simp only [L_vals, List.map, List.getD]; show s.size - (i + 1) < s.size - i; omega
  refine SL_nil ?_
  refine nx ?_
  refine SWP_seq ?_
  refine SWP_cf rfl ?_
  refine SWP_exit ?_
  refine ne ?_
  refine ne ?_
  refine be rfl ?_
  refine nx ?_
  refine SWP_seq ?_
  refine SWP_region ?_
  refine pI rfl rfl ?_
  refine SL_nil ?_
  refine nx ?_
  refine SWP_ret ?_
  refine fin [_] ⟨rfl, trivial⟩ ?_
  refine congrArg (Value.int .i64) ?_
  unfold serErr
  rw [hfa]
  rw [List.take_of_length_le (by rw [size_list]; omega)] at hall
  exact ((if_neg (by omega)).trans (if_pos hall)).symm

set_option maxRecDepth 100000 in
theorem numsI {m : Mem} {g : Game} {r : Res} (hr : r.In m) (hok : GameOk g) : PureCall Try.prog 28 [g.val, r.val] m (.int .i64 (numsErr g r)) := by
  refine CallsS.pure ?_
  dsimp only [Game.val, Res.val]
  refine enter Try.func28 Try.ntmps28 rfl rfl ?_
  refine SWP_seq ?_
  refine SWP_region ?_
  refine bx (v := .agg _) rfl rfl (fun B2 => ?_)
  refine bx (v := .agg _) rfl rfl (fun B3 => ?_)
  refine pI rfl rfl ?_
  refine SL_nil ?_
  refine nx ?_
  refine SWP_merge1 [4, 13, 14, 15, 16, 17, 18, 19, 20, 21, 22, 23, 24, 25, 26, 27, 28, 29, 30, 31, 32, 33, 34] []
      (fun vs σ' m' => vs = [] ∧ ((r.main.length : Int) = g.main ∧ (r.bonus.length : Int) = g.bonus ∧ (r.extra.length : Int) = g.extra) ∧ σ' = [(B3, Cells 31 r.enc), (B2, Cells 25 g.enc)] ∧ m = m')
      rfl ?_ ?_
  · skip
    refine SWP_seq ?_
    refine SWP_region ?_
    refine pu rfl rfl ?_
    refine lw (v := .slice _ _ _) B3 0 rfl rfl rfl rfl ?_
    refine pu rfl rfl ?_
    refine pu rfl rfl ?_
    refine lw (v := .int .i64 _) B2 3 rfl rfl rfl rfl ?_
    refine pc rfl rfl (fun c18 => ?_) (fun c18 => ?_)
    · skip
      refine pB rfl rfl ?_
      refine SL_no rfl rfl ?_
      refine SL_no rfl rfl ?_
      refine SL_no rfl rfl ?_
      refine SL_no rfl rfl ?_
      refine SL_no rfl rfl ?_
      refine SL_no rfl rfl ?_
      refine pB rfl rfl ?_
      refine pB rfl rfl ?_
      refine SL_no rfl rfl ?_
      refine SL_no rfl rfl ?_
      refine SL_no rfl rfl ?_
      refine SL_no rfl rfl ?_
      refine SL_no rfl rfl ?_
      refine SL_no rfl rfl ?_
      refine pB rfl rfl ?_
      refine SL_nil ?_
      refine nx ?_
      refine SWP_ct rfl ?_
      refine SWP_seq ?_
      refine SWP_region ?_
      refine pI rfl rfl ?_
      refine SL_nil ?_
      refine nx ?_
      refine SWP_ret ?_
      refine nr ?_
      refine fin [_] ⟨rfl, trivial⟩ ?_
      refine congrArg (Value.int .i64) ?_
      unfold numsErr
      exact (if_pos (by omega)).symm
    refine pB rfl rfl ?_
    refine SL_yes rfl ?_
    refine pu rfl rfl ?_
    refine SL_yes rfl ?_
    refine lw (v := .slice _ _ _) B3 1 rfl rfl rfl rfl ?_
    refine SL_yes rfl ?_
    refine pu rfl rfl ?_
    refine SL_yes rfl ?_
    refine pu rfl rfl ?_
    refine SL_yes rfl ?_
    refine lw (v := .int .i64 _) B2 5 rfl rfl rfl rfl ?_
    refine SL_yes rfl ?_
    refine pc rfl rfl (fun c25 => ?_) (fun c25 => ?_)
    · skip
      refine pB rfl rfl ?_
      refine pB rfl rfl ?_
      refine SL_no rfl rfl ?_
      refine SL_no rfl rfl ?_
      refine SL_no rfl rfl ?_
      refine SL_no rfl rfl ?_
      refine SL_no rfl rfl ?_
      refine SL_no rfl rfl ?_
      refine pB rfl rfl ?_
      refine SL_nil ?_
      refine nx ?_
      refine SWP_ct rfl ?_
      refine SWP_seq ?_
      refine SWP_region ?_
      refine pI rfl rfl ?_
      refine SL_nil ?_
      refine nx ?_
      refine SWP_ret ?_
      refine nr ?_
      refine fin [_] ⟨rfl, trivial⟩ ?_
      refine congrArg (Value.int .i64) ?_
      unfold numsErr
      exact (if_pos (by omega)).symm
    refine pB rfl rfl ?_
    refine pB rfl rfl ?_
    refine SL_yes rfl ?_
    refine pu rfl rfl ?_
    refine SL_yes rfl ?_
    refine lw (v := .slice _ _ _) B3 2 rfl rfl rfl rfl ?_
    refine SL_yes rfl ?_
    refine pu rfl rfl ?_
    refine SL_yes rfl ?_
    refine pu rfl rfl ?_
    refine SL_yes rfl ?_
    refine lw (v := .int .i64 _) B2 7 rfl rfl rfl rfl ?_
    refine SL_yes rfl ?_
    refine pc rfl rfl (fun c33 => ?_) (fun c33 => ?_)
    · skip
      refine pB rfl rfl ?_
      refine SL_nil ?_
      refine nx ?_
      refine SWP_ct rfl ?_
      refine SWP_seq ?_
      refine SWP_region ?_
      refine pI rfl rfl ?_
      refine SL_nil ?_
      refine nx ?_
      refine SWP_ret ?_
      refine nr ?_
      refine fin [_] ⟨rfl, trivial⟩ ?_
      refine congrArg (Value.int .i64) ?_
      unfold numsErr
      exact (if_pos (by omega)).symm
    refine pB rfl rfl ?_
    refine SL_nil ?_
    refine nx ?_
    refine SWP_cf rfl ?_
    refine SWP_skip ?_
    refine nx ?_
    refine ⟨by repeat (first | with_reducible exact Under.refl _ _ | exact Under.upds rfl (Under.hav _ _ _) | exact Under.hav _ _ _ | refine Under.upd rfl ?_ | refine Under.upds rfl ?_ | refine Under.hav2 rfl ?_), ?_⟩
    exact ⟨rfl, ⟨by omega, by omega, by omega⟩, rfl, rfl⟩
  intro uM0 vM0 σM0 mM0 hM0 _
  obtain ⟨rfl, ⟨hm1, hm2, hm3⟩, rfl, rfl⟩ := hM0
  have hmx := hok.mx.h2
  dsimp only [Res.enc, Game.enc]
  refine SWP_seq ?_
  refine SWP_seq ?_
  refine SWP_region ?_
  refine pu rfl rfl ?_
  refine lw (v := .int .i64 _) B2 1 rfl rfl rfl rfl ?_
  refine pc rfl rfl (fun c37 => ?_) (fun c37 => ?_)
  · skip
    refine SL_nil ?_
    refine nx ?_
    refine SWP_ct rfl ?_
    refine SWP_seq ?_
    refine SWP_region ?_
    refine pu rfl rfl ?_
    refine lw (v := .slice _ _ _) B3 0 rfl rfl rfl rfl ?_
    refine pu rfl rfl ?_
    refine lw (v := .int .i64 _) B2 4 rfl rfl rfl rfl ?_
    refine pw rfl rfl (w64 (by have := hok.mx.h3; have := hok.mx.h4; omega) (by have := hok.mx.h3; have := hok.mx.h4; omega)) ?_
    refine SL_pcall rfl rfl cb53 (listI hr.mn 0 (g.of - 1) false) rfl ?_
    first | refine pI rfl rfl ?_ | refine pu rfl rfl ?_
    refine SL_nil ?_
    refine nx ?_
    refine SWP_ret ?_
    refine nr ?_
    refine fin [_] ⟨rfl, trivial⟩ ?_
    refine congrArg (Value.int .i64) ?_
    unfold numsErr
    exact ((if_neg (by omega)).trans (if_pos (by assumption))).symm
  refine SL_nil ?_
  refine nx ?_
  refine SWP_cf rfl ?_
  refine SWP_skip ?_
  refine nx ?_
  refine SWP_seq ?_
  refine SWP_seq ?_
  refine SWP_region ?_
  refine pu rfl rfl ?_
  refine lw (v := .slice _ _ _) B3 0 rfl rfl rfl rfl ?_
  refine pu rfl rfl ?_
  refine lw (v := .int .i64 _) B2 4 rfl rfl rfl rfl ?_
  refine SL_pcall rfl rfl cb53 (listI hr.mn 1 g.of true) rfl ?_
  first | refine pI rfl rfl ?_ | refine pu rfl rfl ?_
  refine SL_nil ?_
  refine nx ?_
  refine SWP_seq ?_
  refine SWP_region ?_
  first | refine pI rfl rfl ?_ | refine pu rfl rfl ?_
  refine pc rfl rfl (fun c50 => ?_) (fun c50 => ?_)
  · skip
    refine SL_nil ?_
    refine nx ?_
    refine SWP_ct rfl ?_
    refine SWP_seq ?_
    refine SWP_region ?_
    first | refine pI rfl rfl ?_ | refine pu rfl rfl ?_
    first | refine pI rfl rfl ?_ | refine pu rfl rfl ?_
    refine SL_nil ?_
    refine nx ?_
    refine SWP_ret ?_
    refine nr ?_
    refine fin [_] ⟨rfl, trivial⟩ ?_
    refine congrArg (Value.int .i64) ?_
    unfold numsErr
    exact ((if_neg (by omega)).trans ((if_neg (by assumption)).trans (if_pos (by assumption)))).symm
  refine SL_nil ?_
  refine nx ?_
  refine SWP_cf rfl ?_
  refine SWP_skip ?_
  refine nx ?_
  refine SWP_seq ?_
  refine SWP_seq ?_
  refine SWP_region ?_
  refine pu rfl rfl ?_
  refine lw (v := .slice _ _ _) B3 1 rfl rfl rfl rfl ?_
  refine pu rfl rfl ?_
  refine lw (v := .int .i64 _) B2 6 rfl rfl rfl rfl ?_
  refine SL_pcall rfl rfl cb53 (listI hr.bn 1 g.bonusOf true) rfl ?_
  first | refine pI rfl rfl ?_ | refine pu rfl rfl ?_
  refine SL_nil ?_
  refine nx ?_
  refine SWP_seq ?_
  refine SWP_region ?_
  first | refine pI rfl rfl ?_ | refine pu rfl rfl ?_
  refine pc rfl rfl (fun c58 => ?_) (fun c58 => ?_)
  · skip
    refine SL_nil ?_
    refine nx ?_
    refine SWP_ct rfl ?_
    refine SWP_seq ?_
    refine SWP_region ?_
    first | refine pI rfl rfl ?_ | refine pu rfl rfl ?_
    first | refine pI rfl rfl ?_ | refine pu rfl rfl ?_
    refine SL_nil ?_
    refine nx ?_
    refine SWP_ret ?_
    refine nr ?_
    refine fin [_] ⟨rfl, trivial⟩ ?_
    refine congrArg (Value.int .i64) ?_
    unfold numsErr
    exact ((if_neg (by omega)).trans ((if_neg (by assumption)).trans ((if_neg (by assumption)).trans (if_pos (by assumption))))).symm
  refine SL_nil ?_
  refine nx ?_
  refine SWP_cf rfl ?_
  refine SWP_skip ?_
  refine nx ?_
  refine SWP_seq ?_
  refine SWP_seq ?_
  refine SWP_region ?_
  refine pu rfl rfl ?_
  refine lw (v := .slice _ _ _) B3 2 rfl rfl rfl rfl ?_
  refine pu rfl rfl ?_
  refine lw (v := .int .i64 _) B2 4 rfl rfl rfl rfl ?_
  refine SL_pcall rfl rfl cb53 (listI hr.xn 1 g.of true) rfl ?_
  first | refine pI rfl rfl ?_ | refine pu rfl rfl ?_
  refine SL_nil ?_
  refine nx ?_
  refine SWP_seq ?_
  refine SWP_region ?_
  first | refine pI rfl rfl ?_ | refine pu rfl rfl ?_
  refine pc rfl rfl (fun c66 => ?_) (fun c66 => ?_)
  · skip
    refine SL_nil ?_
    refine nx ?_
    refine SWP_ct rfl ?_
    refine SWP_seq ?_
    refine SWP_region ?_
    first | refine pI rfl rfl ?_ | refine pu rfl rfl ?_
    first | refine pI rfl rfl ?_ | refine pu rfl rfl ?_
    refine SL_nil ?_
    refine nx ?_
    refine SWP_ret ?_
    refine nr ?_
    refine fin [_] ⟨rfl, trivial⟩ ?_
    refine congrArg (Value.int .i64) ?_
    unfold numsErr
    exact ((if_neg (by omega)).trans ((if_neg (by assumption)).trans ((if_neg (by assumption)).trans ((if_neg (by assumption)).trans (if_pos (by assumption)))))).symm
  refine SL_nil ?_
  refine nx ?_
  refine SWP_cf rfl ?_
  refine SWP_skip ?_
  refine nx ?_
  refine SWP_seq ?_
  refine SWP_region ?_
  have hin1 := listErr_in (Classical.not_not.1 c50)
  have hin2 := listErr_in (Classical.not_not.1 c66)
  have hof : g.of ≤ 80 := (hok.mx.h4 c37).2
  have hxl := hok.mx.h12 c37
  refine al rfl rfl (fun B8 => ?_)
  refine SL_nil ?_
  refine nx ?_
  refine SWP_seq ?_
  refine SWP_seq ?_
  refine SWP_region ?_
  refine pu rfl rfl ?_
  refine lw (v := .slice _ _ _) B3 0 rfl rfl rfl rfl ?_
  refine pu rfl rfl ?_
  refine pI rfl rfl ?_
  refine SL_nil ?_
  refine nx ?_
  refine SWP_block ?_
  refine SWP_loop [10, 71, 72, 73, 74, 75, 76, 77] [71]
      (fun vs σ' m' => ∃ (i : Nat), vs = [.int .i64 (i : Nat)] ∧ i ≤ r.main.length ∧ σ' = [(B8, Cells 80 (seenC (r.main.take i))), (B3, Cells 31 r.enc), (B2, Cells 25 g.enc)] ∧ m = m')
      (fun vs => r.main.length - nOf (vs.getD 0 undef)) rfl ?_ ?_
  · exact ⟨0, rfl, by omega, rfl, rfl⟩
  intro u0 vs0 σ0 m0 hJ0 _
  obtain ⟨i, rfl, hi, rfl, rfl⟩ := hJ0
  refine SWP_seq ?_
  refine SWP_region ?_
  refine pc rfl rfl (fun c72 => ?_) (fun c72 => ?_)
  · skip
    refine SL_nil ?_
    refine nx ?_
    refine SWP_seq ?_
    refine SWP_ct rfl ?_
    refine SWP_skip ?_
    refine nx ?_
    refine SWP_seq ?_
    refine SWP_block ?_
    refine SWP_seq ?_
    obtain ⟨x, hx⟩ : ∃ x, r.main[i]? = some x := ⟨_, List.getElem?_eq_getElem (by omega)⟩
    obtain ⟨ad, e0, _, hat⟩ := hr.mn.atI hx
    rw [e0]
    refine SWP_region ?_
    first | refine ia (es := 1) rfl rfl rfl (Nat.mul_one _) rfl rfl (by omega) rfl ?_ | refine iai (es := 1) rfl rfl rfl (Nat.mul_one _) rfl rfl (by omega) (by omega) rfl ?_
    refine ldA (v := .int .i64 _) rfl (by assumption) rfl rfl ?_
    refine pI rfl rfl ?_
    refine SL_nil ?_
    refine nx ?_
    refine SWP_region ?_
    refine pI rfl rfl ?_
    have hxi := hin1 x (List.mem_of_getElem? hx)
    refine iari (es := 1) rfl rfl rfl (Nat.mul_one _) rfl rfl (by omega) (by omega) rfl ?_
    refine st1 (off := x.toNat) (σ₁ := []) rfl rfl rfl rfl rfl rfl rfl (by rw [seenC_len]; omega) rfl ?_
    refine SL_nil ?_
    refine nb ?_
    refine nx ?_
    rw [← e0]
    refine SWP_region ?_
    first | refine pw rfl rfl (w64 (by omega) (by omega)) ?_ | refine pu rfl rfl ?_
    refine pI rfl rfl ?_
    refine SL_nil ?_
    refine nx ?_
    refine ⟨by repeat (first | exact Under.upds rfl (Under.hav _ _ _) | exact Under.hav _ _ _ | refine Under.upd rfl ?_ | refine Under.upds rfl ?_ | refine Under.hav2 rfl ?_), ?_, ?_⟩
    · refine ⟨i + 1, rfl, by omega, ?_, rfl⟩
      rw [take_snocA hx, ← seenC_set (by omega) (by omega)]; rfl
    · simp only [L_vals, List.map, List.getD]; show r.main.length - (i + 1) < r.main.length - i; omega
  refine SL_nil ?_
  refine nx ?_
  refine SWP_seq ?_
  refine SWP_cf rfl ?_
  refine SWP_exit ?_
  refine ne ?_
  refine ne ?_
  refine be rfl ?_
  refine nx ?_
  refine SWP_seq ?_
  refine SWP_seq ?_
  refine SWP_region ?_
  refine pu rfl rfl ?_
  refine lw (v := .slice _ _ _) B3 2 rfl rfl rfl rfl ?_
  refine pu rfl rfl ?_
  first | refine pI rfl rfl ?_ | refine pu rfl rfl ?_
  refine SL_nil ?_
  refine nx ?_
  refine SWP_block ?_
  refine SWP_loop [4, 12, 81, 82, 83, 84, 85, 86, 87, 88] [81]
      (fun vs σ' m' => ∃ (i : Nat), vs = [.int .i64 (i : Nat)] ∧ i ≤ r.extra.length ∧ (∀ x ∈ r.extra.take i, x ∉ r.main) ∧ σ' = [(B8, Cells 80 (seenC r.main)), (B3, Cells 31 r.enc), (B2, Cells 25 g.enc)] ∧ m = m')
      (fun vs => r.extra.length - nOf (vs.getD 0 undef)) rfl ?_ ?_
  · refine ⟨0, rfl, by omega, by simp, ?_, rfl⟩
    rw [List.take_of_length_le (by omega)]
  intro u1 vs1 σ1 m1 hJ1 _
  obtain ⟨i, rfl, hi, hno, rfl, rfl⟩ := hJ1
  refine SWP_seq ?_
  refine SWP_region ?_
  refine pc rfl rfl (fun c82 => ?_) (fun c82 => ?_)
  · skip
    refine SL_nil ?_
    refine nx ?_
    refine SWP_seq ?_
    refine SWP_ct rfl ?_
    refine SWP_skip ?_
    refine nx ?_
    refine SWP_seq ?_
    refine SWP_block ?_
    refine SWP_seq ?_
    obtain ⟨x, hx⟩ : ∃ x, r.extra[i]? = some x := ⟨_, List.getElem?_eq_getElem (by omega)⟩
    obtain ⟨ad, e0, _, hat⟩ := hr.xn.atI hx
    rw [e0]
    refine SWP_region ?_
    first | refine ia (es := 1) rfl rfl rfl (Nat.mul_one _) rfl rfl (by omega) rfl ?_ | refine iai (es := 1) rfl rfl rfl (Nat.mul_one _) rfl rfl (by omega) (by omega) rfl ?_
    refine ldA (v := .int .i64 _) rfl (by assumption) rfl rfl ?_
    refine pI rfl rfl ?_
    refine SL_nil ?_
    refine nx ?_
    refine SWP_seq ?_
    refine SWP_region ?_
    refine pI rfl rfl ?_
    have hxi := hin2 x (List.mem_of_getElem? hx)
    refine iari (es := 1) rfl rfl rfl (Nat.mul_one _) rfl rfl (by omega) (by omega) rfl ?_
    refine ld (p := ⟨B8, 0, none⟩) (off := x.toNat) (v := .bool (decide (x ∈ r.main))) (Rd.of_cells (.head _)) rfl rfl (by show (seenC r.main)[x.toNat]? = _; rw [seenC_at _ (by omega), Int.toNat_of_nonneg (by omega)]) rfl ?_
    refine psp 87 rfl (fun c87 => ?_) (fun c87 => ?_)
    · skip
      refine SL_nil ?_
      refine nx ?_
      refine SWP_ct rfl ?_
      refine SWP_seq ?_
      refine SWP_region ?_
      first | refine pI rfl rfl ?_ | refine pu rfl rfl ?_
      refine SL_nil ?_
      refine nx ?_
      refine SWP_ret ?_
      refine br ?_
      refine nr ?_
      refine nr ?_
      refine br ?_
      refine nr ?_
      refine fin [_] ⟨rfl, trivial⟩ ?_
      refine congrArg (Value.int .i64) ?_
      unfold numsErr
      exact ((if_neg (by omega)).trans ((if_neg (by assumption)).trans ((if_neg (by assumption)).trans ((if_neg (by assumption)).trans ((if_neg (by assumption)).trans (if_pos ⟨x, List.mem_of_getElem? hx, by assumption⟩)))))).symm
    refine SL_nil ?_
    refine nx ?_
    refine SWP_cf rfl ?_
    refine SWP_skip ?_
    refine nb ?_
    refine nx ?_
    rw [← e0]
    refine SWP_region ?_
    first | refine pw rfl rfl (w64 (by omega) (by omega)) ?_ | refine pu rfl rfl ?_
    refine pI rfl rfl ?_
    refine SL_nil ?_
    refine nx ?_
    refine ⟨by repeat (first | exact Under.upds rfl (Under.hav _ _ _) | exact Under.hav _ _ _ | refine Under.upd rfl ?_ | refine Under.upds rfl ?_ | refine Under.hav2 rfl ?_), ?_, ?_⟩
    · refine ⟨i + 1, rfl, by omega, fun y hy => ?_, rfl, rfl⟩
      rw [take_snocA hx] at hy
      rcases List.mem_append.1 hy with hy | hy
      · exact hno y hy
      · rw [List.mem_singleton.1 hy]; assumption
    · simp only [L_vals, List.map, List.getD]; show r.extra.length - (i + 1) < r.extra.length - i; omega
  refine SL_nil ?_
  refine nx ?_
  refine SWP_seq ?_
  refine SWP_cf rfl ?_
  refine SWP_exit ?_
  refine ne ?_
  refine ne ?_
  refine be rfl ?_
  refine nx ?_
  refine SWP_seq ?_
  refine SWP_region ?_
  first | refine pI rfl rfl ?_ | refine pu rfl rfl ?_
  refine SL_nil ?_
  refine nx ?_
  refine SWP_ret ?_
  refine fin [_] ⟨rfl, trivial⟩ ?_
  refine congrArg (Value.int .i64) ?_
  unfold numsErr
  exact ((if_neg (by omega)).trans ((if_neg (by assumption)).trans ((if_neg (by assumption)).trans ((if_neg (by assumption)).trans ((if_neg (by assumption)).trans (if_neg (fun ⟨x, h1, h2⟩ => hno x (by rw [List.take_of_length_le (by omega)]; exact h1) h2))))))).symm

theorem findA_in {m : Mem} {g : Game} (hin : g.In m) (k : Int) : ((findA k g.addons).getD zeroA).In m := by
  cases hf : findA k g.addons with
  | none => exact zeroA_in m
  | some a => exact hin.each _ (findA_mem hf).1
theorem findA_fac {g : Game} {x : Int} (k : Int) : x ∈ ((findA k g.addons).getD zeroA).factors ↔ ∃ a, findA k g.addons = some a ∧ x ∈ a.factors := by
  cases hf : findA k g.addons with
  | none => exact ⟨fun h => absurd h (List.not_mem_nil (a := x)), fun ⟨a, h, _⟩ => (by cases h)⟩
  | some a => exact ⟨fun h => ⟨a, rfl, h⟩, fun ⟨b, h, h'⟩ => by cases h; exact h'⟩

set_option maxRecDepth 100000 in
theorem resI {m : Mem} {g : Game} {r : Res} (hin : g.In m) (hr : r.In m) (hs : r.serial.size ≤ 9223372036854775807) : PureCall Try.prog 14 [g.val, r.val] m (.int .i64 (resErr g r)) := by
  refine CallsS.pure ?_
  dsimp only [Game.val, Res.val]
  refine enter Try.func14 Try.ntmps14 rfl rfl ?_
  refine SWP_seq ?_
  refine SWP_region ?_
  refine bx (v := .agg _) rfl rfl (fun B2 => ?_)
  refine bx (v := .agg _) rfl rfl (fun B3 => ?_)
  refine pI rfl rfl ?_
  refine SL_nil ?_
  refine nx ?_
  refine SWP_seq ?_
  refine SWP_seq ?_
  refine SWP_region ?_
  refine lw (v := .agg _) B2 0 rfl rfl rfl rfl ?_
  refine SL_call rfl rfl cb20 (CallsS.frame0 (checkI hin)) rfl (fun v1_1 σ1_1 m1_1 hl1_1 hR1_1 => ?_)
  obtain ⟨σc, rfl, rfl, hm1_1, s, rfl⟩ := hR1_1
  have hn1_1 := hm1_1.symm
  subst hn1_1
  refine pu rfl rfl ?_
  first | refine pI rfl rfl ?_ | refine pu rfl rfl ?_
  first | refine pS rfl rfl ?_ | refine pu rfl rfl ?_
  first | refine pI rfl rfl ?_ | refine pu rfl rfl ?_
  first | refine pS rfl rfl ?_ | refine pu rfl rfl ?_
  refine SL_nil ?_
  refine nx ?_
  refine SWP_seq ?_
  refine SWP_region ?_
  first | refine pI rfl rfl ?_ | refine pu rfl rfl ?_
  refine pc rfl rfl (fun c16 => ?_) (fun c16 => ?_)
  · skip
    refine SL_nil ?_
    refine nx ?_
    refine SWP_ct rfl ?_
    refine SWP_seq ?_
    refine SWP_region ?_
    first | refine pI rfl rfl ?_ | refine pu rfl rfl ?_
    first | refine pI rfl rfl ?_ | refine pu rfl rfl ?_
    refine SL_nil ?_
    refine nx ?_
    refine SWP_ret ?_
    refine nr ?_
    refine fin [_] ⟨rfl, trivial⟩ ?_
    refine congrArg (Value.int .i64) ?_
    unfold resErr
    exact (if_pos (by omega)).symm
  refine SL_nil ?_
  refine nx ?_
  refine SWP_cf rfl ?_
  refine SWP_skip ?_
  refine nx ?_
  refine SWP_seq ?_
  refine SWP_seq ?_
  refine SWP_region ?_
  refine lw (v := .agg _) B2 0 rfl rfl rfl rfl ?_
  refine lw (v := .agg _) B3 0 rfl rfl rfl rfl ?_
  refine SL_pcall rfl rfl cb28 (numsI hr (gameOk (Classical.not_not.1 c16))) rfl ?_
  first | refine pI rfl rfl ?_ | refine pu rfl rfl ?_
  refine SL_nil ?_
  refine nx ?_
  refine SWP_seq ?_
  refine SWP_region ?_
  first | refine pI rfl rfl ?_ | refine pu rfl rfl ?_
  refine pc rfl rfl (fun c22 => ?_) (fun c22 => ?_)
  · skip
    refine SL_nil ?_
    refine nx ?_
    refine SWP_ct rfl ?_
    refine SWP_seq ?_
    refine SWP_region ?_
    first | refine pI rfl rfl ?_ | refine pu rfl rfl ?_
    first | refine pI rfl rfl ?_ | refine pu rfl rfl ?_
    refine SL_nil ?_
    refine nx ?_
    refine SWP_ret ?_
    refine nr ?_
    refine fin [_] ⟨rfl, trivial⟩ ?_
    refine congrArg (Value.int .i64) ?_
    unfold resErr
    exact ((if_neg (by omega)).trans (if_pos (by omega))).symm
  refine SL_nil ?_
  refine nx ?_
  refine SWP_cf rfl ?_
  refine SWP_skip ?_
  refine nx ?_
  refine SWP_merge1 [4, 8, 9, 24, 25, 26, 27, 28, 29, 30, 31, 32, 33, 34, 35, 36, 37] []
      (fun vs σ' m' => vs = [] ∧ ¬ (r.factor ≠ 0 ∧ ¬ (∃ a, findA 1 g.addons = some a ∧ r.factor ∈ a.factors)) ∧ (∃ τ, σ' = τ ++ [(B3, Cells 31 r.enc), (B2, Cells 25 g.enc)]) ∧ m = m')
      rfl ?_ ?_
  · skip
    refine SWP_seq ?_
    refine SWP_region ?_
    refine pu rfl rfl ?_
    refine lw (v := .int .i64 _) B3 3 rfl rfl rfl rfl ?_
    refine pc rfl rfl (fun c26 => ?_) (fun c26 => ?_)
    · skip
      refine SL_nil ?_
      refine nx ?_
      refine SWP_ct rfl ?_
      refine SWP_seq ?_
      refine SWP_region ?_
      refine lw (v := .agg _) B2 0 rfl rfl rfl rfl ?_
      refine SL_call rfl rfl cb29 (CallsS.frame0 (addonF hin 1)) rfl (fun v8_1 σ8_1 m8_1 hl8_1 hR8_1 => ?_)
      obtain ⟨σa, rfl, rfl, hm8_1, rfl⟩ := hR8_1
      have hn8_1 := hm8_1.symm
      subst hn8_1
      have hA := findA_in hin 1
      dsimp only [Addon.val]
      refine pu rfl rfl ?_
      first | refine pA rfl rfl ?_ | refine pu rfl rfl ?_
      refine pu rfl rfl ?_
      refine al rfl rfl (fun B8 => ?_)
      refine sw (v := .agg _) B8 0 rfl rfl rfl rfl rfl rfl rfl ?_
      first | refine pB rfl rfl ?_ | refine pu rfl rfl ?_
      refine SL_nil ?_
      refine nx ?_
      refine SWP_seq ?_
      refine SWP_region ?_
      refine pu rfl rfl ?_
      refine lw (v := .slice _ _ _) B8 3 rfl rfl rfl rfl ?_
      refine pu rfl rfl ?_
      refine lw (v := .int .i64 _) B3 3 rfl rfl rfl rfl ?_
      refine SL_pcall rfl rfl cb30 (containsI hA.1 r.factor) rfl ?_
      refine psp 36 rfl (fun c36 => ?_) (fun c36 => ?_)
      · skip
        refine pB rfl rfl ?_
        refine SL_nil ?_
        refine nx ?_
        refine SWP_cf rfl ?_
        refine SWP_skip ?_
        refine nx ?_
        refine ⟨by repeat (first | with_reducible exact Under.refl _ _ | exact Under.upds rfl (Under.hav _ _ _) | exact Under.hav _ _ _ | refine Under.upd rfl ?_ | refine Under.upds rfl ?_ | refine Under.hav2 rfl ?_), ?_⟩
        first
        | exact ⟨rfl, fun h => h.2 ((findA_fac 1).1 (by assumption)), ⟨[_], rfl⟩, rfl⟩
        | exact ⟨rfl, fun h => by omega, ⟨[], rfl⟩, rfl⟩
      refine pB rfl rfl ?_
      refine SL_nil ?_
      refine nx ?_
      refine SWP_ct rfl ?_
      refine SWP_seq ?_
      refine SWP_region ?_
      refine pI rfl rfl ?_
      refine SL_nil ?_
      refine nx ?_
      refine SWP_ret ?_
      refine nr ?_
      refine fin [_] ⟨rfl, trivial⟩ ?_
      refine congrArg (Value.int .i64) ?_
      unfold resErr
      refine Eq.symm ((if_neg (by omega)).trans ((if_neg (by omega)).trans ?_))
      unfold xtraErr
      exact if_pos ⟨by assumption, fun h => absurd ((findA_fac 1).2 h) (by assumption)⟩
    refine SL_nil ?_
    refine nx ?_
    refine SWP_cf rfl ?_
    refine SWP_skip ?_
    refine nx ?_
    refine ⟨by repeat (first | with_reducible exact Under.refl _ _ | exact Under.upds rfl (Under.hav _ _ _) | exact Under.hav _ _ _ | refine Under.upd rfl ?_ | refine Under.upds rfl ?_ | refine Under.hav2 rfl ?_), ?_⟩
    first
    | exact ⟨rfl, fun h => h.2 ((findA_fac 1).1 (by assumption)), ⟨[_], rfl⟩, rfl⟩
    | exact ⟨rfl, fun h => by omega, ⟨[], rfl⟩, rfl⟩
  intro uM0 vM0 σM0 mM0 hM0 _
  obtain ⟨rfl, hfx, ⟨τ, rfl⟩, rfl⟩ := hM0
  refine SWP_weak (List.sublist_append_right _ _) ?_
  dsimp only [Res.enc, Game.enc]
  refine SWP_seq ?_
  refine SWP_seq ?_
  refine SWP_region ?_
  refine pu rfl rfl ?_
  refine lw (v := .string _) B3 4 rfl rfl rfl rfl ?_
  refine pc rfl rfl (fun c40 => ?_) (fun c40 => ?_)
  · skip
    refine SL_nil ?_
    refine nx ?_
    refine SWP_ct rfl ?_
    refine SWP_seq ?_
    refine SWP_region ?_
    refine lw (v := .agg _) B2 0 rfl rfl rfl rfl ?_
    refine pu rfl rfl ?_
    refine lw (v := .string _) B3 4 rfl rfl rfl rfl ?_
    refine SL_pcall rfl rfl cb31 (serialI hin r.serial hs) rfl ?_
    first | refine pI rfl rfl ?_ | refine pu rfl rfl ?_
    refine SL_nil ?_
    refine nx ?_
    refine SWP_ret ?_
    refine nr ?_
    refine fin [_] ⟨rfl, trivial⟩ ?_
    refine congrArg (Value.int .i64) ?_
    unfold resErr
    refine Eq.symm ((if_neg (by omega)).trans ((if_neg (by omega)).trans ?_))
    unfold xtraErr
    exact (if_neg hfx).trans (if_neg (by assumption))
  refine SL_nil ?_
  refine nx ?_
  refine SWP_cf rfl ?_
  refine SWP_skip ?_
  refine nx ?_
  refine SWP_seq ?_
  refine SWP_region ?_
  refine pI rfl rfl ?_
  refine SL_nil ?_
  refine nx ?_
  refine SWP_ret ?_
  refine fin [_] ⟨rfl, trivial⟩ ?_
  refine congrArg (Value.int .i64) ?_
  unfold resErr
  refine Eq.symm ((if_neg (by omega)).trans ((if_neg (by omega)).trans ?_))
  unfold xtraErr
  exact (if_neg hfx).trans (if_pos (Classical.not_not.1 (by assumption)))

end Go.Proofs.Ytkopdlglenejmaa

