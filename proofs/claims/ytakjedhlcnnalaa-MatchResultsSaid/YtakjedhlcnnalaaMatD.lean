/- match.Digits, lotteryref32.Digits, lotterylaw32.MatchDigits. -/
import Derived.Test.YtakjedhlcnnalaaData
import Derived.Test.YtakjedhlcnnalaaEngMore
import Derived.Test.YtakjedhlcnnalaaTys
import Derived.Test.YtakjedhlcnnalaaFns
import Derived.Test.YtakjedhlcnnalaaShelf
import Derived.Lib.SlKeysI
namespace Go.Proofs.Ytakjedhlcnnalaa
open Eng

theorem encZ_map : ∀ z : List Int, z.map encZ = z.flatMap intE
  | [] => rfl
  | a :: z => by rw [List.map_cons, encZ_map z]; rfl
/-- slices.Sort on a list that the running code owns. -/
theorem sortI {m : Mem} {τ σk : Sig} {sv : Value} {ks : List Int} (hown : OwnS 3 1 sv (ks.flatMap intE) σk) (hsz : ks.length < 4611686018427387904) :
    CallsS Try.prog 20 [sv].toArray (σk ++ τ) m fun _ σ' m' => m' = m ∧ ∃ σk', σ' = σk' ++ τ ∧ OwnS 3 1 sv ((ks.mergeSort leI).flatMap intE) σk' := by
  have hx : (ks.flatMap intE).length = ks.length := by rw [flatMap_len intE_len, Nat.mul_one]
  have hl2 : (ks.mergeSort leI).length = ks.length := (List.mergeSort_perm ks leI).length_eq
  generalize hxs : ks.flatMap intE = xs at hown hx
  cases hown with
  | nil =>
    have h0 : ks = [] := List.eq_nil_of_length_eq_zero (by simpa using hx.symm)
    subst h0
    intro g W hC
    exact (Try.slices_Sort_int_none none 0 W).mono fun e W' ⟨h1, h2⟩ => by
      subst h2
      exact ⟨_, _, m, h1, hC, Le.refl m, rfl, [], rfl, by simp only [List.mergeSort_nil, List.flatMap_nil]; exact .nil⟩
  | row B n cap xs hn hle hcm =>
    have hnl : n = ks.length := by omega
    subst hnl
    subst hxs
    have hs := CallsS.sorted (P := Try.prog) (m := m) (enc := encZ) (F := 20) (B := B) (e := 3) (cap := cap) (cap' := cap) (ss := ks) (ss' := ks.mergeSort leI) (τ := τ)
      (by simp) (fun w hH hb => Try.slices_Sort_int B 0 cap ks w hH hb hsz)
    rw [encZ_map] at hs
    refine hs.mono fun v σ' m' _ ⟨h1, h2⟩ => ⟨h2, [(B, Row 3 1 cap ((ks.mergeSort leI).flatMap intE))], ?_, ?_⟩
    · rw [h1, encZ_map]; rfl
    · exact .row B ks.length cap _ (by rw [flatMap_len intE_len, Nat.mul_one, hl2, Nat.mul_one]) hle hcm
theorem q1 (ad : Addr) (k : Nat) : ad.add k = (ad.add (k * 1)).add 0 := by rw [Nat.mul_one]; exact (add_zero' _).symm

theorem all_intE : ∀ l : List Int, (l.flatMap intE).all (·.oneCell') = true
  | [] => rfl
  | x :: l => by rw [List.flatMap_cons, List.all_append, all_intE l]; rfl
theorem eq_of_get {a b : List Int} (hl : a.length = b.length) (h : ∀ j, j < a.length → a[j]? = b[j]?) : a = b := List.ext_getElem? fun j => by
  by_cases hj : j < a.length
  · exact h j hj
  · rw [List.getElem?_eq_none (by omega), List.getElem?_eq_none (by omega)]

theorem cloneI {m : Mem} {v : Value} {l : List Int} (h : RL m intE 1 v l) (hl : l.length ≤ 100000) : CallsS Try.prog 19 [v].toArray [] m fun r σ' m' => m' = m ∧ OwnS 3 1 r (l.flatMap intE) σ' := by
  obtain ⟨a, cap, rfl, hx1, hx2, hx3, hx4, hx5⟩ := h
  refine enter Try.func19 Try.ntmps19 rfl rfl ?_
  refine SWP_seq ?_
  refine SWP_region ?_
  refine pL rfl rfl ?_
  refine SL_nil ?_
  refine nx ?_
  refine SWP_seq ?_
  refine SWP_seq ?_
  refine SWP_region ?_
  first | refine pL rfl rfl ?_ | refine pu rfl rfl ?_
  refine pu (v := .bool a.isNone) rfl rfl ?_
  refine bsp 4 rfl (fun b4 => ?_) (fun b4 => ?_)
  · skip
    refine SL_nil ?_
    refine nx ?_
    refine SWP_ct rfl ?_
    refine SWP_seq ?_
    refine SWP_region ?_
    refine pL rfl rfl ?_
    refine SL_nil ?_
    refine nx ?_
    refine SWP_ret ?_
    refine nr ?_
    refine fin [_] ⟨rfl, trivial⟩ ?_
    have ha : a = none := by
      cases a with
      | none => rfl
      | some ad => cases b4
    have hl0 := (hx4 ha).1
    have e : l = [] := List.eq_nil_of_length_eq_zero hl0
    subst e
    exact ⟨rfl, .nil⟩
  refine SL_nil ?_
  refine nx ?_
  refine SWP_cf rfl ?_
  refine SWP_skip ?_
  refine nx ?_
  refine SWP_seq ?_
  refine SWP_region ?_
  refine bs rfl rfl rfl rfl rfl (fun B5 => ?_)
  refine SL_imp (row_nil _ 1) ?_
  obtain ⟨ad, rfl⟩ : ∃ ad, a = some ad := by
    cases a with
    | none => cases b4
    | some ad => exact ⟨ad, rfl⟩
  first | refine pL rfl rfl ?_ | refine pu rfl rfl ?_
  refine ap (e := 3) (size := 1) (bytes := 8) (k := l.length) rfl rfl rfl rfl rfl rfl rfl (.row B5 0 0 [] rfl (Nat.le_refl _) (Nat.zero_le _)) (.refl _) rfl (Rd.of_at (hx5 ad rfl)) (by rw [flatMap_len intE_len]) (all_intE l) (by simp; omega) rfl rfl (fun v7 σ7 hown7 => ?_)
  first | refine pL rfl rfl ?_ | refine pu rfl rfl ?_
  refine SL_nil ?_
  refine nx ?_
  refine SWP_ret ?_
  refine fin [_] ⟨rfl, trivial⟩ ?_
  exact ⟨rfl, by rw [List.append_nil]; exact hown7⟩

theorem equalI {m : Mem} {v w : Value} {a b : List Int} (h : RL m intE 1 v a) (h' : RL m intE 1 w b) (hl : a.length ≤ 100000) : PureCall Try.prog 21 [v, w] m (.bool (decide (a = b))) := by
  refine CallsS.pure ?_
  obtain ⟨a', cap, rfl⟩ := h.len
  obtain ⟨b', cap', rfl⟩ := h'.len
  refine enter Try.func21 Try.ntmps21 rfl rfl ?_
  refine SWP_seq ?_
  refine SWP_region ?_
  refine pB rfl rfl ?_
  refine SL_nil ?_
  refine nx ?_
  refine SWP_seq ?_
  refine SWP_seq ?_
  refine SWP_region ?_
  first | refine pL rfl rfl ?_ | refine pu rfl rfl ?_
  refine pu rfl rfl ?_
  first | refine pL rfl rfl ?_ | refine pu rfl rfl ?_
  refine pu rfl rfl ?_
  refine pc rfl rfl (fun c10 => ?_) (fun c10 => ?_)
  · skip
    refine SL_nil ?_
    refine nx ?_
    refine SWP_ct rfl ?_
    refine SWP_seq ?_
    refine SWP_region ?_
    refine pB rfl rfl ?_
    refine SL_nil ?_
    refine nx ?_
    refine SWP_ret ?_
    refine nr ?_
    refine fin [_] ⟨rfl, trivial⟩ ?_
    exact congrArg Value.bool (decide_eq_false fun e => by subst e; omega).symm
  refine SL_nil ?_
  refine nx ?_
  refine SWP_cf rfl ?_
  refine SWP_skip ?_
  refine nx ?_
  refine SWP_seq ?_
  refine SWP_seq ?_
  refine SWP_region ?_
  first | refine pL rfl rfl ?_ | refine pu rfl rfl ?_
  refine pu rfl rfl ?_
  refine pI rfl rfl ?_
  refine SL_nil ?_
  refine nx ?_
  refine SWP_block ?_
  refine SWP_loop [4, 5, 13, 14, 15, 16, 17, 18, 19, 20, 21, 22, 23, 24, 25] [13]
      (fun vs σ' m' => ∃ (i : Nat), vs = [.int .i64 (i : Nat)] ∧ i ≤ a.length ∧ (∀ j, j < i → a[j]? = b[j]?) ∧ σ' = [] ∧ m = m')
      (fun vs => a.length - nOf (vs.getD 0 undef)) rfl ?_ ?_
  · exact ⟨0, rfl, by omega, fun j hj => (by omega), rfl, rfl⟩
  intro u0 vs0 σ0 m0 hJ0 _
  obtain ⟨i, rfl, hi, hsame, rfl, rfl⟩ := hJ0
  refine SWP_seq ?_
  refine SWP_region ?_
  refine pc rfl rfl (fun c14 => ?_) (fun c14 => ?_)
  · skip
    refine SL_nil ?_
    refine nx ?_
    refine SWP_seq ?_
    refine SWP_ct rfl ?_
    refine SWP_skip ?_
    refine nx ?_
    refine SWP_seq ?_
    refine SWP_block ?_
    refine SWP_seq ?_
    refine SWP_region ?_
    first | refine pI rfl rfl ?_ | refine pu rfl rfl ?_
    first | refine pI rfl rfl ?_ | refine pu rfl rfl ?_
    refine SL_nil ?_
    refine nx ?_
    refine SWP_seq ?_
    obtain ⟨x, hx⟩ : ∃ x, a[i]? = some x := ⟨_, List.getElem?_eq_getElem (by omega)⟩
    obtain ⟨y, hy⟩ : ∃ y, b[i]? = some y := ⟨_, List.getElem?_eq_getElem (by omega)⟩
    obtain ⟨ad, cap2, e1, hat⟩ := RL.at1 intE_len h hx
    cases e1
    obtain ⟨ad', cap3, e2, hat'⟩ := RL.at1 intE_len h' hy
    cases e2
    refine SWP_draws (by kernel_rfl) (by kernel_rfl) ?_
    first | refine pL rfl rfl ?_ | refine pu rfl rfl ?_
    first | refine pI rfl rfl ?_ | refine pu rfl rfl ?_
    first | refine ia (es := 1) rfl rfl rfl (Nat.mul_one _) rfl rfl (by omega) rfl ?_ | refine iai (es := 1) rfl rfl rfl (Nat.mul_one _) rfl rfl (by omega) (by omega) rfl ?_
    refine ldA (v := .int .i64 _) rfl hat rfl rfl ?_
    first | refine pL rfl rfl ?_ | refine pu rfl rfl ?_
    first | refine pI rfl rfl ?_ | refine pu rfl rfl ?_
    first | refine ia (es := 1) rfl rfl rfl (Nat.mul_one _) rfl rfl (by omega) rfl ?_ | refine iai (es := 1) rfl rfl rfl (Nat.mul_one _) rfl rfl (by omega) (by omega) rfl ?_
    refine ldA (v := .int .i64 _) rfl hat' rfl rfl ?_
    refine pc rfl rfl (fun c24 => ?_) (fun c24 => ?_)
    · skip
      refine SL_nil ?_
      refine nx ?_
      refine SWP_ct rfl ?_
      refine SWP_seq ?_
      refine SWP_region ?_
      refine pB rfl rfl ?_
      refine SL_nil ?_
      refine nx ?_
      refine SWP_ret ?_
      refine br ?_
      refine nr ?_
      refine nr ?_
      refine br ?_
      refine nr ?_
      refine fin [_] ⟨rfl, trivial⟩ ?_
      exact congrArg Value.bool (decide_eq_false fun e => by subst e; rw [hx] at hy; cases hy; omega).symm
    refine SL_nil ?_
    refine nx ?_
    refine SWP_cf rfl ?_
    refine SWP_skip ?_
    refine nb ?_
    refine nx ?_
    refine SWP_region ?_
    first | refine pw rfl rfl (w64 (by omega) (by omega)) ?_ | refine pu rfl rfl ?_
    refine pI rfl rfl ?_
    refine SL_nil ?_
    refine nx ?_
    refine ⟨by repeat (first | exact Under.upds rfl (Under.hav _ _ _) | exact Under.hav _ _ _ | refine Under.upd rfl ?_), ?_, ?_⟩
    · refine ⟨i + 1, rfl, by omega, fun j hj => ?_, rfl, rfl⟩
      by_cases e : j = i
      · subst e
        rw [hx, hy, show x = y by omega]
      · exact hsame j (by omega)
    · simp only [L_vals, List.map, List.getD]; show a.length - (i + 1) < a.length - i; omega
  refine SL_nil ?_
  refine nx ?_
  refine SWP_seq ?_
  refine SWP_cf rfl ?_
  refine SWP_exit ?_
  refine ne ?_
  refine ne ?_
  refine be rfl ?_
  refine nx ?_
  refine SWP_seq ?_
  refine SWP_region ?_
  refine pB rfl rfl ?_
  refine SL_nil ?_
  refine nx ?_
  refine SWP_ret ?_
  refine fin [_] ⟨rfl, trivial⟩ ?_
  exact congrArg Value.bool (decide_eq_true (eq_of_get (by omega) fun j hj => hsame j (by omega))).symm

def seg (a : List Int) (lo hi : Int) : List Int := (a.take hi.toNat).drop lo.toNat
def digitsB (mode n : Int) (a b : List Int) : Bool :=
  if a.length ≠ b.length then false
  else if mode = 1 then decide (seg a 0 a.length = seg b 0 a.length)
  else if mode = 2 then decide (a.mergeSort leI = b.mergeSort leI)
  else if n < 1 ∨ (a.length : Int) < n then false
  else if mode = 3 then decide (seg a 0 n = seg b 0 n)
  else if mode = 4 then decide (seg a ((a.length : Int) - n) a.length = seg b ((a.length : Int) - n) a.length)
  else false
section
variable {mode n : Int} {a b : List Int}
theorem dB0 (h : a.length ≠ b.length) : digitsB mode n a b = false := if_pos h
theorem dB1 (h : a.length = b.length) (hm : mode = 1) : digitsB mode n a b = decide (seg a 0 a.length = seg b 0 a.length) := by unfold digitsB; rw [if_neg (by omega), if_pos hm]
theorem dB2 (h : a.length = b.length) (hm : mode = 2) : digitsB mode n a b = decide (a.mergeSort leI = b.mergeSort leI) := by unfold digitsB; rw [if_neg (by omega), if_neg (by omega), if_pos hm]
theorem dBb (h : a.length = b.length) (h1 : mode ≠ 1) (h2 : mode ≠ 2) (hn : n < 1 ∨ (a.length : Int) < n) : digitsB mode n a b = false := by unfold digitsB; rw [if_neg (by omega), if_neg h1, if_neg h2, if_pos hn]
theorem dB3 (h : a.length = b.length) (hn : ¬ (n < 1 ∨ (a.length : Int) < n)) (hm : mode = 3) : digitsB mode n a b = decide (seg a 0 n = seg b 0 n) := by unfold digitsB; rw [if_neg (by omega), if_neg (by omega), if_neg (by omega), if_neg hn, if_pos hm]
theorem dB4 (h : a.length = b.length) (hn : ¬ (n < 1 ∨ (a.length : Int) < n)) (hm : mode = 4) : digitsB mode n a b = decide (seg a ((a.length : Int) - n) a.length = seg b ((a.length : Int) - n) a.length) := by unfold digitsB; rw [if_neg (by omega), if_neg (by omega), if_neg (by omega), if_neg hn, if_neg (by omega), if_pos hm]
theorem dBx (h1 : mode ≠ 1) (h2 : mode ≠ 2) (h3 : mode ≠ 3) (h4 : mode ≠ 4) : digitsB mode n a b = false := by
  unfold digitsB; rw [if_neg h1, if_neg h2, if_neg h3, if_neg h4]; split <;> (try split) <;> rfl
theorem digits_comm (mode n : Int) (a b : List Int) : digitsB mode n a b = digitsB mode n b a := by
  by_cases h : a.length = b.length
  · have e : ∀ x y : List Int, decide (x = y) = decide (y = x) := fun x y => decide_eq_decide.2 ⟨Eq.symm, Eq.symm⟩
    unfold digitsB
    rw [h]
    simp only [ne_eq, not_true_eq_false, if_false]
    rw [e (seg a 0 b.length), e (a.mergeSort leI), e (seg a 0 n), e (seg a ((b.length : Int) - n) b.length)]
  · rw [dB0 h, dB0 (fun e => h e.symm)]
theorem seg_eq {f k : Nat} (hl : a.length = b.length) : seg a (f : Nat) ((f : Nat) + (k : Nat) : Int) = seg b (f : Nat) ((f : Nat) + (k : Nat) : Int) ↔ ∀ j, f ≤ j → j < f + k → a[j]? = b[j]? := by
  unfold seg
  rw [show ((f : Nat) + (k : Nat) : Int) = ((f + k : Nat) : Int) by push_cast; rfl, Int.toNat_natCast, Int.toNat_natCast]
  constructor
  · intro h j h1 h2
    have := congrArg (fun z => z[j - f]?) h
    simp only [List.getElem?_drop, List.getElem?_take] at this
    rw [show f + (j - f) = j by omega, if_pos h2, if_pos h2] at this
    exact this
  · intro h
    apply List.ext_getElem?
    intro j
    simp only [List.getElem?_drop, List.getElem?_take]
    split
    · exact h _ (by omega) (by assumption)
    · rfl
theorem count_perm : ∀ {a b : List Int}, (∀ x ∈ a, a.count x ≤ b.count x) → a.length ≤ b.length ∧ (a.length = b.length → a.Perm b)
  | [], b, _ => ⟨Nat.zero_le _, fun h => by rw [List.eq_nil_of_length_eq_zero h.symm]⟩
  | x :: a, b, h => by
    have hx := h x (by simp)
    rw [List.count_cons_self] at hx
    have hm : x ∈ b := List.count_pos_iff.1 (by omega)
    have ih := count_perm (a := a) (b := b.erase x) fun y hy => by
      have h1 := h y (List.mem_cons_of_mem _ hy)
      rw [List.count_erase]
      rw [List.count_cons] at h1
      by_cases e : x == y
      · rw [if_pos e] at h1 ⊢; omega
      · rw [if_neg e] at h1 ⊢; omega
    have hl := List.length_erase_of_mem hm
    have hp : 0 < b.length := List.length_pos_of_mem hm
    refine ⟨by rw [List.length_cons]; omega, fun he => ?_⟩
    rw [List.length_cons] at he
    exact ((ih.2 (by omega)).cons x).trans (List.perm_cons_erase hm).symm
theorem box_eq (hl : a.length = b.length) : a.mergeSort leI = b.mergeSort leI ↔ ∀ x ∈ a, a.count x = b.count x := by
  constructor
  · intro h x _
    have h1 : a.Perm b := (List.mergeSort_perm a leI).symm.trans (by rw [h]; exact List.mergeSort_perm b leI)
    exact h1.count_eq x
  · intro h
    exact mergeSort_of_perm_i ((count_perm fun x hx => Nat.le_of_eq (h x hx)).2 hl)
end

theorem digitsI {m : Mem} {v w : Value} {a b : List Int} (h : RL m intE 1 v a) (h' : RL m intE 1 w b) (hl : a.length ≤ 1000) (hl2 : b.length ≤ 1000) (mode n : Int) : CallsS Try.prog 9 [.int .i64 mode, .int .i64 n, v, w].toArray [] m fun r σ' m' => r = .bool (digitsB mode n a b) ∧ σ' = [] := by
  refine CallsS.ghost (R' := fun r _ _ => r = .bool (digitsB mode n a b)) ?_ ?h2
  case h2 =>
    rintro r σ' m' h1 g W hC
    exact ⟨_, m', hC.sublist (List.nil_sublist _), Le.refl _, h1, rfl⟩
  obtain ⟨pa, cap, rfl, hcap⟩ := h.full
  obtain ⟨pb, cap', rfl, hcap'⟩ := h'.full
  refine enter Try.func9 Try.ntmps9 rfl rfl ?_
  refine SWP_seq ?_
  refine SWP_region ?_
  refine pB rfl rfl ?_
  refine SL_nil ?_
  refine nx ?_
  refine SWP_seq ?_
  refine SWP_region ?_
  first | refine pL rfl rfl ?_ | refine pu rfl rfl ?_
  refine pu rfl rfl ?_
  refine pI rfl rfl ?_
  refine SL_nil ?_
  refine nx ?_
  refine SWP_seq ?_
  refine SWP_seq ?_
  refine SWP_region ?_
  first | refine pL rfl rfl ?_ | refine pu rfl rfl ?_
  refine pu rfl rfl ?_
  refine pI rfl rfl ?_
  refine pc rfl rfl (fun c19 => ?_) (fun c19 => ?_)
  · skip
    refine SL_nil ?_
    refine nx ?_
    refine SWP_ct rfl ?_
    refine SWP_seq ?_
    refine SWP_region ?_
    refine pB rfl rfl ?_
    refine SL_nil ?_
    refine nx ?_
    refine SWP_ret ?_
    refine nr ?_
    refine fin [_] ⟨rfl, trivial⟩ ?_
    exact congrArg Value.bool (dB0 (by omega)).symm
  refine SL_nil ?_
  refine nx ?_
  refine SWP_cf rfl ?_
  refine SWP_skip ?_
  refine nx ?_
  refine SWP_seq ?_
  refine SWP_region ?_
  refine pI rfl rfl ?_
  refine pI rfl rfl ?_
  refine pI rfl rfl ?_
  refine SL_nil ?_
  refine nx ?_
  refine SWP_seq ?_
  refine SWP_seq ?_
  refine SWP_region ?_
  first | refine pI rfl rfl ?_ | refine pu rfl rfl ?_
  refine SL_nil ?_
  refine nx ?_
  refine SWP_block ?_
  refine SWP_seq ?_
  refine SWP_block ?_
  refine SWP_seq ?_
  refine SWP_block ?_
  refine SWP_seq ?_
  refine SWP_block ?_
  refine SWP_seq ?_
  refine SWP_seq ?_
  refine SWP_seq ?_
  refine SWP_region ?_
  refine pc rfl rfl (fun c23 => ?_) (fun c23 => ?_)
  · skip
    refine pB rfl rfl ?_
    refine SL_nil ?_
    refine nx ?_
    refine SWP_ct rfl ?_
    refine SWP_exit ?_
    refine ne ?_
    refine ne ?_
    refine be rfl ?_
    refine nx ?_
    refine SWP_seq ?_
    refine SWP_seq ?_
    refine SWP_region ?_
    first | refine pL rfl rfl ?_ | refine pu rfl rfl ?_
    refine SL_call rfl rfl cb19 (cloneI h (by omega)) rfl (fun v10_1 σ10_1 m10_1 hl10_1 hR10_1 => ?_)
    obtain ⟨hm10_1, hown1⟩ := hR10_1
    have hn10_1 := hm10_1.symm
    subst hn10_1
    first | refine pL rfl rfl ?_ | refine pu rfl rfl ?_
    refine SL_call rfl rfl cb19 (CallsS.frame0 (cloneI h' (by omega))) rfl (fun v10_3 σ10_3 m10_3 hl10_3 hR10_3 => ?_)
    obtain ⟨σ₂, rfl, hm10_3, hown2⟩ := hR10_3
    have hn10_3 := hm10_3.symm
    subst hn10_3
    first | refine pL rfl rfl ?_ | refine pu rfl rfl ?_
    first | refine pL rfl rfl ?_ | refine pu rfl rfl ?_
    refine SL_nil ?_
    refine nx ?_
    refine SWP_seq ?_
    refine SWP_region ?_
    first | refine pL rfl rfl ?_ | refine pu rfl rfl ?_
    refine SL_call rfl rfl cb20 (CallsS.perm1 (sortI hown1 (by omega)) List.perm_append_comm) rfl (fun v11_1 σ11_1 m11_1 hl11_1 hR11_1 => ?_)
    obtain ⟨hm11_1, σ1s, rfl, hown1s⟩ := hR11_1
    have hn11_1 := hm11_1.symm
    subst hn11_1
    refine SL_nil ?_
    refine nx ?_
    refine SWP_seq ?_
    refine SWP_region ?_
    first | refine pL rfl rfl ?_ | refine pu rfl rfl ?_
    refine SL_call rfl rfl cb20 (CallsS.perm1 (sortI hown2 (by omega)) List.perm_append_comm) rfl (fun v12_1 σ12_1 m12_1 hl12_1 hR12_1 => ?_)
    obtain ⟨hm12_1, σ2s, rfl, hown2s⟩ := hR12_1
    have hn12_1 := hm12_1.symm
    subst hn12_1
    refine SL_freezeL (by omega) intE_len hown2s (fun m3 hl3 hb3 => ?_)
    rw [← List.append_nil σ1s]
    refine SL_freezeL (by omega) intE_len hown1s (fun m4 hl4 ha4 => ?_)
    refine SL_nil ?_
    refine nx ?_
    refine SWP_seq ?_
    refine SWP_region ?_
    first | refine pL rfl rfl ?_ | refine pu rfl rfl ?_
    first | refine pL rfl rfl ?_ | refine pu rfl rfl ?_
    refine SL_pcall rfl rfl cb21 (equalI ha4 (hb3.mono hl4) (by rw [(List.mergeSort_perm _ _).length_eq]; omega)) rfl ?_
    first | refine pB rfl rfl ?_ | refine pu rfl rfl ?_
    refine SL_nil ?_
    refine nx ?_
    refine SWP_ret ?_
    refine nr ?_
    refine br ?_
    refine nr ?_
    refine br ?_
    refine nr ?_
    refine br ?_
    refine nr ?_
    refine fin [_] ⟨rfl, trivial⟩ ?_
    exact congrArg Value.bool (dB2 (by omega) (by omega)).symm
  refine pB rfl rfl ?_
  refine SL_nil ?_
  refine nx ?_
  refine SWP_cf rfl ?_
  refine SWP_skip ?_
  refine nx ?_
  refine SWP_seq ?_
  refine SWP_seq ?_
  refine SWP_seq ?_
  refine SWP_region ?_
  refine pc rfl rfl (fun c25 => ?_) (fun c25 => ?_)
  · skip
    refine pB rfl rfl ?_
    refine SL_nil ?_
    refine nx ?_
    refine SWP_ct rfl ?_
    refine SWP_skip ?_
    refine nx ?_
    refine SWP_ct rfl ?_
    refine SWP_exit ?_
    refine ne ?_
    refine ne ?_
    refine bo rfl ?_
    refine ne ?_
    refine be rfl ?_
    refine nx ?_
    refine SWP_seq ?_
    refine SWP_seq ?_
    refine SWP_region ?_
    first | refine pI rfl rfl ?_ | refine pu rfl rfl ?_
    refine pc rfl rfl (fun c41 => ?_) (fun c41 => ?_)
    · skip
      refine pB rfl rfl ?_
      refine SL_no rfl rfl ?_
      refine SL_no rfl rfl ?_
      refine SL_no rfl rfl ?_
      refine pB rfl rfl ?_
      refine SL_nil ?_
      refine nx ?_
      refine SWP_ct rfl ?_
      refine SWP_seq ?_
      refine SWP_region ?_
      refine pB rfl rfl ?_
      refine SL_nil ?_
      refine nx ?_
      refine SWP_ret ?_
      refine nr ?_
      refine br ?_
      refine nr ?_
      refine br ?_
      refine nr ?_
      refine fin [_] ⟨rfl, trivial⟩ ?_
      exact congrArg Value.bool (dBb (by omega) (by omega) (by omega) (by omega)).symm
    refine pB rfl rfl ?_
    refine SL_yes rfl ?_
    first | refine pI rfl rfl ?_ | refine pu rfl rfl ?_
    refine SL_yes rfl ?_
    refine pI rfl rfl ?_
    refine SL_yes rfl ?_
    refine pc rfl rfl (fun c45 => ?_) (fun c45 => ?_)
    · skip
      refine pB rfl rfl ?_
      refine SL_nil ?_
      refine nx ?_
      refine SWP_ct rfl ?_
      refine SWP_seq ?_
      refine SWP_region ?_
      refine pB rfl rfl ?_
      refine SL_nil ?_
      refine nx ?_
      refine SWP_ret ?_
      refine nr ?_
      refine br ?_
      refine nr ?_
      refine br ?_
      refine nr ?_
      refine fin [_] ⟨rfl, trivial⟩ ?_
      exact congrArg Value.bool (dBb (by omega) (by omega) (by omega) (by omega)).symm
    refine pB rfl rfl ?_
    refine SL_nil ?_
    refine nx ?_
    refine SWP_cf rfl ?_
    refine SWP_skip ?_
    refine nx ?_
    refine SWP_seq ?_
    refine SWP_region ?_
    first | refine pI rfl rfl ?_ | refine pu rfl rfl ?_
    refine pc rfl rfl (fun c48 => ?_) (fun c48 => ?_)
    · skip
      refine SL_nil ?_
      refine nx ?_
      refine SWP_ct rfl ?_
      refine SWP_region ?_
      first | refine pI rfl rfl ?_ | refine pu rfl rfl ?_
      first | refine pI rfl rfl ?_ | refine pu rfl rfl ?_
      refine SL_nil ?_
      refine nb ?_
      refine nx ?_
      refine SWP_seq ?_
      refine SWP_seq ?_
      refine SWP_draws (by kernel_rfl) (by kernel_rfl) ?_
      first | refine pL rfl rfl ?_ | refine pu rfl rfl ?_
      refine pI rfl rfl ?_
      first | refine pI rfl rfl ?_ | refine pu rfl rfl ?_
      refine sli (size := 1) rfl rfl rfl rfl rfl rfl (by omega) (by omega) (by omega) rfl ?_
      first | refine pL rfl rfl ?_ | refine pu rfl rfl ?_
      refine pI rfl rfl ?_
      first | refine pI rfl rfl ?_ | refine pu rfl rfl ?_
      refine sli (size := 1) rfl rfl rfl rfl rfl rfl (by omega) (by omega) (by omega) rfl ?_
      refine SL_pcall rfl rfl cb21 (equalI (RL.sub intE_len h (by omega) (by omega)) (RL.sub intE_len h' (by omega) (by omega)) (by rw [List.length_drop, List.length_take]; omega)) rfl ?_
      first | refine pB rfl rfl ?_ | refine pu rfl rfl ?_
      refine SL_nil ?_
      refine nx ?_
      refine SWP_ret ?_
      refine nr ?_
      refine br ?_
      refine nr ?_
      refine fin [_] ⟨rfl, trivial⟩ ?_
      exact congrArg Value.bool (dB3 (by omega) (by omega) (by omega)).symm
    refine SL_nil ?_
    refine nx ?_
    refine SWP_cf rfl ?_
    refine SWP_region ?_
    refine pI rfl rfl ?_
    first | refine pI rfl rfl ?_ | refine pu rfl rfl ?_
    first | refine pw rfl rfl (w64 (by omega) (by omega)) ?_ | refine pu rfl rfl ?_
    refine pI rfl rfl ?_
    refine SL_nil ?_
    refine nb ?_
    refine nx ?_
    refine SWP_seq ?_
    refine SWP_seq ?_
    refine SWP_draws (by kernel_rfl) (by kernel_rfl) ?_
    first | refine pL rfl rfl ?_ | refine pu rfl rfl ?_
    refine pI rfl rfl ?_
    first | refine pI rfl rfl ?_ | refine pu rfl rfl ?_
    refine sli (size := 1) rfl rfl rfl rfl rfl rfl (by omega) (by omega) (by omega) rfl ?_
    first | refine pL rfl rfl ?_ | refine pu rfl rfl ?_
    refine pI rfl rfl ?_
    first | refine pI rfl rfl ?_ | refine pu rfl rfl ?_
    refine sli (size := 1) rfl rfl rfl rfl rfl rfl (by omega) (by omega) (by omega) rfl ?_
    refine SL_pcall rfl rfl cb21 (equalI (RL.sub intE_len h (by omega) (by omega)) (RL.sub intE_len h' (by omega) (by omega)) (by rw [List.length_drop, List.length_take]; omega)) rfl ?_
    first | refine pB rfl rfl ?_ | refine pu rfl rfl ?_
    refine SL_nil ?_
    refine nx ?_
    refine SWP_ret ?_
    refine nr ?_
    refine br ?_
    refine nr ?_
    refine fin [_] ⟨rfl, trivial⟩ ?_
    exfalso; omega
  refine pB rfl rfl ?_
  refine SL_nil ?_
  refine nx ?_
  refine SWP_cf rfl ?_
  refine SWP_region ?_
  refine pc rfl rfl (fun c26 => ?_) (fun c26 => ?_)
  · skip
    refine pB rfl rfl ?_
    refine SL_nil ?_
    refine nx ?_
    refine SWP_ct rfl ?_
    refine SWP_exit ?_
    refine ne ?_
    refine ne ?_
    refine bo rfl ?_
    refine ne ?_
    refine be rfl ?_
    refine nx ?_
    refine SWP_seq ?_
    refine SWP_seq ?_
    refine SWP_region ?_
    first | refine pI rfl rfl ?_ | refine pu rfl rfl ?_
    refine pc rfl rfl (fun c41 => ?_) (fun c41 => ?_)
    · skip
      refine pB rfl rfl ?_
      refine SL_no rfl rfl ?_
      refine SL_no rfl rfl ?_
      refine SL_no rfl rfl ?_
      refine pB rfl rfl ?_
      refine SL_nil ?_
      refine nx ?_
      refine SWP_ct rfl ?_
      refine SWP_seq ?_
      refine SWP_region ?_
      refine pB rfl rfl ?_
      refine SL_nil ?_
      refine nx ?_
      refine SWP_ret ?_
      refine nr ?_
      refine br ?_
      refine nr ?_
      refine br ?_
      refine nr ?_
      refine fin [_] ⟨rfl, trivial⟩ ?_
      exact congrArg Value.bool (dBb (by omega) (by omega) (by omega) (by omega)).symm
    refine pB rfl rfl ?_
    refine SL_yes rfl ?_
    first | refine pI rfl rfl ?_ | refine pu rfl rfl ?_
    refine SL_yes rfl ?_
    refine pI rfl rfl ?_
    refine SL_yes rfl ?_
    refine pc rfl rfl (fun c45 => ?_) (fun c45 => ?_)
    · skip
      refine pB rfl rfl ?_
      refine SL_nil ?_
      refine nx ?_
      refine SWP_ct rfl ?_
      refine SWP_seq ?_
      refine SWP_region ?_
      refine pB rfl rfl ?_
      refine SL_nil ?_
      refine nx ?_
      refine SWP_ret ?_
      refine nr ?_
      refine br ?_
      refine nr ?_
      refine br ?_
      refine nr ?_
      refine fin [_] ⟨rfl, trivial⟩ ?_
      exact congrArg Value.bool (dBb (by omega) (by omega) (by omega) (by omega)).symm
    refine pB rfl rfl ?_
    refine SL_nil ?_
    refine nx ?_
    refine SWP_cf rfl ?_
    refine SWP_skip ?_
    refine nx ?_
    refine SWP_seq ?_
    refine SWP_region ?_
    first | refine pI rfl rfl ?_ | refine pu rfl rfl ?_
    refine pc rfl rfl (fun c48 => ?_) (fun c48 => ?_)
    · skip
      refine SL_nil ?_
      refine nx ?_
      refine SWP_ct rfl ?_
      refine SWP_region ?_
      first | refine pI rfl rfl ?_ | refine pu rfl rfl ?_
      first | refine pI rfl rfl ?_ | refine pu rfl rfl ?_
      refine SL_nil ?_
      refine nb ?_
      refine nx ?_
      refine SWP_seq ?_
      refine SWP_seq ?_
      refine SWP_draws (by kernel_rfl) (by kernel_rfl) ?_
      first | refine pL rfl rfl ?_ | refine pu rfl rfl ?_
      refine pI rfl rfl ?_
      first | refine pI rfl rfl ?_ | refine pu rfl rfl ?_
      refine sli (size := 1) rfl rfl rfl rfl rfl rfl (by omega) (by omega) (by omega) rfl ?_
      first | refine pL rfl rfl ?_ | refine pu rfl rfl ?_
      refine pI rfl rfl ?_
      first | refine pI rfl rfl ?_ | refine pu rfl rfl ?_
      refine sli (size := 1) rfl rfl rfl rfl rfl rfl (by omega) (by omega) (by omega) rfl ?_
      refine SL_pcall rfl rfl cb21 (equalI (RL.sub intE_len h (by omega) (by omega)) (RL.sub intE_len h' (by omega) (by omega)) (by rw [List.length_drop, List.length_take]; omega)) rfl ?_
      first | refine pB rfl rfl ?_ | refine pu rfl rfl ?_
      refine SL_nil ?_
      refine nx ?_
      refine SWP_ret ?_
      refine nr ?_
      refine br ?_
      refine nr ?_
      refine fin [_] ⟨rfl, trivial⟩ ?_
      exfalso; omega
    refine SL_nil ?_
    refine nx ?_
    refine SWP_cf rfl ?_
    refine SWP_region ?_
    refine pI rfl rfl ?_
    first | refine pI rfl rfl ?_ | refine pu rfl rfl ?_
    first | refine pw rfl rfl (w64 (by omega) (by omega)) ?_ | refine pu rfl rfl ?_
    refine pI rfl rfl ?_
    refine SL_nil ?_
    refine nb ?_
    refine nx ?_
    refine SWP_seq ?_
    refine SWP_seq ?_
    refine SWP_draws (by kernel_rfl) (by kernel_rfl) ?_
    first | refine pL rfl rfl ?_ | refine pu rfl rfl ?_
    refine pI rfl rfl ?_
    first | refine pI rfl rfl ?_ | refine pu rfl rfl ?_
    refine sli (size := 1) rfl rfl rfl rfl rfl rfl (by omega) (by omega) (by omega) rfl ?_
    first | refine pL rfl rfl ?_ | refine pu rfl rfl ?_
    refine pI rfl rfl ?_
    first | refine pI rfl rfl ?_ | refine pu rfl rfl ?_
    refine sli (size := 1) rfl rfl rfl rfl rfl rfl (by omega) (by omega) (by omega) rfl ?_
    refine SL_pcall rfl rfl cb21 (equalI (RL.sub intE_len h (by omega) (by omega)) (RL.sub intE_len h' (by omega) (by omega)) (by rw [List.length_drop, List.length_take]; omega)) rfl ?_
    first | refine pB rfl rfl ?_ | refine pu rfl rfl ?_
    refine SL_nil ?_
    refine nx ?_
    refine SWP_ret ?_
    refine nr ?_
    refine br ?_
    refine nr ?_
    refine fin [_] ⟨rfl, trivial⟩ ?_
    exact congrArg Value.bool (dB4 (by omega) (by omega) (by omega)).symm
  refine pB rfl rfl ?_
  refine SL_nil ?_
  refine nx ?_
  refine SWP_cf rfl ?_
  refine SWP_skip ?_
  refine nx ?_
  refine SWP_seq ?_
  refine SWP_region ?_
  refine pc rfl rfl (fun c28 => ?_) (fun c28 => ?_)
  · skip
    refine pB rfl rfl ?_
    refine SL_nil ?_
    refine nx ?_
    refine SWP_ct rfl ?_
    refine SWP_exit ?_
    refine ne ?_
    refine bo rfl ?_
    refine ne ?_
    refine bo rfl ?_
    refine ne ?_
    refine be rfl ?_
    refine nx ?_
    refine SWP_seq ?_
    refine SWP_seq ?_
    refine SWP_draws (by kernel_rfl) (by kernel_rfl) ?_
    first | refine pL rfl rfl ?_ | refine pu rfl rfl ?_
    refine pI rfl rfl ?_
    first | refine pI rfl rfl ?_ | refine pu rfl rfl ?_
    refine sli (size := 1) rfl rfl rfl rfl rfl rfl (by omega) (by omega) (by omega) rfl ?_
    first | refine pL rfl rfl ?_ | refine pu rfl rfl ?_
    refine pI rfl rfl ?_
    first | refine pI rfl rfl ?_ | refine pu rfl rfl ?_
    refine sli (size := 1) rfl rfl rfl rfl rfl rfl (by omega) (by omega) (by omega) rfl ?_
    refine SL_pcall rfl rfl cb21 (equalI (RL.sub intE_len h (by omega) (by omega)) (RL.sub intE_len h' (by omega) (by omega)) (by rw [List.length_drop, List.length_take]; omega)) rfl ?_
    first | refine pB rfl rfl ?_ | refine pu rfl rfl ?_
    refine SL_nil ?_
    refine nx ?_
    refine SWP_ret ?_
    refine nr ?_
    refine br ?_
    refine nr ?_
    refine fin [_] ⟨rfl, trivial⟩ ?_
    exact congrArg Value.bool (dB1 (by omega) (by omega)).symm
  refine pB rfl rfl ?_
  refine SL_nil ?_
  refine nx ?_
  refine SWP_cf rfl ?_
  refine SWP_skip ?_
  refine nx ?_
  refine SWP_exit ?_
  refine bo rfl ?_
  refine ne ?_
  refine bo rfl ?_
  refine ne ?_
  refine bo rfl ?_
  refine ne ?_
  refine be rfl ?_
  refine nx ?_
  refine SWP_seq ?_
  refine SWP_region ?_
  refine pB rfl rfl ?_
  refine SL_nil ?_
  refine nx ?_
  refine SWP_ret ?_
  refine fin [_] ⟨rfl, trivial⟩ ?_
  exact congrArg Value.bool (dBx (by omega) (by omega) (by omega) (by omega)).symm

theorem count_snoc {l : List Int} {i : Nat} {x y : Int} (hy : l[i]? = some y) : (l.take (i + 1)).count x = if y = x then (l.take i).count x + 1 else (l.take i).count x := by
  have hk := List.getElem?_eq_some_iff.1 hy
  rw [List.take_succ_eq_append_getElem hk.1, hk.2, List.count_append, List.count_singleton]
  by_cases e : y = x <;> simp [e]

theorem oftenR {m : Mem} {v : Value} {l : List Int} (h : RL m intE 1 v l) (hl : l.length ≤ 1000) (x : Int) : PureCall Try.prog 23 [v, .int .i64 x] m (.int .i64 (l.count x : Nat)) := by
  refine CallsS.pure ?_
  obtain ⟨a, cap, rfl⟩ := h.len
  refine enter Try.func23 Try.ntmps23 rfl rfl ?_
  refine SWP_seq ?_
  refine SWP_region ?_
  refine pI rfl rfl ?_
  refine SL_nil ?_
  refine nx ?_
  refine SWP_seq ?_
  refine SWP_region ?_
  refine pI rfl rfl ?_
  refine SL_nil ?_
  refine nx ?_
  refine SWP_seq ?_
  refine SWP_seq ?_
  refine SWP_region ?_
  refine pI rfl rfl ?_
  refine SL_nil ?_
  refine nx ?_
  refine SWP_block ?_
  refine SWP_loop [5, 6, 7, 8, 9, 10, 11, 12, 13, 14, 15, 16, 17, 18, 19, 20] [5, 6]
      (fun vs σ' m' => ∃ (i : Nat), vs = [.int .i64 ((l.take i).count x : Nat), .int .i64 (i : Nat)] ∧ i ≤ l.length ∧ σ' = [] ∧ m = m')
      (fun vs => l.length - nOf (vs.getD 1 undef)) rfl ?_ ?_
  · exact ⟨0, rfl, by omega, rfl, rfl⟩
  intro u0 vs0 σ0 m0 hJ0 _
  obtain ⟨i, rfl, hi, rfl, rfl⟩ := hJ0
  have hcl : (l.take i).count x ≤ l.length := Nat.le_trans List.count_le_length (by rw [List.length_take]; omega)
  refine SWP_seq ?_
  refine SWP_seq ?_
  refine SWP_region ?_
  first | refine pI rfl rfl ?_ | refine pu rfl rfl ?_
  first | refine pL rfl rfl ?_ | refine pu rfl rfl ?_
  refine pu rfl rfl ?_
  refine pc rfl rfl (fun c10 => ?_) (fun c10 => ?_)
  · skip
    refine SL_nil ?_
    refine nx ?_
    refine SWP_ct rfl ?_
    refine SWP_skip ?_
    refine nx ?_
    refine SWP_seq ?_
    refine SWP_block ?_
    refine SWP_seq ?_
    obtain ⟨y, hy⟩ : ∃ y, l[i]? = some y := ⟨_, List.getElem?_eq_getElem (by omega)⟩
    obtain ⟨ad, cap2, e1, hat⟩ := RL.at1 intE_len h hy
    cases e1
    refine SWP_region ?_
    first | refine pL rfl rfl ?_ | refine pu rfl rfl ?_
    first | refine pI rfl rfl ?_ | refine pu rfl rfl ?_
    first | refine ia (es := 1) rfl rfl rfl (Nat.mul_one _) rfl rfl (by omega) rfl ?_ | refine iai (es := 1) rfl rfl rfl (Nat.mul_one _) rfl rfl (by omega) (by omega) rfl ?_
    refine ldA (v := .int .i64 _) rfl (by assumption) rfl rfl ?_
    first | refine pI rfl rfl ?_ | refine pu rfl rfl ?_
    refine pc rfl rfl (fun c18 => ?_) (fun c18 => ?_)
    · skip
      refine SL_nil ?_
      refine nx ?_
      refine SWP_ct rfl ?_
      refine SWP_region ?_
      first | refine pI rfl rfl ?_ | refine pu rfl rfl ?_
      first | refine pw rfl rfl (w64 (by omega) (by omega)) ?_ | refine pu rfl rfl ?_
      refine pI rfl rfl ?_
      refine SL_nil ?_
      refine nb ?_
      refine nx ?_
      refine SWP_region ?_
      first | refine pI rfl rfl ?_ | refine pu rfl rfl ?_
      first | refine pw rfl rfl (w64 (by omega) (by omega)) ?_ | refine pu rfl rfl ?_
      refine pI rfl rfl ?_
      refine SL_nil ?_
      refine nx ?_
      refine ⟨by repeat (first | exact Under.upds rfl (Under.hav _ _ _) | exact Under.hav _ _ _ | refine Under.upd rfl ?_), ?_, ?_⟩
      · refine ⟨i + 1, ?_, by omega, rfl, rfl⟩
        rw [count_snoc hy, if_pos c18]; rfl
      · simp only [L_vals, List.map, List.getD]; show l.length - (i + 1) < l.length - i; omega
    refine SL_nil ?_
    refine nx ?_
    refine SWP_cf rfl ?_
    refine SWP_skip ?_
    refine nb ?_
    refine nx ?_
    refine SWP_region ?_
    first | refine pI rfl rfl ?_ | refine pu rfl rfl ?_
    first | refine pw rfl rfl (w64 (by omega) (by omega)) ?_ | refine pu rfl rfl ?_
    refine pI rfl rfl ?_
    refine SL_nil ?_
    refine nx ?_
    refine ⟨by repeat (first | exact Under.upds rfl (Under.hav _ _ _) | exact Under.hav _ _ _ | refine Under.upd rfl ?_), ?_, ?_⟩
    · refine ⟨i + 1, ?_, by omega, rfl, rfl⟩
      rw [count_snoc hy, if_neg c18]; rfl
    · simp only [L_vals, List.map, List.getD]; show l.length - (i + 1) < l.length - i; omega
  refine SL_nil ?_
  refine nx ?_
  refine SWP_cf rfl ?_
  refine SWP_exit ?_
  refine ne ?_
  refine ne ?_
  refine be rfl ?_
  refine nx ?_
  refine SWP_seq ?_
  refine SWP_region ?_
  first | refine pI rfl rfl ?_ | refine pu rfl rfl ?_
  first | refine pI rfl rfl ?_ | refine pu rfl rfl ?_
  refine SL_nil ?_
  refine nx ?_
  refine SWP_ret ?_
  refine fin [_] ⟨rfl, trivial⟩ ?_
  have e : i = l.length := by omega
  rw [e, List.take_length]
  rfl

theorem equalR {m : Mem} {v w : Value} {a b : List Int} (h : RL m intE 1 v a) (h' : RL m intE 1 w b) (hl : a.length ≤ 1000) (hl2 : b.length ≤ 1000) (hlen : a.length = b.length) {f k : Nat} (hfk : f + k ≤ a.length) : PureCall Try.prog 22 [v, w, .int .i64 (f : Nat), .int .i64 (k : Nat)] m (.bool (decide (seg a (f : Nat) ((f : Nat) + (k : Nat) : Int) = seg b (f : Nat) ((f : Nat) + (k : Nat) : Int)))) := by
  refine CallsS.pure ?_
  obtain ⟨pa, cap, rfl⟩ := h.len
  obtain ⟨pb, cap', rfl⟩ := h'.len
  refine enter Try.func22 Try.ntmps22 rfl rfl ?_
  refine SWP_seq ?_
  refine SWP_region ?_
  refine pB rfl rfl ?_
  refine SL_nil ?_
  refine nx ?_
  refine SWP_seq ?_
  refine SWP_seq ?_
  refine SWP_region ?_
  first | refine pI rfl rfl ?_ | refine pu rfl rfl ?_
  first | refine pI rfl rfl ?_ | refine pu rfl rfl ?_
  refine SL_nil ?_
  refine nx ?_
  refine SWP_block ?_
  refine SWP_loop [8, 9, 11, 12, 13, 14, 15, 16, 17, 18, 19, 20, 21, 22, 23, 24, 25, 26] [9]
      (fun vs σ' m' => ∃ (i : Nat), vs = [.int .i64 (i : Nat)] ∧ f ≤ i ∧ i ≤ f + k ∧ (∀ j, f ≤ j → j < i → a[j]? = b[j]?) ∧ σ' = [] ∧ m = m')
      (fun vs => f + k - nOf (vs.getD 0 undef)) rfl ?_ ?_
  · exact ⟨f, rfl, by omega, by omega, fun j h1 h2 => (by omega), rfl, rfl⟩
  intro u0 vs0 σ0 m0 hJ0 _
  obtain ⟨i, rfl, hfi, hi, hsame, rfl, rfl⟩ := hJ0
  refine SWP_seq ?_
  refine SWP_seq ?_
  refine SWP_region ?_
  first | refine pI rfl rfl ?_ | refine pu rfl rfl ?_
  first | refine pI rfl rfl ?_ | refine pu rfl rfl ?_
  first | refine pI rfl rfl ?_ | refine pu rfl rfl ?_
  first | refine pw rfl rfl (w64 (by omega) (by omega)) ?_ | refine pu rfl rfl ?_
  refine pc rfl rfl (fun c15 => ?_) (fun c15 => ?_)
  · skip
    refine SL_nil ?_
    refine nx ?_
    refine SWP_ct rfl ?_
    refine SWP_skip ?_
    refine nx ?_
    refine SWP_seq ?_
    refine SWP_block ?_
    refine SWP_seq ?_
    obtain ⟨x, hx⟩ : ∃ x, a[i]? = some x := ⟨_, List.getElem?_eq_getElem (by omega)⟩
    obtain ⟨y, hy⟩ : ∃ y, b[i]? = some y := ⟨_, List.getElem?_eq_getElem (by omega)⟩
    obtain ⟨ad, cap2, e1, hat⟩ := RL.at1 intE_len h hx
    cases e1
    obtain ⟨ad', cap3, e2, hat'⟩ := RL.at1 intE_len h' hy
    cases e2
    refine SWP_draws (by kernel_rfl) (by kernel_rfl) ?_
    first | refine pL rfl rfl ?_ | refine pu rfl rfl ?_
    first | refine pI rfl rfl ?_ | refine pu rfl rfl ?_
    first | refine ia (es := 1) rfl rfl rfl (Nat.mul_one _) rfl rfl (by omega) rfl ?_ | refine iai (es := 1) rfl rfl rfl (Nat.mul_one _) rfl rfl (by omega) (by omega) rfl ?_
    refine ldA (v := .int .i64 _) rfl hat rfl rfl ?_
    first | refine pL rfl rfl ?_ | refine pu rfl rfl ?_
    first | refine pI rfl rfl ?_ | refine pu rfl rfl ?_
    first | refine ia (es := 1) rfl rfl rfl (Nat.mul_one _) rfl rfl (by omega) rfl ?_ | refine iai (es := 1) rfl rfl rfl (Nat.mul_one _) rfl rfl (by omega) (by omega) rfl ?_
    refine ldA (v := .int .i64 _) rfl hat' rfl rfl ?_
    refine pc rfl rfl (fun c26 => ?_) (fun c26 => ?_)
    · skip
      refine SL_nil ?_
      refine nx ?_
      refine SWP_ct rfl ?_
      refine SWP_seq ?_
      refine SWP_region ?_
      refine pB rfl rfl ?_
      refine SL_nil ?_
      refine nx ?_
      refine SWP_ret ?_
      refine br ?_
      refine nr ?_
      refine nr ?_
      refine br ?_
      refine nr ?_
      refine fin [_] ⟨rfl, trivial⟩ ?_
      exact congrArg Value.bool (decide_eq_false fun e => by have := (seg_eq hlen).1 e i hfi (by omega); rw [hx, hy] at this; cases this; omega).symm
    refine SL_nil ?_
    refine nx ?_
    refine SWP_cf rfl ?_
    refine SWP_skip ?_
    refine nb ?_
    refine nx ?_
    refine SWP_region ?_
    first | refine pI rfl rfl ?_ | refine pu rfl rfl ?_
    first | refine pw rfl rfl (w64 (by omega) (by omega)) ?_ | refine pu rfl rfl ?_
    refine pI rfl rfl ?_
    refine SL_nil ?_
    refine nx ?_
    refine ⟨by repeat (first | exact Under.upds rfl (Under.hav _ _ _) | exact Under.hav _ _ _ | refine Under.upd rfl ?_), ?_, ?_⟩
    · refine ⟨i + 1, rfl, by omega, by omega, fun j h1 h2 => ?_, rfl, rfl⟩
      by_cases e : j = i
      · subst e
        rw [hx, hy, show x = y by omega]
      · exact hsame j h1 (by omega)
    · simp only [L_vals, List.map, List.getD]; show f + k - (i + 1) < f + k - i; omega
  refine SL_nil ?_
  refine nx ?_
  refine SWP_cf rfl ?_
  refine SWP_exit ?_
  refine ne ?_
  refine ne ?_
  refine be rfl ?_
  refine nx ?_
  refine SWP_seq ?_
  refine SWP_region ?_
  refine pB rfl rfl ?_
  refine SL_nil ?_
  refine nx ?_
  refine SWP_ret ?_
  refine fin [_] ⟨rfl, trivial⟩ ?_
  exact congrArg Value.bool (decide_eq_true ((seg_eq hlen).2 fun j h1 h2 => hsame j h1 (by omega))).symm

theorem take_snocI {x : Int} {S : List Int} {i : Nat} (hx : S[i]? = some x) : S.take (i + 1) = S.take i ++ [x] := by
  have hk := List.getElem?_eq_some_iff.1 hx
  rw [List.take_succ_eq_append_getElem hk.1, hk.2]
def dA : List Int := [1, 2, 2]
def dB : List Int := [2, 1, 2]
theorem digLives : digitsB 2 0 dA dB = true := by
  rw [dB2 (a := dA) (b := dB) rfl rfl]
  exact decide_eq_true ((box_eq (a := dA) (b := dB) rfl).2 (by decide))

theorem digitsR {m : Mem} {v w : Value} {a b : List Int} (h : RL m intE 1 v a) (h' : RL m intE 1 w b) (hl : a.length ≤ 1000) (hl2 : b.length ≤ 1000) (mode n : Int) : PureCall Try.prog 10 [.int .i64 mode, .int .i64 n, v, w] m (.bool (digitsB mode n a b)) := by
  refine CallsS.pure ?_
  obtain ⟨pa, cap, rfl⟩ := h.len
  obtain ⟨pb, cap', rfl⟩ := h'.len
  refine enter Try.func10 Try.ntmps10 rfl rfl ?_
  refine SWP_seq ?_
  refine SWP_region ?_
  refine pB rfl rfl ?_
  refine SL_nil ?_
  refine nx ?_
  refine SWP_seq ?_
  refine SWP_seq ?_
  refine SWP_region ?_
  first | refine pL rfl rfl ?_ | refine pu rfl rfl ?_
  refine pu rfl rfl ?_
  first | refine pL rfl rfl ?_ | refine pu rfl rfl ?_
  refine pu rfl rfl ?_
  refine pc rfl rfl (fun c14 => ?_) (fun c14 => ?_)
  · skip
    refine SL_nil ?_
    refine nx ?_
    refine SWP_ct rfl ?_
    refine SWP_seq ?_
    refine SWP_region ?_
    refine pB rfl rfl ?_
    refine SL_nil ?_
    refine nx ?_
    refine SWP_ret ?_
    refine nr ?_
    refine fin [_] ⟨rfl, trivial⟩ ?_
    exact congrArg Value.bool (dB0 (by omega)).symm
  refine SL_nil ?_
  refine nx ?_
  refine SWP_cf rfl ?_
  refine SWP_skip ?_
  refine nx ?_
  refine SWP_seq ?_
  refine SWP_seq ?_
  refine SWP_region ?_
  first | refine pI rfl rfl ?_ | refine pu rfl rfl ?_
  refine pc rfl rfl (fun c16 => ?_) (fun c16 => ?_)
  · skip
    refine SL_nil ?_
    refine nx ?_
    refine SWP_ct rfl ?_
    refine SWP_seq ?_
    refine SWP_region ?_
    first | refine pL rfl rfl ?_ | refine pu rfl rfl ?_
    first | refine pL rfl rfl ?_ | refine pu rfl rfl ?_
    first | refine pL rfl rfl ?_ | refine pu rfl rfl ?_
    refine pu rfl rfl ?_
    refine SL_pcall rfl rfl cb22 (equalR h h' hl hl2 (by omega) (f := 0) (k := a.length) (by omega)) rfl ?_
    first | refine pB rfl rfl ?_ | refine pu rfl rfl ?_
    refine SL_nil ?_
    refine nx ?_
    refine SWP_ret ?_
    refine nr ?_
    refine fin [_] ⟨rfl, trivial⟩ ?_
    exact congrArg Value.bool (by rw [dB1 (by omega) c16]; simp)
  refine SL_nil ?_
  refine nx ?_
  refine SWP_cf rfl ?_
  refine SWP_skip ?_
  refine nx ?_
  refine SWP_seq ?_
  refine SWP_seq ?_
  refine SWP_region ?_
  first | refine pI rfl rfl ?_ | refine pu rfl rfl ?_
  refine pc rfl rfl (fun c23 => ?_) (fun c23 => ?_)
  · skip
    refine SL_nil ?_
    refine nx ?_
    refine SWP_ct rfl ?_
    refine SWP_seq ?_
    refine SWP_seq ?_
    refine SWP_region ?_
    refine pI rfl rfl ?_
    refine SL_nil ?_
    refine nx ?_
    refine SWP_block ?_
    refine SWP_loop [8, 9, 24, 25, 26, 27, 28, 29, 30, 31, 32, 33, 34, 35, 36, 37, 38, 39, 40, 41, 42] [9]
        (fun vs σ' m' => ∃ (i : Nat), vs = [.int .i64 (i : Nat)] ∧ i ≤ a.length ∧ (∀ x ∈ a.take i, a.count x = b.count x) ∧ σ' = [] ∧ m = m')
        (fun vs => a.length - nOf (vs.getD 0 undef)) rfl ?_ ?_
    · exact ⟨0, rfl, by omega, by simp, rfl, rfl⟩
    intro u0 vs0 σ0 m0 hJ0 _
    obtain ⟨i, rfl, hi, hbox, rfl, rfl⟩ := hJ0
    refine SWP_seq ?_
    refine SWP_seq ?_
    refine SWP_region ?_
    first | refine pI rfl rfl ?_ | refine pu rfl rfl ?_
    first | refine pL rfl rfl ?_ | refine pu rfl rfl ?_
    refine pu rfl rfl ?_
    refine pc rfl rfl (fun c27 => ?_) (fun c27 => ?_)
    · skip
      refine SL_nil ?_
      refine nx ?_
      refine SWP_ct rfl ?_
      refine SWP_skip ?_
      refine nx ?_
      refine SWP_seq ?_
      refine SWP_block ?_
      refine SWP_seq ?_
      obtain ⟨x, hx⟩ : ∃ x, a[i]? = some x := ⟨_, List.getElem?_eq_getElem (by omega)⟩
      obtain ⟨ad, cap2, e1, hat⟩ := RL.at1 intE_len h hx
      cases e1
      refine SWP_draws (by kernel_rfl) (by kernel_rfl) ?_
      first | refine pL rfl rfl ?_ | refine pu rfl rfl ?_
      first | refine pL rfl rfl ?_ | refine pu rfl rfl ?_
      first | refine pI rfl rfl ?_ | refine pu rfl rfl ?_
      first | refine ia (es := 1) rfl rfl rfl (Nat.mul_one _) rfl rfl (by omega) rfl ?_ | refine iai (es := 1) rfl rfl rfl (Nat.mul_one _) rfl rfl (by omega) (by omega) rfl ?_
      refine ldA (v := .int .i64 _) rfl (by assumption) rfl rfl ?_
      refine SL_pcall rfl rfl cb23 (oftenR h hl x) rfl ?_
      first | refine pL rfl rfl ?_ | refine pu rfl rfl ?_
      first | refine pL rfl rfl ?_ | refine pu rfl rfl ?_
      first | refine pI rfl rfl ?_ | refine pu rfl rfl ?_
      first | refine ia (es := 1) rfl rfl rfl (Nat.mul_one _) rfl rfl (by omega) rfl ?_ | refine iai (es := 1) rfl rfl rfl (Nat.mul_one _) rfl rfl (by omega) (by omega) rfl ?_
      refine ldA (v := .int .i64 _) rfl (by assumption) rfl rfl ?_
      refine SL_pcall rfl rfl cb23 (oftenR h' hl2 x) rfl ?_
      refine pc rfl rfl (fun c42 => ?_) (fun c42 => ?_)
      · skip
        refine SL_nil ?_
        refine nx ?_
        refine SWP_ct rfl ?_
        refine SWP_seq ?_
        refine SWP_region ?_
        refine pB rfl rfl ?_
        refine SL_nil ?_
        refine nx ?_
        refine SWP_ret ?_
        refine br ?_
        refine nr ?_
        refine nr ?_
        refine br ?_
        refine nr ?_
        refine nr ?_
        refine fin [_] ⟨rfl, trivial⟩ ?_
        refine congrArg Value.bool ?_
        rw [dB2 (by omega) c23]
        refine (decide_eq_false fun e => ?_).symm
        have := (box_eq (by omega)).1 e x (List.mem_of_getElem? hx)
        omega
      refine SL_nil ?_
      refine nx ?_
      refine SWP_cf rfl ?_
      refine SWP_skip ?_
      refine nb ?_
      refine nx ?_
      refine SWP_region ?_
      first | refine pI rfl rfl ?_ | refine pu rfl rfl ?_
      first | refine pw rfl rfl (w64 (by omega) (by omega)) ?_ | refine pu rfl rfl ?_
      refine pI rfl rfl ?_
      refine SL_nil ?_
      refine nx ?_
      refine ⟨by repeat (first | exact Under.upds rfl (Under.hav _ _ _) | exact Under.hav _ _ _ | refine Under.upd rfl ?_), ?_, ?_⟩
      · refine ⟨i + 1, rfl, by omega, fun y hy => ?_, rfl, rfl⟩
        rw [take_snocI hx] at hy
        rcases List.mem_append.1 hy with hy | hy
        · exact hbox y hy
        · rw [List.mem_singleton.1 hy]; omega
      · simp only [L_vals, List.map, List.getD]; show a.length - (i + 1) < a.length - i; omega
    refine SL_nil ?_
    refine nx ?_
    refine SWP_cf rfl ?_
    refine SWP_exit ?_
    refine ne ?_
    refine ne ?_
    refine be rfl ?_
    refine nx ?_
    refine SWP_seq ?_
    refine SWP_region ?_
    refine pB rfl rfl ?_
    refine SL_nil ?_
    refine nx ?_
    refine SWP_ret ?_
    refine nr ?_
    refine fin [_] ⟨rfl, trivial⟩ ?_
    refine congrArg Value.bool ?_
    rw [dB2 (by omega) c23]
    have e : i = a.length := by omega
    rw [e, List.take_length] at hbox
    exact (decide_eq_true ((box_eq (by omega)).2 hbox)).symm
  refine SL_nil ?_
  refine nx ?_
  refine SWP_cf rfl ?_
  refine SWP_skip ?_
  refine nx ?_
  refine SWP_seq ?_
  refine SWP_seq ?_
  refine SWP_region ?_
  first | refine pI rfl rfl ?_ | refine pu rfl rfl ?_
  refine pc rfl rfl (fun c44 => ?_) (fun c44 => ?_)
  · skip
    refine pB rfl rfl ?_
    refine SL_no rfl rfl ?_
    refine SL_no rfl rfl ?_
    refine SL_no rfl rfl ?_
    refine SL_no rfl rfl ?_
    refine pB rfl rfl ?_
    refine SL_nil ?_
    refine nx ?_
    refine SWP_ct rfl ?_
    refine SWP_seq ?_
    refine SWP_region ?_
    refine pB rfl rfl ?_
    refine SL_nil ?_
    refine nx ?_
    refine SWP_ret ?_
    refine nr ?_
    refine fin [_] ⟨rfl, trivial⟩ ?_
    exact congrArg Value.bool (dBb (by omega) (by omega) (by omega) (by omega)).symm
  refine pB rfl rfl ?_
  refine SL_yes rfl ?_
  first | refine pI rfl rfl ?_ | refine pu rfl rfl ?_
  refine SL_yes rfl ?_
  first | refine pL rfl rfl ?_ | refine pu rfl rfl ?_
  refine SL_yes rfl ?_
  refine pu rfl rfl ?_
  refine SL_yes rfl ?_
  refine pc rfl rfl (fun c49 => ?_) (fun c49 => ?_)
  · skip
    refine pB rfl rfl ?_
    refine SL_nil ?_
    refine nx ?_
    refine SWP_ct rfl ?_
    refine SWP_seq ?_
    refine SWP_region ?_
    refine pB rfl rfl ?_
    refine SL_nil ?_
    refine nx ?_
    refine SWP_ret ?_
    refine nr ?_
    refine fin [_] ⟨rfl, trivial⟩ ?_
    exact congrArg Value.bool (dBb (by omega) (by omega) (by omega) (by omega)).symm
  refine pB rfl rfl ?_
  refine SL_nil ?_
  refine nx ?_
  refine SWP_cf rfl ?_
  refine SWP_skip ?_
  refine nx ?_
  refine SWP_seq ?_
  refine SWP_seq ?_
  refine SWP_region ?_
  first | refine pI rfl rfl ?_ | refine pu rfl rfl ?_
  refine pc rfl rfl (fun c52 => ?_) (fun c52 => ?_)
  · skip
    refine SL_nil ?_
    refine nx ?_
    refine SWP_ct rfl ?_
    refine SWP_seq ?_
    obtain ⟨k, rfl⟩ : ∃ k : Nat, n = (k : Int) := ⟨n.toNat, by omega⟩
    refine SWP_region ?_
    first | refine pL rfl rfl ?_ | refine pu rfl rfl ?_
    first | refine pL rfl rfl ?_ | refine pu rfl rfl ?_
    first | refine pI rfl rfl ?_ | refine pu rfl rfl ?_
    refine SL_pcall rfl rfl cb22 (equalR h h' hl hl2 (by omega) (f := 0) (k := k) (by omega)) rfl ?_
    first | refine pB rfl rfl ?_ | refine pu rfl rfl ?_
    refine SL_nil ?_
    refine nx ?_
    refine SWP_ret ?_
    refine nr ?_
    refine fin [_] ⟨rfl, trivial⟩ ?_
    exact congrArg Value.bool (by rw [dB3 (by omega) (by omega) c52]; simp)
  refine SL_nil ?_
  refine nx ?_
  refine SWP_cf rfl ?_
  refine SWP_skip ?_
  refine nx ?_
  refine SWP_seq ?_
  obtain ⟨k, rfl⟩ : ∃ k : Nat, n = (k : Int) := ⟨n.toNat, by omega⟩
  refine SWP_region ?_
  first | refine pI rfl rfl ?_ | refine pu rfl rfl ?_
  refine pc rfl rfl (fun c58 => ?_) (fun c58 => ?_)
  · skip
    refine pB rfl rfl ?_
    refine SL_yes rfl ?_
    first | refine pL rfl rfl ?_ | refine pu rfl rfl ?_
    refine SL_yes rfl ?_
    first | refine pL rfl rfl ?_ | refine pu rfl rfl ?_
    refine SL_yes rfl ?_
    first | refine pL rfl rfl ?_ | refine pu rfl rfl ?_
    refine SL_yes rfl ?_
    refine pu rfl rfl ?_
    refine SL_yes rfl ?_
    first | refine pI rfl rfl ?_ | refine pu rfl rfl ?_
    refine SL_yes rfl ?_
    refine pw rfl rfl (w64 (by omega) (by omega)) ?_
    have hsub : (a.length : Int) - (k : Int) = ((a.length - k : Nat) : Int) := by omega
    rw [hsub]
    refine SL_yes rfl ?_
    first | refine pI rfl rfl ?_ | refine pu rfl rfl ?_
    refine SL_yes rfl ?_
    refine SL_pcall rfl rfl cb22 (equalR h h' hl hl2 (by omega) (f := a.length - k) (k := k) (by omega)) rfl ?_
    refine pB rfl rfl ?_
    refine pB rfl rfl ?_
    refine SL_nil ?_
    refine nx ?_
    refine SWP_ret ?_
    refine fin [_] ⟨rfl, trivial⟩ ?_
    refine congrArg Value.bool ?_
    rw [dB4 (by omega) (by omega) c58, show ((a.length - k : Nat) : Int) + (k : Int) = a.length by omega, hsub]
  refine pB rfl rfl ?_
  refine SL_no rfl rfl ?_
  refine SL_no rfl rfl ?_
  refine SL_no rfl rfl ?_
  refine SL_no rfl rfl ?_
  refine SL_no rfl rfl ?_
  refine SL_no rfl rfl ?_
  refine SL_no rfl rfl ?_
  refine SL_no rfl rfl ?_
  refine pB rfl rfl ?_
  refine pB rfl rfl ?_
  refine SL_nil ?_
  refine nx ?_
  refine SWP_ret ?_
  refine fin [_] ⟨rfl, trivial⟩ ?_
  exact congrArg Value.bool (dBx (by omega) (by omega) (by omega) (by omega)).symm

theorem lawMatchDigits {m : Mem} {v w : Value} {a b : List Int} (mode n : Int) (h : RL m intE 1 v a) (h' : RL m intE 1 w b) : CallsS Try.prog 3 [.int .i64 mode, .int .i64 n, v, w].toArray [] m fun r _ _ => r = .bool true := by
  obtain ⟨pa, cap, rfl⟩ := h.len
  obtain ⟨pb, cap', rfl⟩ := h'.len
  refine enter Try.func3 Try.ntmps3 rfl rfl ?_
  refine SWP_seq ?_
  refine SWP_region ?_
  refine pB rfl rfl ?_
  refine SL_nil ?_
  refine nx ?_
  refine SWP_seq ?_
  refine SWP_region ?_
  refine bs rfl rfl rfl rfl rfl (fun B11 => ?_)
  refine SL_freeze (fun m1 hl1 hat1 => ?_)
  have hdA := RL.of_at intE_len dA rfl rfl hat1
  refine bs rfl rfl rfl rfl rfl (fun B12 => ?_)
  refine SL_freeze (fun m2 hl2 hat2 => ?_)
  have hdB := RL.of_at intE_len dB rfl rfl hat2
  refine SL_call rfl rfl cb9 (digitsI (hdA.mono hl2) hdB (by decide) (by decide) 2 0) rfl (fun v1_2 σ1_2 m1_2 hl1_2 hR1_2 => ?_)
  obtain ⟨rfl, rfl⟩ := hR1_2
  rw [digLives]
  first | refine pB rfl rfl ?_ | refine pu rfl rfl ?_
  refine SL_nil ?_
  refine nx ?_
  refine SWP_seq ?_
  refine SWP_seq ?_
  refine SWP_region ?_
  first | refine pL rfl rfl ?_ | refine pu rfl rfl ?_
  refine pu rfl rfl ?_
  refine pc rfl rfl (fun c16 => ?_) (fun c16 => ?_)
  · skip
    refine pB rfl rfl ?_
    refine SL_no rfl rfl ?_
    refine SL_no rfl rfl ?_
    refine SL_no rfl rfl ?_
    refine pB rfl rfl ?_
    refine SL_nil ?_
    refine nx ?_
    refine SWP_ct rfl ?_
    refine SWP_seq ?_
    refine SWP_region ?_
    first | refine pB rfl rfl ?_ | refine pu rfl rfl ?_
    first | refine pB rfl rfl ?_ | refine pu rfl rfl ?_
    refine SL_nil ?_
    refine nx ?_
    refine SWP_ret ?_
    refine nr ?_
    refine fin [_] ⟨rfl, trivial⟩ ?_
    rfl
  refine pB rfl rfl ?_
  refine SL_yes rfl ?_
  first | refine pL rfl rfl ?_ | refine pu rfl rfl ?_
  refine SL_yes rfl ?_
  refine pu rfl rfl ?_
  refine SL_yes rfl ?_
  refine pc rfl rfl (fun c20 => ?_) (fun c20 => ?_)
  · skip
    refine pB rfl rfl ?_
    refine SL_nil ?_
    refine nx ?_
    refine SWP_ct rfl ?_
    refine SWP_seq ?_
    refine SWP_region ?_
    first | refine pB rfl rfl ?_ | refine pu rfl rfl ?_
    first | refine pB rfl rfl ?_ | refine pu rfl rfl ?_
    refine SL_nil ?_
    refine nx ?_
    refine SWP_ret ?_
    refine nr ?_
    refine fin [_] ⟨rfl, trivial⟩ ?_
    rfl
  refine pB rfl rfl ?_
  refine SL_nil ?_
  refine nx ?_
  refine SWP_cf rfl ?_
  refine SWP_skip ?_
  refine nx ?_
  refine SWP_seq ?_
  refine SWP_region ?_
  first | refine pI rfl rfl ?_ | refine pu rfl rfl ?_
  first | refine pI rfl rfl ?_ | refine pu rfl rfl ?_
  first | refine pL rfl rfl ?_ | refine pu rfl rfl ?_
  first | refine pL rfl rfl ?_ | refine pu rfl rfl ?_
  refine SL_call rfl rfl cb9 (digitsI (h.mono (hl1.trans (hl2.trans hl1_2))) (h'.mono (hl1.trans (hl2.trans hl1_2))) (by omega) (by omega) mode n) rfl (fun v4_4 σ4_4 m4_4 hl4_4 hR4_4 => ?_)
  obtain ⟨rfl, rfl⟩ := hR4_4
  first | refine pB rfl rfl ?_ | refine pu rfl rfl ?_
  refine SL_nil ?_
  refine nx ?_
  refine SWP_seq ?_
  refine SWP_region ?_
  first | refine pB rfl rfl ?_ | refine pu rfl rfl ?_
  first | refine pI rfl rfl ?_ | refine pu rfl rfl ?_
  first | refine pI rfl rfl ?_ | refine pu rfl rfl ?_
  first | refine pL rfl rfl ?_ | refine pu rfl rfl ?_
  first | refine pL rfl rfl ?_ | refine pu rfl rfl ?_
  refine SL_pcall rfl rfl cb10 (digitsR (h.mono (hl1.trans (hl2.trans (hl1_2.trans hl4_4)))) (h'.mono (hl1.trans (hl2.trans (hl1_2.trans hl4_4)))) (by omega) (by omega) mode n) rfl ?_
  refine pt rfl rfl (rfl) ?_
  refine pB rfl rfl ?_
  refine SL_yes rfl ?_
  first | refine pB rfl rfl ?_ | refine pu rfl rfl ?_
  refine SL_yes rfl ?_
  first | refine pI rfl rfl ?_ | refine pu rfl rfl ?_
  refine SL_yes rfl ?_
  first | refine pI rfl rfl ?_ | refine pu rfl rfl ?_
  refine SL_yes rfl ?_
  first | refine pL rfl rfl ?_ | refine pu rfl rfl ?_
  refine SL_yes rfl ?_
  first | refine pL rfl rfl ?_ | refine pu rfl rfl ?_
  refine SL_yes rfl ?_
  refine SL_call rfl rfl cb9 (digitsI (h'.mono (hl1.trans (hl2.trans (hl1_2.trans hl4_4)))) (h.mono (hl1.trans (hl2.trans (hl1_2.trans hl4_4)))) (by omega) (by omega) mode n) rfl (fun v5_13 σ5_13 m5_13 hl5_13 hR5_13 => ?_)
  obtain ⟨rfl, rfl⟩ := hR5_13
  refine SL_yes rfl ?_
  refine pt rfl rfl (digits_comm mode n a b) ?_
  refine pB rfl rfl ?_
  refine pB rfl rfl ?_
  refine SL_yes rfl ?_
  first | refine pB rfl rfl ?_ | refine pu rfl rfl ?_
  refine pB rfl rfl ?_
  refine pB rfl rfl ?_
  refine SL_nil ?_
  refine nx ?_
  refine SWP_ret ?_
  refine fin [_] ⟨rfl, trivial⟩ ?_
  rfl

end Go.Proofs.Ytakjedhlcnnalaa

