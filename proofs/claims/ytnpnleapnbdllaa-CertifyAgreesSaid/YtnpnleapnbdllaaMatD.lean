/- match.Digits, lotteryref32.Digits, lotterylaw32.MatchDigits. -/
import Derived.Test.YtnpnleapnbdllaaData
import Derived.Test.YtnpnleapnbdllaaEngMore
import Derived.Test.YtnpnleapnbdllaaTys
import Derived.Test.YtnpnleapnbdllaaFns
import Derived.Test.YtnpnleapnbdllaaShelf
import Derived.Lib.SlKeysI
namespace Go.Proofs.Ytnpnleapnbdllaa
open Eng

theorem encZ_map : ∀ z : List Int, z.map encZ = z.flatMap intE
  | [] => rfl
  | a :: z => by rw [List.map_cons, encZ_map z]; rfl
/-- slices.Sort on a list that the running code owns. -/
theorem sortI {m : Mem} {τ σk : Sig} {sv : Value} {ks : List Int} (hown : OwnS 3 1 sv (ks.flatMap intE) σk) (hsz : ks.length < 4611686018427387904) :
    CallsS Try.prog 32 [sv].toArray (σk ++ τ) m fun _ σ' m' => m' = m ∧ ∃ σk', σ' = σk' ++ τ ∧ OwnS 3 1 sv ((ks.mergeSort leI).flatMap intE) σk' := by
  have hx : (ks.flatMap intE).length = ks.length := by rw [flatMap_len intE_len, Nat.mul_one]
  have hl2 : (ks.mergeSort leI).length = ks.length := (List.mergeSort_perm ks leI).length_eq
  generalize hxs : ks.flatMap intE = xs at hown hx
  cases hown with
  | nil =>
    have h0 : ks = [] := List.eq_nil_of_length_eq_zero (by simpa using hx.symm)
    subst h0
    intro g W hC
    exact (Try.slices_Sort_int_none none 0 W).mono fun e W' ⟨h1, h2⟩ => by
      subst h2
      exact ⟨_, _, m, h1, hC, Le.refl m, rfl, [], rfl, by simp only [List.mergeSort_nil, List.flatMap_nil]; exact .nil⟩
  | row B n cap xs hn hle hcm =>
    have hnl : n = ks.length := by omega
    subst hnl
    subst hxs
    have hs := CallsS.sorted (P := Try.prog) (m := m) (enc := encZ) (F := 32) (B := B) (e := 3) (cap := cap) (cap' := cap) (ss := ks) (ss' := ks.mergeSort leI) (τ := τ)
      (by simp) (fun w hH hb => Try.slices_Sort_int B 0 cap ks w hH hb hsz)
    rw [encZ_map] at hs
    refine hs.mono fun v σ' m' _ ⟨h1, h2⟩ => ⟨h2, [(B, Row 3 1 cap ((ks.mergeSort leI).flatMap intE))], ?_, ?_⟩
    · rw [h1, encZ_map]; rfl
    · exact .row B ks.length cap _ (by rw [flatMap_len intE_len, Nat.mul_one, hl2, Nat.mul_one]) hle hcm
theorem q1 (ad : Addr) (k : Nat) : ad.add k = (ad.add (k * 1)).add 0 := by rw [Nat.mul_one]; exact (add_zero' _).symm

theorem all_intE : ∀ l : List Int, (l.flatMap intE).all (·.oneCell') = true
  | [] => rfl
  | x :: l => by rw [List.flatMap_cons, List.all_append, all_intE l]; rfl
theorem eq_of_get {a b : List Int} (hl : a.length = b.length) (h : ∀ j, j < a.length → a[j]? = b[j]?) : a = b := List.ext_getElem? fun j => by
  by_cases hj : j < a.length
  · exact h j hj
  · rw [List.getElem?_eq_none (by omega), List.getElem?_eq_none (by omega)]


theorem equalI {m : Mem} {v w : Value} {a b : List Int} (h : RL m intE 1 v a) (h' : RL m intE 1 w b) (hl : a.length ≤ 100000) : PureCall Try.prog 29 [v, w] m (.bool (decide (a = b))) := by
  refine CallsS.pure ?_
  obtain ⟨a', cap, rfl⟩ := h.len
  obtain ⟨b', cap', rfl⟩ := h'.len
  refine enter Try.func29 Try.ntmps29 rfl rfl ?_
  refine SWP_seq ?_
  refine SWP_region ?_
  refine pB rfl rfl ?_
  refine SL_nil ?_
  refine nx ?_
  refine SWP_seq ?_
  refine SWP_seq ?_
  refine SWP_region ?_
  first | refine pL rfl rfl ?_ | refine pu rfl rfl ?_
  refine pu rfl rfl ?_
  first | refine pL rfl rfl ?_ | refine pu rfl rfl ?_
  refine pu rfl rfl ?_
  refine pc rfl rfl (fun c10 => ?_) (fun c10 => ?_)
  · skip
    refine SL_nil ?_
    refine nx ?_
    refine SWP_ct rfl ?_
    refine SWP_seq ?_
    refine SWP_region ?_
    refine pB rfl rfl ?_
    refine SL_nil ?_
    refine nx ?_
    refine SWP_ret ?_
    refine nr ?_
    refine fin [_] ⟨rfl, trivial⟩ ?_
    exact congrArg Value.bool (decide_eq_false fun e => by subst e; omega).symm
  refine SL_nil ?_
  refine nx ?_
  refine SWP_cf rfl ?_
  refine SWP_skip ?_
  refine nx ?_
  refine SWP_seq ?_
  refine SWP_seq ?_
  refine SWP_region ?_
  first | refine pL rfl rfl ?_ | refine pu rfl rfl ?_
  refine pu rfl rfl ?_
  refine pI rfl rfl ?_
  refine SL_nil ?_
  refine nx ?_
  refine SWP_block ?_
  refine SWP_loop [4, 5, 13, 14, 15, 16, 17, 18, 19, 20, 21, 22, 23, 24, 25] [13]
      (fun vs σ' m' => ∃ (i : Nat), vs = [.int .i64 (i : Nat)] ∧ i ≤ a.length ∧ (∀ j, j < i → a[j]? = b[j]?) ∧ σ' = [] ∧ m = m')
      (fun vs => a.length - nOf (vs.getD 0 undef)) rfl ?_ ?_
  · exact ⟨0, rfl, by omega, fun j hj => (by omega), rfl, rfl⟩
  intro u0 vs0 σ0 m0 hJ0 _
  obtain ⟨i, rfl, hi, hsame, rfl, rfl⟩ := hJ0
  refine SWP_seq ?_
  refine SWP_region ?_
  refine pc rfl rfl (fun c14 => ?_) (fun c14 => ?_)
  · skip
    refine SL_nil ?_
    refine nx ?_
    refine SWP_seq ?_
    refine SWP_ct rfl ?_
    refine SWP_skip ?_
    refine nx ?_
    refine SWP_seq ?_
    refine SWP_block ?_
    refine SWP_seq ?_
    refine SWP_region ?_
    first | refine pI rfl rfl ?_ | refine pu rfl rfl ?_
    first | refine pI rfl rfl ?_ | refine pu rfl rfl ?_
    refine SL_nil ?_
    refine nx ?_
    refine SWP_seq ?_
    obtain ⟨x, hx⟩ : ∃ x, a[i]? = some x := ⟨_, List.getElem?_eq_getElem (by omega)⟩
    obtain ⟨y, hy⟩ : ∃ y, b[i]? = some y := ⟨_, List.getElem?_eq_getElem (by omega)⟩
    obtain ⟨ad, cap2, e1, hat⟩ := RL.at1 intE_len h hx
    cases e1
    obtain ⟨ad', cap3, e2, hat'⟩ := RL.at1 intE_len h' hy
    cases e2
    refine SWP_draws (by kernel_rfl) (by kernel_rfl) ?_
    first | refine pL rfl rfl ?_ | refine pu rfl rfl ?_
    first | refine pI rfl rfl ?_ | refine pu rfl rfl ?_
    first | refine ia (es := 1) rfl rfl rfl (Nat.mul_one _) rfl rfl (by omega) rfl ?_ | refine iai (es := 1) rfl rfl rfl (Nat.mul_one _) rfl rfl (by omega) (by omega) rfl ?_
    refine ldA (v := .int .i64 _) rfl hat rfl rfl ?_
    first | refine pL rfl rfl ?_ | refine pu rfl rfl ?_
    first | refine pI rfl rfl ?_ | refine pu rfl rfl ?_
    first | refine ia (es := 1) rfl rfl rfl (Nat.mul_one _) rfl rfl (by omega) rfl ?_ | refine iai (es := 1) rfl rfl rfl (Nat.mul_one _) rfl rfl (by omega) (by omega) rfl ?_
    refine ldA (v := .int .i64 _) rfl hat' rfl rfl ?_
    refine pc rfl rfl (fun c24 => ?_) (fun c24 => ?_)
    · skip
      refine SL_nil ?_
      refine nx ?_
      refine SWP_ct rfl ?_
      refine SWP_seq ?_
      refine SWP_region ?_
      refine pB rfl rfl ?_
      refine SL_nil ?_
      refine nx ?_
      refine SWP_ret ?_
      refine br ?_
      refine nr ?_
      refine nr ?_
      refine br ?_
      refine nr ?_
      refine fin [_] ⟨rfl, trivial⟩ ?_
      exact congrArg Value.bool (decide_eq_false fun e => by subst e; rw [hx] at hy; cases hy; omega).symm
    refine SL_nil ?_
    refine nx ?_
    refine SWP_cf rfl ?_
    refine SWP_skip ?_
    refine nb ?_
    refine nx ?_
    refine SWP_region ?_
    first | refine pw rfl rfl (w64 (by omega) (by omega)) ?_ | refine pu rfl rfl ?_
    refine pI rfl rfl ?_
    refine SL_nil ?_
    refine nx ?_
    refine ⟨by repeat (first | exact Under.upds rfl (Under.hav _ _ _) | exact Under.hav _ _ _ | refine Under.upd rfl ?_), ?_, ?_⟩
    · refine ⟨i + 1, rfl, by omega, fun j hj => ?_, rfl, rfl⟩
      by_cases e : j = i
      · subst e
        rw [hx, hy, show x = y by omega]
      · exact hsame j (by omega)
    · simp only [L_vals, List.map, List.getD]; show a.length - (i + 1) < a.length - i; omega
  refine SL_nil ?_
  refine nx ?_
  refine SWP_seq ?_
  refine SWP_cf rfl ?_
  refine SWP_exit ?_
  refine ne ?_
  refine ne ?_
  refine be rfl ?_
  refine nx ?_
  refine SWP_seq ?_
  refine SWP_region ?_
  refine pB rfl rfl ?_
  refine SL_nil ?_
  refine nx ?_
  refine SWP_ret ?_
  refine fin [_] ⟨rfl, trivial⟩ ?_
  exact congrArg Value.bool (decide_eq_true (eq_of_get (by omega) fun j hj => hsame j (by omega))).symm

def seg (a : List Int) (lo hi : Int) : List Int := (a.take hi.toNat).drop lo.toNat
def digitsB (mode n : Int) (a b : List Int) : Bool :=
  if a.length ≠ b.length then false
  else if mode = 1 then decide (seg a 0 a.length = seg b 0 a.length)
  else if mode = 2 then decide (a.mergeSort leI = b.mergeSort leI)
  else if n < 1 ∨ (a.length : Int) < n then false
  else if mode = 3 then decide (seg a 0 n = seg b 0 n)
  else if mode = 4 then decide (seg a ((a.length : Int) - n) a.length = seg b ((a.length : Int) - n) a.length)
  else false
section
variable {mode n : Int} {a b : List Int}
theorem dB0 (h : a.length ≠ b.length) : digitsB mode n a b = false := if_pos h
theorem dB1 (h : a.length = b.length) (hm : mode = 1) : digitsB mode n a b = decide (seg a 0 a.length = seg b 0 a.length) := by unfold digitsB; rw [if_neg (by omega), if_pos hm]
theorem dB2 (h : a.length = b.length) (hm : mode = 2) : digitsB mode n a b = decide (a.mergeSort leI = b.mergeSort leI) := by unfold digitsB; rw [if_neg (by omega), if_neg (by omega), if_pos hm]
theorem dBb (h : a.length = b.length) (h1 : mode ≠ 1) (h2 : mode ≠ 2) (hn : n < 1 ∨ (a.length : Int) < n) : digitsB mode n a b = false := by unfold digitsB; rw [if_neg (by omega), if_neg h1, if_neg h2, if_pos hn]
theorem dB3 (h : a.length = b.length) (hn : ¬ (n < 1 ∨ (a.length : Int) < n)) (hm : mode = 3) : digitsB mode n a b = decide (seg a 0 n = seg b 0 n) := by unfold digitsB; rw [if_neg (by omega), if_neg (by omega), if_neg (by omega), if_neg hn, if_pos hm]
theorem dB4 (h : a.length = b.length) (hn : ¬ (n < 1 ∨ (a.length : Int) < n)) (hm : mode = 4) : digitsB mode n a b = decide (seg a ((a.length : Int) - n) a.length = seg b ((a.length : Int) - n) a.length) := by unfold digitsB; rw [if_neg (by omega), if_neg (by omega), if_neg (by omega), if_neg hn, if_neg (by omega), if_pos hm]
theorem dBx (h1 : mode ≠ 1) (h2 : mode ≠ 2) (h3 : mode ≠ 3) (h4 : mode ≠ 4) : digitsB mode n a b = false := by
  unfold digitsB; rw [if_neg h1, if_neg h2, if_neg h3, if_neg h4]; split <;> (try split) <;> rfl
theorem digits_comm (mode n : Int) (a b : List Int) : digitsB mode n a b = digitsB mode n b a := by
  by_cases h : a.length = b.length
  · have e : ∀ x y : List Int, decide (x = y) = decide (y = x) := fun x y => decide_eq_decide.2 ⟨Eq.symm, Eq.symm⟩
    unfold digitsB
    rw [h]
    simp only [ne_eq, not_true_eq_false, if_false]
    rw [e (seg a 0 b.length), e (a.mergeSort leI), e (seg a 0 n), e (seg a ((b.length : Int) - n) b.length)]
  · rw [dB0 h, dB0 (fun e => h e.symm)]
theorem seg_eq {f k : Nat} (hl : a.length = b.length) : seg a (f : Nat) ((f : Nat) + (k : Nat) : Int) = seg b (f : Nat) ((f : Nat) + (k : Nat) : Int) ↔ ∀ j, f ≤ j → j < f + k → a[j]? = b[j]? := by
  unfold seg
  rw [show ((f : Nat) + (k : Nat) : Int) = ((f + k : Nat) : Int) by push_cast; rfl, Int.toNat_natCast, Int.toNat_natCast]
  constructor
  · intro h j h1 h2
    have := congrArg (fun z => z[j - f]?) h
    simp only [List.getElem?_drop, List.getElem?_take] at this
    rw [show f + (j - f) = j by omega, if_pos h2, if_pos h2] at this
    exact this
  · intro h
    apply List.ext_getElem?
    intro j
    simp only [List.getElem?_drop, List.getElem?_take]
    split
    · exact h _ (by omega) (by assumption)
    · rfl
theorem count_perm : ∀ {a b : List Int}, (∀ x ∈ a, a.count x ≤ b.count x) → a.length ≤ b.length ∧ (a.length = b.length → a.Perm b)
  | [], b, _ => ⟨Nat.zero_le _, fun h => by rw [List.eq_nil_of_length_eq_zero h.symm]⟩
  | x :: a, b, h => by
    have hx := h x (by simp)
    rw [List.count_cons_self] at hx
    have hm : x ∈ b := List.count_pos_iff.1 (by omega)
    have ih := count_perm (a := a) (b := b.erase x) fun y hy => by
      have h1 := h y (List.mem_cons_of_mem _ hy)
      rw [List.count_erase]
      rw [List.count_cons] at h1
      by_cases e : x == y
      · rw [if_pos e] at h1 ⊢; omega
      · rw [if_neg e] at h1 ⊢; omega
    have hl := List.length_erase_of_mem hm
    have hp : 0 < b.length := List.length_pos_of_mem hm
    refine ⟨by rw [List.length_cons]; omega, fun he => ?_⟩
    rw [List.length_cons] at he
    exact ((ih.2 (by omega)).cons x).trans (List.perm_cons_erase hm).symm
theorem box_eq (hl : a.length = b.length) : a.mergeSort leI = b.mergeSort leI ↔ ∀ x ∈ a, a.count x = b.count x := by
  constructor
  · intro h x _
    have h1 : a.Perm b := (List.mergeSort_perm a leI).symm.trans (by rw [h]; exact List.mergeSort_perm b leI)
    exact h1.count_eq x
  · intro h
    exact mergeSort_of_perm_i ((count_perm fun x hx => Nat.le_of_eq (h x hx)).2 hl)
end


theorem count_snoc {l : List Int} {i : Nat} {x y : Int} (hy : l[i]? = some y) : (l.take (i + 1)).count x = if y = x then (l.take i).count x + 1 else (l.take i).count x := by
  have hk := List.getElem?_eq_some_iff.1 hy
  rw [List.take_succ_eq_append_getElem hk.1, hk.2, List.count_append, List.count_singleton]
  by_cases e : y = x <;> simp [e]



theorem take_snocI {x : Int} {S : List Int} {i : Nat} (hx : S[i]? = some x) : S.take (i + 1) = S.take i ++ [x] := by
  have hk := List.getElem?_eq_some_iff.1 hx
  rw [List.take_succ_eq_append_getElem hk.1, hk.2]
def dA : List Int := [1, 2, 2]
def dB : List Int := [2, 1, 2]
theorem digLives : digitsB 2 0 dA dB = true := by
  rw [dB2 (a := dA) (b := dB) rfl rfl]
  exact decide_eq_true ((box_eq (a := dA) (b := dB) rfl).2 (by decide))



end Go.Proofs.Ytnpnleapnbdllaa

