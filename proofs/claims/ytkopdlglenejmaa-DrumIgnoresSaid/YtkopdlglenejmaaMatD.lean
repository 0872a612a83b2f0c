/- match.Digits, lotteryref32.Digits, lotterylaw32.MatchDigits. -/
import Derived.Test.YtkopdlglenejmaaData
import Derived.Test.YtkopdlglenejmaaEngMore
import Derived.Test.YtkopdlglenejmaaTys
import Derived.Test.YtkopdlglenejmaaFns
import Derived.Test.YtkopdlglenejmaaShelf
import Derived.Lib.SlKeysI
namespace Go.Proofs.Ytkopdlglenejmaa
open Eng

theorem encZ_map : ∀ z : List Int, z.map encZ = z.flatMap intE
  | [] => rfl
  | a :: z => by rw [List.map_cons, encZ_map z]; rfl
/-- slices.Sort on a list that the running code owns. -/
theorem sortI {m : Mem} {τ σk : Sig} {sv : Value} {ks : List Int} (hown : OwnS 3 1 sv (ks.flatMap intE) σk) (hsz : ks.length < 4611686018427387904) :
    CallsS Try.prog 69 [sv].toArray (σk ++ τ) m fun _ σ' m' => m' = m ∧ ∃ σk', σ' = σk' ++ τ ∧ OwnS 3 1 sv ((ks.mergeSort leI).flatMap intE) σk' := by
  have hx : (ks.flatMap intE).length = ks.length := by rw [flatMap_len intE_len, Nat.mul_one]
  have hl2 : (ks.mergeSort leI).length = ks.length := (List.mergeSort_perm ks leI).length_eq
  generalize hxs : ks.flatMap intE = xs at hown hx
  cases hown with
  | nil =>
    have h0 : ks = [] := List.eq_nil_of_length_eq_zero (by simpa using hx.symm)
    subst h0
    intro g W hC
    exact (Try.slices_Sort_int_none none 0 W).mono fun e W' ⟨h1, h2⟩ => by
      subst h2
      exact ⟨_, _, m, h1, hC, Le.refl m, rfl, [], rfl, by simp only [List.mergeSort_nil, List.flatMap_nil]; exact .nil⟩
  | row B n cap xs hn hle hcm =>
    have hnl : n = ks.length := by omega
    subst hnl
    subst hxs
    have hs := CallsS.sorted (P := Try.prog) (m := m) (enc := encZ) (F := 69) (B := B) (e := 3) (cap := cap) (cap' := cap) (ss := ks) (ss' := ks.mergeSort leI) (τ := τ)
      (by simp) (fun w hH hb => Try.slices_Sort_int B 0 cap ks w hH hb hsz)
    rw [encZ_map] at hs
    refine hs.mono fun v σ' m' _ ⟨h1, h2⟩ => ⟨h2, [(B, Row 3 1 cap ((ks.mergeSort leI).flatMap intE))], ?_, ?_⟩
    · rw [h1, encZ_map]; rfl
    · exact .row B ks.length cap _ (by rw [flatMap_len intE_len, Nat.mul_one, hl2, Nat.mul_one]) hle hcm
theorem q1 (ad : Addr) (k : Nat) : ad.add k = (ad.add (k * 1)).add 0 := by rw [Nat.mul_one]; exact (add_zero' _).symm

theorem all_intE : ∀ l : List Int, (l.flatMap intE).all (·.oneCell') = true
  | [] => rfl
  | x :: l => by rw [List.flatMap_cons, List.all_append, all_intE l]; rfl
theorem eq_of_get {a b : List Int} (hl : a.length = b.length) (h : ∀ j, j < a.length → a[j]? = b[j]?) : a = b := List.ext_getElem? fun j => by
  by_cases hj : j < a.length
  · exact h j hj
  · rw [List.getElem?_eq_none (by omega), List.getElem?_eq_none (by omega)]

theorem cloneI {m : Mem} {v : Value} {l : List Int} (h : RL m intE 1 v l) (hl : l.length ≤ 100000) : CallsS Try.prog 68 [v].toArray [] m fun r σ' m' => m' = m ∧ OwnS 3 1 r (l.flatMap intE) σ' := by
  obtain ⟨a, cap, rfl, hx1, hx2, hx3, hx4, hx5⟩ := h
  refine enter Try.func68 Try.ntmps68 rfl rfl ?_
  refine SWP_seq ?_
  refine SWP_region ?_
  refine pL rfl rfl ?_
  refine SL_nil ?_
  refine nx ?_
  refine SWP_seq ?_
  refine SWP_seq ?_
  refine SWP_region ?_
  first | refine pL rfl rfl ?_ | refine pu rfl rfl ?_
  refine pu (v := .bool a.isNone) rfl rfl ?_
  refine bsp 4 rfl (fun b4 => ?_) (fun b4 => ?_)
  · skip
    refine SL_nil ?_
    refine nx ?_
    refine SWP_ct rfl ?_
    refine SWP_seq ?_
    refine SWP_region ?_
    refine pL rfl rfl ?_
    refine SL_nil ?_
    refine nx ?_
    refine SWP_ret ?_
    refine nr ?_
    refine fin [_] ⟨rfl, trivial⟩ ?_
    have ha : a = none := by
      cases a with
      | none => rfl
      | some ad => cases b4
    have hl0 := (hx4 ha).1
    have e : l = [] := List.eq_nil_of_length_eq_zero hl0
    subst e
    exact ⟨rfl, .nil⟩
  refine SL_nil ?_
  refine nx ?_
  refine SWP_cf rfl ?_
  refine SWP_skip ?_
  refine nx ?_
  refine SWP_seq ?_
  refine SWP_region ?_
  refine bs rfl rfl rfl rfl rfl (fun B5 => ?_)
  refine SL_imp (row_nil _ 1) ?_
  obtain ⟨ad, rfl⟩ : ∃ ad, a = some ad := by
    cases a with
    | none => cases b4
    | some ad => exact ⟨ad, rfl⟩
  first | refine pL rfl rfl ?_ | refine pu rfl rfl ?_
  refine ap (e := 3) (size := 1) (bytes := 8) (k := l.length) rfl rfl rfl rfl rfl rfl rfl (.row B5 0 0 [] rfl (Nat.le_refl _) (Nat.zero_le _)) (.refl _) rfl (Rd.of_at (hx5 ad rfl)) (by rw [flatMap_len intE_len]) (all_intE l) (by simp; omega) rfl rfl (fun v7 σ7 hown7 => ?_)
  first | refine pL rfl rfl ?_ | refine pu rfl rfl ?_
  refine SL_nil ?_
  refine nx ?_
  refine SWP_ret ?_
  refine fin [_] ⟨rfl, trivial⟩ ?_
  exact ⟨rfl, by rw [List.append_nil]; exact hown7⟩


def seg (a : List Int) (lo hi : Int) : List Int := (a.take hi.toNat).drop lo.toNat
def digitsB (mode n : Int) (a b : List Int) : Bool :=
  if a.length ≠ b.length then false
  else if mode = 1 then decide (seg a 0 a.length = seg b 0 a.length)
  else if mode = 2 then decide (a.mergeSort leI = b.mergeSort leI)
  else if n < 1 ∨ (a.length : Int) < n then false
  else if mode = 3 then decide (seg a 0 n = seg b 0 n)
  else if mode = 4 then decide (seg a ((a.length : Int) - n) a.length = seg b ((a.length : Int) - n) a.length)
  else false
section
variable {mode n : Int} {a b : List Int}
theorem dB0 (h : a.length ≠ b.length) : digitsB mode n a b = false := if_pos h
theorem dB1 (h : a.length = b.length) (hm : mode = 1) : digitsB mode n a b = decide (seg a 0 a.length = seg b 0 a.length) := by unfold digitsB; rw [if_neg (by omega), if_pos hm]
theorem dB2 (h : a.length = b.length) (hm : mode = 2) : digitsB mode n a b = decide (a.mergeSort leI = b.mergeSort leI) := by unfold digitsB; rw [if_neg (by omega), if_neg (by omega), if_pos hm]
theorem dBb (h : a.length = b.length) (h1 : mode ≠ 1) (h2 : mode ≠ 2) (hn : n < 1 ∨ (a.length : Int) < n) : digitsB mode n a b = false := by unfold digitsB; rw [if_neg (by omega), if_neg h1, if_neg h2, if_pos hn]
theorem dB3 (h : a.length = b.length) (hn : ¬ (n < 1 ∨ (a.length : Int) < n)) (hm : mode = 3) : digitsB mode n a b = decide (seg a 0 n = seg b 0 n) := by unfold digitsB; rw [if_neg (by omega), if_neg (by omega), if_neg (by omega), if_neg hn, if_pos hm]
theorem dB4 (h : a.length = b.length) (hn : ¬ (n < 1 ∨ (a.length : Int) < n)) (hm : mode = 4) : digitsB mode n a b = decide (seg a ((a.length : Int) - n) a.length = seg b ((a.length : Int) - n) a.length) := by unfold digitsB; rw [if_neg (by omega), if_neg (by omega), if_neg (by omega), if_neg hn, if_neg (by omega), if_pos hm]
theorem dBx (h1 : mode ≠ 1) (h2 : mode ≠ 2) (h3 : mode ≠ 3) (h4 : mode ≠ 4) : digitsB mode n a b = false := by
  unfold digitsB; rw [if_neg h1, if_neg h2, if_neg h3, if_neg h4]; split <;> (try split) <;> rfl
theorem digits_comm (mode n : Int) (a b : List Int) : digitsB mode n a b = digitsB mode n b a := by
  by_cases h : a.length = b.length
  · have e : ∀ x y : List Int, decide (x = y) = decide (y = x) := fun x y => decide_eq_decide.2 ⟨Eq.symm, Eq.symm⟩
    unfold digitsB
    rw [h]
    simp only [ne_eq, not_true_eq_false, if_false]
    rw [e (seg a 0 b.length), e (a.mergeSort leI), e (seg a 0 n), e (seg a ((b.length : Int) - n) b.length)]
  · rw [dB0 h, dB0 (fun e => h e.symm)]
theorem seg_eq {f k : Nat} (hl : a.length = b.length) : seg a (f : Nat) ((f : Nat) + (k : Nat) : Int) = seg b (f : Nat) ((f : Nat) + (k : Nat) : Int) ↔ ∀ j, f ≤ j → j < f + k → a[j]? = b[j]? := by
  unfold seg
  rw [show ((f : Nat) + (k : Nat) : Int) = ((f + k : Nat) : Int) by push_cast; rfl, Int.toNat_natCast, Int.toNat_natCast]
  constructor
  · intro h j h1 h2
    have := congrArg (fun z => z[j - f]?) h
    simp only [List.getElem?_drop, List.getElem?_take] at this
    rw [show f + (j - f) = j by omega, if_pos h2, if_pos h2] at this
    exact this
  · intro h
    apply List.ext_getElem?
    intro j
    simp only [List.getElem?_drop, List.getElem?_take]
    split
    · exact h _ (by omega) (by assumption)
    · rfl
theorem count_perm : ∀ {a b : List Int}, (∀ x ∈ a, a.count x ≤ b.count x) → a.length ≤ b.length ∧ (a.length = b.length → a.Perm b)
  | [], b, _ => ⟨Nat.zero_le _, fun h => by rw [List.eq_nil_of_length_eq_zero h.symm]⟩
  | x :: a, b, h => by
    have hx := h x (by simp)
    rw [List.count_cons_self] at hx
    have hm : x ∈ b := List.count_pos_iff.1 (by omega)
    have ih := count_perm (a := a) (b := b.erase x) fun y hy => by
      have h1 := h y (List.mem_cons_of_mem _ hy)
      rw [List.count_erase]
      rw [List.count_cons] at h1
      by_cases e : x == y
      · rw [if_pos e] at h1 ⊢; omega
      · rw [if_neg e] at h1 ⊢; omega
    have hl := List.length_erase_of_mem hm
    have hp : 0 < b.length := List.length_pos_of_mem hm
    refine ⟨by rw [List.length_cons]; omega, fun he => ?_⟩
    rw [List.length_cons] at he
    exact ((ih.2 (by omega)).cons x).trans (List.perm_cons_erase hm).symm
theorem box_eq (hl : a.length = b.length) : a.mergeSort leI = b.mergeSort leI ↔ ∀ x ∈ a, a.count x = b.count x := by
  constructor
  · intro h x _
    have h1 : a.Perm b := (List.mergeSort_perm a leI).symm.trans (by rw [h]; exact List.mergeSort_perm b leI)
    exact h1.count_eq x
  · intro h
    exact mergeSort_of_perm_i ((count_perm fun x hx => Nat.le_of_eq (h x hx)).2 hl)
end


theorem count_snoc {l : List Int} {i : Nat} {x y : Int} (hy : l[i]? = some y) : (l.take (i + 1)).count x = if y = x then (l.take i).count x + 1 else (l.take i).count x := by
  have hk := List.getElem?_eq_some_iff.1 hy
  rw [List.take_succ_eq_append_getElem hk.1, hk.2, List.count_append, List.count_singleton]
  by_cases e : y = x <;> simp [e]



theorem take_snocI {x : Int} {S : List Int} {i : Nat} (hx : S[i]? = some x) : S.take (i + 1) = S.take i ++ [x] := by
  have hk := List.getElem?_eq_some_iff.1 hx
  rw [List.take_succ_eq_append_getElem hk.1, hk.2]
def dA : List Int := [1, 2, 2]
def dB : List Int := [2, 1, 2]
theorem digLives : digitsB 2 0 dA dB = true := by
  rw [dB2 (a := dA) (b := dB) rfl rfl]
  exact decide_eq_true ((box_eq (a := dA) (b := dB) rfl).2 (by decide))



end Go.Proofs.Ytkopdlglenejmaa

