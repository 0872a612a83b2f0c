/- rulecheck.Name, lotteryref12.Name: is a text a name? -/
import Derived.Test.YtkopdlglenejmaaEngMap
import Derived.Test.YtkopdlglenejmaaTys
import Derived.Test.YtkopdlglenejmaaFns
namespace Go.Proofs.Ytkopdlglenejmaa
open Eng

def nameCh (b : UInt8) : Bool := decide ((97 ≤ b.toNat ∧ b.toNat ≤ 122) ∨ (48 ≤ b.toNat ∧ b.toNat ≤ 57) ∨ b.toNat = 45)
def nameFirst (l : List UInt8) : Bool := match l with | b :: _ => decide (97 ≤ b.toNat ∧ b.toNat ≤ 122) | [] => false
def nameB (s : ByteArray) : Bool := decide (1 ≤ s.size ∧ s.size ≤ 24) && nameFirst s.data.toList && s.data.toList.all nameCh
theorem bytes_at (s : ByteArray) (k : Nat) (h : k < s.size) : ∃ b, s.data.toList[k]? = some b := ⟨_, List.getElem?_eq_getElem (by simpa using h)⟩
theorem nameFirst_at {s : ByteArray} {b : UInt8} (h : s.data.toList[0]? = some b) : nameFirst s.data.toList = decide (97 ≤ b.toNat ∧ b.toNat ≤ 122) := by
  cases hl : s.data.toList with
  | nil => rw [hl] at h; cases h
  | cons c l =>
    rw [hl] at h
    simp at h
    subst h
    rfl
theorem all_snoc {α : Type} {p : α → Bool} {l : List α} {k : Nat} {b : α} (h : l[k]? = some b) : (l.take (k + 1)).all p = ((l.take k).all p && p b) := by
  have hk := (List.getElem?_eq_some_iff.1 h)
  rw [List.take_succ_eq_append_getElem hk.1, hk.2, List.all_append]
  simp
theorem all_no {α : Type} {p : α → Bool} {l : List α} {k : Nat} {b : α} (h : l[k]? = some b) (hb : p b = false) : l.all p = false := by
  cases ha : l.all p with
  | false => rfl
  | true =>
    rw [List.all_eq_true.1 ha b (List.mem_of_getElem? h)] at hb
    cases hb
theorem size_list (s : ByteArray) : s.data.toList.length = s.size := by simp
theorem name_size {s : ByteArray} (h : ¬ (1 ≤ s.size ∧ s.size ≤ 24)) : false = nameB s := by
  unfold nameB; rw [decide_eq_false h]; rfl
theorem name_first {s : ByteArray} {b : UInt8} (hb : s.data.toList[0]? = some b) (h : ¬ (97 ≤ b.toNat ∧ b.toNat ≤ 122)) : false = nameB s := by
  unfold nameB; rw [nameFirst_at hb, decide_eq_false h, Bool.and_false]; rfl
theorem name_ch {s : ByteArray} {k : Nat} {b : UInt8} (hb : s.data.toList[k]? = some b) (h : ¬ ((97 ≤ b.toNat ∧ b.toNat ≤ 122) ∨ (48 ≤ b.toNat ∧ b.toNat ≤ 57) ∨ b.toNat = 45)) : false = nameB s := by
  unfold nameB; rw [all_no hb (decide_eq_false h), Bool.and_false]
theorem name_yes {s : ByteArray} {k : Nat} {b : UInt8} (hb : s.data.toList[0]? = some b) (h1 : 1 ≤ s.size ∧ s.size ≤ 24) (h2 : 97 ≤ b.toNat ∧ b.toNat ≤ 122) (h3 : (s.data.toList.take k).all nameCh = true) (hk : s.size ≤ k) : true = nameB s := by
  unfold nameB
  rw [List.take_of_length_le (by rw [size_list]; exact hk)] at h3
  rw [nameFirst_at hb, decide_eq_true h1, decide_eq_true h2, h3]; rfl
theorem name_next {s : ByteArray} {k : Nat} {b : UInt8} (hb : s.data.toList[k]? = some b) (h : (s.data.toList.take k).all nameCh = true) (hc : (97 ≤ b.toNat ∧ b.toNat ≤ 122) ∨ (48 ≤ b.toNat ∧ b.toNat ≤ 57) ∨ b.toNat = 45) : (s.data.toList.take (k + 1)).all nameCh = true := by
  rw [all_snoc hb, h]
  exact decide_eq_true hc

theorem nameImpl {m : Mem} (s : ByteArray) : PureCall Try.prog 42 [.string s] m (.bool (nameB s)) := by
  refine CallsS.pure ?_
  refine enter Try.func42 Try.ntmps42 rfl rfl ?_
  refine SWP_seq ?_
  refine SWP_region ?_
  refine pB rfl rfl ?_
  refine SL_nil ?_
  refine nx ?_
  refine SWP_seq ?_
  refine SWP_seq ?_
  refine SWP_region ?_
  first | refine pS rfl rfl ?_ | refine pu rfl rfl ?_
  refine pu rfl rfl ?_
  refine pc rfl rfl (fun c7 => ?_) (fun c7 => ?_)
  · skip
    refine pB rfl rfl ?_
    refine SL_no rfl rfl ?_
    refine SL_no rfl rfl ?_
    refine SL_no rfl rfl ?_
    refine pB rfl rfl ?_
    refine pB rfl rfl ?_
    refine SL_no rfl rfl ?_
    refine SL_no rfl rfl ?_
    refine SL_no rfl rfl ?_
    refine pB rfl rfl ?_
    refine pB rfl rfl ?_
    refine SL_no rfl rfl ?_
    refine SL_no rfl rfl ?_
    refine SL_no rfl rfl ?_
    refine pB rfl rfl ?_
    refine SL_nil ?_
    refine nx ?_
    refine SWP_ct rfl ?_
    refine SWP_seq ?_
    refine SWP_region ?_
    refine pB rfl rfl ?_
    refine SL_nil ?_
    refine nx ?_
    refine SWP_ret ?_
    refine nr ?_
    refine fin [_] ⟨rfl, trivial⟩ ?_
    first | exact congrArg Value.bool (name_ch hb (by omega)) | exact congrArg Value.bool (name_yes hb0 (by omega) (by omega) hall (by omega)) | exact congrArg Value.bool (name_first hb0 (by omega)) | exact congrArg Value.bool (name_size (by omega))
  refine pB rfl rfl ?_
  refine SL_yes rfl ?_
  first | refine pS rfl rfl ?_ | refine pu rfl rfl ?_
  refine SL_yes rfl ?_
  refine pu rfl rfl ?_
  refine SL_yes rfl ?_
  refine pc rfl rfl (fun c11 => ?_) (fun c11 => ?_)
  · skip
    refine pB rfl rfl ?_
    refine pB rfl rfl ?_
    refine SL_no rfl rfl ?_
    refine SL_no rfl rfl ?_
    refine SL_no rfl rfl ?_
    refine pB rfl rfl ?_
    refine pB rfl rfl ?_
    refine SL_no rfl rfl ?_
    refine SL_no rfl rfl ?_
    refine SL_no rfl rfl ?_
    refine pB rfl rfl ?_
    refine SL_nil ?_
    refine nx ?_
    refine SWP_ct rfl ?_
    refine SWP_seq ?_
    refine SWP_region ?_
    refine pB rfl rfl ?_
    refine SL_nil ?_
    refine nx ?_
    refine SWP_ret ?_
    refine nr ?_
    refine fin [_] ⟨rfl, trivial⟩ ?_
    first | exact congrArg Value.bool (name_ch hb (by omega)) | exact congrArg Value.bool (name_yes hb0 (by omega) (by omega) hall (by omega)) | exact congrArg Value.bool (name_first hb0 (by omega)) | exact congrArg Value.bool (name_size (by omega))
  refine pB rfl rfl ?_
  refine pB rfl rfl ?_
  refine SL_yes rfl ?_
  first | refine pS rfl rfl ?_ | refine pu rfl rfl ?_
  refine SL_yes rfl ?_
  obtain ⟨b0, hb0⟩ := bytes_at s 0 (by omega)
  refine ixs (k := 0) rfl rfl rfl hb0 rfl ?_
  refine SL_yes rfl ?_
  refine pc rfl rfl (fun c16 => ?_) (fun c16 => ?_)
  · skip
    refine pB rfl rfl ?_
    refine pB rfl rfl ?_
    refine SL_no rfl rfl ?_
    refine SL_no rfl rfl ?_
    refine SL_no rfl rfl ?_
    refine pB rfl rfl ?_
    refine SL_nil ?_
    refine nx ?_
    refine SWP_ct rfl ?_
    refine SWP_seq ?_
    refine SWP_region ?_
    refine pB rfl rfl ?_
    refine SL_nil ?_
    refine nx ?_
    refine SWP_ret ?_
    refine nr ?_
    refine fin [_] ⟨rfl, trivial⟩ ?_
    first | exact congrArg Value.bool (name_ch hb (by omega)) | exact congrArg Value.bool (name_yes hb0 (by omega) (by omega) hall (by omega)) | exact congrArg Value.bool (name_first hb0 (by omega)) | exact congrArg Value.bool (name_size (by omega))
  refine pB rfl rfl ?_
  refine pB rfl rfl ?_
  refine SL_yes rfl ?_
  first | refine pS rfl rfl ?_ | refine pu rfl rfl ?_
  refine SL_yes rfl ?_
  refine ixs (k := 0) rfl rfl rfl hb0 rfl ?_
  refine SL_yes rfl ?_
  refine pc rfl rfl (fun c21 => ?_) (fun c21 => ?_)
  · skip
    refine pB rfl rfl ?_
    refine SL_nil ?_
    refine nx ?_
    refine SWP_ct rfl ?_
    refine SWP_seq ?_
    refine SWP_region ?_
    refine pB rfl rfl ?_
    refine SL_nil ?_
    refine nx ?_
    refine SWP_ret ?_
    refine nr ?_
    refine fin [_] ⟨rfl, trivial⟩ ?_
    first | exact congrArg Value.bool (name_ch hb (by omega)) | exact congrArg Value.bool (name_yes hb0 (by omega) (by omega) hall (by omega)) | exact congrArg Value.bool (name_first hb0 (by omega)) | exact congrArg Value.bool (name_size (by omega))
  refine pB rfl rfl ?_
  refine SL_nil ?_
  refine nx ?_
  refine SWP_cf rfl ?_
  refine SWP_skip ?_
  refine nx ?_
  refine SWP_seq ?_
  refine SWP_seq ?_
  refine SWP_region ?_
  first | refine pS rfl rfl ?_ | refine pu rfl rfl ?_
  refine pu rfl rfl ?_
  refine pI rfl rfl ?_
  refine SL_nil ?_
  refine nx ?_
  refine SWP_block ?_
  refine SWP_loop [2, 3, 4, 25, 26, 27, 28, 29, 30, 31, 32, 33, 34, 35, 36, 37, 38, 39, 40, 41, 42, 43, 44, 45, 46, 47, 48, 49] [3, 25]
      (fun vs σ' m' => ∃ k v3, k ≤ s.size ∧ vs = [v3, .int .i64 (k : Nat)] ∧ (s.data.toList.take k).all nameCh = true ∧ σ' = [] ∧ m = m')
      (fun vs => s.size - nOf (vs.getD 1 undef)) rfl ?_ ?_
  · exact ⟨0, _, by omega, rfl, by simp, rfl, rfl⟩
  intro u0 vs0 σ0 m0 hJ0 _
  obtain ⟨k, v3, hk, rfl, hall, rfl, rfl⟩ := hJ0
  refine SWP_seq ?_
  refine SWP_region ?_
  refine pc rfl rfl (fun c26 => ?_) (fun c26 => ?_)
  · skip
    refine SL_nil ?_
    refine nx ?_
    refine SWP_seq ?_
    refine SWP_ct rfl ?_
    refine SWP_skip ?_
    refine nx ?_
    refine SWP_seq ?_
    refine SWP_block ?_
    refine SWP_seq ?_
    refine SWP_region ?_
    first | refine pI rfl rfl ?_ | refine pu rfl rfl ?_
    first | refine pI rfl rfl ?_ | refine pu rfl rfl ?_
    refine SL_nil ?_
    refine nx ?_
    refine SWP_seq ?_
    refine SWP_region ?_
    first | refine pS rfl rfl ?_ | refine pu rfl rfl ?_
    first | refine pI rfl rfl ?_ | refine pu rfl rfl ?_
    obtain ⟨b, hb⟩ := bytes_at s k (by omega)
    refine ixs (k := k) rfl rfl rfl hb rfl ?_
    first | refine pI rfl rfl ?_ | refine pu rfl rfl ?_
    refine SL_nil ?_
    refine nx ?_
    refine SWP_seq ?_
    refine SWP_region ?_
    first | refine pI rfl rfl ?_ | refine pu rfl rfl ?_
    refine pc rfl rfl (fun c32 => ?_) (fun c32 => ?_)
    · skip
      refine pB rfl rfl ?_
      refine SL_no rfl rfl ?_
      refine SL_no rfl rfl ?_
      refine pB rfl rfl ?_
      refine pB rfl rfl ?_
      refine SL_yes rfl ?_
      first | refine pI rfl rfl ?_ | refine pu rfl rfl ?_
      refine SL_yes rfl ?_
      refine pc rfl rfl (fun c39 => ?_) (fun c39 => ?_)
      · skip
        refine SL_yes rfl ?_
        refine pB rfl rfl ?_
        refine SL_no rfl rfl ?_
        refine SL_no rfl rfl ?_
        refine SL_yes rfl ?_
        refine pB rfl rfl ?_
        refine pB rfl rfl ?_
        refine pB rfl rfl ?_
        refine SL_yes rfl ?_
        first | refine pI rfl rfl ?_ | refine pu rfl rfl ?_
        refine SL_yes rfl ?_
        refine pc rfl rfl (fun c47 => ?_) (fun c47 => ?_)
        · skip
          refine pB rfl rfl ?_
          refine SL_nil ?_
          refine nx ?_
          refine SWP_ct rfl ?_
          refine SWP_seq ?_
          refine SWP_region ?_
          refine pB rfl rfl ?_
          refine SL_nil ?_
          refine nx ?_
          refine SWP_ret ?_
          refine br ?_
          refine nr ?_
          refine nr ?_
          refine br ?_
          refine nr ?_
          refine fin [_] ⟨rfl, trivial⟩ ?_
          first | exact congrArg Value.bool (name_ch hb (by omega)) | exact congrArg Value.bool (name_yes hb0 (by omega) (by omega) hall (by omega)) | exact congrArg Value.bool (name_first hb0 (by omega)) | exact congrArg Value.bool (name_size (by omega))
        refine pB rfl rfl ?_
        refine SL_nil ?_
        refine nx ?_
        refine SWP_cf rfl ?_
        refine SWP_skip ?_
        refine nb ?_
        refine nx ?_
        refine SWP_region ?_
        first | refine pw rfl rfl (w64 (by omega) (by omega)) ?_ | refine pu rfl rfl ?_
        refine pI rfl rfl ?_
        refine SL_nil ?_
        refine nx ?_
        refine ⟨by repeat (first | exact Under.upds rfl (Under.hav _ _ _) | exact Under.hav _ _ _ | refine Under.upd rfl ?_), ?_, ?_⟩
        · exact ⟨k + 1, _, by omega, rfl, name_next hb hall (by omega), rfl, rfl⟩
        · simp only [L_vals, List.map, List.getD]; show s.size - (k + 1) < s.size - k; omega
      refine SL_yes rfl ?_
      refine pB rfl rfl ?_
      refine SL_yes rfl ?_
      first | refine pI rfl rfl ?_ | refine pu rfl rfl ?_
      refine SL_yes rfl ?_
      refine pc rfl rfl (fun c42 => ?_) (fun c42 => ?_)
      · skip
        refine SL_yes rfl ?_
        refine pB rfl rfl ?_
        refine pB rfl rfl ?_
        refine pB rfl rfl ?_
        refine SL_yes rfl ?_
        first | refine pI rfl rfl ?_ | refine pu rfl rfl ?_
        refine SL_yes rfl ?_
        refine pc rfl rfl (fun c47 => ?_) (fun c47 => ?_)
        · skip
          refine pB rfl rfl ?_
          refine SL_nil ?_
          refine nx ?_
          refine SWP_ct rfl ?_
          refine SWP_seq ?_
          refine SWP_region ?_
          refine pB rfl rfl ?_
          refine SL_nil ?_
          refine nx ?_
          refine SWP_ret ?_
          refine br ?_
          refine nr ?_
          refine nr ?_
          refine br ?_
          refine nr ?_
          refine fin [_] ⟨rfl, trivial⟩ ?_
          first | exact congrArg Value.bool (name_ch hb (by omega)) | exact congrArg Value.bool (name_yes hb0 (by omega) (by omega) hall (by omega)) | exact congrArg Value.bool (name_first hb0 (by omega)) | exact congrArg Value.bool (name_size (by omega))
        refine pB rfl rfl ?_
        refine SL_nil ?_
        refine nx ?_
        refine SWP_cf rfl ?_
        refine SWP_skip ?_
        refine nb ?_
        refine nx ?_
        refine SWP_region ?_
        first | refine pw rfl rfl (w64 (by omega) (by omega)) ?_ | refine pu rfl rfl ?_
        refine pI rfl rfl ?_
        refine SL_nil ?_
        refine nx ?_
        refine ⟨by repeat (first | exact Under.upds rfl (Under.hav _ _ _) | exact Under.hav _ _ _ | refine Under.upd rfl ?_), ?_, ?_⟩
        · exact ⟨k + 1, _, by omega, rfl, name_next hb hall (by omega), rfl, rfl⟩
        · simp only [L_vals, List.map, List.getD]; show s.size - (k + 1) < s.size - k; omega
      refine SL_yes rfl ?_
      refine pB rfl rfl ?_
      refine pB rfl rfl ?_
      refine pB rfl rfl ?_
      refine SL_no rfl rfl ?_
      refine SL_no rfl rfl ?_
      refine pB rfl rfl ?_
      refine SL_nil ?_
      refine nx ?_
      refine SWP_cf rfl ?_
      refine SWP_skip ?_
      refine nb ?_
      refine nx ?_
      refine SWP_region ?_
      first | refine pw rfl rfl (w64 (by omega) (by omega)) ?_ | refine pu rfl rfl ?_
      refine pI rfl rfl ?_
      refine SL_nil ?_
      refine nx ?_
      refine ⟨by repeat (first | exact Under.upds rfl (Under.hav _ _ _) | exact Under.hav _ _ _ | refine Under.upd rfl ?_), ?_, ?_⟩
      · exact ⟨k + 1, _, by omega, rfl, name_next hb hall (by omega), rfl, rfl⟩
      · simp only [L_vals, List.map, List.getD]; show s.size - (k + 1) < s.size - k; omega
    refine pB rfl rfl ?_
    refine SL_yes rfl ?_
    first | refine pI rfl rfl ?_ | refine pu rfl rfl ?_
    refine SL_yes rfl ?_
    refine pc rfl rfl (fun c35 => ?_) (fun c35 => ?_)
    · skip
      refine pB rfl rfl ?_
      refine pB rfl rfl ?_
      refine SL_yes rfl ?_
      first | refine pI rfl rfl ?_ | refine pu rfl rfl ?_
      refine SL_yes rfl ?_
      refine pc rfl rfl (fun c39 => ?_) (fun c39 => ?_)
      · skip
        refine SL_yes rfl ?_
        refine pB rfl rfl ?_
        refine SL_no rfl rfl ?_
        refine SL_no rfl rfl ?_
        refine SL_yes rfl ?_
        refine pB rfl rfl ?_
        refine pB rfl rfl ?_
        refine pB rfl rfl ?_
        refine SL_yes rfl ?_
        first | refine pI rfl rfl ?_ | refine pu rfl rfl ?_
        refine SL_yes rfl ?_
        refine pc rfl rfl (fun c47 => ?_) (fun c47 => ?_)
        · skip
          refine pB rfl rfl ?_
          refine SL_nil ?_
          refine nx ?_
          refine SWP_ct rfl ?_
          refine SWP_seq ?_
          refine SWP_region ?_
          refine pB rfl rfl ?_
          refine SL_nil ?_
          refine nx ?_
          refine SWP_ret ?_
          refine br ?_
          refine nr ?_
          refine nr ?_
          refine br ?_
          refine nr ?_
          refine fin [_] ⟨rfl, trivial⟩ ?_
          first | exact congrArg Value.bool (name_ch hb (by omega)) | exact congrArg Value.bool (name_yes hb0 (by omega) (by omega) hall (by omega)) | exact congrArg Value.bool (name_first hb0 (by omega)) | exact congrArg Value.bool (name_size (by omega))
        refine pB rfl rfl ?_
        refine SL_nil ?_
        refine nx ?_
        refine SWP_cf rfl ?_
        refine SWP_skip ?_
        refine nb ?_
        refine nx ?_
        refine SWP_region ?_
        first | refine pw rfl rfl (w64 (by omega) (by omega)) ?_ | refine pu rfl rfl ?_
        refine pI rfl rfl ?_
        refine SL_nil ?_
        refine nx ?_
        refine ⟨by repeat (first | exact Under.upds rfl (Under.hav _ _ _) | exact Under.hav _ _ _ | refine Under.upd rfl ?_), ?_, ?_⟩
        · exact ⟨k + 1, _, by omega, rfl, name_next hb hall (by omega), rfl, rfl⟩
        · simp only [L_vals, List.map, List.getD]; show s.size - (k + 1) < s.size - k; omega
      refine SL_yes rfl ?_
      refine pB rfl rfl ?_
      refine SL_yes rfl ?_
      first | refine pI rfl rfl ?_ | refine pu rfl rfl ?_
      refine SL_yes rfl ?_
      refine pc rfl rfl (fun c42 => ?_) (fun c42 => ?_)
      · skip
        refine SL_yes rfl ?_
        refine pB rfl rfl ?_
        refine pB rfl rfl ?_
        refine pB rfl rfl ?_
        refine SL_yes rfl ?_
        first | refine pI rfl rfl ?_ | refine pu rfl rfl ?_
        refine SL_yes rfl ?_
        refine pc rfl rfl (fun c47 => ?_) (fun c47 => ?_)
        · skip
          refine pB rfl rfl ?_
          refine SL_nil ?_
          refine nx ?_
          refine SWP_ct rfl ?_
          refine SWP_seq ?_
          refine SWP_region ?_
          refine pB rfl rfl ?_
          refine SL_nil ?_
          refine nx ?_
          refine SWP_ret ?_
          refine br ?_
          refine nr ?_
          refine nr ?_
          refine br ?_
          refine nr ?_
          refine fin [_] ⟨rfl, trivial⟩ ?_
          first | exact congrArg Value.bool (name_ch hb (by omega)) | exact congrArg Value.bool (name_yes hb0 (by omega) (by omega) hall (by omega)) | exact congrArg Value.bool (name_first hb0 (by omega)) | exact congrArg Value.bool (name_size (by omega))
        refine pB rfl rfl ?_
        refine SL_nil ?_
        refine nx ?_
        refine SWP_cf rfl ?_
        refine SWP_skip ?_
        refine nb ?_
        refine nx ?_
        refine SWP_region ?_
        first | refine pw rfl rfl (w64 (by omega) (by omega)) ?_ | refine pu rfl rfl ?_
        refine pI rfl rfl ?_
        refine SL_nil ?_
        refine nx ?_
        refine ⟨by repeat (first | exact Under.upds rfl (Under.hav _ _ _) | exact Under.hav _ _ _ | refine Under.upd rfl ?_), ?_, ?_⟩
        · exact ⟨k + 1, _, by omega, rfl, name_next hb hall (by omega), rfl, rfl⟩
        · simp only [L_vals, List.map, List.getD]; show s.size - (k + 1) < s.size - k; omega
      refine SL_yes rfl ?_
      refine pB rfl rfl ?_
      refine pB rfl rfl ?_
      refine pB rfl rfl ?_
      refine SL_no rfl rfl ?_
      refine SL_no rfl rfl ?_
      refine pB rfl rfl ?_
      refine SL_nil ?_
      refine nx ?_
      refine SWP_cf rfl ?_
      refine SWP_skip ?_
      refine nb ?_
      refine nx ?_
      refine SWP_region ?_
      first | refine pw rfl rfl (w64 (by omega) (by omega)) ?_ | refine pu rfl rfl ?_
      refine pI rfl rfl ?_
      refine SL_nil ?_
      refine nx ?_
      refine ⟨by repeat (first | exact Under.upds rfl (Under.hav _ _ _) | exact Under.hav _ _ _ | refine Under.upd rfl ?_), ?_, ?_⟩
      · exact ⟨k + 1, _, by omega, rfl, name_next hb hall (by omega), rfl, rfl⟩
      · simp only [L_vals, List.map, List.getD]; show s.size - (k + 1) < s.size - k; omega
    refine pB rfl rfl ?_
    refine pB rfl rfl ?_
    refine SL_no rfl rfl ?_
    refine SL_no rfl rfl ?_
    refine SL_no rfl rfl ?_
    refine SL_no rfl rfl ?_
    refine SL_no rfl rfl ?_
    refine SL_no rfl rfl ?_
    refine pB rfl rfl ?_
    refine pB rfl rfl ?_
    refine SL_no rfl rfl ?_
    refine SL_no rfl rfl ?_
    refine pB rfl rfl ?_
    refine SL_nil ?_
    refine nx ?_
    refine SWP_cf rfl ?_
    refine SWP_skip ?_
    refine nb ?_
    refine nx ?_
    refine SWP_region ?_
    first | refine pw rfl rfl (w64 (by omega) (by omega)) ?_ | refine pu rfl rfl ?_
    refine pI rfl rfl ?_
    refine SL_nil ?_
    refine nx ?_
    refine ⟨by repeat (first | exact Under.upds rfl (Under.hav _ _ _) | exact Under.hav _ _ _ | refine Under.upd rfl ?_), ?_, ?_⟩
    · exact ⟨k + 1, _, by omega, rfl, name_next hb hall (by omega), rfl, rfl⟩
    · simp only [L_vals, List.map, List.getD]; show s.size - (k + 1) < s.size - k; omega
  refine SL_nil ?_
  refine nx ?_
  refine SWP_seq ?_
  refine SWP_cf rfl ?_
  refine SWP_exit ?_
  refine ne ?_
  refine ne ?_
  refine be rfl ?_
  refine nx ?_
  refine SWP_seq ?_
  refine SWP_region ?_
  refine pB rfl rfl ?_
  refine SL_nil ?_
  refine nx ?_
  refine SWP_ret ?_
  refine fin [_] ⟨rfl, trivial⟩ ?_
  first | exact congrArg Value.bool (name_ch hb (by omega)) | exact congrArg Value.bool (name_yes hb0 (by omega) (by omega) hall (by omega)) | exact congrArg Value.bool (name_first hb0 (by omega)) | exact congrArg Value.bool (name_size (by omega))

theorem nameRef {m : Mem} (s : ByteArray) : PureCall Try.prog 34 [.string s] m (.bool (nameB s)) := by
  refine CallsS.pure ?_
  refine enter Try.func34 Try.ntmps34 rfl rfl ?_
  refine SWP_seq ?_
  refine SWP_region ?_
  refine pB rfl rfl ?_
  refine SL_nil ?_
  refine nx ?_
  refine SWP_seq ?_
  refine SWP_seq ?_
  refine SWP_region ?_
  first | refine pS rfl rfl ?_ | refine pu rfl rfl ?_
  refine pu rfl rfl ?_
  refine pc rfl rfl (fun c8 => ?_) (fun c8 => ?_)
  · skip
    refine pB rfl rfl ?_
    refine SL_no rfl rfl ?_
    refine SL_no rfl rfl ?_
    refine SL_no rfl rfl ?_
    refine pB rfl rfl ?_
    refine pB rfl rfl ?_
    refine SL_no rfl rfl ?_
    refine SL_no rfl rfl ?_
    refine SL_no rfl rfl ?_
    refine pB rfl rfl ?_
    refine pB rfl rfl ?_
    refine SL_no rfl rfl ?_
    refine SL_no rfl rfl ?_
    refine SL_no rfl rfl ?_
    refine pB rfl rfl ?_
    refine SL_nil ?_
    refine nx ?_
    refine SWP_ct rfl ?_
    refine SWP_seq ?_
    refine SWP_region ?_
    refine pB rfl rfl ?_
    refine SL_nil ?_
    refine nx ?_
    refine SWP_ret ?_
    refine nr ?_
    refine fin [_] ⟨rfl, trivial⟩ ?_
    first | exact congrArg Value.bool (name_ch hb (by omega)) | exact congrArg Value.bool (name_yes hb0 (by omega) (by omega) hall (by omega)) | exact congrArg Value.bool (name_first hb0 (by omega)) | exact congrArg Value.bool (name_size (by omega))
  refine pB rfl rfl ?_
  refine SL_yes rfl ?_
  first | refine pS rfl rfl ?_ | refine pu rfl rfl ?_
  refine SL_yes rfl ?_
  refine pu rfl rfl ?_
  refine SL_yes rfl ?_
  refine pc rfl rfl (fun c12 => ?_) (fun c12 => ?_)
  · skip
    refine pB rfl rfl ?_
    refine pB rfl rfl ?_
    refine SL_no rfl rfl ?_
    refine SL_no rfl rfl ?_
    refine SL_no rfl rfl ?_
    refine pB rfl rfl ?_
    refine pB rfl rfl ?_
    refine SL_no rfl rfl ?_
    refine SL_no rfl rfl ?_
    refine SL_no rfl rfl ?_
    refine pB rfl rfl ?_
    refine SL_nil ?_
    refine nx ?_
    refine SWP_ct rfl ?_
    refine SWP_seq ?_
    refine SWP_region ?_
    refine pB rfl rfl ?_
    refine SL_nil ?_
    refine nx ?_
    refine SWP_ret ?_
    refine nr ?_
    refine fin [_] ⟨rfl, trivial⟩ ?_
    first | exact congrArg Value.bool (name_ch hb (by omega)) | exact congrArg Value.bool (name_yes hb0 (by omega) (by omega) hall (by omega)) | exact congrArg Value.bool (name_first hb0 (by omega)) | exact congrArg Value.bool (name_size (by omega))
  refine pB rfl rfl ?_
  refine pB rfl rfl ?_
  refine SL_yes rfl ?_
  first | refine pS rfl rfl ?_ | refine pu rfl rfl ?_
  refine SL_yes rfl ?_
  obtain ⟨b0, hb0⟩ := bytes_at s 0 (by omega)
  refine ixs (k := 0) rfl rfl rfl hb0 rfl ?_
  refine SL_yes rfl ?_
  refine pc rfl rfl (fun c17 => ?_) (fun c17 => ?_)
  · skip
    refine pB rfl rfl ?_
    refine pB rfl rfl ?_
    refine SL_no rfl rfl ?_
    refine SL_no rfl rfl ?_
    refine SL_no rfl rfl ?_
    refine pB rfl rfl ?_
    refine SL_nil ?_
    refine nx ?_
    refine SWP_ct rfl ?_
    refine SWP_seq ?_
    refine SWP_region ?_
    refine pB rfl rfl ?_
    refine SL_nil ?_
    refine nx ?_
    refine SWP_ret ?_
    refine nr ?_
    refine fin [_] ⟨rfl, trivial⟩ ?_
    first | exact congrArg Value.bool (name_ch hb (by omega)) | exact congrArg Value.bool (name_yes hb0 (by omega) (by omega) hall (by omega)) | exact congrArg Value.bool (name_first hb0 (by omega)) | exact congrArg Value.bool (name_size (by omega))
  refine pB rfl rfl ?_
  refine pB rfl rfl ?_
  refine SL_yes rfl ?_
  first | refine pS rfl rfl ?_ | refine pu rfl rfl ?_
  refine SL_yes rfl ?_
  refine ixs (k := 0) rfl rfl rfl hb0 rfl ?_
  refine SL_yes rfl ?_
  refine pc rfl rfl (fun c22 => ?_) (fun c22 => ?_)
  · skip
    refine pB rfl rfl ?_
    refine SL_nil ?_
    refine nx ?_
    refine SWP_ct rfl ?_
    refine SWP_seq ?_
    refine SWP_region ?_
    refine pB rfl rfl ?_
    refine SL_nil ?_
    refine nx ?_
    refine SWP_ret ?_
    refine nr ?_
    refine fin [_] ⟨rfl, trivial⟩ ?_
    first | exact congrArg Value.bool (name_ch hb (by omega)) | exact congrArg Value.bool (name_yes hb0 (by omega) (by omega) hall (by omega)) | exact congrArg Value.bool (name_first hb0 (by omega)) | exact congrArg Value.bool (name_size (by omega))
  refine pB rfl rfl ?_
  refine SL_nil ?_
  refine nx ?_
  refine SWP_cf rfl ?_
  refine SWP_skip ?_
  refine nx ?_
  refine SWP_seq ?_
  refine SWP_seq ?_
  refine SWP_region ?_
  refine pI rfl rfl ?_
  refine SL_nil ?_
  refine nx ?_
  refine SWP_block ?_
  refine SWP_loop [2, 3, 4, 5, 24, 25, 26, 27, 28, 29, 30, 31, 32, 33, 34, 35, 36, 37, 38, 39, 40, 41, 42, 43, 44, 45, 46, 47, 48, 49, 50, 51, 52, 53, 54, 55, 56, 57, 58, 59, 60, 61] [3]
      (fun vs σ' m' => ∃ k, k ≤ s.size ∧ vs = [.int .i64 (k : Nat)] ∧ (s.data.toList.take k).all nameCh = true ∧ σ' = [] ∧ m = m')
      (fun vs => s.size - nOf (vs.getD 0 undef)) rfl ?_ ?_
  · exact ⟨0, by omega, rfl, by simp, rfl, rfl⟩
  intro u0 vs0 σ0 m0 hJ0 _
  obtain ⟨k, hk, rfl, hall, rfl, rfl⟩ := hJ0
  refine SWP_seq ?_
  refine SWP_seq ?_
  refine SWP_region ?_
  first | refine pI rfl rfl ?_ | refine pu rfl rfl ?_
  first | refine pS rfl rfl ?_ | refine pu rfl rfl ?_
  refine pu rfl rfl ?_
  refine pc rfl rfl (fun c27 => ?_) (fun c27 => ?_)
  · skip
    refine SL_nil ?_
    refine nx ?_
    refine SWP_ct rfl ?_
    refine SWP_skip ?_
    refine nx ?_
    refine SWP_seq ?_
    refine SWP_block ?_
    refine SWP_seq ?_
    refine SWP_region ?_
    first | refine pS rfl rfl ?_ | refine pu rfl rfl ?_
    first | refine pI rfl rfl ?_ | refine pu rfl rfl ?_
    obtain ⟨b, hb⟩ := bytes_at s k (by omega)
    refine ixs (k := k) rfl rfl rfl hb rfl ?_
    refine pc rfl rfl (fun c33 => ?_) (fun c33 => ?_)
    · skip
      refine pB rfl rfl ?_
      refine SL_yes rfl ?_
      first | refine pS rfl rfl ?_ | refine pu rfl rfl ?_
      refine SL_yes rfl ?_
      first | refine pI rfl rfl ?_ | refine pu rfl rfl ?_
      refine SL_yes rfl ?_
      refine ixs (k := k) rfl rfl rfl hb rfl ?_
      refine SL_yes rfl ?_
      refine pc rfl rfl (fun c38 => ?_) (fun c38 => ?_)
      · skip
        refine pB rfl rfl ?_
        refine pB rfl rfl ?_
        refine SL_nil ?_
        refine nx ?_
        refine SWP_seq ?_
        refine SWP_region ?_
        first | refine pS rfl rfl ?_ | refine pu rfl rfl ?_
        first | refine pI rfl rfl ?_ | refine pu rfl rfl ?_
        refine ixs (k := k) rfl rfl rfl hb rfl ?_
        refine pc rfl rfl (fun c43 => ?_) (fun c43 => ?_)
        · skip
          refine pB rfl rfl ?_
          refine SL_yes rfl ?_
          first | refine pS rfl rfl ?_ | refine pu rfl rfl ?_
          refine SL_yes rfl ?_
          first | refine pI rfl rfl ?_ | refine pu rfl rfl ?_
          refine SL_yes rfl ?_
          refine ixs (k := k) rfl rfl rfl hb rfl ?_
          refine SL_yes rfl ?_
          refine pc rfl rfl (fun c48 => ?_) (fun c48 => ?_)
          · skip
            refine pB rfl rfl ?_
            refine pB rfl rfl ?_
            refine SL_nil ?_
            refine nx ?_
            refine SWP_seq ?_
            refine SWP_region ?_
            refine pB rfl rfl ?_
            refine pB rfl rfl ?_
            refine pB rfl rfl ?_
            refine SL_no rfl rfl ?_
            refine SL_no rfl rfl ?_
            refine pB rfl rfl ?_
            refine pB rfl rfl ?_
            refine SL_no rfl rfl ?_
            refine SL_no rfl rfl ?_
            refine SL_no rfl rfl ?_
            refine SL_no rfl rfl ?_
            refine pB rfl rfl ?_
            refine SL_nil ?_
            refine nx ?_
            refine SWP_cf rfl ?_
            refine SWP_skip ?_
            refine nb ?_
            refine nx ?_
            refine SWP_region ?_
            first | refine pI rfl rfl ?_ | refine pu rfl rfl ?_
            first | refine pw rfl rfl (w64 (by omega) (by omega)) ?_ | refine pu rfl rfl ?_
            refine pI rfl rfl ?_
            refine SL_nil ?_
            refine nx ?_
            refine ⟨by repeat (first | exact Under.upds rfl (Under.hav _ _ _) | exact Under.hav _ _ _ | refine Under.upd rfl ?_), ?_, ?_⟩
            · exact ⟨k + 1, by omega, rfl, name_next hb hall (by omega), rfl, rfl⟩
            · simp only [L_vals, List.map, List.getD]; show s.size - (k + 1) < s.size - k; omega
          refine pB rfl rfl ?_
          refine pB rfl rfl ?_
          refine SL_nil ?_
          refine nx ?_
          refine SWP_seq ?_
          refine SWP_region ?_
          refine pB rfl rfl ?_
          refine pB rfl rfl ?_
          refine pB rfl rfl ?_
          refine SL_no rfl rfl ?_
          refine SL_no rfl rfl ?_
          refine pB rfl rfl ?_
          refine pB rfl rfl ?_
          refine SL_no rfl rfl ?_
          refine SL_no rfl rfl ?_
          refine SL_no rfl rfl ?_
          refine SL_no rfl rfl ?_
          refine pB rfl rfl ?_
          refine SL_nil ?_
          refine nx ?_
          refine SWP_cf rfl ?_
          refine SWP_skip ?_
          refine nb ?_
          refine nx ?_
          refine SWP_region ?_
          first | refine pI rfl rfl ?_ | refine pu rfl rfl ?_
          first | refine pw rfl rfl (w64 (by omega) (by omega)) ?_ | refine pu rfl rfl ?_
          refine pI rfl rfl ?_
          refine SL_nil ?_
          refine nx ?_
          refine ⟨by repeat (first | exact Under.upds rfl (Under.hav _ _ _) | exact Under.hav _ _ _ | refine Under.upd rfl ?_), ?_, ?_⟩
          · exact ⟨k + 1, by omega, rfl, name_next hb hall (by omega), rfl, rfl⟩
          · simp only [L_vals, List.map, List.getD]; show s.size - (k + 1) < s.size - k; omega
        refine pB rfl rfl ?_
        refine SL_no rfl rfl ?_
        refine SL_no rfl rfl ?_
        refine SL_no rfl rfl ?_
        refine SL_no rfl rfl ?_
        refine pB rfl rfl ?_
        refine pB rfl rfl ?_
        refine SL_nil ?_
        refine nx ?_
        refine SWP_seq ?_
        refine SWP_region ?_
        refine pB rfl rfl ?_
        refine pB rfl rfl ?_
        refine pB rfl rfl ?_
        refine SL_no rfl rfl ?_
        refine SL_no rfl rfl ?_
        refine pB rfl rfl ?_
        refine pB rfl rfl ?_
        refine SL_no rfl rfl ?_
        refine SL_no rfl rfl ?_
        refine SL_no rfl rfl ?_
        refine SL_no rfl rfl ?_
        refine pB rfl rfl ?_
        refine SL_nil ?_
        refine nx ?_
        refine SWP_cf rfl ?_
        refine SWP_skip ?_
        refine nb ?_
        refine nx ?_
        refine SWP_region ?_
        first | refine pI rfl rfl ?_ | refine pu rfl rfl ?_
        first | refine pw rfl rfl (w64 (by omega) (by omega)) ?_ | refine pu rfl rfl ?_
        refine pI rfl rfl ?_
        refine SL_nil ?_
        refine nx ?_
        refine ⟨by repeat (first | exact Under.upds rfl (Under.hav _ _ _) | exact Under.hav _ _ _ | refine Under.upd rfl ?_), ?_, ?_⟩
        · exact ⟨k + 1, by omega, rfl, name_next hb hall (by omega), rfl, rfl⟩
        · simp only [L_vals, List.map, List.getD]; show s.size - (k + 1) < s.size - k; omega
      refine pB rfl rfl ?_
      refine pB rfl rfl ?_
      refine SL_nil ?_
      refine nx ?_
      refine SWP_seq ?_
      refine SWP_region ?_
      first | refine pS rfl rfl ?_ | refine pu rfl rfl ?_
      first | refine pI rfl rfl ?_ | refine pu rfl rfl ?_
      refine ixs (k := k) rfl rfl rfl hb rfl ?_
      refine pc rfl rfl (fun c43 => ?_) (fun c43 => ?_)
      · skip
        refine pB rfl rfl ?_
        refine SL_yes rfl ?_
        first | refine pS rfl rfl ?_ | refine pu rfl rfl ?_
        refine SL_yes rfl ?_
        first | refine pI rfl rfl ?_ | refine pu rfl rfl ?_
        refine SL_yes rfl ?_
        refine ixs (k := k) rfl rfl rfl hb rfl ?_
        refine SL_yes rfl ?_
        refine pc rfl rfl (fun c48 => ?_) (fun c48 => ?_)
        · skip
          refine pB rfl rfl ?_
          refine pB rfl rfl ?_
          refine SL_nil ?_
          refine nx ?_
          refine SWP_seq ?_
          refine SWP_region ?_
          refine pB rfl rfl ?_
          refine pB rfl rfl ?_
          refine pB rfl rfl ?_
          refine SL_yes rfl ?_
          refine pB rfl rfl ?_
          refine SL_yes rfl ?_
          refine pB rfl rfl ?_
          refine pB rfl rfl ?_
          refine pB rfl rfl ?_
          refine SL_no rfl rfl ?_
          refine SL_no rfl rfl ?_
          refine SL_no rfl rfl ?_
          refine SL_no rfl rfl ?_
          refine pB rfl rfl ?_
          refine SL_nil ?_
          refine nx ?_
          refine SWP_cf rfl ?_
          refine SWP_skip ?_
          refine nb ?_
          refine nx ?_
          refine SWP_region ?_
          first | refine pI rfl rfl ?_ | refine pu rfl rfl ?_
          first | refine pw rfl rfl (w64 (by omega) (by omega)) ?_ | refine pu rfl rfl ?_
          refine pI rfl rfl ?_
          refine SL_nil ?_
          refine nx ?_
          refine ⟨by repeat (first | exact Under.upds rfl (Under.hav _ _ _) | exact Under.hav _ _ _ | refine Under.upd rfl ?_), ?_, ?_⟩
          · exact ⟨k + 1, by omega, rfl, name_next hb hall (by omega), rfl, rfl⟩
          · simp only [L_vals, List.map, List.getD]; show s.size - (k + 1) < s.size - k; omega
        refine pB rfl rfl ?_
        refine pB rfl rfl ?_
        refine SL_nil ?_
        refine nx ?_
        refine SWP_seq ?_
        refine SWP_region ?_
        refine pB rfl rfl ?_
        refine pB rfl rfl ?_
        refine pB rfl rfl ?_
        refine SL_yes rfl ?_
        refine pB rfl rfl ?_
        refine SL_yes rfl ?_
        refine pB rfl rfl ?_
        refine pB rfl rfl ?_
        refine pB rfl rfl ?_
        refine SL_yes rfl ?_
        first | refine pS rfl rfl ?_ | refine pu rfl rfl ?_
        refine SL_yes rfl ?_
        first | refine pI rfl rfl ?_ | refine pu rfl rfl ?_
        refine SL_yes rfl ?_
        refine ixs (k := k) rfl rfl rfl hb rfl ?_
        refine SL_yes rfl ?_
        refine pc rfl rfl (fun c60 => ?_) (fun c60 => ?_)
        · skip
          refine pB rfl rfl ?_
          refine SL_nil ?_
          refine nx ?_
          refine SWP_ct rfl ?_
          refine SWP_seq ?_
          refine SWP_region ?_
          refine pB rfl rfl ?_
          refine SL_nil ?_
          refine nx ?_
          refine SWP_ret ?_
          refine br ?_
          refine nr ?_
          refine nr ?_
          refine br ?_
          refine nr ?_
          refine fin [_] ⟨rfl, trivial⟩ ?_
          first | exact congrArg Value.bool (name_ch hb (by omega)) | exact congrArg Value.bool (name_yes hb0 (by omega) (by omega) hall (by omega)) | exact congrArg Value.bool (name_first hb0 (by omega)) | exact congrArg Value.bool (name_size (by omega))
        refine pB rfl rfl ?_
        refine SL_nil ?_
        refine nx ?_
        refine SWP_cf rfl ?_
        refine SWP_skip ?_
        refine nb ?_
        refine nx ?_
        refine SWP_region ?_
        first | refine pI rfl rfl ?_ | refine pu rfl rfl ?_
        first | refine pw rfl rfl (w64 (by omega) (by omega)) ?_ | refine pu rfl rfl ?_
        refine pI rfl rfl ?_
        refine SL_nil ?_
        refine nx ?_
        refine ⟨by repeat (first | exact Under.upds rfl (Under.hav _ _ _) | exact Under.hav _ _ _ | refine Under.upd rfl ?_), ?_, ?_⟩
        · exact ⟨k + 1, by omega, rfl, name_next hb hall (by omega), rfl, rfl⟩
        · simp only [L_vals, List.map, List.getD]; show s.size - (k + 1) < s.size - k; omega
      refine pB rfl rfl ?_
      refine SL_no rfl rfl ?_
      refine SL_no rfl rfl ?_
      refine SL_no rfl rfl ?_
      refine SL_no rfl rfl ?_
      refine pB rfl rfl ?_
      refine pB rfl rfl ?_
      refine SL_nil ?_
      refine nx ?_
      refine SWP_seq ?_
      refine SWP_region ?_
      refine pB rfl rfl ?_
      refine pB rfl rfl ?_
      refine pB rfl rfl ?_
      refine SL_yes rfl ?_
      refine pB rfl rfl ?_
      refine SL_yes rfl ?_
      refine pB rfl rfl ?_
      refine pB rfl rfl ?_
      refine pB rfl rfl ?_
      refine SL_yes rfl ?_
      first | refine pS rfl rfl ?_ | refine pu rfl rfl ?_
      refine SL_yes rfl ?_
      first | refine pI rfl rfl ?_ | refine pu rfl rfl ?_
      refine SL_yes rfl ?_
      refine ixs (k := k) rfl rfl rfl hb rfl ?_
      refine SL_yes rfl ?_
      refine pc rfl rfl (fun c60 => ?_) (fun c60 => ?_)
      · skip
        refine pB rfl rfl ?_
        refine SL_nil ?_
        refine nx ?_
        refine SWP_ct rfl ?_
        refine SWP_seq ?_
        refine SWP_region ?_
        refine pB rfl rfl ?_
        refine SL_nil ?_
        refine nx ?_
        refine SWP_ret ?_
        refine br ?_
        refine nr ?_
        refine nr ?_
        refine br ?_
        refine nr ?_
        refine fin [_] ⟨rfl, trivial⟩ ?_
        first | exact congrArg Value.bool (name_ch hb (by omega)) | exact congrArg Value.bool (name_yes hb0 (by omega) (by omega) hall (by omega)) | exact congrArg Value.bool (name_first hb0 (by omega)) | exact congrArg Value.bool (name_size (by omega))
      refine pB rfl rfl ?_
      refine SL_nil ?_
      refine nx ?_
      refine SWP_cf rfl ?_
      refine SWP_skip ?_
      refine nb ?_
      refine nx ?_
      refine SWP_region ?_
      first | refine pI rfl rfl ?_ | refine pu rfl rfl ?_
      first | refine pw rfl rfl (w64 (by omega) (by omega)) ?_ | refine pu rfl rfl ?_
      refine pI rfl rfl ?_
      refine SL_nil ?_
      refine nx ?_
      refine ⟨by repeat (first | exact Under.upds rfl (Under.hav _ _ _) | exact Under.hav _ _ _ | refine Under.upd rfl ?_), ?_, ?_⟩
      · exact ⟨k + 1, by omega, rfl, name_next hb hall (by omega), rfl, rfl⟩
      · simp only [L_vals, List.map, List.getD]; show s.size - (k + 1) < s.size - k; omega
    refine pB rfl rfl ?_
    refine SL_no rfl rfl ?_
    refine SL_no rfl rfl ?_
    refine SL_no rfl rfl ?_
    refine SL_no rfl rfl ?_
    refine pB rfl rfl ?_
    refine pB rfl rfl ?_
    refine SL_nil ?_
    refine nx ?_
    refine SWP_seq ?_
    refine SWP_region ?_
    first | refine pS rfl rfl ?_ | refine pu rfl rfl ?_
    first | refine pI rfl rfl ?_ | refine pu rfl rfl ?_
    refine ixs (k := k) rfl rfl rfl hb rfl ?_
    refine pc rfl rfl (fun c43 => ?_) (fun c43 => ?_)
    · skip
      refine pB rfl rfl ?_
      refine SL_yes rfl ?_
      first | refine pS rfl rfl ?_ | refine pu rfl rfl ?_
      refine SL_yes rfl ?_
      first | refine pI rfl rfl ?_ | refine pu rfl rfl ?_
      refine SL_yes rfl ?_
      refine ixs (k := k) rfl rfl rfl hb rfl ?_
      refine SL_yes rfl ?_
      refine pc rfl rfl (fun c48 => ?_) (fun c48 => ?_)
      · skip
        refine pB rfl rfl ?_
        refine pB rfl rfl ?_
        refine SL_nil ?_
        refine nx ?_
        refine SWP_seq ?_
        refine SWP_region ?_
        refine pB rfl rfl ?_
        refine pB rfl rfl ?_
        refine pB rfl rfl ?_
        refine SL_yes rfl ?_
        refine pB rfl rfl ?_
        refine SL_yes rfl ?_
        refine pB rfl rfl ?_
        refine pB rfl rfl ?_
        refine pB rfl rfl ?_
        refine SL_no rfl rfl ?_
        refine SL_no rfl rfl ?_
        refine SL_no rfl rfl ?_
        refine SL_no rfl rfl ?_
        refine pB rfl rfl ?_
        refine SL_nil ?_
        refine nx ?_
        refine SWP_cf rfl ?_
        refine SWP_skip ?_
        refine nb ?_
        refine nx ?_
        refine SWP_region ?_
        first | refine pI rfl rfl ?_ | refine pu rfl rfl ?_
        first | refine pw rfl rfl (w64 (by omega) (by omega)) ?_ | refine pu rfl rfl ?_
        refine pI rfl rfl ?_
        refine SL_nil ?_
        refine nx ?_
        refine ⟨by repeat (first | exact Under.upds rfl (Under.hav _ _ _) | exact Under.hav _ _ _ | refine Under.upd rfl ?_), ?_, ?_⟩
        · exact ⟨k + 1, by omega, rfl, name_next hb hall (by omega), rfl, rfl⟩
        · simp only [L_vals, List.map, List.getD]; show s.size - (k + 1) < s.size - k; omega
      refine pB rfl rfl ?_
      refine pB rfl rfl ?_
      refine SL_nil ?_
      refine nx ?_
      refine SWP_seq ?_
      refine SWP_region ?_
      refine pB rfl rfl ?_
      refine pB rfl rfl ?_
      refine pB rfl rfl ?_
      refine SL_yes rfl ?_
      refine pB rfl rfl ?_
      refine SL_yes rfl ?_
      refine pB rfl rfl ?_
      refine pB rfl rfl ?_
      refine pB rfl rfl ?_
      refine SL_yes rfl ?_
      first | refine pS rfl rfl ?_ | refine pu rfl rfl ?_
      refine SL_yes rfl ?_
      first | refine pI rfl rfl ?_ | refine pu rfl rfl ?_
      refine SL_yes rfl ?_
      refine ixs (k := k) rfl rfl rfl hb rfl ?_
      refine SL_yes rfl ?_
      refine pc rfl rfl (fun c60 => ?_) (fun c60 => ?_)
      · skip
        refine pB rfl rfl ?_
        refine SL_nil ?_
        refine nx ?_
        refine SWP_ct rfl ?_
        refine SWP_seq ?_
        refine SWP_region ?_
        refine pB rfl rfl ?_
        refine SL_nil ?_
        refine nx ?_
        refine SWP_ret ?_
        refine br ?_
        refine nr ?_
        refine nr ?_
        refine br ?_
        refine nr ?_
        refine fin [_] ⟨rfl, trivial⟩ ?_
        first | exact congrArg Value.bool (name_ch hb (by omega)) | exact congrArg Value.bool (name_yes hb0 (by omega) (by omega) hall (by omega)) | exact congrArg Value.bool (name_first hb0 (by omega)) | exact congrArg Value.bool (name_size (by omega))
      refine pB rfl rfl ?_
      refine SL_nil ?_
      refine nx ?_
      refine SWP_cf rfl ?_
      refine SWP_skip ?_
      refine nb ?_
      refine nx ?_
      refine SWP_region ?_
      first | refine pI rfl rfl ?_ | refine pu rfl rfl ?_
      first | refine pw rfl rfl (w64 (by omega) (by omega)) ?_ | refine pu rfl rfl ?_
      refine pI rfl rfl ?_
      refine SL_nil ?_
      refine nx ?_
      refine ⟨by repeat (first | exact Under.upds rfl (Under.hav _ _ _) | exact Under.hav _ _ _ | refine Under.upd rfl ?_), ?_, ?_⟩
      · exact ⟨k + 1, by omega, rfl, name_next hb hall (by omega), rfl, rfl⟩
      · simp only [L_vals, List.map, List.getD]; show s.size - (k + 1) < s.size - k; omega
    refine pB rfl rfl ?_
    refine SL_no rfl rfl ?_
    refine SL_no rfl rfl ?_
    refine SL_no rfl rfl ?_
    refine SL_no rfl rfl ?_
    refine pB rfl rfl ?_
    refine pB rfl rfl ?_
    refine SL_nil ?_
    refine nx ?_
    refine SWP_seq ?_
    refine SWP_region ?_
    refine pB rfl rfl ?_
    refine pB rfl rfl ?_
    refine pB rfl rfl ?_
    refine SL_yes rfl ?_
    refine pB rfl rfl ?_
    refine SL_yes rfl ?_
    refine pB rfl rfl ?_
    refine pB rfl rfl ?_
    refine pB rfl rfl ?_
    refine SL_yes rfl ?_
    first | refine pS rfl rfl ?_ | refine pu rfl rfl ?_
    refine SL_yes rfl ?_
    first | refine pI rfl rfl ?_ | refine pu rfl rfl ?_
    refine SL_yes rfl ?_
    refine ixs (k := k) rfl rfl rfl hb rfl ?_
    refine SL_yes rfl ?_
    refine pc rfl rfl (fun c60 => ?_) (fun c60 => ?_)
    · skip
      refine pB rfl rfl ?_
      refine SL_nil ?_
      refine nx ?_
      refine SWP_ct rfl ?_
      refine SWP_seq ?_
      refine SWP_region ?_
      refine pB rfl rfl ?_
      refine SL_nil ?_
      refine nx ?_
      refine SWP_ret ?_
      refine br ?_
      refine nr ?_
      refine nr ?_
      refine br ?_
      refine nr ?_
      refine fin [_] ⟨rfl, trivial⟩ ?_
      first | exact congrArg Value.bool (name_ch hb (by omega)) | exact congrArg Value.bool (name_yes hb0 (by omega) (by omega) hall (by omega)) | exact congrArg Value.bool (name_first hb0 (by omega)) | exact congrArg Value.bool (name_size (by omega))
    refine pB rfl rfl ?_
    refine SL_nil ?_
    refine nx ?_
    refine SWP_cf rfl ?_
    refine SWP_skip ?_
    refine nb ?_
    refine nx ?_
    refine SWP_region ?_
    first | refine pI rfl rfl ?_ | refine pu rfl rfl ?_
    first | refine pw rfl rfl (w64 (by omega) (by omega)) ?_ | refine pu rfl rfl ?_
    refine pI rfl rfl ?_
    refine SL_nil ?_
    refine nx ?_
    refine ⟨by repeat (first | exact Under.upds rfl (Under.hav _ _ _) | exact Under.hav _ _ _ | refine Under.upd rfl ?_), ?_, ?_⟩
    · exact ⟨k + 1, by omega, rfl, name_next hb hall (by omega), rfl, rfl⟩
    · simp only [L_vals, List.map, List.getD]; show s.size - (k + 1) < s.size - k; omega
  refine SL_nil ?_
  refine nx ?_
  refine SWP_cf rfl ?_
  refine SWP_exit ?_
  refine ne ?_
  refine ne ?_
  refine be rfl ?_
  refine nx ?_
  refine SWP_seq ?_
  refine SWP_region ?_
  refine pB rfl rfl ?_
  refine SL_nil ?_
  refine nx ?_
  refine SWP_ret ?_
  refine fin [_] ⟨rfl, trivial⟩ ?_
  first | exact congrArg Value.bool (name_ch hb (by omega)) | exact congrArg Value.bool (name_yes hb0 (by omega) (by omega) hall (by omega)) | exact congrArg Value.bool (name_first hb0 (by omega)) | exact congrArg Value.bool (name_size (by omega))

end Go.Proofs.Ytkopdlglenejmaa

