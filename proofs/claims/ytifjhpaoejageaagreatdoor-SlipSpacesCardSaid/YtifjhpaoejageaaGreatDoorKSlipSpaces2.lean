/- What the claim rests on, part 2: models of the functions in plain Lean and walks through their code; printed by programs. -/
import Derived.Test.YtifjhpaoejageaaGreatDoorKSlipSpaces1
set_option linter.unusedVariables false
set_option linter.unusedSimpArgs false
namespace Go.Proofs.YtifjhpaoejageaaGreatDoor
open Eng
def nameCh (b : UInt8) : Bool := decide ((97 ≤ b.toNat ∧ b.toNat ≤ 122) ∨ (48 ≤ b.toNat ∧ b.toNat ≤ 57) ∨ b.toNat = 45)
def nameFirst (l : List UInt8) : Bool := match l with | b :: _ => decide (97 ≤ b.toNat ∧ b.toNat ≤ 122) | [] => false
def nameB (s : ByteArray) : Bool := decide (1 ≤ s.size ∧ s.size ≤ 24) && nameFirst s.data.toList && s.data.toList.all nameCh
theorem bytes_at (s : ByteArray) (k : Nat) (h : k < s.size) : ∃ b, s.data.toList[k]? = some b := ⟨_, List.getElem?_eq_getElem (by simpa using h)⟩
theorem nameFirst_at {s : ByteArray} {b : UInt8} (h : s.data.toList[0]? = some b) : nameFirst s.data.toList = decide (97 ≤ b.toNat ∧ b.toNat ≤ 122) := by
  cases hl : s.data.toList with
  | nil => rw [hl] at h; cases h
  | cons c l =>
    rw [hl] at h
    simp at h
    subst h
    rfl
theorem all_snoc {α : Type} {p : α → Bool} {l : List α} {k : Nat} {b : α} (h : l[k]? = some b) : (l.take (k + 1)).all p = ((l.take k).all p && p b) := by
  have hk := (List.getElem?_eq_some_iff.1 h)
  rw [List.take_succ_eq_append_getElem hk.1, hk.2, List.all_append]
  simp
theorem all_no {α : Type} {p : α → Bool} {l : List α} {k : Nat} {b : α} (h : l[k]? = some b) (hb : p b = false) : l.all p = false := by
  cases ha : l.all p with
  | false => rfl
  | true =>
    rw [List.all_eq_true.1 ha b (List.mem_of_getElem? h)] at hb
    cases hb
theorem size_list (s : ByteArray) : s.data.toList.length = s.size := by simp
theorem name_size {s : ByteArray} (h : ¬ (1 ≤ s.size ∧ s.size ≤ 24)) : false = nameB s := by
  unfold nameB; rw [decide_eq_false h]; rfl
theorem name_first {s : ByteArray} {b : UInt8} (hb : s.data.toList[0]? = some b) (h : ¬ (97 ≤ b.toNat ∧ b.toNat ≤ 122)) : false = nameB s := by
  unfold nameB; rw [nameFirst_at hb, decide_eq_false h, Bool.and_false]; rfl
theorem name_ch {s : ByteArray} {k : Nat} {b : UInt8} (hb : s.data.toList[k]? = some b) (h : ¬ ((97 ≤ b.toNat ∧ b.toNat ≤ 122) ∨ (48 ≤ b.toNat ∧ b.toNat ≤ 57) ∨ b.toNat = 45)) : false = nameB s := by
  unfold nameB; rw [all_no hb (decide_eq_false h), Bool.and_false]
theorem name_yes {s : ByteArray} {k : Nat} {b : UInt8} (hb : s.data.toList[0]? = some b) (h1 : 1 ≤ s.size ∧ s.size ≤ 24) (h2 : 97 ≤ b.toNat ∧ b.toNat ≤ 122) (h3 : (s.data.toList.take k).all nameCh = true) (hk : s.size ≤ k) : true = nameB s := by
  unfold nameB
  rw [List.take_of_length_le (by rw [size_list]; exact hk)] at h3
  rw [nameFirst_at hb, decide_eq_true h1, decide_eq_true h2, h3]; rfl
theorem name_next {s : ByteArray} {k : Nat} {b : UInt8} (hb : s.data.toList[k]? = some b) (h : (s.data.toList.take k).all nameCh = true) (hc : (97 ≤ b.toNat ∧ b.toNat ≤ 122) ∨ (48 ≤ b.toNat ∧ b.toNat ≤ 57) ∨ b.toNat = 45) : (s.data.toList.take (k + 1)).all nameCh = true := by
  rw [all_snoc hb, h]
  exact decide_eq_true hc
theorem nameImpl {m : Mem} (s : ByteArray) : PureCall Tryz.prog 67 [.string s] m (.bool (nameB s)) := by
  refine CallsS.pure ?_
  refine enter Tryz.func67 Tryz.ntmps67 rfl rfl ?_
  refine SWP_seq (SWP_region ?_)
  refine pB rfl rfl ?_
  refine SL_nil (nx (SWP_seq (SWP_seq (SWP_region ?_))))
  first | refine pS rfl rfl ?_ | refine pu rfl rfl ?_
  refine pu rfl rfl ?_
  refine pc rfl rfl (fun c7 => ?_) (fun c7 => ?_)
  · skip
    refine pB rfl rfl ?_
    refine SL_no rfl rfl ?_
    refine SL_no rfl rfl ?_
    refine SL_no rfl rfl ?_
    refine pB rfl rfl ?_
    refine pB rfl rfl ?_
    refine SL_no rfl rfl ?_
    refine SL_no rfl rfl ?_
    refine SL_no rfl rfl ?_
    refine pB rfl rfl ?_
    refine pB rfl rfl ?_
    refine SL_no rfl rfl ?_
    refine SL_no rfl rfl ?_
    refine SL_no rfl rfl ?_
    refine pB rfl rfl ?_
    refine SL_nil (nx (SWP_ct rfl (SWP_seq (SWP_region ?_))))
    refine pB rfl rfl ?_
    refine SL_nil (nx (SWP_ret (nr ?_)))
    refine fin [_] ⟨rfl, trivial⟩ ?_
    first | exact congrArg Value.bool (name_ch hb (by omega)) | exact congrArg Value.bool (name_yes hb0 (by omega) (by omega) hall (by omega)) | exact congrArg Value.bool (name_first hb0 (by omega)) | exact congrArg Value.bool (name_size (by omega))
  refine pB rfl rfl ?_
  refine SL_yes rfl ?_
  first | refine pS rfl rfl ?_ | refine pu rfl rfl ?_
  refine SL_yes rfl ?_
  refine pu rfl rfl ?_
  refine SL_yes rfl ?_
  refine pc rfl rfl (fun c11 => ?_) (fun c11 => ?_)
  · skip
    refine pB rfl rfl ?_
    refine pB rfl rfl ?_
    refine SL_no rfl rfl ?_
    refine SL_no rfl rfl ?_
    refine SL_no rfl rfl ?_
    refine pB rfl rfl ?_
    refine pB rfl rfl ?_
    refine SL_no rfl rfl ?_
    refine SL_no rfl rfl ?_
    refine SL_no rfl rfl ?_
    refine pB rfl rfl ?_
    refine SL_nil (nx (SWP_ct rfl (SWP_seq (SWP_region ?_))))
    refine pB rfl rfl ?_
    refine SL_nil (nx (SWP_ret (nr ?_)))
    refine fin [_] ⟨rfl, trivial⟩ ?_
    first | exact congrArg Value.bool (name_ch hb (by omega)) | exact congrArg Value.bool (name_yes hb0 (by omega) (by omega) hall (by omega)) | exact congrArg Value.bool (name_first hb0 (by omega)) | exact congrArg Value.bool (name_size (by omega))
  refine pB rfl rfl ?_
  refine pB rfl rfl ?_
  refine SL_yes rfl ?_
  first | refine pS rfl rfl ?_ | refine pu rfl rfl ?_
  refine SL_yes rfl ?_
  obtain ⟨b0, hb0⟩ := bytes_at s 0 (by omega)
  refine ixs (k := 0) rfl rfl rfl hb0 rfl ?_
  refine SL_yes rfl ?_
  refine pc rfl rfl (fun c16 => ?_) (fun c16 => ?_)
  · skip
    refine pB rfl rfl ?_
    refine pB rfl rfl ?_
    refine SL_no rfl rfl ?_
    refine SL_no rfl rfl ?_
    refine SL_no rfl rfl ?_
    refine pB rfl rfl ?_
    refine SL_nil (nx (SWP_ct rfl (SWP_seq (SWP_region ?_))))
    refine pB rfl rfl ?_
    refine SL_nil (nx (SWP_ret (nr ?_)))
    refine fin [_] ⟨rfl, trivial⟩ ?_
    first | exact congrArg Value.bool (name_ch hb (by omega)) | exact congrArg Value.bool (name_yes hb0 (by omega) (by omega) hall (by omega)) | exact congrArg Value.bool (name_first hb0 (by omega)) | exact congrArg Value.bool (name_size (by omega))
  refine pB rfl rfl ?_
  refine pB rfl rfl ?_
  refine SL_yes rfl ?_
  first | refine pS rfl rfl ?_ | refine pu rfl rfl ?_
  refine SL_yes rfl ?_
  refine ixs (k := 0) rfl rfl rfl hb0 rfl ?_
  refine SL_yes rfl ?_
  refine pc rfl rfl (fun c21 => ?_) (fun c21 => ?_)
  · skip
    refine pB rfl rfl ?_
    refine SL_nil (nx (SWP_ct rfl (SWP_seq (SWP_region ?_))))
    refine pB rfl rfl ?_
    refine SL_nil (nx (SWP_ret (nr ?_)))
    refine fin [_] ⟨rfl, trivial⟩ ?_
    first | exact congrArg Value.bool (name_ch hb (by omega)) | exact congrArg Value.bool (name_yes hb0 (by omega) (by omega) hall (by omega)) | exact congrArg Value.bool (name_first hb0 (by omega)) | exact congrArg Value.bool (name_size (by omega))
  refine pB rfl rfl ?_
  refine SL_nil (nx (SWP_cf rfl (SWP_skip (nx (SWP_seq (SWP_seq (SWP_region ?_)))))))
  first | refine pS rfl rfl ?_ | refine pu rfl rfl ?_
  refine pu rfl rfl ?_
  refine pI rfl rfl ?_
  refine SL_nil (nx (SWP_block ?_))
  refine SWP_loop [2, 3, 4, 25, 26, 27, 28, 29, 30, 31, 32, 33, 34, 35, 36, 37, 38, 39, 40, 41, 42, 43, 44, 45, 46, 47, 48, 49] [3, 25]
      (fun vs σ' m' => ∃ k v3, k ≤ s.size ∧ vs = [v3, .int .i64 (k : Nat)] ∧ (s.data.toList.take k).all nameCh = true ∧ σ' = [] ∧ m = m')
      (fun vs => s.size - nOf (vs.getD 1 undef)) rfl ?_ ?_
  · exact ⟨0, _, by omega, rfl, by simp, rfl, rfl⟩
  intro u0 vs0 σ0 m0 hJ0 _
  obtain ⟨k, v3, hk, rfl, hall, rfl, rfl⟩ := hJ0
  refine SWP_seq (SWP_region ?_)
  refine pc rfl rfl (fun c26 => ?_) (fun c26 => ?_)
  · skip
    refine SL_nil (nx (SWP_seq (SWP_ct rfl (SWP_skip (nx (SWP_seq (SWP_block (SWP_seq (SWP_region ?_)))))))))
    first | refine pI rfl rfl ?_ | refine pu rfl rfl ?_
    first | refine pI rfl rfl ?_ | refine pu rfl rfl ?_
    refine SL_nil (nx (SWP_seq (SWP_region ?_)))
    first | refine pS rfl rfl ?_ | refine pu rfl rfl ?_
    first | refine pI rfl rfl ?_ | refine pu rfl rfl ?_
    obtain ⟨b, hb⟩ := bytes_at s k (by omega)
    refine ixs (k := k) rfl rfl rfl hb rfl ?_
    first | refine pI rfl rfl ?_ | refine pu rfl rfl ?_
    refine SL_nil (nx (SWP_seq (SWP_region ?_)))
    first | refine pI rfl rfl ?_ | refine pu rfl rfl ?_
    refine pc rfl rfl (fun c32 => ?_) (fun c32 => ?_)
    · skip
      refine pB rfl rfl ?_
      refine SL_no rfl rfl ?_
      refine SL_no rfl rfl ?_
      refine pB rfl rfl ?_
      refine pB rfl rfl ?_
      refine SL_yes rfl ?_
      first | refine pI rfl rfl ?_ | refine pu rfl rfl ?_
      refine SL_yes rfl ?_
      refine pc rfl rfl (fun c39 => ?_) (fun c39 => ?_)
      · skip
        refine SL_yes rfl ?_
        refine pB rfl rfl ?_
        refine SL_no rfl rfl ?_
        refine SL_no rfl rfl ?_
        refine SL_yes rfl ?_
        refine pB rfl rfl ?_
        refine pB rfl rfl ?_
        refine pB rfl rfl ?_
        refine SL_yes rfl ?_
        first | refine pI rfl rfl ?_ | refine pu rfl rfl ?_
        refine SL_yes rfl ?_
        refine pc rfl rfl (fun c47 => ?_) (fun c47 => ?_)
        · skip
          refine pB rfl rfl ?_
          refine SL_nil (nx (SWP_ct rfl (SWP_seq (SWP_region ?_))))
          refine pB rfl rfl ?_
          refine SL_nil (nx (SWP_ret (br (nr (nr (br (nr ?_)))))))
          refine fin [_] ⟨rfl, trivial⟩ ?_
          first | exact congrArg Value.bool (name_ch hb (by omega)) | exact congrArg Value.bool (name_yes hb0 (by omega) (by omega) hall (by omega)) | exact congrArg Value.bool (name_first hb0 (by omega)) | exact congrArg Value.bool (name_size (by omega))
        refine pB rfl rfl ?_
        refine SL_nil (nx (SWP_cf rfl (SWP_skip (nb (nx (SWP_region ?_))))))
        first | refine pw rfl rfl (w64 (by omega) (by omega)) ?_ | refine pu rfl rfl ?_
        refine pI rfl rfl ?_
        refine SL_nil (nx ?_)
        refine ⟨by repeat (first | exact Under.upds rfl (Under.hav _ _ _) | exact Under.hav _ _ _ | refine Under.upd rfl ?_), ?_, ?_⟩
        · exact ⟨k + 1, _, by omega, rfl, name_next hb hall (by omega), rfl, rfl⟩
        · simp only [L_vals, List.map, List.getD]; show s.size - (k + 1) < s.size - k; omega
      refine SL_yes rfl ?_
      refine pB rfl rfl ?_
      refine SL_yes rfl ?_
      first | refine pI rfl rfl ?_ | refine pu rfl rfl ?_
      refine SL_yes rfl ?_
      refine pc rfl rfl (fun c42 => ?_) (fun c42 => ?_)
      · skip
        refine SL_yes rfl ?_
        refine pB rfl rfl ?_
        refine pB rfl rfl ?_
        refine pB rfl rfl ?_
        refine SL_yes rfl ?_
        first | refine pI rfl rfl ?_ | refine pu rfl rfl ?_
        refine SL_yes rfl ?_
        refine pc rfl rfl (fun c47 => ?_) (fun c47 => ?_)
        · skip
          refine pB rfl rfl ?_
          refine SL_nil (nx (SWP_ct rfl (SWP_seq (SWP_region ?_))))
          refine pB rfl rfl ?_
          refine SL_nil (nx (SWP_ret (br (nr (nr (br (nr ?_)))))))
          refine fin [_] ⟨rfl, trivial⟩ ?_
          first | exact congrArg Value.bool (name_ch hb (by omega)) | exact congrArg Value.bool (name_yes hb0 (by omega) (by omega) hall (by omega)) | exact congrArg Value.bool (name_first hb0 (by omega)) | exact congrArg Value.bool (name_size (by omega))
        refine pB rfl rfl ?_
        refine SL_nil (nx (SWP_cf rfl (SWP_skip (nb (nx (SWP_region ?_))))))
        first | refine pw rfl rfl (w64 (by omega) (by omega)) ?_ | refine pu rfl rfl ?_
        refine pI rfl rfl ?_
        refine SL_nil (nx ?_)
        refine ⟨by repeat (first | exact Under.upds rfl (Under.hav _ _ _) | exact Under.hav _ _ _ | refine Under.upd rfl ?_), ?_, ?_⟩
        · exact ⟨k + 1, _, by omega, rfl, name_next hb hall (by omega), rfl, rfl⟩
        · simp only [L_vals, List.map, List.getD]; show s.size - (k + 1) < s.size - k; omega
      refine SL_yes rfl ?_
      refine pB rfl rfl ?_
      refine pB rfl rfl ?_
      refine pB rfl rfl ?_
      refine SL_no rfl rfl ?_
      refine SL_no rfl rfl ?_
      refine pB rfl rfl ?_
      refine SL_nil (nx (SWP_cf rfl (SWP_skip (nb (nx (SWP_region ?_))))))
      first | refine pw rfl rfl (w64 (by omega) (by omega)) ?_ | refine pu rfl rfl ?_
      refine pI rfl rfl ?_
      refine SL_nil (nx ?_)
      refine ⟨by repeat (first | exact Under.upds rfl (Under.hav _ _ _) | exact Under.hav _ _ _ | refine Under.upd rfl ?_), ?_, ?_⟩
      · exact ⟨k + 1, _, by omega, rfl, name_next hb hall (by omega), rfl, rfl⟩
      · simp only [L_vals, List.map, List.getD]; show s.size - (k + 1) < s.size - k; omega
    refine pB rfl rfl ?_
    refine SL_yes rfl ?_
    first | refine pI rfl rfl ?_ | refine pu rfl rfl ?_
    refine SL_yes rfl ?_
    refine pc rfl rfl (fun c35 => ?_) (fun c35 => ?_)
    · skip
      refine pB rfl rfl ?_
      refine pB rfl rfl ?_
      refine SL_yes rfl ?_
      first | refine pI rfl rfl ?_ | refine pu rfl rfl ?_
      refine SL_yes rfl ?_
      refine pc rfl rfl (fun c39 => ?_) (fun c39 => ?_)
      · skip
        refine SL_yes rfl ?_
        refine pB rfl rfl ?_
        refine SL_no rfl rfl ?_
        refine SL_no rfl rfl ?_
        refine SL_yes rfl ?_
        refine pB rfl rfl ?_
        refine pB rfl rfl ?_
        refine pB rfl rfl ?_
        refine SL_yes rfl ?_
        first | refine pI rfl rfl ?_ | refine pu rfl rfl ?_
        refine SL_yes rfl ?_
        refine pc rfl rfl (fun c47 => ?_) (fun c47 => ?_)
        · skip
          refine pB rfl rfl ?_
          refine SL_nil (nx (SWP_ct rfl (SWP_seq (SWP_region ?_))))
          refine pB rfl rfl ?_
          refine SL_nil (nx (SWP_ret (br (nr (nr (br (nr ?_)))))))
          refine fin [_] ⟨rfl, trivial⟩ ?_
          first | exact congrArg Value.bool (name_ch hb (by omega)) | exact congrArg Value.bool (name_yes hb0 (by omega) (by omega) hall (by omega)) | exact congrArg Value.bool (name_first hb0 (by omega)) | exact congrArg Value.bool (name_size (by omega))
        refine pB rfl rfl ?_
        refine SL_nil (nx (SWP_cf rfl (SWP_skip (nb (nx (SWP_region ?_))))))
        first | refine pw rfl rfl (w64 (by omega) (by omega)) ?_ | refine pu rfl rfl ?_
        refine pI rfl rfl ?_
        refine SL_nil (nx ?_)
        refine ⟨by repeat (first | exact Under.upds rfl (Under.hav _ _ _) | exact Under.hav _ _ _ | refine Under.upd rfl ?_), ?_, ?_⟩
        · exact ⟨k + 1, _, by omega, rfl, name_next hb hall (by omega), rfl, rfl⟩
        · simp only [L_vals, List.map, List.getD]; show s.size - (k + 1) < s.size - k; omega
      refine SL_yes rfl ?_
      refine pB rfl rfl ?_
      refine SL_yes rfl ?_
      first | refine pI rfl rfl ?_ | refine pu rfl rfl ?_
      refine SL_yes rfl ?_
      refine pc rfl rfl (fun c42 => ?_) (fun c42 => ?_)
      · skip
        refine SL_yes rfl ?_
        refine pB rfl rfl ?_
        refine pB rfl rfl ?_
        refine pB rfl rfl ?_
        refine SL_yes rfl ?_
        first | refine pI rfl rfl ?_ | refine pu rfl rfl ?_
        refine SL_yes rfl ?_
        refine pc rfl rfl (fun c47 => ?_) (fun c47 => ?_)
        · skip
          refine pB rfl rfl ?_
          refine SL_nil (nx (SWP_ct rfl (SWP_seq (SWP_region ?_))))
          refine pB rfl rfl ?_
          refine SL_nil (nx (SWP_ret (br (nr (nr (br (nr ?_)))))))
          refine fin [_] ⟨rfl, trivial⟩ ?_
          first | exact congrArg Value.bool (name_ch hb (by omega)) | exact congrArg Value.bool (name_yes hb0 (by omega) (by omega) hall (by omega)) | exact congrArg Value.bool (name_first hb0 (by omega)) | exact congrArg Value.bool (name_size (by omega))
        refine pB rfl rfl ?_
        refine SL_nil (nx (SWP_cf rfl (SWP_skip (nb (nx (SWP_region ?_))))))
        first | refine pw rfl rfl (w64 (by omega) (by omega)) ?_ | refine pu rfl rfl ?_
        refine pI rfl rfl ?_
        refine SL_nil (nx ?_)
        refine ⟨by repeat (first | exact Under.upds rfl (Under.hav _ _ _) | exact Under.hav _ _ _ | refine Under.upd rfl ?_), ?_, ?_⟩
        · exact ⟨k + 1, _, by omega, rfl, name_next hb hall (by omega), rfl, rfl⟩
        · simp only [L_vals, List.map, List.getD]; show s.size - (k + 1) < s.size - k; omega
      refine SL_yes rfl ?_
      refine pB rfl rfl ?_
      refine pB rfl rfl ?_
      refine pB rfl rfl ?_
      refine SL_no rfl rfl ?_
      refine SL_no rfl rfl ?_
      refine pB rfl rfl ?_
      refine SL_nil (nx (SWP_cf rfl (SWP_skip (nb (nx (SWP_region ?_))))))
      first | refine pw rfl rfl (w64 (by omega) (by omega)) ?_ | refine pu rfl rfl ?_
      refine pI rfl rfl ?_
      refine SL_nil (nx ?_)
      refine ⟨by repeat (first | exact Under.upds rfl (Under.hav _ _ _) | exact Under.hav _ _ _ | refine Under.upd rfl ?_), ?_, ?_⟩
      · exact ⟨k + 1, _, by omega, rfl, name_next hb hall (by omega), rfl, rfl⟩
      · simp only [L_vals, List.map, List.getD]; show s.size - (k + 1) < s.size - k; omega
    refine pB rfl rfl ?_
    refine pB rfl rfl ?_
    refine SL_no rfl rfl ?_
    refine SL_no rfl rfl ?_
    refine SL_no rfl rfl ?_
    refine SL_no rfl rfl ?_
    refine SL_no rfl rfl ?_
    refine SL_no rfl rfl ?_
    refine pB rfl rfl ?_
    refine pB rfl rfl ?_
    refine SL_no rfl rfl ?_
    refine SL_no rfl rfl ?_
    refine pB rfl rfl ?_
    refine SL_nil (nx (SWP_cf rfl (SWP_skip (nb (nx (SWP_region ?_))))))
    first | refine pw rfl rfl (w64 (by omega) (by omega)) ?_ | refine pu rfl rfl ?_
    refine pI rfl rfl ?_
    refine SL_nil (nx ?_)
    refine ⟨by repeat (first | exact Under.upds rfl (Under.hav _ _ _) | exact Under.hav _ _ _ | refine Under.upd rfl ?_), ?_, ?_⟩
    · exact ⟨k + 1, _, by omega, rfl, name_next hb hall (by omega), rfl, rfl⟩
    · simp only [L_vals, List.map, List.getD]; show s.size - (k + 1) < s.size - k; omega
  refine SL_nil (nx (SWP_seq (SWP_cf rfl (SWP_exit (ne (ne (be rfl (nx (SWP_seq (SWP_region ?_))))))))))
  refine pB rfl rfl ?_
  refine SL_nil (nx (SWP_ret ?_))
  refine fin [_] ⟨rfl, trivial⟩ ?_
  first | exact congrArg Value.bool (name_ch hb (by omega)) | exact congrArg Value.bool (name_yes hb0 (by omega) (by omega) hall (by omega)) | exact congrArg Value.bool (name_first hb0 (by omega)) | exact congrArg Value.bool (name_size (by omega))
theorem nameRef {m : Mem} (s : ByteArray) : PureCall Tryz.prog 29 [.string s] m (.bool (nameB s)) := by
  refine CallsS.pure ?_
  refine enter Tryz.func29 Tryz.ntmps29 rfl rfl ?_
  refine SWP_seq (SWP_region ?_)
  refine pB rfl rfl ?_
  refine SL_nil (nx (SWP_seq (SWP_seq (SWP_region ?_))))
  first | refine pS rfl rfl ?_ | refine pu rfl rfl ?_
  refine pu rfl rfl ?_
  refine pc rfl rfl (fun c8 => ?_) (fun c8 => ?_)
  · skip
    refine pB rfl rfl ?_
    refine SL_no rfl rfl ?_
    refine SL_no rfl rfl ?_
    refine SL_no rfl rfl ?_
    refine pB rfl rfl ?_
    refine pB rfl rfl ?_
    refine SL_no rfl rfl ?_
    refine SL_no rfl rfl ?_
    refine SL_no rfl rfl ?_
    refine pB rfl rfl ?_
    refine pB rfl rfl ?_
    refine SL_no rfl rfl ?_
    refine SL_no rfl rfl ?_
    refine SL_no rfl rfl ?_
    refine pB rfl rfl ?_
    refine SL_nil (nx (SWP_ct rfl (SWP_seq (SWP_region ?_))))
    refine pB rfl rfl ?_
    refine SL_nil (nx (SWP_ret (nr ?_)))
    refine fin [_] ⟨rfl, trivial⟩ ?_
    first | exact congrArg Value.bool (name_ch hb (by omega)) | exact congrArg Value.bool (name_yes hb0 (by omega) (by omega) hall (by omega)) | exact congrArg Value.bool (name_first hb0 (by omega)) | exact congrArg Value.bool (name_size (by omega))
  refine pB rfl rfl ?_
  refine SL_yes rfl ?_
  first | refine pS rfl rfl ?_ | refine pu rfl rfl ?_
  refine SL_yes rfl ?_
  refine pu rfl rfl ?_
  refine SL_yes rfl ?_
  refine pc rfl rfl (fun c12 => ?_) (fun c12 => ?_)
  · skip
    refine pB rfl rfl ?_
    refine pB rfl rfl ?_
    refine SL_no rfl rfl ?_
    refine SL_no rfl rfl ?_
    refine SL_no rfl rfl ?_
    refine pB rfl rfl ?_
    refine pB rfl rfl ?_
    refine SL_no rfl rfl ?_
    refine SL_no rfl rfl ?_
    refine SL_no rfl rfl ?_
    refine pB rfl rfl ?_
    refine SL_nil (nx (SWP_ct rfl (SWP_seq (SWP_region ?_))))
    refine pB rfl rfl ?_
    refine SL_nil (nx (SWP_ret (nr ?_)))
    refine fin [_] ⟨rfl, trivial⟩ ?_
    first | exact congrArg Value.bool (name_ch hb (by omega)) | exact congrArg Value.bool (name_yes hb0 (by omega) (by omega) hall (by omega)) | exact congrArg Value.bool (name_first hb0 (by omega)) | exact congrArg Value.bool (name_size (by omega))
  refine pB rfl rfl ?_
  refine pB rfl rfl ?_
  refine SL_yes rfl ?_
  first | refine pS rfl rfl ?_ | refine pu rfl rfl ?_
  refine SL_yes rfl ?_
  obtain ⟨b0, hb0⟩ := bytes_at s 0 (by omega)
  refine ixs (k := 0) rfl rfl rfl hb0 rfl ?_
  refine SL_yes rfl ?_
  refine pc rfl rfl (fun c17 => ?_) (fun c17 => ?_)
  · skip
    refine pB rfl rfl ?_
    refine pB rfl rfl ?_
    refine SL_no rfl rfl ?_
    refine SL_no rfl rfl ?_
    refine SL_no rfl rfl ?_
    refine pB rfl rfl ?_
    refine SL_nil (nx (SWP_ct rfl (SWP_seq (SWP_region ?_))))
    refine pB rfl rfl ?_
    refine SL_nil (nx (SWP_ret (nr ?_)))
    refine fin [_] ⟨rfl, trivial⟩ ?_
    first | exact congrArg Value.bool (name_ch hb (by omega)) | exact congrArg Value.bool (name_yes hb0 (by omega) (by omega) hall (by omega)) | exact congrArg Value.bool (name_first hb0 (by omega)) | exact congrArg Value.bool (name_size (by omega))
  refine pB rfl rfl ?_
  refine pB rfl rfl ?_
  refine SL_yes rfl ?_
  first | refine pS rfl rfl ?_ | refine pu rfl rfl ?_
  refine SL_yes rfl ?_
  refine ixs (k := 0) rfl rfl rfl hb0 rfl ?_
  refine SL_yes rfl ?_
  refine pc rfl rfl (fun c22 => ?_) (fun c22 => ?_)
  · skip
    refine pB rfl rfl ?_
    refine SL_nil (nx (SWP_ct rfl (SWP_seq (SWP_region ?_))))
    refine pB rfl rfl ?_
    refine SL_nil (nx (SWP_ret (nr ?_)))
    refine fin [_] ⟨rfl, trivial⟩ ?_
    first | exact congrArg Value.bool (name_ch hb (by omega)) | exact congrArg Value.bool (name_yes hb0 (by omega) (by omega) hall (by omega)) | exact congrArg Value.bool (name_first hb0 (by omega)) | exact congrArg Value.bool (name_size (by omega))
  refine pB rfl rfl ?_
  refine SL_nil (nx (SWP_cf rfl (SWP_skip (nx (SWP_seq (SWP_seq (SWP_region ?_)))))))
  refine pI rfl rfl ?_
  refine SL_nil (nx (SWP_block ?_))
  refine SWP_loop [2, 3, 4, 5, 24, 25, 26, 27, 28, 29, 30, 31, 32, 33, 34, 35, 36, 37, 38, 39, 40, 41, 42, 43, 44, 45, 46, 47, 48, 49, 50, 51, 52, 53, 54, 55, 56, 57, 58, 59, 60, 61] [3]
      (fun vs σ' m' => ∃ k, k ≤ s.size ∧ vs = [.int .i64 (k : Nat)] ∧ (s.data.toList.take k).all nameCh = true ∧ σ' = [] ∧ m = m')
      (fun vs => s.size - nOf (vs.getD 0 undef)) rfl ?_ ?_
  · exact ⟨0, by omega, rfl, by simp, rfl, rfl⟩
  intro u0 vs0 σ0 m0 hJ0 _
  obtain ⟨k, hk, rfl, hall, rfl, rfl⟩ := hJ0
  refine SWP_seq (SWP_seq (SWP_region ?_))
  first | refine pI rfl rfl ?_ | refine pu rfl rfl ?_
  first | refine pS rfl rfl ?_ | refine pu rfl rfl ?_
  refine pu rfl rfl ?_
  refine pc rfl rfl (fun c27 => ?_) (fun c27 => ?_)
  · skip
    refine SL_nil (nx (SWP_ct rfl (SWP_skip (nx (SWP_seq (SWP_block (SWP_seq (SWP_region ?_))))))))
    first | refine pS rfl rfl ?_ | refine pu rfl rfl ?_
    first | refine pI rfl rfl ?_ | refine pu rfl rfl ?_
    obtain ⟨b, hb⟩ := bytes_at s k (by omega)
    refine ixs (k := k) rfl rfl rfl hb rfl ?_
    refine pc rfl rfl (fun c33 => ?_) (fun c33 => ?_)
    · skip
      refine pB rfl rfl ?_
      refine SL_yes rfl ?_
      first | refine pS rfl rfl ?_ | refine pu rfl rfl ?_
      refine SL_yes rfl ?_
      first | refine pI rfl rfl ?_ | refine pu rfl rfl ?_
      refine SL_yes rfl ?_
      refine ixs (k := k) rfl rfl rfl hb rfl ?_
      refine SL_yes rfl ?_
      refine pc rfl rfl (fun c38 => ?_) (fun c38 => ?_)
      · skip
        refine pB rfl rfl ?_
        refine pB rfl rfl ?_
        refine SL_nil (nx (SWP_seq (SWP_region ?_)))
        first | refine pS rfl rfl ?_ | refine pu rfl rfl ?_
        first | refine pI rfl rfl ?_ | refine pu rfl rfl ?_
        refine ixs (k := k) rfl rfl rfl hb rfl ?_
        refine pc rfl rfl (fun c43 => ?_) (fun c43 => ?_)
        · skip
          refine pB rfl rfl ?_
          refine SL_yes rfl ?_
          first | refine pS rfl rfl ?_ | refine pu rfl rfl ?_
          refine SL_yes rfl ?_
          first | refine pI rfl rfl ?_ | refine pu rfl rfl ?_
          refine SL_yes rfl ?_
          refine ixs (k := k) rfl rfl rfl hb rfl ?_
          refine SL_yes rfl ?_
          refine pc rfl rfl (fun c48 => ?_) (fun c48 => ?_)
          · skip
            refine pB rfl rfl ?_
            refine pB rfl rfl ?_
            refine SL_nil (nx (SWP_seq (SWP_region ?_)))
            refine pB rfl rfl ?_
            refine pB rfl rfl ?_
            refine pB rfl rfl ?_
            refine SL_no rfl rfl ?_
            refine SL_no rfl rfl ?_
            refine pB rfl rfl ?_
            refine pB rfl rfl ?_
            refine SL_no rfl rfl ?_
            refine SL_no rfl rfl ?_
            refine SL_no rfl rfl ?_
            refine SL_no rfl rfl ?_
            refine pB rfl rfl ?_
            refine SL_nil (nx (SWP_cf rfl (SWP_skip (nb (nx (SWP_region ?_))))))
            first | refine pI rfl rfl ?_ | refine pu rfl rfl ?_
            first | refine pw rfl rfl (w64 (by omega) (by omega)) ?_ | refine pu rfl rfl ?_
            refine pI rfl rfl ?_
            refine SL_nil (nx ?_)
            refine ⟨by repeat (first | exact Under.upds rfl (Under.hav _ _ _) | exact Under.hav _ _ _ | refine Under.upd rfl ?_), ?_, ?_⟩
            · exact ⟨k + 1, by omega, rfl, name_next hb hall (by omega), rfl, rfl⟩
            · simp only [L_vals, List.map, List.getD]; show s.size - (k + 1) < s.size - k; omega
          refine pB rfl rfl ?_
          refine pB rfl rfl ?_
          refine SL_nil (nx (SWP_seq (SWP_region ?_)))
          refine pB rfl rfl ?_
          refine pB rfl rfl ?_
          refine pB rfl rfl ?_
          refine SL_no rfl rfl ?_
          refine SL_no rfl rfl ?_
          refine pB rfl rfl ?_
          refine pB rfl rfl ?_
          refine SL_no rfl rfl ?_
          refine SL_no rfl rfl ?_
          refine SL_no rfl rfl ?_
          refine SL_no rfl rfl ?_
          refine pB rfl rfl ?_
          refine SL_nil (nx (SWP_cf rfl (SWP_skip (nb (nx (SWP_region ?_))))))
          first | refine pI rfl rfl ?_ | refine pu rfl rfl ?_
          first | refine pw rfl rfl (w64 (by omega) (by omega)) ?_ | refine pu rfl rfl ?_
          refine pI rfl rfl ?_
          refine SL_nil (nx ?_)
          refine ⟨by repeat (first | exact Under.upds rfl (Under.hav _ _ _) | exact Under.hav _ _ _ | refine Under.upd rfl ?_), ?_, ?_⟩
          · exact ⟨k + 1, by omega, rfl, name_next hb hall (by omega), rfl, rfl⟩
          · simp only [L_vals, List.map, List.getD]; show s.size - (k + 1) < s.size - k; omega
        refine pB rfl rfl ?_
        refine SL_no rfl rfl ?_
        refine SL_no rfl rfl ?_
        refine SL_no rfl rfl ?_
        refine SL_no rfl rfl ?_
        refine pB rfl rfl ?_
        refine pB rfl rfl ?_
        refine SL_nil (nx (SWP_seq (SWP_region ?_)))
        refine pB rfl rfl ?_
        refine pB rfl rfl ?_
        refine pB rfl rfl ?_
        refine SL_no rfl rfl ?_
        refine SL_no rfl rfl ?_
        refine pB rfl rfl ?_
        refine pB rfl rfl ?_
        refine SL_no rfl rfl ?_
        refine SL_no rfl rfl ?_
        refine SL_no rfl rfl ?_
        refine SL_no rfl rfl ?_
        refine pB rfl rfl ?_
        refine SL_nil (nx (SWP_cf rfl (SWP_skip (nb (nx (SWP_region ?_))))))
        first | refine pI rfl rfl ?_ | refine pu rfl rfl ?_
        first | refine pw rfl rfl (w64 (by omega) (by omega)) ?_ | refine pu rfl rfl ?_
        refine pI rfl rfl ?_
        refine SL_nil (nx ?_)
        refine ⟨by repeat (first | exact Under.upds rfl (Under.hav _ _ _) | exact Under.hav _ _ _ | refine Under.upd rfl ?_), ?_, ?_⟩
        · exact ⟨k + 1, by omega, rfl, name_next hb hall (by omega), rfl, rfl⟩
        · simp only [L_vals, List.map, List.getD]; show s.size - (k + 1) < s.size - k; omega
      refine pB rfl rfl ?_
      refine pB rfl rfl ?_
      refine SL_nil (nx (SWP_seq (SWP_region ?_)))
      first | refine pS rfl rfl ?_ | refine pu rfl rfl ?_
      first | refine pI rfl rfl ?_ | refine pu rfl rfl ?_
      refine ixs (k := k) rfl rfl rfl hb rfl ?_
      refine pc rfl rfl (fun c43 => ?_) (fun c43 => ?_)
      · skip
        refine pB rfl rfl ?_
        refine SL_yes rfl ?_
        first | refine pS rfl rfl ?_ | refine pu rfl rfl ?_
        refine SL_yes rfl ?_
        first | refine pI rfl rfl ?_ | refine pu rfl rfl ?_
        refine SL_yes rfl ?_
        refine ixs (k := k) rfl rfl rfl hb rfl ?_
        refine SL_yes rfl ?_
        refine pc rfl rfl (fun c48 => ?_) (fun c48 => ?_)
        · skip
          refine pB rfl rfl ?_
          refine pB rfl rfl ?_
          refine SL_nil (nx (SWP_seq (SWP_region ?_)))
          refine pB rfl rfl ?_
          refine pB rfl rfl ?_
          refine pB rfl rfl ?_
          refine SL_yes rfl ?_
          refine pB rfl rfl ?_
          refine SL_yes rfl ?_
          refine pB rfl rfl ?_
          refine pB rfl rfl ?_
          refine pB rfl rfl ?_
          refine SL_no rfl rfl ?_
          refine SL_no rfl rfl ?_
          refine SL_no rfl rfl ?_
          refine SL_no rfl rfl ?_
          refine pB rfl rfl ?_
          refine SL_nil (nx (SWP_cf rfl (SWP_skip (nb (nx (SWP_region ?_))))))
          first | refine pI rfl rfl ?_ | refine pu rfl rfl ?_
          first | refine pw rfl rfl (w64 (by omega) (by omega)) ?_ | refine pu rfl rfl ?_
          refine pI rfl rfl ?_
          refine SL_nil (nx ?_)
          refine ⟨by repeat (first | exact Under.upds rfl (Under.hav _ _ _) | exact Under.hav _ _ _ | refine Under.upd rfl ?_), ?_, ?_⟩
          · exact ⟨k + 1, by omega, rfl, name_next hb hall (by omega), rfl, rfl⟩
          · simp only [L_vals, List.map, List.getD]; show s.size - (k + 1) < s.size - k; omega
        refine pB rfl rfl ?_
        refine pB rfl rfl ?_
        refine SL_nil (nx (SWP_seq (SWP_region ?_)))
        refine pB rfl rfl ?_
        refine pB rfl rfl ?_
        refine pB rfl rfl ?_
        refine SL_yes rfl ?_
        refine pB rfl rfl ?_
        refine SL_yes rfl ?_
        refine pB rfl rfl ?_
        refine pB rfl rfl ?_
        refine pB rfl rfl ?_
        refine SL_yes rfl ?_
        first | refine pS rfl rfl ?_ | refine pu rfl rfl ?_
        refine SL_yes rfl ?_
        first | refine pI rfl rfl ?_ | refine pu rfl rfl ?_
        refine SL_yes rfl ?_
        refine ixs (k := k) rfl rfl rfl hb rfl ?_
        refine SL_yes rfl ?_
        refine pc rfl rfl (fun c60 => ?_) (fun c60 => ?_)
        · skip
          refine pB rfl rfl ?_
          refine SL_nil (nx (SWP_ct rfl (SWP_seq (SWP_region ?_))))
          refine pB rfl rfl ?_
          refine SL_nil (nx (SWP_ret (br (nr (nr (br (nr ?_)))))))
          refine fin [_] ⟨rfl, trivial⟩ ?_
          first | exact congrArg Value.bool (name_ch hb (by omega)) | exact congrArg Value.bool (name_yes hb0 (by omega) (by omega) hall (by omega)) | exact congrArg Value.bool (name_first hb0 (by omega)) | exact congrArg Value.bool (name_size (by omega))
        refine pB rfl rfl ?_
        refine SL_nil (nx (SWP_cf rfl (SWP_skip (nb (nx (SWP_region ?_))))))
        first | refine pI rfl rfl ?_ | refine pu rfl rfl ?_
        first | refine pw rfl rfl (w64 (by omega) (by omega)) ?_ | refine pu rfl rfl ?_
        refine pI rfl rfl ?_
        refine SL_nil (nx ?_)
        refine ⟨by repeat (first | exact Under.upds rfl (Under.hav _ _ _) | exact Under.hav _ _ _ | refine Under.upd rfl ?_), ?_, ?_⟩
        · exact ⟨k + 1, by omega, rfl, name_next hb hall (by omega), rfl, rfl⟩
        · simp only [L_vals, List.map, List.getD]; show s.size - (k + 1) < s.size - k; omega
      refine pB rfl rfl ?_
      refine SL_no rfl rfl ?_
      refine SL_no rfl rfl ?_
      refine SL_no rfl rfl ?_
      refine SL_no rfl rfl ?_
      refine pB rfl rfl ?_
      refine pB rfl rfl ?_
      refine SL_nil (nx (SWP_seq (SWP_region ?_)))
      refine pB rfl rfl ?_
      refine pB rfl rfl ?_
      refine pB rfl rfl ?_
      refine SL_yes rfl ?_
      refine pB rfl rfl ?_
      refine SL_yes rfl ?_
      refine pB rfl rfl ?_
      refine pB rfl rfl ?_
      refine pB rfl rfl ?_
      refine SL_yes rfl ?_
      first | refine pS rfl rfl ?_ | refine pu rfl rfl ?_
      refine SL_yes rfl ?_
      first | refine pI rfl rfl ?_ | refine pu rfl rfl ?_
      refine SL_yes rfl ?_
      refine ixs (k := k) rfl rfl rfl hb rfl ?_
      refine SL_yes rfl ?_
      refine pc rfl rfl (fun c60 => ?_) (fun c60 => ?_)
      · skip
        refine pB rfl rfl ?_
        refine SL_nil (nx (SWP_ct rfl (SWP_seq (SWP_region ?_))))
        refine pB rfl rfl ?_
        refine SL_nil (nx (SWP_ret (br (nr (nr (br (nr ?_)))))))
        refine fin [_] ⟨rfl, trivial⟩ ?_
        first | exact congrArg Value.bool (name_ch hb (by omega)) | exact congrArg Value.bool (name_yes hb0 (by omega) (by omega) hall (by omega)) | exact congrArg Value.bool (name_first hb0 (by omega)) | exact congrArg Value.bool (name_size (by omega))
      refine pB rfl rfl ?_
      refine SL_nil (nx (SWP_cf rfl (SWP_skip (nb (nx (SWP_region ?_))))))
      first | refine pI rfl rfl ?_ | refine pu rfl rfl ?_
      first | refine pw rfl rfl (w64 (by omega) (by omega)) ?_ | refine pu rfl rfl ?_
      refine pI rfl rfl ?_
      refine SL_nil (nx ?_)
      refine ⟨by repeat (first | exact Under.upds rfl (Under.hav _ _ _) | exact Under.hav _ _ _ | refine Under.upd rfl ?_), ?_, ?_⟩
      · exact ⟨k + 1, by omega, rfl, name_next hb hall (by omega), rfl, rfl⟩
      · simp only [L_vals, List.map, List.getD]; show s.size - (k + 1) < s.size - k; omega
    refine pB rfl rfl ?_
    refine SL_no rfl rfl ?_
    refine SL_no rfl rfl ?_
    refine SL_no rfl rfl ?_
    refine SL_no rfl rfl ?_
    refine pB rfl rfl ?_
    refine pB rfl rfl ?_
    refine SL_nil (nx (SWP_seq (SWP_region ?_)))
    first | refine pS rfl rfl ?_ | refine pu rfl rfl ?_
    first | refine pI rfl rfl ?_ | refine pu rfl rfl ?_
    refine ixs (k := k) rfl rfl rfl hb rfl ?_
    refine pc rfl rfl (fun c43 => ?_) (fun c43 => ?_)
    · skip
      refine pB rfl rfl ?_
      refine SL_yes rfl ?_
      first | refine pS rfl rfl ?_ | refine pu rfl rfl ?_
      refine SL_yes rfl ?_
      first | refine pI rfl rfl ?_ | refine pu rfl rfl ?_
      refine SL_yes rfl ?_
      refine ixs (k := k) rfl rfl rfl hb rfl ?_
      refine SL_yes rfl ?_
      refine pc rfl rfl (fun c48 => ?_) (fun c48 => ?_)
      · skip
        refine pB rfl rfl ?_
        refine pB rfl rfl ?_
        refine SL_nil (nx (SWP_seq (SWP_region ?_)))
        refine pB rfl rfl ?_
        refine pB rfl rfl ?_
        refine pB rfl rfl ?_
        refine SL_yes rfl ?_
        refine pB rfl rfl ?_
        refine SL_yes rfl ?_
        refine pB rfl rfl ?_
        refine pB rfl rfl ?_
        refine pB rfl rfl ?_
        refine SL_no rfl rfl ?_
        refine SL_no rfl rfl ?_
        refine SL_no rfl rfl ?_
        refine SL_no rfl rfl ?_
        refine pB rfl rfl ?_
        refine SL_nil (nx (SWP_cf rfl (SWP_skip (nb (nx (SWP_region ?_))))))
        first | refine pI rfl rfl ?_ | refine pu rfl rfl ?_
        first | refine pw rfl rfl (w64 (by omega) (by omega)) ?_ | refine pu rfl rfl ?_
        refine pI rfl rfl ?_
        refine SL_nil (nx ?_)
        refine ⟨by repeat (first | exact Under.upds rfl (Under.hav _ _ _) | exact Under.hav _ _ _ | refine Under.upd rfl ?_), ?_, ?_⟩
        · exact ⟨k + 1, by omega, rfl, name_next hb hall (by omega), rfl, rfl⟩
        · simp only [L_vals, List.map, List.getD]; show s.size - (k + 1) < s.size - k; omega
      refine pB rfl rfl ?_
      refine pB rfl rfl ?_
      refine SL_nil (nx (SWP_seq (SWP_region ?_)))
      refine pB rfl rfl ?_
      refine pB rfl rfl ?_
      refine pB rfl rfl ?_
      refine SL_yes rfl ?_
      refine pB rfl rfl ?_
      refine SL_yes rfl ?_
      refine pB rfl rfl ?_
      refine pB rfl rfl ?_
      refine pB rfl rfl ?_
      refine SL_yes rfl ?_
      first | refine pS rfl rfl ?_ | refine pu rfl rfl ?_
      refine SL_yes rfl ?_
      first | refine pI rfl rfl ?_ | refine pu rfl rfl ?_
      refine SL_yes rfl ?_
      refine ixs (k := k) rfl rfl rfl hb rfl ?_
      refine SL_yes rfl ?_
      refine pc rfl rfl (fun c60 => ?_) (fun c60 => ?_)
      · skip
        refine pB rfl rfl ?_
        refine SL_nil (nx (SWP_ct rfl (SWP_seq (SWP_region ?_))))
        refine pB rfl rfl ?_
        refine SL_nil (nx (SWP_ret (br (nr (nr (br (nr ?_)))))))
        refine fin [_] ⟨rfl, trivial⟩ ?_
        first | exact congrArg Value.bool (name_ch hb (by omega)) | exact congrArg Value.bool (name_yes hb0 (by omega) (by omega) hall (by omega)) | exact congrArg Value.bool (name_first hb0 (by omega)) | exact congrArg Value.bool (name_size (by omega))
      refine pB rfl rfl ?_
      refine SL_nil (nx (SWP_cf rfl (SWP_skip (nb (nx (SWP_region ?_))))))
      first | refine pI rfl rfl ?_ | refine pu rfl rfl ?_
      first | refine pw rfl rfl (w64 (by omega) (by omega)) ?_ | refine pu rfl rfl ?_
      refine pI rfl rfl ?_
      refine SL_nil (nx ?_)
      refine ⟨by repeat (first | exact Under.upds rfl (Under.hav _ _ _) | exact Under.hav _ _ _ | refine Under.upd rfl ?_), ?_, ?_⟩
      · exact ⟨k + 1, by omega, rfl, name_next hb hall (by omega), rfl, rfl⟩
      · simp only [L_vals, List.map, List.getD]; show s.size - (k + 1) < s.size - k; omega
    refine pB rfl rfl ?_
    refine SL_no rfl rfl ?_
    refine SL_no rfl rfl ?_
    refine SL_no rfl rfl ?_
    refine SL_no rfl rfl ?_
    refine pB rfl rfl ?_
    refine pB rfl rfl ?_
    refine SL_nil (nx (SWP_seq (SWP_region ?_)))
    refine pB rfl rfl ?_
    refine pB rfl rfl ?_
    refine pB rfl rfl ?_
    refine SL_yes rfl ?_
    refine pB rfl rfl ?_
    refine SL_yes rfl ?_
    refine pB rfl rfl ?_
    refine pB rfl rfl ?_
    refine pB rfl rfl ?_
    refine SL_yes rfl ?_
    first | refine pS rfl rfl ?_ | refine pu rfl rfl ?_
    refine SL_yes rfl ?_
    first | refine pI rfl rfl ?_ | refine pu rfl rfl ?_
    refine SL_yes rfl ?_
    refine ixs (k := k) rfl rfl rfl hb rfl ?_
    refine SL_yes rfl ?_
    refine pc rfl rfl (fun c60 => ?_) (fun c60 => ?_)
    · skip
      refine pB rfl rfl ?_
      refine SL_nil (nx (SWP_ct rfl (SWP_seq (SWP_region ?_))))
      refine pB rfl rfl ?_
      refine SL_nil (nx (SWP_ret (br (nr (nr (br (nr ?_)))))))
      refine fin [_] ⟨rfl, trivial⟩ ?_
      first | exact congrArg Value.bool (name_ch hb (by omega)) | exact congrArg Value.bool (name_yes hb0 (by omega) (by omega) hall (by omega)) | exact congrArg Value.bool (name_first hb0 (by omega)) | exact congrArg Value.bool (name_size (by omega))
    refine pB rfl rfl ?_
    refine SL_nil (nx (SWP_cf rfl (SWP_skip (nb (nx (SWP_region ?_))))))
    first | refine pI rfl rfl ?_ | refine pu rfl rfl ?_
    first | refine pw rfl rfl (w64 (by omega) (by omega)) ?_ | refine pu rfl rfl ?_
    refine pI rfl rfl ?_
    refine SL_nil (nx ?_)
    refine ⟨by repeat (first | exact Under.upds rfl (Under.hav _ _ _) | exact Under.hav _ _ _ | refine Under.upd rfl ?_), ?_, ?_⟩
    · exact ⟨k + 1, by omega, rfl, name_next hb hall (by omega), rfl, rfl⟩
    · simp only [L_vals, List.map, List.getD]; show s.size - (k + 1) < s.size - k; omega
  refine SL_nil (nx (SWP_cf rfl (SWP_exit (ne (ne (be rfl (nx (SWP_seq (SWP_region ?_)))))))))
  refine pB rfl rfl ?_
  refine SL_nil (nx (SWP_ret ?_))
  refine fin [_] ⟨rfl, trivial⟩ ?_
  first | exact congrArg Value.bool (name_ch hb (by omega)) | exact congrArg Value.bool (name_yes hb0 (by omega) (by omega) hall (by omega)) | exact congrArg Value.bool (name_first hb0 (by omega)) | exact congrArg Value.bool (name_size (by omega))
end Go.Proofs.YtifjhpaoejageaaGreatDoor
namespace Go.Proofs.YtifjhpaoejageaaGreatDoor
open Eng
structure Tier where
  main : Int
  bonus : Int
  extra : Int
  mode : Int
  kind : Int
  value : Int
deriving DecidableEq
def Tier.enc (t : Tier) : List Value := [.int .i64 t.main, .int .i64 t.bonus, .int .i64 t.extra, .int .i64 t.mode, .int .i64 t.kind, .int .i64 t.value]
def Tier.val (t : Tier) : Value := .agg #[.int .i64 t.main, .int .i64 t.bonus, .int .i64 t.extra, .int .i64 t.mode, .int .i64 t.kind, .int .i64 t.value]
theorem Tier.enc_len (t : Tier) : t.enc.length = 6 := rfl
structure Addon where
  name : ByteArray
  kind : Int
  price : Int
  fa : Option Addr
  fc : Nat
  factors : List Int
  digits : Int
  pa : Option Addr
  pc : Nat
  prizes : List Int
def Addon.enc (a : Addon) : List Value := [.string a.name, .int .i64 a.kind, .int .i64 a.price, .slice a.fa a.factors.length a.fc, .int .i64 a.digits, .slice a.pa a.prizes.length a.pc]
def Addon.val (a : Addon) : Value := .agg #[.string a.name, .int .i64 a.kind, .int .i64 a.price, .slice a.fa a.factors.length a.fc, .int .i64 a.digits, .slice a.pa a.prizes.length a.pc]
theorem Addon.enc_len (a : Addon) : a.enc.length = 6 := rfl
def Addon.In (m : Mem) (a : Addon) : Prop := RL m intE 1 (.slice a.fa a.factors.length a.fc) a.factors ∧ RL m intE 1 (.slice a.pa a.prizes.length a.pc) a.prizes
theorem Addon.In.mono {m m' : Mem} {a : Addon} (h : a.In m) (hl : Le m m') : a.In m' := ⟨h.1.mono hl, h.2.mono hl⟩
structure Game where
  name : ByteArray
  kind : Int
  price : Int
  main : Int
  of : Int
  bonus : Int
  bonusOf : Int
  extra : Int
  draws : Int
  system : Int
  days : Int
  minute : Int
  close : Int
  cancel : Int
  expiry : Int
  pool : Int
  reserve : Int
  round : Int
  cap : Int
  rolls : Int
  aa : Option Addr
  ac : Nat
  addons : List Addon
  ta : Option Addr
  tc : Nat
  tiers : List Tier
def Game.val (g : Game) : Value := .agg #[.string g.name, .int .i64 g.kind, .int .i64 g.price, .int .i64 g.main, .int .i64 g.of, .int .i64 g.bonus, .int .i64 g.bonusOf, .int .i64 g.extra, .int .i64 g.draws, .int .i64 g.system, .int .i64 g.days, .int .i64 g.minute, .int .i64 g.close, .int .i64 g.cancel, .int .i64 g.expiry, .int .i64 g.pool, .int .i64 g.reserve, .int .i64 g.round, .int .i64 g.cap, .int .i64 g.rolls, .slice g.aa g.addons.length g.ac, .slice g.ta g.tiers.length g.tc]
structure Game.In (m : Mem) (g : Game) : Prop where
  ads : RL m Addon.enc 6 (.slice g.aa g.addons.length g.ac) g.addons
  each : ∀ a ∈ g.addons, a.In m
  trs : RL m Tier.enc 6 (.slice g.ta g.tiers.length g.tc) g.tiers
theorem Game.In.mono {m m' : Mem} {g : Game} (h : g.In m) (hl : Le m m') : g.In m' := ⟨h.ads.mono hl, fun a ha => (h.each a ha).mono hl, h.trs.mono hl⟩
theorem Eng.RL.atA {α : Type} {m : Mem} {e : α → List Value} {size k n c : Nat} {a : Option Addr} {l : List α} {x : α} (he : ∀ x, (e x).length = size) (h : RL m e size (.slice a n c) l) (hk : l[k]? = some x) : ∃ ad, a = some ad ∧ n = l.length ∧ At m (ad.add (k * size)) (e x) := by
  obtain ⟨ad, cap, h1, h2⟩ := RL.at_ he h hk
  injection h1 with e1 e2
  exact ⟨ad, e1, e2, h2⟩
theorem Eng.RL.atI {m : Mem} {k n c : Nat} {a : Option Addr} {l : List Int} {x : Int} (h : RL m intE 1 (.slice a n c) l) (hk : l[k]? = some x) : ∃ ad, a = some ad ∧ n = l.length ∧ At m (ad.add k) (intE x) := by
  have := Eng.RL.atA intE_len h hk
  simpa using this
structure MxOk (g : Game) : Prop where
  h1 : 1 ≤ g.price ∧ g.price ≤ 1000000
  h2 : 1 ≤ g.main ∧ g.main ≤ 10
  h3 : g.kind = 2 → 2 ≤ g.of ∧ g.of ≤ 10
  h4 : g.kind ≠ 2 → g.main ≤ g.of ∧ g.of ≤ 80
  h5 : 0 ≤ g.bonus
  h6 : g.kind = 2 → g.bonus ≤ 0
  h7 : g.kind ≠ 2 → g.bonus ≤ 4
  h8 : g.bonus = 0 → g.bonusOf = 0
  h9 : g.bonus ≠ 0 → g.bonus ≤ g.bonusOf ∧ g.bonusOf ≤ 80
  h10 : 0 ≤ g.extra
  h11 : g.kind = 2 → g.extra ≤ 0
  h12 : g.kind ≠ 2 → g.extra ≤ 4 ∧ g.main + g.extra ≤ g.of
  h13 : 1 ≤ g.draws ∧ g.draws ≤ 32
  h14 : g.main ≤ g.system
  h15 : g.kind = 2 → g.system ≤ g.main
  h16 : g.kind ≠ 2 → g.system ≤ 14 ∧ g.system ≤ g.of
structure TmOk (g : Game) : Prop where
  h1 : 1 ≤ g.days ∧ g.days ≤ 127
  h2 : 0 ≤ g.minute ∧ g.minute ≤ 1439
  h3 : 0 ≤ g.close ∧ g.close ≤ 1440
  h4 : 0 ≤ g.cancel ∧ g.cancel ≤ 10080
  h5 : 1 ≤ g.expiry ∧ g.expiry ≤ 3660
  h6 : 0 ≤ g.pool ∧ g.pool ≤ 10000
  h7 : 0 ≤ g.reserve ∧ g.reserve ≤ 10000
  h8 : 1 ≤ g.round ∧ g.round ≤ 1000000
  h9 : 0 ≤ g.cap ∧ g.cap ≤ 1000000000000
  h10 : 0 ≤ g.rolls ∧ g.rolls ≤ 64
open Classical in
noncomputable def okE (p : Prop) (a b : Int) : Int := if p then a else b
theorem okE_t {p : Prop} {a b : Int} (h : p) : okE p a b = a := if_pos h
theorem okE_f {p : Prop} {a b : Int} (h : ¬ p) : okE p a b = b := if_neg h
def allErr (lo hi : Int) (l : List Int) : Int := if ∀ x ∈ l, lo ≤ x ∧ x ≤ hi then 0 else 2
def addonErr (a : Addon) : Int :=
  if nameB a.name = false then 4
  else if a.kind ≠ 1 ∧ a.kind ≠ 2 then 7
  else if ¬ (0 ≤ a.price ∧ a.price ≤ 1000000) then 2
  else if a.kind = 1 then
    if a.digits ≠ 0 ∨ 0 < a.prizes.length then 7
    else if ¬ (1 ≤ a.factors.length ∧ a.factors.length ≤ 8) then 3
    else allErr 1 100 a.factors
  else if 0 < a.factors.length then 7
  else if ¬ (1 ≤ a.digits ∧ a.digits ≤ 8) then 2
  else if (a.prizes.length : Int) ≠ a.digits then 3
  else allErr 0 1000000000 a.prizes
def addonsFrom (pre : List Addon) : List Addon → Int
  | [] => 0
  | a :: l => if addonErr a ≠ 0 then addonErr a else if ∃ b ∈ pre, b.name = a.name ∨ b.kind = a.kind then 6 else addonsFrom (pre ++ [a]) l
def addonsErr (l : List Addon) : Int := if 4 < l.length then 3 else addonsFrom [] l
def hitsErr (kind gm gb ge : Int) (t : Tier) : Int :=
  if kind = 2 then
    if ¬ (1 ≤ t.mode ∧ t.mode ≤ 4) then 7
    else if t.bonus ≠ 0 ∨ t.extra ≠ 0 ∨ (t.mode ≤ 2 ∧ t.main ≠ 0) ∨ (3 ≤ t.mode ∧ ¬ (1 ≤ t.main ∧ t.main ≤ gm)) then 2
    else 0
  else if t.mode ≠ 0 then 7
  else if ¬ (0 ≤ t.main ∧ t.main ≤ gm) ∨ ¬ (0 ≤ t.bonus ∧ t.bonus ≤ gb) ∨ ¬ (0 ≤ t.extra ∧ t.extra ≤ ge) ∨ (t.main = 0 ∧ t.bonus = 0 ∧ t.extra = 0) then 2
  else 0
def tierErr (g : Game) (t : Tier) : Int :=
  if hitsErr g.kind g.main g.bonus g.extra t ≠ 0 then hitsErr g.kind g.main g.bonus g.extra t
  else if t.kind ≠ 1 ∧ t.kind ≠ 2 ∧ t.kind ≠ 3 then 7
  else if ¬ (0 ≤ t.value ∧ t.value ≤ 1000000000) then 2
  else 0
def effM (g : Game) (t : Tier) : Int := if (t.mode = 3 ∨ t.mode = 4) ∧ t.main = g.main then 1 else t.mode
def covP (g : Game) (a b : Tier) : Prop := (g.kind = 1 ∧ a.main ≤ b.main ∧ a.bonus ≤ b.bonus ∧ a.extra ≤ b.extra) ∨ (g.kind ≠ 1 ∧ (effM g b = 1 ∨ (effM g a = effM g b ∧ a.main ≤ b.main)))
instance (g : Game) (a b : Tier) : Decidable (covP g a b) := by unfold covP; infer_instance
def tiersFrom (g : Game) (pre : List Tier) : List Tier → Int
  | [] => 0
  | t :: l => if tierErr g t ≠ 0 then tierErr g t else if ∃ b ∈ pre, covP g b t then 6 else tiersFrom g (pre ++ [t]) l
def tiersErr (g : Game) : Int := if ¬ (1 ≤ g.tiers.length ∧ g.tiers.length ≤ 12) then 3 else tiersFrom g [] g.tiers
noncomputable def gameErr (g : Game) : Int :=
  if nameB g.name = false then 4
  else if g.kind ≠ 1 ∧ g.kind ≠ 2 then 7
  else okE (MxOk g ∧ TmOk g) (if addonsErr g.addons ≠ 0 then addonsErr g.addons else tiersErr g) 2
theorem addonsFrom_at {pre l : List Addon} {i : Nat} {a : Addon} (h : l[i]? = some a) : addonsFrom pre (l.drop i) = if addonErr a ≠ 0 then addonErr a else if ∃ b ∈ pre, b.name = a.name ∨ b.kind = a.kind then 6 else addonsFrom (pre ++ [a]) (l.drop (i + 1)) := by
  have hk := List.getElem?_eq_some_iff.1 h
  rw [List.drop_eq_getElem_cons hk.1, hk.2]; rfl
theorem tiersFrom_at {g : Game} {pre l : List Tier} {i : Nat} {a : Tier} (h : l[i]? = some a) : tiersFrom g pre (l.drop i) = if tierErr g a ≠ 0 then tierErr g a else if ∃ b ∈ pre, covP g b a then 6 else tiersFrom g (pre ++ [a]) (l.drop (i + 1)) := by
  have hk := List.getElem?_eq_some_iff.1 h
  rw [List.drop_eq_getElem_cons hk.1, hk.2]; rfl
theorem take_snocA {α : Type} {x : α} {S : List α} {i : Nat} (hx : S[i]? = some x) : S.take (i + 1) = S.take i ++ [x] := by
  have hk := List.getElem?_eq_some_iff.1 hx
  rw [List.take_succ_eq_append_getElem hk.1, hk.2]
theorem emptyS {s : ByteArray} {p : Prop} (hs : s = ByteArray.empty) (h : p) : s = ByteArray.empty ↔ p := ⟨fun _ => h, fun _ => hs⟩
theorem fullS {s : ByteArray} {p : Prop} (hs : s ≠ ByteArray.empty) (h : ¬ p) : s = ByteArray.empty ↔ p := ⟨fun h' => absurd h' hs, fun h' => absurd h' h⟩
end Go.Proofs.YtifjhpaoejageaaGreatDoor
namespace Go.Proofs.YtifjhpaoejageaaGreatDoor
open Eng
theorem withinI {m : Mem} (n lo hi : Int) : PureCall Tryz.prog 98 [.int .i64 n, .int .i64 lo, .int .i64 hi] m (.bool (decide (lo ≤ n ∧ n ≤ hi))) := by
  refine CallsS.pure ?_
  refine enter Tryz.func98 Tryz.ntmps98 rfl rfl ?_
  refine SWP_seq (SWP_region ?_)
  refine pB rfl rfl ?_
  refine SL_nil (nx (SWP_seq (SWP_region ?_)))
  first | refine pI rfl rfl ?_ | refine pu rfl rfl ?_
  first | refine pI rfl rfl ?_ | refine pu rfl rfl ?_
  refine pc rfl rfl (fun c9 => ?_) (fun c9 => ?_)
  · skip
    refine pB rfl rfl ?_
    refine SL_yes rfl ?_
    first | refine pI rfl rfl ?_ | refine pu rfl rfl ?_
    refine SL_yes rfl ?_
    first | refine pI rfl rfl ?_ | refine pu rfl rfl ?_
    refine SL_yes rfl ?_
    refine pu rfl rfl ?_
    refine pB rfl rfl ?_
    refine pB rfl rfl ?_
    refine SL_nil (nx (SWP_ret ?_))
    refine fin [_] ⟨rfl, trivial⟩ ?_
    first | exact congrArg Value.bool (decide_eq_decide.2 ⟨fun h => ⟨by omega, h⟩, fun h => h.2⟩) | exact (congrArg Value.bool (decide_eq_false (by omega))).symm | exact (congrArg Value.bool (decide_eq_true (by omega))).symm
  refine pB rfl rfl ?_
  refine SL_no rfl rfl ?_
  refine SL_no rfl rfl ?_
  refine SL_no rfl rfl ?_
  refine pB rfl rfl ?_
  refine pB rfl rfl ?_
  refine SL_nil (nx (SWP_ret ?_))
  refine fin [_] ⟨rfl, trivial⟩ ?_
  first | exact congrArg Value.bool (decide_eq_decide.2 ⟨fun h => ⟨by omega, h⟩, fun h => h.2⟩) | exact (congrArg Value.bool (decide_eq_false (by omega))).symm | exact (congrArg Value.bool (decide_eq_true (by omega))).symm
theorem checkAllI {m : Mem} {v : Value} {l : List Int} (h : RL m intE 1 v l) (hl : l.length ≤ 1000) (lo hi : Int) : PureCall Tryz.prog 128 [v, .int .i64 lo, .int .i64 hi] m (.int .i64 (allErr lo hi l)) := by
  refine CallsS.pure ?_
  obtain ⟨pa, pcap, rfl⟩ := h.len
  refine enter Tryz.func128 Tryz.ntmps128 rfl rfl ?_
  refine SWP_seq (SWP_region ?_)
  refine pI rfl rfl ?_
  refine SL_nil (nx (SWP_seq (SWP_seq (SWP_region ?_))))
  first | refine pL rfl rfl ?_ | refine pu rfl rfl ?_
  refine pu rfl rfl ?_
  refine pI rfl rfl ?_
  refine SL_nil (nx (SWP_block ?_))
  refine SWP_loop [6, 8, 11, 12, 13, 14, 15, 16, 17, 18, 19, 20] [11]
      (fun vs σ' m' => ∃ (i : Nat), vs = [.int .i64 (i : Nat)] ∧ i ≤ l.length ∧ (∀ x ∈ l.take i, lo ≤ x ∧ x ≤ hi) ∧ σ' = [] ∧ m = m')
      (fun vs => l.length - nOf (vs.getD 0 undef)) rfl ?_ ?_
  · exact ⟨0, rfl, by omega, by simp, rfl, rfl⟩
  intro u0 vs0 σ0 m0 hJ0 _
  obtain ⟨i, rfl, hi, hall, rfl, rfl⟩ := hJ0
  refine SWP_seq (SWP_region ?_)
  refine pc rfl rfl (fun c12 => ?_) (fun c12 => ?_)
  · skip
    refine SL_nil (nx (SWP_seq (SWP_ct rfl (SWP_skip (nx (SWP_seq (SWP_block (SWP_seq ?_))))))))
    obtain ⟨x, hx⟩ : ∃ x, l[i]? = some x := ⟨_, List.getElem?_eq_getElem (by omega)⟩
    obtain ⟨ad, rfl, _, hat⟩ := h.atI hx
    refine SWP_region ?_
    first | refine ia (es := 1) rfl rfl rfl (Nat.mul_one _) rfl rfl (by omega) rfl ?_ | refine iai (es := 1) rfl rfl rfl (Nat.mul_one _) rfl rfl (by omega) (by omega) rfl ?_
    refine ldA (v := .int .i64 _) rfl (by assumption) rfl rfl ?_
    refine pI rfl rfl ?_
    refine SL_nil (nx (SWP_seq (SWP_region ?_)))
    refine pI rfl rfl ?_
    first | refine pI rfl rfl ?_ | refine pu rfl rfl ?_
    first | refine pI rfl rfl ?_ | refine pu rfl rfl ?_
    refine SL_pcall rfl rfl cb98 (withinI _ _ _) rfl ?_
    refine psp 18 rfl (fun c18 => ?_) (fun c18 => ?_)
    · skip
      refine pB rfl rfl ?_
      refine SL_nil (nx (SWP_cf rfl (SWP_skip (nb (nx (SWP_region ?_))))))
      first | refine pw rfl rfl (w64 (by omega) (by omega)) ?_ | refine pu rfl rfl ?_
      refine pI rfl rfl ?_
      refine SL_nil (nx ?_)
      refine ⟨by repeat (first | exact Under.upds rfl (Under.hav _ _ _) | exact Under.hav _ _ _ | refine Under.upd rfl ?_), ?_, ?_⟩
      · refine ⟨i + 1, rfl, by omega, fun y hy => ?_, rfl, rfl⟩
        rw [take_snocA hx] at hy
        rcases List.mem_append.1 hy with hy | hy
        · exact hall y hy
        · rw [List.mem_singleton.1 hy]; omega
      · simp only [L_vals, List.map, List.getD]; show l.length - (i + 1) < l.length - i; omega
    refine pB rfl rfl ?_
    refine SL_nil (nx (SWP_ct rfl (SWP_seq (SWP_region ?_))))
    refine pI rfl rfl ?_
    refine SL_nil (nx (SWP_ret (br (nr (nr (br (nr ?_)))))))
    refine fin [_] ⟨rfl, trivial⟩ ?_
    refine congrArg (Value.int .i64) ?_
    unfold allErr
    rw [if_neg fun h => by have := h x (List.mem_of_getElem? hx); omega]
  refine SL_nil (nx (SWP_seq (SWP_cf rfl (SWP_exit (ne (ne (be rfl (nx (SWP_seq (SWP_region ?_))))))))))
  refine pI rfl rfl ?_
  refine SL_nil (nx (SWP_ret ?_))
  refine fin [_] ⟨rfl, trivial⟩ ?_
  refine congrArg (Value.int .i64) ?_
  have e : i = l.length := by omega
  rw [e, List.take_length] at hall
  unfold allErr
  rw [if_pos hall]
theorem badTermsI {m : Mem} (g : Game) : CallsS Tryz.prog 69 [g.val].toArray [] m fun r σ' m' => σ' = [] ∧ m' = m ∧ ∃ s, r = .string s ∧ (s = ByteArray.empty ↔ TmOk g) := by
  refine CallsS.ghost (R' := fun r σ' m' => m' = m ∧ ∃ s, r = .string s ∧ (s = ByteArray.empty ↔ TmOk g)) ?_ ?h2
  case h2 =>
    rintro r σ' m' ⟨rfl, hr⟩ g0 W hC
    exact ⟨_, m', hC.sublist (List.nil_sublist _), Le.refl _, rfl, rfl, hr⟩
  dsimp only [Game.val]
  refine enter Tryz.func69 Tryz.ntmps69 rfl rfl ?_
  refine SWP_seq (SWP_region ?_)
  refine bx (v := .agg _) rfl rfl (fun B1 => ?_)
  refine pS rfl rfl ?_
  refine SL_nil (nx (SWP_seq (SWP_block (SWP_seq (SWP_region ?_)))))
  refine pu rfl rfl ?_
  refine lw (v := .int .i64 _) B1 10 rfl rfl rfl rfl ?_
  refine SL_pcall rfl rfl cb98 (withinI _ _ _) rfl ?_
  refine psp 6 rfl (fun c6 => ?_) (fun c6 => ?_)
  · skip
    refine pB rfl rfl ?_
    refine pB rfl rfl ?_
    refine SL_nil (nx (SWP_cf rfl (SWP_seq (SWP_region ?_))))
    refine pu rfl rfl ?_
    refine lw (v := .int .i64 _) B1 11 rfl rfl rfl rfl ?_
    refine SL_pcall rfl rfl cb98 (withinI _ _ _) rfl ?_
    refine psp 11 rfl (fun c11 => ?_) (fun c11 => ?_)
    · skip
      refine pB rfl rfl ?_
      refine pB rfl rfl ?_
      refine SL_nil (nx (SWP_cf rfl (SWP_seq (SWP_region ?_))))
      refine pu rfl rfl ?_
      refine lw (v := .int .i64 _) B1 12 rfl rfl rfl rfl ?_
      refine SL_pcall rfl rfl cb98 (withinI _ _ _) rfl ?_
      refine psp 16 rfl (fun c16 => ?_) (fun c16 => ?_)
      · skip
        refine pB rfl rfl ?_
        refine pB rfl rfl ?_
        refine SL_nil (nx (SWP_cf rfl (SWP_seq (SWP_region ?_))))
        refine pu rfl rfl ?_
        refine lw (v := .int .i64 _) B1 13 rfl rfl rfl rfl ?_
        refine SL_pcall rfl rfl cb98 (withinI _ _ _) rfl ?_
        refine psp 21 rfl (fun c21 => ?_) (fun c21 => ?_)
        · skip
          refine pB rfl rfl ?_
          refine pB rfl rfl ?_
          refine SL_nil (nx (SWP_cf rfl (SWP_seq (SWP_region ?_))))
          refine pu rfl rfl ?_
          refine lw (v := .int .i64 _) B1 14 rfl rfl rfl rfl ?_
          refine SL_pcall rfl rfl cb98 (withinI _ _ _) rfl ?_
          refine psp 26 rfl (fun c26 => ?_) (fun c26 => ?_)
          · skip
            refine pB rfl rfl ?_
            refine pB rfl rfl ?_
            refine SL_nil (nx (SWP_cf rfl (SWP_seq (SWP_region ?_))))
            refine pu rfl rfl ?_
            refine lw (v := .int .i64 _) B1 15 rfl rfl rfl rfl ?_
            refine SL_pcall rfl rfl cb98 (withinI _ _ _) rfl ?_
            refine psp 31 rfl (fun c31 => ?_) (fun c31 => ?_)
            · skip
              refine pB rfl rfl ?_
              refine pB rfl rfl ?_
              refine SL_nil (nx (SWP_cf rfl (SWP_seq (SWP_region ?_))))
              refine pu rfl rfl ?_
              refine lw (v := .int .i64 _) B1 16 rfl rfl rfl rfl ?_
              refine SL_pcall rfl rfl cb98 (withinI _ _ _) rfl ?_
              refine psp 36 rfl (fun c36 => ?_) (fun c36 => ?_)
              · skip
                refine pB rfl rfl ?_
                refine pB rfl rfl ?_
                refine SL_nil (nx (SWP_cf rfl (SWP_seq (SWP_region ?_))))
                refine pu rfl rfl ?_
                refine lw (v := .int .i64 _) B1 17 rfl rfl rfl rfl ?_
                refine SL_pcall rfl rfl cb98 (withinI _ _ _) rfl ?_
                refine psp 41 rfl (fun c41 => ?_) (fun c41 => ?_)
                · skip
                  refine pB rfl rfl ?_
                  refine pB rfl rfl ?_
                  refine SL_nil (nx (SWP_cf rfl (SWP_seq (SWP_region ?_))))
                  refine pu rfl rfl ?_
                  refine lw (v := .int .i64 _) B1 18 rfl rfl rfl rfl ?_
                  refine SL_pcall rfl rfl cb98 (withinI _ _ _) rfl ?_
                  refine psp 46 rfl (fun c46 => ?_) (fun c46 => ?_)
                  · skip
                    refine pB rfl rfl ?_
                    refine pB rfl rfl ?_
                    refine SL_nil (nx (SWP_cf rfl (SWP_seq (SWP_region ?_))))
                    refine pu rfl rfl ?_
                    refine lw (v := .int .i64 _) B1 19 rfl rfl rfl rfl ?_
                    refine SL_pcall rfl rfl cb98 (withinI _ _ _) rfl ?_
                    refine psp 51 rfl (fun c51 => ?_) (fun c51 => ?_)
                    · skip
                      refine pB rfl rfl ?_
                      refine pB rfl rfl ?_
                      refine SL_nil (nx (SWP_cf rfl (SWP_skip (nb (nx (SWP_seq (SWP_region ?_)))))))
                      refine pS rfl rfl ?_
                      refine SL_nil (nx (SWP_ret ?_))
                      refine fin [_] ⟨rfl, trivial⟩ ?_
                      refine ⟨rfl, ?_⟩
                      refine ⟨_, rfl, ?_⟩
                      first
                        | exact fullS (by decide +kernel) (fun h => by have := h.h1; have := h.h2; have := h.h3; have := h.h4; have := h.h5; have := h.h6; have := h.h7; have := h.h8; have := h.h9; have := h.h10; omega)
                        | exact emptyS rfl ⟨by omega, by omega, by omega, by omega, by omega, by omega, by omega, by omega, by omega, by omega⟩
                    refine pB rfl rfl ?_
                    refine pB rfl rfl ?_
                    refine SL_nil (nx (SWP_ct rfl (SWP_seq (SWP_region ?_))))
                    refine pS rfl rfl ?_
                    refine SL_nil (nx (SWP_ret (br (nr ?_))))
                    refine fin [_] ⟨rfl, trivial⟩ ?_
                    refine ⟨rfl, ?_⟩
                    refine ⟨_, rfl, ?_⟩
                    first
                      | exact fullS (by decide +kernel) (fun h => by have := h.h1; have := h.h2; have := h.h3; have := h.h4; have := h.h5; have := h.h6; have := h.h7; have := h.h8; have := h.h9; have := h.h10; omega)
                      | exact emptyS rfl ⟨by omega, by omega, by omega, by omega, by omega, by omega, by omega, by omega, by omega, by omega⟩
                  refine pB rfl rfl ?_
                  refine pB rfl rfl ?_
                  refine SL_nil (nx (SWP_ct rfl (SWP_seq (SWP_region ?_))))
                  refine pS rfl rfl ?_
                  refine SL_nil (nx (SWP_ret (br (nr ?_))))
                  refine fin [_] ⟨rfl, trivial⟩ ?_
                  refine ⟨rfl, ?_⟩
                  refine ⟨_, rfl, ?_⟩
                  first
                    | exact fullS (by decide +kernel) (fun h => by have := h.h1; have := h.h2; have := h.h3; have := h.h4; have := h.h5; have := h.h6; have := h.h7; have := h.h8; have := h.h9; have := h.h10; omega)
                    | exact emptyS rfl ⟨by omega, by omega, by omega, by omega, by omega, by omega, by omega, by omega, by omega, by omega⟩
                refine pB rfl rfl ?_
                refine pB rfl rfl ?_
                refine SL_nil (nx (SWP_ct rfl (SWP_seq (SWP_region ?_))))
                refine pS rfl rfl ?_
                refine SL_nil (nx (SWP_ret (br (nr ?_))))
                refine fin [_] ⟨rfl, trivial⟩ ?_
                refine ⟨rfl, ?_⟩
                refine ⟨_, rfl, ?_⟩
                first
                  | exact fullS (by decide +kernel) (fun h => by have := h.h1; have := h.h2; have := h.h3; have := h.h4; have := h.h5; have := h.h6; have := h.h7; have := h.h8; have := h.h9; have := h.h10; omega)
                  | exact emptyS rfl ⟨by omega, by omega, by omega, by omega, by omega, by omega, by omega, by omega, by omega, by omega⟩
              refine pB rfl rfl ?_
              refine pB rfl rfl ?_
              refine SL_nil (nx (SWP_ct rfl (SWP_seq (SWP_region ?_))))
              refine pS rfl rfl ?_
              refine SL_nil (nx (SWP_ret (br (nr ?_))))
              refine fin [_] ⟨rfl, trivial⟩ ?_
              refine ⟨rfl, ?_⟩
              refine ⟨_, rfl, ?_⟩
              first
                | exact fullS (by decide +kernel) (fun h => by have := h.h1; have := h.h2; have := h.h3; have := h.h4; have := h.h5; have := h.h6; have := h.h7; have := h.h8; have := h.h9; have := h.h10; omega)
                | exact emptyS rfl ⟨by omega, by omega, by omega, by omega, by omega, by omega, by omega, by omega, by omega, by omega⟩
            refine pB rfl rfl ?_
            refine pB rfl rfl ?_
            refine SL_nil (nx (SWP_ct rfl (SWP_seq (SWP_region ?_))))
            refine pS rfl rfl ?_
            refine SL_nil (nx (SWP_ret (br (nr ?_))))
            refine fin [_] ⟨rfl, trivial⟩ ?_
            refine ⟨rfl, ?_⟩
            refine ⟨_, rfl, ?_⟩
            first
              | exact fullS (by decide +kernel) (fun h => by have := h.h1; have := h.h2; have := h.h3; have := h.h4; have := h.h5; have := h.h6; have := h.h7; have := h.h8; have := h.h9; have := h.h10; omega)
              | exact emptyS rfl ⟨by omega, by omega, by omega, by omega, by omega, by omega, by omega, by omega, by omega, by omega⟩
          refine pB rfl rfl ?_
          refine pB rfl rfl ?_
          refine SL_nil (nx (SWP_ct rfl (SWP_seq (SWP_region ?_))))
          refine pS rfl rfl ?_
          refine SL_nil (nx (SWP_ret (br (nr ?_))))
          refine fin [_] ⟨rfl, trivial⟩ ?_
          refine ⟨rfl, ?_⟩
          refine ⟨_, rfl, ?_⟩
          first
            | exact fullS (by decide +kernel) (fun h => by have := h.h1; have := h.h2; have := h.h3; have := h.h4; have := h.h5; have := h.h6; have := h.h7; have := h.h8; have := h.h9; have := h.h10; omega)
            | exact emptyS rfl ⟨by omega, by omega, by omega, by omega, by omega, by omega, by omega, by omega, by omega, by omega⟩
        refine pB rfl rfl ?_
        refine pB rfl rfl ?_
        refine SL_nil (nx (SWP_ct rfl (SWP_seq (SWP_region ?_))))
        refine pS rfl rfl ?_
        refine SL_nil (nx (SWP_ret (br (nr ?_))))
        refine fin [_] ⟨rfl, trivial⟩ ?_
        refine ⟨rfl, ?_⟩
        refine ⟨_, rfl, ?_⟩
        first
          | exact fullS (by decide +kernel) (fun h => by have := h.h1; have := h.h2; have := h.h3; have := h.h4; have := h.h5; have := h.h6; have := h.h7; have := h.h8; have := h.h9; have := h.h10; omega)
          | exact emptyS rfl ⟨by omega, by omega, by omega, by omega, by omega, by omega, by omega, by omega, by omega, by omega⟩
      refine pB rfl rfl ?_
      refine pB rfl rfl ?_
      refine SL_nil (nx (SWP_ct rfl (SWP_seq (SWP_region ?_))))
      refine pS rfl rfl ?_
      refine SL_nil (nx (SWP_ret (br (nr ?_))))
      refine fin [_] ⟨rfl, trivial⟩ ?_
      refine ⟨rfl, ?_⟩
      refine ⟨_, rfl, ?_⟩
      first
        | exact fullS (by decide +kernel) (fun h => by have := h.h1; have := h.h2; have := h.h3; have := h.h4; have := h.h5; have := h.h6; have := h.h7; have := h.h8; have := h.h9; have := h.h10; omega)
        | exact emptyS rfl ⟨by omega, by omega, by omega, by omega, by omega, by omega, by omega, by omega, by omega, by omega⟩
    refine pB rfl rfl ?_
    refine pB rfl rfl ?_
    refine SL_nil (nx (SWP_ct rfl (SWP_seq (SWP_region ?_))))
    refine pS rfl rfl ?_
    refine SL_nil (nx (SWP_ret (br (nr ?_))))
    refine fin [_] ⟨rfl, trivial⟩ ?_
    refine ⟨rfl, ?_⟩
    refine ⟨_, rfl, ?_⟩
    first
      | exact fullS (by decide +kernel) (fun h => by have := h.h1; have := h.h2; have := h.h3; have := h.h4; have := h.h5; have := h.h6; have := h.h7; have := h.h8; have := h.h9; have := h.h10; omega)
      | exact emptyS rfl ⟨by omega, by omega, by omega, by omega, by omega, by omega, by omega, by omega, by omega, by omega⟩
  refine pB rfl rfl ?_
  refine pB rfl rfl ?_
  refine SL_nil (nx (SWP_ct rfl (SWP_seq (SWP_region ?_))))
  refine pS rfl rfl ?_
  refine SL_nil (nx (SWP_ret (br (nr ?_))))
  refine fin [_] ⟨rfl, trivial⟩ ?_
  refine ⟨rfl, ?_⟩
  refine ⟨_, rfl, ?_⟩
  first
    | exact fullS (by decide +kernel) (fun h => by have := h.h1; have := h.h2; have := h.h3; have := h.h4; have := h.h5; have := h.h6; have := h.h7; have := h.h8; have := h.h9; have := h.h10; omega)
    | exact emptyS rfl ⟨by omega, by omega, by omega, by omega, by omega, by omega, by omega, by omega, by omega, by omega⟩
theorem badMatrixI {m : Mem} (g : Game) : CallsS Tryz.prog 68 [g.val].toArray [] m fun r σ' m' => σ' = [] ∧ m' = m ∧ ∃ s, r = .string s ∧ (s = ByteArray.empty ↔ MxOk g) := by
  refine CallsS.ghost (R' := fun r σ' m' => m' = m ∧ ∃ s, r = .string s ∧ (s = ByteArray.empty ↔ MxOk g)) ?_ ?h2
  case h2 =>
    rintro r σ' m' ⟨rfl, hr⟩ g0 W hC
    exact ⟨_, m', hC.sublist (List.nil_sublist _), Le.refl _, rfl, rfl, hr⟩
  dsimp only [Game.val]
  refine enter Tryz.func68 Tryz.ntmps68 rfl rfl ?_
  refine SWP_seq (SWP_region ?_)
  refine bx (v := .agg _) rfl rfl (fun B1 => ?_)
  refine pS rfl rfl ?_
  refine SL_nil (nx (SWP_seq (SWP_region ?_)))
  refine pu rfl rfl ?_
  refine lw (v := .int .i64 _) B1 1 rfl rfl rfl rfl ?_
  refine pc rfl rfl (fun c13 => ?_) (fun c13 => ?_)
  · skip
    refine pB rfl rfl ?_
    refine SL_nil (nx (SWP_seq (SWP_region ?_)))
    refine pu rfl rfl ?_
    refine lw (v := .int .i64 _) B1 3 rfl rfl rfl rfl ?_
    refine pI rfl rfl ?_
    refine pI rfl rfl ?_
    refine pI rfl rfl ?_
    refine pI rfl rfl ?_
    refine SL_nil (nx (SWP_seq (SWP_region ?_)))
    refine pu rfl rfl ?_
    refine lw (v := .int .i64 _) B1 4 rfl rfl rfl rfl ?_
    refine pu rfl rfl ?_
    refine pI rfl rfl ?_
    refine SL_nil (nx (SWP_seq (SWP_seq (SWP_region ?_))))
    refine pB rfl rfl ?_
    refine SL_nil (nx (SWP_ct rfl (SWP_seq (SWP_region ?_))))
    refine pI rfl rfl ?_
    refine pI rfl rfl ?_
    refine pI rfl rfl ?_
    refine pI rfl rfl ?_
    refine SL_nil (nx (SWP_region ?_))
    refine pu rfl rfl ?_
    refine lw (v := .int .i64 _) B1 3 rfl rfl rfl rfl ?_
    refine pI rfl rfl ?_
    refine SL_nil (nx (SWP_seq (SWP_region ?_)))
    refine pI rfl rfl ?_
    refine pI rfl rfl ?_
    refine SL_nil (nx (SWP_seq (SWP_seq (SWP_region ?_))))
    refine pu rfl rfl ?_
    refine lw (v := .int .i64 _) B1 5 rfl rfl rfl rfl ?_
    refine pc rfl rfl (fun c24 => ?_) (fun c24 => ?_)
    · skip
      refine SL_nil (nx (SWP_ct rfl (SWP_region ?_)))
      refine pu rfl rfl ?_
      refine lw (v := .int .i64 _) B1 5 rfl rfl rfl rfl ?_
      refine pI rfl rfl ?_
      refine pI rfl rfl ?_
      refine SL_nil (nx (SWP_seq (SWP_block (SWP_seq (SWP_region ?_)))))
      refine pu rfl rfl ?_
      refine lw (v := .int .i64 _) B1 2 rfl rfl rfl rfl ?_
      refine SL_pcall rfl rfl cb98 (withinI _ _ _) rfl ?_
      refine psp 30 rfl (fun c30 => ?_) (fun c30 => ?_)
      · skip
        refine pB rfl rfl ?_
        refine pB rfl rfl ?_
        refine SL_nil (nx (SWP_cf rfl (SWP_seq (SWP_region ?_))))
        refine pu rfl rfl ?_
        refine lw (v := .int .i64 _) B1 3 rfl rfl rfl rfl ?_
        refine SL_pcall rfl rfl cb98 (withinI _ _ _) rfl ?_
        refine psp 35 rfl (fun c35 => ?_) (fun c35 => ?_)
        · skip
          refine pB rfl rfl ?_
          refine pB rfl rfl ?_
          refine SL_nil (nx (SWP_cf rfl (SWP_seq (SWP_region ?_))))
          refine pu rfl rfl ?_
          refine lw (v := .int .i64 _) B1 4 rfl rfl rfl rfl ?_
          refine pI rfl rfl ?_
          refine pI rfl rfl ?_
          refine SL_pcall rfl rfl cb98 (withinI _ _ _) rfl ?_
          refine psp 42 rfl (fun c42 => ?_) (fun c42 => ?_)
          · skip
            refine pB rfl rfl ?_
            refine pB rfl rfl ?_
            refine SL_nil (nx (SWP_cf rfl (SWP_seq (SWP_region ?_))))
            refine pu rfl rfl ?_
            refine lw (v := .int .i64 _) B1 5 rfl rfl rfl rfl ?_
            refine pI rfl rfl ?_
            refine SL_pcall rfl rfl cb98 (withinI _ _ _) rfl ?_
            refine psp 48 rfl (fun c48 => ?_) (fun c48 => ?_)
            · skip
              refine pB rfl rfl ?_
              refine pB rfl rfl ?_
              refine SL_nil (nx (SWP_cf rfl (SWP_seq (SWP_region ?_))))
              refine pu rfl rfl ?_
              refine lw (v := .int .i64 _) B1 6 rfl rfl rfl rfl ?_
              refine pI rfl rfl ?_
              refine pI rfl rfl ?_
              refine SL_pcall rfl rfl cb98 (withinI _ _ _) rfl ?_
              refine psp 55 rfl (fun c55 => ?_) (fun c55 => ?_)
              · skip
                refine pB rfl rfl ?_
                refine pB rfl rfl ?_
                refine SL_nil (nx (SWP_cf rfl (SWP_seq (SWP_seq (SWP_region ?_)))))
                refine pu rfl rfl ?_
                refine lw (v := .int .i64 _) B1 7 rfl rfl rfl rfl ?_
                refine pI rfl rfl ?_
                refine SL_pcall rfl rfl cb98 (withinI _ _ _) rfl ?_
                refine psp 61 rfl (fun c61 => ?_) (fun c61 => ?_)
                · skip
                  refine pB rfl rfl ?_
                  refine pB rfl rfl ?_
                  refine SL_nil (nx (SWP_cf rfl (SWP_region ?_)))
                  refine pB rfl rfl ?_
                  refine pB rfl rfl ?_
                  refine pB rfl rfl ?_
                  refine SL_no rfl rfl ?_
                  refine SL_no rfl rfl ?_
                  refine SL_no rfl rfl ?_
                  refine SL_no rfl rfl ?_
                  refine SL_no rfl rfl ?_
                  refine SL_no rfl rfl ?_
                  refine SL_no rfl rfl ?_
                  refine SL_no rfl rfl ?_
                  refine pB rfl rfl ?_
                  refine pB rfl rfl ?_
                  refine SL_nil (nx (SWP_cf rfl (SWP_seq (SWP_region ?_))))
                  refine pu rfl rfl ?_
                  refine lw (v := .int .i64 _) B1 8 rfl rfl rfl rfl ?_
                  refine SL_pcall rfl rfl cb98 (withinI _ _ _) rfl ?_
                  refine psp 78 rfl (fun c78 => ?_) (fun c78 => ?_)
                  · skip
                    refine pB rfl rfl ?_
                    refine pB rfl rfl ?_
                    refine SL_nil (nx (SWP_cf rfl (SWP_seq (SWP_region ?_))))
                    refine pu rfl rfl ?_
                    refine lw (v := .int .i64 _) B1 9 rfl rfl rfl rfl ?_
                    refine pu rfl rfl ?_
                    refine lw (v := .int .i64 _) B1 3 rfl rfl rfl rfl ?_
                    refine pI rfl rfl ?_
                    refine SL_pcall rfl rfl cb98 (withinI _ _ _) rfl ?_
                    refine psp 86 rfl (fun c86 => ?_) (fun c86 => ?_)
                    · skip
                      refine pB rfl rfl ?_
                      refine pB rfl rfl ?_
                      refine SL_nil (nx (SWP_cf rfl (SWP_skip (nb (nx (SWP_seq (SWP_region ?_)))))))
                      refine pS rfl rfl ?_
                      refine SL_nil (nx (SWP_ret ?_))
                      refine fin [_] ⟨rfl, trivial⟩ ?_
                      refine ⟨rfl, ?_⟩
                      refine ⟨_, rfl, ?_⟩
                      first
                        | exact fullS (by decide +kernel) (fun h => by have := h.h1; have := h.h2; have := h.h3; have := h.h4; have := h.h5; have := h.h6; have := h.h7; have := h.h8; have := h.h9; have := h.h10; have := h.h11; have := h.h12; have := h.h13; have := h.h14; have := h.h15; have := h.h16; omega)
                        | exact emptyS rfl ⟨by omega, by omega, by omega, by omega, by omega, by omega, by omega, by omega, by omega, by omega, by omega, by omega, by omega, by omega, by omega, by omega⟩
                    refine pB rfl rfl ?_
                    refine pB rfl rfl ?_
                    refine SL_nil (nx (SWP_ct rfl (SWP_seq (SWP_region ?_))))
                    refine pS rfl rfl ?_
                    refine SL_nil (nx (SWP_ret (br (nr ?_))))
                    refine fin [_] ⟨rfl, trivial⟩ ?_
                    refine ⟨rfl, ?_⟩
                    refine ⟨_, rfl, ?_⟩
                    first
                      | exact fullS (by decide +kernel) (fun h => by have := h.h1; have := h.h2; have := h.h3; have := h.h4; have := h.h5; have := h.h6; have := h.h7; have := h.h8; have := h.h9; have := h.h10; have := h.h11; have := h.h12; have := h.h13; have := h.h14; have := h.h15; have := h.h16; omega)
                      | exact emptyS rfl ⟨by omega, by omega, by omega, by omega, by omega, by omega, by omega, by omega, by omega, by omega, by omega, by omega, by omega, by omega, by omega, by omega⟩
                  refine pB rfl rfl ?_
                  refine pB rfl rfl ?_
                  refine SL_nil (nx (SWP_ct rfl (SWP_seq (SWP_region ?_))))
                  refine pS rfl rfl ?_
                  refine SL_nil (nx (SWP_ret (br (nr ?_))))
                  refine fin [_] ⟨rfl, trivial⟩ ?_
                  refine ⟨rfl, ?_⟩
                  refine ⟨_, rfl, ?_⟩
                  first
                    | exact fullS (by decide +kernel) (fun h => by have := h.h1; have := h.h2; have := h.h3; have := h.h4; have := h.h5; have := h.h6; have := h.h7; have := h.h8; have := h.h9; have := h.h10; have := h.h11; have := h.h12; have := h.h13; have := h.h14; have := h.h15; have := h.h16; omega)
                    | exact emptyS rfl ⟨by omega, by omega, by omega, by omega, by omega, by omega, by omega, by omega, by omega, by omega, by omega, by omega, by omega, by omega, by omega, by omega⟩
                refine pB rfl rfl ?_
                refine pB rfl rfl ?_
                refine SL_nil (nx (SWP_ct rfl (SWP_skip (nx (SWP_ct rfl (SWP_seq (SWP_region ?_)))))))
                refine pS rfl rfl ?_
                refine SL_nil (nx (SWP_ret (br (nr ?_))))
                refine fin [_] ⟨rfl, trivial⟩ ?_
                refine ⟨rfl, ?_⟩
                refine ⟨_, rfl, ?_⟩
                first
                  | exact fullS (by decide +kernel) (fun h => by have := h.h1; have := h.h2; have := h.h3; have := h.h4; have := h.h5; have := h.h6; have := h.h7; have := h.h8; have := h.h9; have := h.h10; have := h.h11; have := h.h12; have := h.h13; have := h.h14; have := h.h15; have := h.h16; omega)
                  | exact emptyS rfl ⟨by omega, by omega, by omega, by omega, by omega, by omega, by omega, by omega, by omega, by omega, by omega, by omega, by omega, by omega, by omega, by omega⟩
              refine pB rfl rfl ?_
              refine pB rfl rfl ?_
              refine SL_nil (nx (SWP_ct rfl (SWP_seq (SWP_region ?_))))
              refine pS rfl rfl ?_
              refine SL_nil (nx (SWP_ret (br (nr ?_))))
              refine fin [_] ⟨rfl, trivial⟩ ?_
              refine ⟨rfl, ?_⟩
              refine ⟨_, rfl, ?_⟩
              first
                | exact fullS (by decide +kernel) (fun h => by have := h.h1; have := h.h2; have := h.h3; have := h.h4; have := h.h5; have := h.h6; have := h.h7; have := h.h8; have := h.h9; have := h.h10; have := h.h11; have := h.h12; have := h.h13; have := h.h14; have := h.h15; have := h.h16; omega)
                | exact emptyS rfl ⟨by omega, by omega, by omega, by omega, by omega, by omega, by omega, by omega, by omega, by omega, by omega, by omega, by omega, by omega, by omega, by omega⟩
            refine pB rfl rfl ?_
            refine pB rfl rfl ?_
            refine SL_nil (nx (SWP_ct rfl (SWP_seq (SWP_region ?_))))
            refine pS rfl rfl ?_
            refine SL_nil (nx (SWP_ret (br (nr ?_))))
            refine fin [_] ⟨rfl, trivial⟩ ?_
            refine ⟨rfl, ?_⟩
            refine ⟨_, rfl, ?_⟩
            first
              | exact fullS (by decide +kernel) (fun h => by have := h.h1; have := h.h2; have := h.h3; have := h.h4; have := h.h5; have := h.h6; have := h.h7; have := h.h8; have := h.h9; have := h.h10; have := h.h11; have := h.h12; have := h.h13; have := h.h14; have := h.h15; have := h.h16; omega)
              | exact emptyS rfl ⟨by omega, by omega, by omega, by omega, by omega, by omega, by omega, by omega, by omega, by omega, by omega, by omega, by omega, by omega, by omega, by omega⟩
          refine pB rfl rfl ?_
          refine pB rfl rfl ?_
          refine SL_nil (nx (SWP_ct rfl (SWP_seq (SWP_region ?_))))
          refine pS rfl rfl ?_
          refine SL_nil (nx (SWP_ret (br (nr ?_))))
          refine fin [_] ⟨rfl, trivial⟩ ?_
          refine ⟨rfl, ?_⟩
          refine ⟨_, rfl, ?_⟩
          first
            | exact fullS (by decide +kernel) (fun h => by have := h.h1; have := h.h2; have := h.h3; have := h.h4; have := h.h5; have := h.h6; have := h.h7; have := h.h8; have := h.h9; have := h.h10; have := h.h11; have := h.h12; have := h.h13; have := h.h14; have := h.h15; have := h.h16; omega)
            | exact emptyS rfl ⟨by omega, by omega, by omega, by omega, by omega, by omega, by omega, by omega, by omega, by omega, by omega, by omega, by omega, by omega, by omega, by omega⟩
        refine pB rfl rfl ?_
        refine pB rfl rfl ?_
        refine SL_nil (nx (SWP_ct rfl (SWP_seq (SWP_region ?_))))
        refine pS rfl rfl ?_
        refine SL_nil (nx (SWP_ret (br (nr ?_))))
        refine fin [_] ⟨rfl, trivial⟩ ?_
        refine ⟨rfl, ?_⟩
        refine ⟨_, rfl, ?_⟩
        first
          | exact fullS (by decide +kernel) (fun h => by have := h.h1; have := h.h2; have := h.h3; have := h.h4; have := h.h5; have := h.h6; have := h.h7; have := h.h8; have := h.h9; have := h.h10; have := h.h11; have := h.h12; have := h.h13; have := h.h14; have := h.h15; have := h.h16; omega)
          | exact emptyS rfl ⟨by omega, by omega, by omega, by omega, by omega, by omega, by omega, by omega, by omega, by omega, by omega, by omega, by omega, by omega, by omega, by omega⟩
      refine pB rfl rfl ?_
      refine pB rfl rfl ?_
      refine SL_nil (nx (SWP_ct rfl (SWP_seq (SWP_region ?_))))
      refine pS rfl rfl ?_
      refine SL_nil (nx (SWP_ret (br (nr ?_))))
      refine fin [_] ⟨rfl, trivial⟩ ?_
      refine ⟨rfl, ?_⟩
      refine ⟨_, rfl, ?_⟩
      first
        | exact fullS (by decide +kernel) (fun h => by have := h.h1; have := h.h2; have := h.h3; have := h.h4; have := h.h5; have := h.h6; have := h.h7; have := h.h8; have := h.h9; have := h.h10; have := h.h11; have := h.h12; have := h.h13; have := h.h14; have := h.h15; have := h.h16; omega)
        | exact emptyS rfl ⟨by omega, by omega, by omega, by omega, by omega, by omega, by omega, by omega, by omega, by omega, by omega, by omega, by omega, by omega, by omega, by omega⟩
    refine SL_nil (nx (SWP_cf rfl (SWP_skip (nx (SWP_seq (SWP_block (SWP_seq (SWP_region ?_))))))))
    refine pu rfl rfl ?_
    refine lw (v := .int .i64 _) B1 2 rfl rfl rfl rfl ?_
    refine SL_pcall rfl rfl cb98 (withinI _ _ _) rfl ?_
    refine psp 30 rfl (fun c30 => ?_) (fun c30 => ?_)
    · skip
      refine pB rfl rfl ?_
      refine pB rfl rfl ?_
      refine SL_nil (nx (SWP_cf rfl (SWP_seq (SWP_region ?_))))
      refine pu rfl rfl ?_
      refine lw (v := .int .i64 _) B1 3 rfl rfl rfl rfl ?_
      refine SL_pcall rfl rfl cb98 (withinI _ _ _) rfl ?_
      refine psp 35 rfl (fun c35 => ?_) (fun c35 => ?_)
      · skip
        refine pB rfl rfl ?_
        refine pB rfl rfl ?_
        refine SL_nil (nx (SWP_cf rfl (SWP_seq (SWP_region ?_))))
        refine pu rfl rfl ?_
        refine lw (v := .int .i64 _) B1 4 rfl rfl rfl rfl ?_
        refine pI rfl rfl ?_
        refine pI rfl rfl ?_
        refine SL_pcall rfl rfl cb98 (withinI _ _ _) rfl ?_
        refine psp 42 rfl (fun c42 => ?_) (fun c42 => ?_)
        · skip
          refine pB rfl rfl ?_
          refine pB rfl rfl ?_
          refine SL_nil (nx (SWP_cf rfl (SWP_seq (SWP_region ?_))))
          refine pu rfl rfl ?_
          refine lw (v := .int .i64 _) B1 5 rfl rfl rfl rfl ?_
          refine pI rfl rfl ?_
          refine SL_pcall rfl rfl cb98 (withinI _ _ _) rfl ?_
          refine psp 48 rfl (fun c48 => ?_) (fun c48 => ?_)
          · skip
            refine pB rfl rfl ?_
            refine pB rfl rfl ?_
            refine SL_nil (nx (SWP_cf rfl (SWP_seq (SWP_region ?_))))
            refine pu rfl rfl ?_
            refine lw (v := .int .i64 _) B1 6 rfl rfl rfl rfl ?_
            refine pI rfl rfl ?_
            refine pI rfl rfl ?_
            refine SL_pcall rfl rfl cb98 (withinI _ _ _) rfl ?_
            refine psp 55 rfl (fun c55 => ?_) (fun c55 => ?_)
            · skip
              refine pB rfl rfl ?_
              refine pB rfl rfl ?_
              refine SL_nil (nx (SWP_cf rfl (SWP_seq (SWP_seq (SWP_region ?_)))))
              refine pu rfl rfl ?_
              refine lw (v := .int .i64 _) B1 7 rfl rfl rfl rfl ?_
              refine pI rfl rfl ?_
              refine SL_pcall rfl rfl cb98 (withinI _ _ _) rfl ?_
              refine psp 61 rfl (fun c61 => ?_) (fun c61 => ?_)
              · skip
                refine pB rfl rfl ?_
                refine pB rfl rfl ?_
                refine SL_nil (nx (SWP_cf rfl (SWP_region ?_)))
                refine pB rfl rfl ?_
                refine pB rfl rfl ?_
                refine pB rfl rfl ?_
                refine SL_no rfl rfl ?_
                refine SL_no rfl rfl ?_
                refine SL_no rfl rfl ?_
                refine SL_no rfl rfl ?_
                refine SL_no rfl rfl ?_
                refine SL_no rfl rfl ?_
                refine SL_no rfl rfl ?_
                refine SL_no rfl rfl ?_
                refine pB rfl rfl ?_
                refine pB rfl rfl ?_
                refine SL_nil (nx (SWP_cf rfl (SWP_seq (SWP_region ?_))))
                refine pu rfl rfl ?_
                refine lw (v := .int .i64 _) B1 8 rfl rfl rfl rfl ?_
                refine SL_pcall rfl rfl cb98 (withinI _ _ _) rfl ?_
                refine psp 78 rfl (fun c78 => ?_) (fun c78 => ?_)
                · skip
                  refine pB rfl rfl ?_
                  refine pB rfl rfl ?_
                  refine SL_nil (nx (SWP_cf rfl (SWP_seq (SWP_region ?_))))
                  refine pu rfl rfl ?_
                  refine lw (v := .int .i64 _) B1 9 rfl rfl rfl rfl ?_
                  refine pu rfl rfl ?_
                  refine lw (v := .int .i64 _) B1 3 rfl rfl rfl rfl ?_
                  refine pI rfl rfl ?_
                  refine SL_pcall rfl rfl cb98 (withinI _ _ _) rfl ?_
                  refine psp 86 rfl (fun c86 => ?_) (fun c86 => ?_)
                  · skip
                    refine pB rfl rfl ?_
                    refine pB rfl rfl ?_
                    refine SL_nil (nx (SWP_cf rfl (SWP_skip (nb (nx (SWP_seq (SWP_region ?_)))))))
                    refine pS rfl rfl ?_
                    refine SL_nil (nx (SWP_ret ?_))
                    refine fin [_] ⟨rfl, trivial⟩ ?_
                    refine ⟨rfl, ?_⟩
                    refine ⟨_, rfl, ?_⟩
                    first
                      | exact fullS (by decide +kernel) (fun h => by have := h.h1; have := h.h2; have := h.h3; have := h.h4; have := h.h5; have := h.h6; have := h.h7; have := h.h8; have := h.h9; have := h.h10; have := h.h11; have := h.h12; have := h.h13; have := h.h14; have := h.h15; have := h.h16; omega)
                      | exact emptyS rfl ⟨by omega, by omega, by omega, by omega, by omega, by omega, by omega, by omega, by omega, by omega, by omega, by omega, by omega, by omega, by omega, by omega⟩
                  refine pB rfl rfl ?_
                  refine pB rfl rfl ?_
                  refine SL_nil (nx (SWP_ct rfl (SWP_seq (SWP_region ?_))))
                  refine pS rfl rfl ?_
                  refine SL_nil (nx (SWP_ret (br (nr ?_))))
                  refine fin [_] ⟨rfl, trivial⟩ ?_
                  refine ⟨rfl, ?_⟩
                  refine ⟨_, rfl, ?_⟩
                  first
                    | exact fullS (by decide +kernel) (fun h => by have := h.h1; have := h.h2; have := h.h3; have := h.h4; have := h.h5; have := h.h6; have := h.h7; have := h.h8; have := h.h9; have := h.h10; have := h.h11; have := h.h12; have := h.h13; have := h.h14; have := h.h15; have := h.h16; omega)
                    | exact emptyS rfl ⟨by omega, by omega, by omega, by omega, by omega, by omega, by omega, by omega, by omega, by omega, by omega, by omega, by omega, by omega, by omega, by omega⟩
                refine pB rfl rfl ?_
                refine pB rfl rfl ?_
                refine SL_nil (nx (SWP_ct rfl (SWP_seq (SWP_region ?_))))
                refine pS rfl rfl ?_
                refine SL_nil (nx (SWP_ret (br (nr ?_))))
                refine fin [_] ⟨rfl, trivial⟩ ?_
                refine ⟨rfl, ?_⟩
                refine ⟨_, rfl, ?_⟩
                first
                  | exact fullS (by decide +kernel) (fun h => by have := h.h1; have := h.h2; have := h.h3; have := h.h4; have := h.h5; have := h.h6; have := h.h7; have := h.h8; have := h.h9; have := h.h10; have := h.h11; have := h.h12; have := h.h13; have := h.h14; have := h.h15; have := h.h16; omega)
                  | exact emptyS rfl ⟨by omega, by omega, by omega, by omega, by omega, by omega, by omega, by omega, by omega, by omega, by omega, by omega, by omega, by omega, by omega, by omega⟩
              refine pB rfl rfl ?_
              refine pB rfl rfl ?_
              refine SL_nil (nx (SWP_ct rfl (SWP_skip (nx (SWP_ct rfl (SWP_seq (SWP_region ?_)))))))
              refine pS rfl rfl ?_
              refine SL_nil (nx (SWP_ret (br (nr ?_))))
              refine fin [_] ⟨rfl, trivial⟩ ?_
              refine ⟨rfl, ?_⟩
              refine ⟨_, rfl, ?_⟩
              first
                | exact fullS (by decide +kernel) (fun h => by have := h.h1; have := h.h2; have := h.h3; have := h.h4; have := h.h5; have := h.h6; have := h.h7; have := h.h8; have := h.h9; have := h.h10; have := h.h11; have := h.h12; have := h.h13; have := h.h14; have := h.h15; have := h.h16; omega)
                | exact emptyS rfl ⟨by omega, by omega, by omega, by omega, by omega, by omega, by omega, by omega, by omega, by omega, by omega, by omega, by omega, by omega, by omega, by omega⟩
            refine pB rfl rfl ?_
            refine pB rfl rfl ?_
            refine SL_nil (nx (SWP_ct rfl (SWP_seq (SWP_region ?_))))
            refine pS rfl rfl ?_
            refine SL_nil (nx (SWP_ret (br (nr ?_))))
            refine fin [_] ⟨rfl, trivial⟩ ?_
            refine ⟨rfl, ?_⟩
            refine ⟨_, rfl, ?_⟩
            first
              | exact fullS (by decide +kernel) (fun h => by have := h.h1; have := h.h2; have := h.h3; have := h.h4; have := h.h5; have := h.h6; have := h.h7; have := h.h8; have := h.h9; have := h.h10; have := h.h11; have := h.h12; have := h.h13; have := h.h14; have := h.h15; have := h.h16; omega)
              | exact emptyS rfl ⟨by omega, by omega, by omega, by omega, by omega, by omega, by omega, by omega, by omega, by omega, by omega, by omega, by omega, by omega, by omega, by omega⟩
          refine pB rfl rfl ?_
          refine pB rfl rfl ?_
          refine SL_nil (nx (SWP_ct rfl (SWP_seq (SWP_region ?_))))
          refine pS rfl rfl ?_
          refine SL_nil (nx (SWP_ret (br (nr ?_))))
          refine fin [_] ⟨rfl, trivial⟩ ?_
          refine ⟨rfl, ?_⟩
          refine ⟨_, rfl, ?_⟩
          first
            | exact fullS (by decide +kernel) (fun h => by have := h.h1; have := h.h2; have := h.h3; have := h.h4; have := h.h5; have := h.h6; have := h.h7; have := h.h8; have := h.h9; have := h.h10; have := h.h11; have := h.h12; have := h.h13; have := h.h14; have := h.h15; have := h.h16; omega)
            | exact emptyS rfl ⟨by omega, by omega, by omega, by omega, by omega, by omega, by omega, by omega, by omega, by omega, by omega, by omega, by omega, by omega, by omega, by omega⟩
        refine pB rfl rfl ?_
        refine pB rfl rfl ?_
        refine SL_nil (nx (SWP_ct rfl (SWP_seq (SWP_region ?_))))
        refine pS rfl rfl ?_
        refine SL_nil (nx (SWP_ret (br (nr ?_))))
        refine fin [_] ⟨rfl, trivial⟩ ?_
        refine ⟨rfl, ?_⟩
        refine ⟨_, rfl, ?_⟩
        first
          | exact fullS (by decide +kernel) (fun h => by have := h.h1; have := h.h2; have := h.h3; have := h.h4; have := h.h5; have := h.h6; have := h.h7; have := h.h8; have := h.h9; have := h.h10; have := h.h11; have := h.h12; have := h.h13; have := h.h14; have := h.h15; have := h.h16; omega)
          | exact emptyS rfl ⟨by omega, by omega, by omega, by omega, by omega, by omega, by omega, by omega, by omega, by omega, by omega, by omega, by omega, by omega, by omega, by omega⟩
      refine pB rfl rfl ?_
      refine pB rfl rfl ?_
      refine SL_nil (nx (SWP_ct rfl (SWP_seq (SWP_region ?_))))
      refine pS rfl rfl ?_
      refine SL_nil (nx (SWP_ret (br (nr ?_))))
      refine fin [_] ⟨rfl, trivial⟩ ?_
      refine ⟨rfl, ?_⟩
      refine ⟨_, rfl, ?_⟩
      first
        | exact fullS (by decide +kernel) (fun h => by have := h.h1; have := h.h2; have := h.h3; have := h.h4; have := h.h5; have := h.h6; have := h.h7; have := h.h8; have := h.h9; have := h.h10; have := h.h11; have := h.h12; have := h.h13; have := h.h14; have := h.h15; have := h.h16; omega)
        | exact emptyS rfl ⟨by omega, by omega, by omega, by omega, by omega, by omega, by omega, by omega, by omega, by omega, by omega, by omega, by omega, by omega, by omega, by omega⟩
    refine pB rfl rfl ?_
    refine pB rfl rfl ?_
    refine SL_nil (nx (SWP_ct rfl (SWP_seq (SWP_region ?_))))
    refine pS rfl rfl ?_
    refine SL_nil (nx (SWP_ret (br (nr ?_))))
    refine fin [_] ⟨rfl, trivial⟩ ?_
    refine ⟨rfl, ?_⟩
    refine ⟨_, rfl, ?_⟩
    first
      | exact fullS (by decide +kernel) (fun h => by have := h.h1; have := h.h2; have := h.h3; have := h.h4; have := h.h5; have := h.h6; have := h.h7; have := h.h8; have := h.h9; have := h.h10; have := h.h11; have := h.h12; have := h.h13; have := h.h14; have := h.h15; have := h.h16; omega)
      | exact emptyS rfl ⟨by omega, by omega, by omega, by omega, by omega, by omega, by omega, by omega, by omega, by omega, by omega, by omega, by omega, by omega, by omega, by omega⟩
  refine pB rfl rfl ?_
  refine SL_nil (nx (SWP_seq (SWP_region ?_)))
  refine pu rfl rfl ?_
  refine lw (v := .int .i64 _) B1 3 rfl rfl rfl rfl ?_
  refine pI rfl rfl ?_
  refine pI rfl rfl ?_
  refine pI rfl rfl ?_
  refine pI rfl rfl ?_
  refine SL_nil (nx (SWP_seq (SWP_region ?_)))
  refine pu rfl rfl ?_
  refine lw (v := .int .i64 _) B1 4 rfl rfl rfl rfl ?_
  refine pu rfl rfl ?_
  refine pI rfl rfl ?_
  refine SL_nil (nx (SWP_seq (SWP_seq (SWP_region ?_))))
  refine pB rfl rfl ?_
  refine SL_nil (nx (SWP_cf rfl (SWP_skip (nx (SWP_seq (SWP_region ?_))))))
  refine pI rfl rfl ?_
  refine pI rfl rfl ?_
  refine SL_nil (nx (SWP_seq (SWP_seq (SWP_region ?_))))
  refine pu rfl rfl ?_
  refine lw (v := .int .i64 _) B1 5 rfl rfl rfl rfl ?_
  refine pc rfl rfl (fun c24 => ?_) (fun c24 => ?_)
  · skip
    refine SL_nil (nx (SWP_ct rfl (SWP_region ?_)))
    refine pu rfl rfl ?_
    refine lw (v := .int .i64 _) B1 5 rfl rfl rfl rfl ?_
    refine pI rfl rfl ?_
    refine pI rfl rfl ?_
    refine SL_nil (nx (SWP_seq (SWP_block (SWP_seq (SWP_region ?_)))))
    refine pu rfl rfl ?_
    refine lw (v := .int .i64 _) B1 2 rfl rfl rfl rfl ?_
    refine SL_pcall rfl rfl cb98 (withinI _ _ _) rfl ?_
    refine psp 30 rfl (fun c30 => ?_) (fun c30 => ?_)
    · skip
      refine pB rfl rfl ?_
      refine pB rfl rfl ?_
      refine SL_nil (nx (SWP_cf rfl (SWP_seq (SWP_region ?_))))
      refine pu rfl rfl ?_
      refine lw (v := .int .i64 _) B1 3 rfl rfl rfl rfl ?_
      refine SL_pcall rfl rfl cb98 (withinI _ _ _) rfl ?_
      refine psp 35 rfl (fun c35 => ?_) (fun c35 => ?_)
      · skip
        refine pB rfl rfl ?_
        refine pB rfl rfl ?_
        refine SL_nil (nx (SWP_cf rfl (SWP_seq (SWP_region ?_))))
        refine pu rfl rfl ?_
        refine lw (v := .int .i64 _) B1 4 rfl rfl rfl rfl ?_
        refine pI rfl rfl ?_
        refine pI rfl rfl ?_
        refine SL_pcall rfl rfl cb98 (withinI _ _ _) rfl ?_
        refine psp 42 rfl (fun c42 => ?_) (fun c42 => ?_)
        · skip
          refine pB rfl rfl ?_
          refine pB rfl rfl ?_
          refine SL_nil (nx (SWP_cf rfl (SWP_seq (SWP_region ?_))))
          refine pu rfl rfl ?_
          refine lw (v := .int .i64 _) B1 5 rfl rfl rfl rfl ?_
          refine pI rfl rfl ?_
          refine SL_pcall rfl rfl cb98 (withinI _ _ _) rfl ?_
          refine psp 48 rfl (fun c48 => ?_) (fun c48 => ?_)
          · skip
            refine pB rfl rfl ?_
            refine pB rfl rfl ?_
            refine SL_nil (nx (SWP_cf rfl (SWP_seq (SWP_region ?_))))
            refine pu rfl rfl ?_
            refine lw (v := .int .i64 _) B1 6 rfl rfl rfl rfl ?_
            refine pI rfl rfl ?_
            refine pI rfl rfl ?_
            refine SL_pcall rfl rfl cb98 (withinI _ _ _) rfl ?_
            refine psp 55 rfl (fun c55 => ?_) (fun c55 => ?_)
            · skip
              refine pB rfl rfl ?_
              refine pB rfl rfl ?_
              refine SL_nil (nx (SWP_cf rfl (SWP_seq (SWP_seq (SWP_region ?_)))))
              refine pu rfl rfl ?_
              refine lw (v := .int .i64 _) B1 7 rfl rfl rfl rfl ?_
              refine pI rfl rfl ?_
              refine SL_pcall rfl rfl cb98 (withinI _ _ _) rfl ?_
              refine psp 61 rfl (fun c61 => ?_) (fun c61 => ?_)
              · skip
                refine pB rfl rfl ?_
                refine pB rfl rfl ?_
                refine SL_nil (nx (SWP_cf rfl (SWP_region ?_)))
                refine pB rfl rfl ?_
                refine pB rfl rfl ?_
                refine pB rfl rfl ?_
                refine SL_yes rfl ?_
                refine pu rfl rfl ?_
                refine SL_yes rfl ?_
                refine lw (v := .int .i64 _) B1 3 rfl rfl rfl rfl ?_
                refine SL_yes rfl ?_
                refine pu rfl rfl ?_
                refine SL_yes rfl ?_
                refine lw (v := .int .i64 _) B1 7 rfl rfl rfl rfl ?_
                refine SL_yes rfl ?_
                first | refine pw rfl rfl (w64 (by omega) (by omega)) ?_ | refine pu rfl rfl ?_
                refine SL_yes rfl ?_
                refine pu rfl rfl ?_
                refine SL_yes rfl ?_
                refine lw (v := .int .i64 _) B1 4 rfl rfl rfl rfl ?_
                refine SL_yes rfl ?_
                refine pc rfl rfl (fun c73 => ?_) (fun c73 => ?_)
                · skip
                  refine pB rfl rfl ?_
                  refine pB rfl rfl ?_
                  refine SL_nil (nx (SWP_ct rfl (SWP_seq (SWP_region ?_))))
                  refine pS rfl rfl ?_
                  refine SL_nil (nx (SWP_ret (br (nr ?_))))
                  refine fin [_] ⟨rfl, trivial⟩ ?_
                  refine ⟨rfl, ?_⟩
                  refine ⟨_, rfl, ?_⟩
                  first
                    | exact fullS (by decide +kernel) (fun h => by have := h.h1; have := h.h2; have := h.h3; have := h.h4; have := h.h5; have := h.h6; have := h.h7; have := h.h8; have := h.h9; have := h.h10; have := h.h11; have := h.h12; have := h.h13; have := h.h14; have := h.h15; have := h.h16; omega)
                    | exact emptyS rfl ⟨by omega, by omega, by omega, by omega, by omega, by omega, by omega, by omega, by omega, by omega, by omega, by omega, by omega, by omega, by omega, by omega⟩
                refine pB rfl rfl ?_
                refine pB rfl rfl ?_
                refine SL_nil (nx (SWP_cf rfl (SWP_seq (SWP_region ?_))))
                refine pu rfl rfl ?_
                refine lw (v := .int .i64 _) B1 8 rfl rfl rfl rfl ?_
                refine SL_pcall rfl rfl cb98 (withinI _ _ _) rfl ?_
                refine psp 78 rfl (fun c78 => ?_) (fun c78 => ?_)
                · skip
                  refine pB rfl rfl ?_
                  refine pB rfl rfl ?_
                  refine SL_nil (nx (SWP_cf rfl (SWP_seq (SWP_region ?_))))
                  refine pu rfl rfl ?_
                  refine lw (v := .int .i64 _) B1 9 rfl rfl rfl rfl ?_
                  refine pu rfl rfl ?_
                  refine lw (v := .int .i64 _) B1 3 rfl rfl rfl rfl ?_
                  refine pI rfl rfl ?_
                  refine SL_pcall rfl rfl cb98 (withinI _ _ _) rfl ?_
                  refine psp 86 rfl (fun c86 => ?_) (fun c86 => ?_)
                  · skip
                    refine pB rfl rfl ?_
                    refine pB rfl rfl ?_
                    refine SL_nil (nx (SWP_cf rfl (SWP_skip (nb (nx (SWP_seq (SWP_region ?_)))))))
                    refine pS rfl rfl ?_
                    refine SL_nil (nx (SWP_ret ?_))
                    refine fin [_] ⟨rfl, trivial⟩ ?_
                    refine ⟨rfl, ?_⟩
                    refine ⟨_, rfl, ?_⟩
                    first
                      | exact fullS (by decide +kernel) (fun h => by have := h.h1; have := h.h2; have := h.h3; have := h.h4; have := h.h5; have := h.h6; have := h.h7; have := h.h8; have := h.h9; have := h.h10; have := h.h11; have := h.h12; have := h.h13; have := h.h14; have := h.h15; have := h.h16; omega)
                      | exact emptyS rfl ⟨by omega, by omega, by omega, by omega, by omega, by omega, by omega, by omega, by omega, by omega, by omega, by omega, by omega, by omega, by omega, by omega⟩
                  refine pB rfl rfl ?_
                  refine pB rfl rfl ?_
                  refine SL_nil (nx (SWP_ct rfl (SWP_seq (SWP_region ?_))))
                  refine pS rfl rfl ?_
                  refine SL_nil (nx (SWP_ret (br (nr ?_))))
                  refine fin [_] ⟨rfl, trivial⟩ ?_
                  refine ⟨rfl, ?_⟩
                  refine ⟨_, rfl, ?_⟩
                  first
                    | exact fullS (by decide +kernel) (fun h => by have := h.h1; have := h.h2; have := h.h3; have := h.h4; have := h.h5; have := h.h6; have := h.h7; have := h.h8; have := h.h9; have := h.h10; have := h.h11; have := h.h12; have := h.h13; have := h.h14; have := h.h15; have := h.h16; omega)
                    | exact emptyS rfl ⟨by omega, by omega, by omega, by omega, by omega, by omega, by omega, by omega, by omega, by omega, by omega, by omega, by omega, by omega, by omega, by omega⟩
                refine pB rfl rfl ?_
                refine pB rfl rfl ?_
                refine SL_nil (nx (SWP_ct rfl (SWP_seq (SWP_region ?_))))
                refine pS rfl rfl ?_
                refine SL_nil (nx (SWP_ret (br (nr ?_))))
                refine fin [_] ⟨rfl, trivial⟩ ?_
                refine ⟨rfl, ?_⟩
                refine ⟨_, rfl, ?_⟩
                first
                  | exact fullS (by decide +kernel) (fun h => by have := h.h1; have := h.h2; have := h.h3; have := h.h4; have := h.h5; have := h.h6; have := h.h7; have := h.h8; have := h.h9; have := h.h10; have := h.h11; have := h.h12; have := h.h13; have := h.h14; have := h.h15; have := h.h16; omega)
                  | exact emptyS rfl ⟨by omega, by omega, by omega, by omega, by omega, by omega, by omega, by omega, by omega, by omega, by omega, by omega, by omega, by omega, by omega, by omega⟩
              refine pB rfl rfl ?_
              refine pB rfl rfl ?_
              refine SL_nil (nx (SWP_ct rfl (SWP_skip (nx (SWP_ct rfl (SWP_seq (SWP_region ?_)))))))
              refine pS rfl rfl ?_
              refine SL_nil (nx (SWP_ret (br (nr ?_))))
              refine fin [_] ⟨rfl, trivial⟩ ?_
              refine ⟨rfl, ?_⟩
              refine ⟨_, rfl, ?_⟩
              first
                | exact fullS (by decide +kernel) (fun h => by have := h.h1; have := h.h2; have := h.h3; have := h.h4; have := h.h5; have := h.h6; have := h.h7; have := h.h8; have := h.h9; have := h.h10; have := h.h11; have := h.h12; have := h.h13; have := h.h14; have := h.h15; have := h.h16; omega)
                | exact emptyS rfl ⟨by omega, by omega, by omega, by omega, by omega, by omega, by omega, by omega, by omega, by omega, by omega, by omega, by omega, by omega, by omega, by omega⟩
            refine pB rfl rfl ?_
            refine pB rfl rfl ?_
            refine SL_nil (nx (SWP_ct rfl (SWP_seq (SWP_region ?_))))
            refine pS rfl rfl ?_
            refine SL_nil (nx (SWP_ret (br (nr ?_))))
            refine fin [_] ⟨rfl, trivial⟩ ?_
            refine ⟨rfl, ?_⟩
            refine ⟨_, rfl, ?_⟩
            first
              | exact fullS (by decide +kernel) (fun h => by have := h.h1; have := h.h2; have := h.h3; have := h.h4; have := h.h5; have := h.h6; have := h.h7; have := h.h8; have := h.h9; have := h.h10; have := h.h11; have := h.h12; have := h.h13; have := h.h14; have := h.h15; have := h.h16; omega)
              | exact emptyS rfl ⟨by omega, by omega, by omega, by omega, by omega, by omega, by omega, by omega, by omega, by omega, by omega, by omega, by omega, by omega, by omega, by omega⟩
          refine pB rfl rfl ?_
          refine pB rfl rfl ?_
          refine SL_nil (nx (SWP_ct rfl (SWP_seq (SWP_region ?_))))
          refine pS rfl rfl ?_
          refine SL_nil (nx (SWP_ret (br (nr ?_))))
          refine fin [_] ⟨rfl, trivial⟩ ?_
          refine ⟨rfl, ?_⟩
          refine ⟨_, rfl, ?_⟩
          first
            | exact fullS (by decide +kernel) (fun h => by have := h.h1; have := h.h2; have := h.h3; have := h.h4; have := h.h5; have := h.h6; have := h.h7; have := h.h8; have := h.h9; have := h.h10; have := h.h11; have := h.h12; have := h.h13; have := h.h14; have := h.h15; have := h.h16; omega)
            | exact emptyS rfl ⟨by omega, by omega, by omega, by omega, by omega, by omega, by omega, by omega, by omega, by omega, by omega, by omega, by omega, by omega, by omega, by omega⟩
        refine pB rfl rfl ?_
        refine pB rfl rfl ?_
        refine SL_nil (nx (SWP_ct rfl (SWP_seq (SWP_region ?_))))
        refine pS rfl rfl ?_
        refine SL_nil (nx (SWP_ret (br (nr ?_))))
        refine fin [_] ⟨rfl, trivial⟩ ?_
        refine ⟨rfl, ?_⟩
        refine ⟨_, rfl, ?_⟩
        first
          | exact fullS (by decide +kernel) (fun h => by have := h.h1; have := h.h2; have := h.h3; have := h.h4; have := h.h5; have := h.h6; have := h.h7; have := h.h8; have := h.h9; have := h.h10; have := h.h11; have := h.h12; have := h.h13; have := h.h14; have := h.h15; have := h.h16; omega)
          | exact emptyS rfl ⟨by omega, by omega, by omega, by omega, by omega, by omega, by omega, by omega, by omega, by omega, by omega, by omega, by omega, by omega, by omega, by omega⟩
      refine pB rfl rfl ?_
      refine pB rfl rfl ?_
      refine SL_nil (nx (SWP_ct rfl (SWP_seq (SWP_region ?_))))
      refine pS rfl rfl ?_
      refine SL_nil (nx (SWP_ret (br (nr ?_))))
      refine fin [_] ⟨rfl, trivial⟩ ?_
      refine ⟨rfl, ?_⟩
      refine ⟨_, rfl, ?_⟩
      first
        | exact fullS (by decide +kernel) (fun h => by have := h.h1; have := h.h2; have := h.h3; have := h.h4; have := h.h5; have := h.h6; have := h.h7; have := h.h8; have := h.h9; have := h.h10; have := h.h11; have := h.h12; have := h.h13; have := h.h14; have := h.h15; have := h.h16; omega)
        | exact emptyS rfl ⟨by omega, by omega, by omega, by omega, by omega, by omega, by omega, by omega, by omega, by omega, by omega, by omega, by omega, by omega, by omega, by omega⟩
    refine pB rfl rfl ?_
    refine pB rfl rfl ?_
    refine SL_nil (nx (SWP_ct rfl (SWP_seq (SWP_region ?_))))
    refine pS rfl rfl ?_
    refine SL_nil (nx (SWP_ret (br (nr ?_))))
    refine fin [_] ⟨rfl, trivial⟩ ?_
    refine ⟨rfl, ?_⟩
    refine ⟨_, rfl, ?_⟩
    first
      | exact fullS (by decide +kernel) (fun h => by have := h.h1; have := h.h2; have := h.h3; have := h.h4; have := h.h5; have := h.h6; have := h.h7; have := h.h8; have := h.h9; have := h.h10; have := h.h11; have := h.h12; have := h.h13; have := h.h14; have := h.h15; have := h.h16; omega)
      | exact emptyS rfl ⟨by omega, by omega, by omega, by omega, by omega, by omega, by omega, by omega, by omega, by omega, by omega, by omega, by omega, by omega, by omega, by omega⟩
  refine SL_nil (nx (SWP_cf rfl (SWP_skip (nx (SWP_seq (SWP_block (SWP_seq (SWP_region ?_))))))))
  refine pu rfl rfl ?_
  refine lw (v := .int .i64 _) B1 2 rfl rfl rfl rfl ?_
  refine SL_pcall rfl rfl cb98 (withinI _ _ _) rfl ?_
  refine psp 30 rfl (fun c30 => ?_) (fun c30 => ?_)
  · skip
    refine pB rfl rfl ?_
    refine pB rfl rfl ?_
    refine SL_nil (nx (SWP_cf rfl (SWP_seq (SWP_region ?_))))
    refine pu rfl rfl ?_
    refine lw (v := .int .i64 _) B1 3 rfl rfl rfl rfl ?_
    refine SL_pcall rfl rfl cb98 (withinI _ _ _) rfl ?_
    refine psp 35 rfl (fun c35 => ?_) (fun c35 => ?_)
    · skip
      refine pB rfl rfl ?_
      refine pB rfl rfl ?_
      refine SL_nil (nx (SWP_cf rfl (SWP_seq (SWP_region ?_))))
      refine pu rfl rfl ?_
      refine lw (v := .int .i64 _) B1 4 rfl rfl rfl rfl ?_
      refine pI rfl rfl ?_
      refine pI rfl rfl ?_
      refine SL_pcall rfl rfl cb98 (withinI _ _ _) rfl ?_
      refine psp 42 rfl (fun c42 => ?_) (fun c42 => ?_)
      · skip
        refine pB rfl rfl ?_
        refine pB rfl rfl ?_
        refine SL_nil (nx (SWP_cf rfl (SWP_seq (SWP_region ?_))))
        refine pu rfl rfl ?_
        refine lw (v := .int .i64 _) B1 5 rfl rfl rfl rfl ?_
        refine pI rfl rfl ?_
        refine SL_pcall rfl rfl cb98 (withinI _ _ _) rfl ?_
        refine psp 48 rfl (fun c48 => ?_) (fun c48 => ?_)
        · skip
          refine pB rfl rfl ?_
          refine pB rfl rfl ?_
          refine SL_nil (nx (SWP_cf rfl (SWP_seq (SWP_region ?_))))
          refine pu rfl rfl ?_
          refine lw (v := .int .i64 _) B1 6 rfl rfl rfl rfl ?_
          refine pI rfl rfl ?_
          refine pI rfl rfl ?_
          refine SL_pcall rfl rfl cb98 (withinI _ _ _) rfl ?_
          refine psp 55 rfl (fun c55 => ?_) (fun c55 => ?_)
          · skip
            refine pB rfl rfl ?_
            refine pB rfl rfl ?_
            refine SL_nil (nx (SWP_cf rfl (SWP_seq (SWP_seq (SWP_region ?_)))))
            refine pu rfl rfl ?_
            refine lw (v := .int .i64 _) B1 7 rfl rfl rfl rfl ?_
            refine pI rfl rfl ?_
            refine SL_pcall rfl rfl cb98 (withinI _ _ _) rfl ?_
            refine psp 61 rfl (fun c61 => ?_) (fun c61 => ?_)
            · skip
              refine pB rfl rfl ?_
              refine pB rfl rfl ?_
              refine SL_nil (nx (SWP_cf rfl (SWP_region ?_)))
              refine pB rfl rfl ?_
              refine pB rfl rfl ?_
              refine pB rfl rfl ?_
              refine SL_yes rfl ?_
              refine pu rfl rfl ?_
              refine SL_yes rfl ?_
              refine lw (v := .int .i64 _) B1 3 rfl rfl rfl rfl ?_
              refine SL_yes rfl ?_
              refine pu rfl rfl ?_
              refine SL_yes rfl ?_
              refine lw (v := .int .i64 _) B1 7 rfl rfl rfl rfl ?_
              refine SL_yes rfl ?_
              first | refine pw rfl rfl (w64 (by omega) (by omega)) ?_ | refine pu rfl rfl ?_
              refine SL_yes rfl ?_
              refine pu rfl rfl ?_
              refine SL_yes rfl ?_
              refine lw (v := .int .i64 _) B1 4 rfl rfl rfl rfl ?_
              refine SL_yes rfl ?_
              refine pc rfl rfl (fun c73 => ?_) (fun c73 => ?_)
              · skip
                refine pB rfl rfl ?_
                refine pB rfl rfl ?_
                refine SL_nil (nx (SWP_ct rfl (SWP_seq (SWP_region ?_))))
                refine pS rfl rfl ?_
                refine SL_nil (nx (SWP_ret (br (nr ?_))))
                refine fin [_] ⟨rfl, trivial⟩ ?_
                refine ⟨rfl, ?_⟩
                refine ⟨_, rfl, ?_⟩
                first
                  | exact fullS (by decide +kernel) (fun h => by have := h.h1; have := h.h2; have := h.h3; have := h.h4; have := h.h5; have := h.h6; have := h.h7; have := h.h8; have := h.h9; have := h.h10; have := h.h11; have := h.h12; have := h.h13; have := h.h14; have := h.h15; have := h.h16; omega)
                  | exact emptyS rfl ⟨by omega, by omega, by omega, by omega, by omega, by omega, by omega, by omega, by omega, by omega, by omega, by omega, by omega, by omega, by omega, by omega⟩
              refine pB rfl rfl ?_
              refine pB rfl rfl ?_
              refine SL_nil (nx (SWP_cf rfl (SWP_seq (SWP_region ?_))))
              refine pu rfl rfl ?_
              refine lw (v := .int .i64 _) B1 8 rfl rfl rfl rfl ?_
              refine SL_pcall rfl rfl cb98 (withinI _ _ _) rfl ?_
              refine psp 78 rfl (fun c78 => ?_) (fun c78 => ?_)
              · skip
                refine pB rfl rfl ?_
                refine pB rfl rfl ?_
                refine SL_nil (nx (SWP_cf rfl (SWP_seq (SWP_region ?_))))
                refine pu rfl rfl ?_
                refine lw (v := .int .i64 _) B1 9 rfl rfl rfl rfl ?_
                refine pu rfl rfl ?_
                refine lw (v := .int .i64 _) B1 3 rfl rfl rfl rfl ?_
                refine pI rfl rfl ?_
                refine SL_pcall rfl rfl cb98 (withinI _ _ _) rfl ?_
                refine psp 86 rfl (fun c86 => ?_) (fun c86 => ?_)
                · skip
                  refine pB rfl rfl ?_
                  refine pB rfl rfl ?_
                  refine SL_nil (nx (SWP_cf rfl (SWP_skip (nb (nx (SWP_seq (SWP_region ?_)))))))
                  refine pS rfl rfl ?_
                  refine SL_nil (nx (SWP_ret ?_))
                  refine fin [_] ⟨rfl, trivial⟩ ?_
                  refine ⟨rfl, ?_⟩
                  refine ⟨_, rfl, ?_⟩
                  first
                    | exact fullS (by decide +kernel) (fun h => by have := h.h1; have := h.h2; have := h.h3; have := h.h4; have := h.h5; have := h.h6; have := h.h7; have := h.h8; have := h.h9; have := h.h10; have := h.h11; have := h.h12; have := h.h13; have := h.h14; have := h.h15; have := h.h16; omega)
                    | exact emptyS rfl ⟨by omega, by omega, by omega, by omega, by omega, by omega, by omega, by omega, by omega, by omega, by omega, by omega, by omega, by omega, by omega, by omega⟩
                refine pB rfl rfl ?_
                refine pB rfl rfl ?_
                refine SL_nil (nx (SWP_ct rfl (SWP_seq (SWP_region ?_))))
                refine pS rfl rfl ?_
                refine SL_nil (nx (SWP_ret (br (nr ?_))))
                refine fin [_] ⟨rfl, trivial⟩ ?_
                refine ⟨rfl, ?_⟩
                refine ⟨_, rfl, ?_⟩
                first
                  | exact fullS (by decide +kernel) (fun h => by have := h.h1; have := h.h2; have := h.h3; have := h.h4; have := h.h5; have := h.h6; have := h.h7; have := h.h8; have := h.h9; have := h.h10; have := h.h11; have := h.h12; have := h.h13; have := h.h14; have := h.h15; have := h.h16; omega)
                  | exact emptyS rfl ⟨by omega, by omega, by omega, by omega, by omega, by omega, by omega, by omega, by omega, by omega, by omega, by omega, by omega, by omega, by omega, by omega⟩
              refine pB rfl rfl ?_
              refine pB rfl rfl ?_
              refine SL_nil (nx (SWP_ct rfl (SWP_seq (SWP_region ?_))))
              refine pS rfl rfl ?_
              refine SL_nil (nx (SWP_ret (br (nr ?_))))
              refine fin [_] ⟨rfl, trivial⟩ ?_
              refine ⟨rfl, ?_⟩
              refine ⟨_, rfl, ?_⟩
              first
                | exact fullS (by decide +kernel) (fun h => by have := h.h1; have := h.h2; have := h.h3; have := h.h4; have := h.h5; have := h.h6; have := h.h7; have := h.h8; have := h.h9; have := h.h10; have := h.h11; have := h.h12; have := h.h13; have := h.h14; have := h.h15; have := h.h16; omega)
                | exact emptyS rfl ⟨by omega, by omega, by omega, by omega, by omega, by omega, by omega, by omega, by omega, by omega, by omega, by omega, by omega, by omega, by omega, by omega⟩
            refine pB rfl rfl ?_
            refine pB rfl rfl ?_
            refine SL_nil (nx (SWP_ct rfl (SWP_skip (nx (SWP_ct rfl (SWP_seq (SWP_region ?_)))))))
            refine pS rfl rfl ?_
            refine SL_nil (nx (SWP_ret (br (nr ?_))))
            refine fin [_] ⟨rfl, trivial⟩ ?_
            refine ⟨rfl, ?_⟩
            refine ⟨_, rfl, ?_⟩
            first
              | exact fullS (by decide +kernel) (fun h => by have := h.h1; have := h.h2; have := h.h3; have := h.h4; have := h.h5; have := h.h6; have := h.h7; have := h.h8; have := h.h9; have := h.h10; have := h.h11; have := h.h12; have := h.h13; have := h.h14; have := h.h15; have := h.h16; omega)
              | exact emptyS rfl ⟨by omega, by omega, by omega, by omega, by omega, by omega, by omega, by omega, by omega, by omega, by omega, by omega, by omega, by omega, by omega, by omega⟩
          refine pB rfl rfl ?_
          refine pB rfl rfl ?_
          refine SL_nil (nx (SWP_ct rfl (SWP_seq (SWP_region ?_))))
          refine pS rfl rfl ?_
          refine SL_nil (nx (SWP_ret (br (nr ?_))))
          refine fin [_] ⟨rfl, trivial⟩ ?_
          refine ⟨rfl, ?_⟩
          refine ⟨_, rfl, ?_⟩
          first
            | exact fullS (by decide +kernel) (fun h => by have := h.h1; have := h.h2; have := h.h3; have := h.h4; have := h.h5; have := h.h6; have := h.h7; have := h.h8; have := h.h9; have := h.h10; have := h.h11; have := h.h12; have := h.h13; have := h.h14; have := h.h15; have := h.h16; omega)
            | exact emptyS rfl ⟨by omega, by omega, by omega, by omega, by omega, by omega, by omega, by omega, by omega, by omega, by omega, by omega, by omega, by omega, by omega, by omega⟩
        refine pB rfl rfl ?_
        refine pB rfl rfl ?_
        refine SL_nil (nx (SWP_ct rfl (SWP_seq (SWP_region ?_))))
        refine pS rfl rfl ?_
        refine SL_nil (nx (SWP_ret (br (nr ?_))))
        refine fin [_] ⟨rfl, trivial⟩ ?_
        refine ⟨rfl, ?_⟩
        refine ⟨_, rfl, ?_⟩
        first
          | exact fullS (by decide +kernel) (fun h => by have := h.h1; have := h.h2; have := h.h3; have := h.h4; have := h.h5; have := h.h6; have := h.h7; have := h.h8; have := h.h9; have := h.h10; have := h.h11; have := h.h12; have := h.h13; have := h.h14; have := h.h15; have := h.h16; omega)
          | exact emptyS rfl ⟨by omega, by omega, by omega, by omega, by omega, by omega, by omega, by omega, by omega, by omega, by omega, by omega, by omega, by omega, by omega, by omega⟩
      refine pB rfl rfl ?_
      refine pB rfl rfl ?_
      refine SL_nil (nx (SWP_ct rfl (SWP_seq (SWP_region ?_))))
      refine pS rfl rfl ?_
      refine SL_nil (nx (SWP_ret (br (nr ?_))))
      refine fin [_] ⟨rfl, trivial⟩ ?_
      refine ⟨rfl, ?_⟩
      refine ⟨_, rfl, ?_⟩
      first
        | exact fullS (by decide +kernel) (fun h => by have := h.h1; have := h.h2; have := h.h3; have := h.h4; have := h.h5; have := h.h6; have := h.h7; have := h.h8; have := h.h9; have := h.h10; have := h.h11; have := h.h12; have := h.h13; have := h.h14; have := h.h15; have := h.h16; omega)
        | exact emptyS rfl ⟨by omega, by omega, by omega, by omega, by omega, by omega, by omega, by omega, by omega, by omega, by omega, by omega, by omega, by omega, by omega, by omega⟩
    refine pB rfl rfl ?_
    refine pB rfl rfl ?_
    refine SL_nil (nx (SWP_ct rfl (SWP_seq (SWP_region ?_))))
    refine pS rfl rfl ?_
    refine SL_nil (nx (SWP_ret (br (nr ?_))))
    refine fin [_] ⟨rfl, trivial⟩ ?_
    refine ⟨rfl, ?_⟩
    refine ⟨_, rfl, ?_⟩
    first
      | exact fullS (by decide +kernel) (fun h => by have := h.h1; have := h.h2; have := h.h3; have := h.h4; have := h.h5; have := h.h6; have := h.h7; have := h.h8; have := h.h9; have := h.h10; have := h.h11; have := h.h12; have := h.h13; have := h.h14; have := h.h15; have := h.h16; omega)
      | exact emptyS rfl ⟨by omega, by omega, by omega, by omega, by omega, by omega, by omega, by omega, by omega, by omega, by omega, by omega, by omega, by omega, by omega, by omega⟩
  refine pB rfl rfl ?_
  refine pB rfl rfl ?_
  refine SL_nil (nx (SWP_ct rfl (SWP_seq (SWP_region ?_))))
  refine pS rfl rfl ?_
  refine SL_nil (nx (SWP_ret (br (nr ?_))))
  refine fin [_] ⟨rfl, trivial⟩ ?_
  refine ⟨rfl, ?_⟩
  refine ⟨_, rfl, ?_⟩
  first
    | exact fullS (by decide +kernel) (fun h => by have := h.h1; have := h.h2; have := h.h3; have := h.h4; have := h.h5; have := h.h6; have := h.h7; have := h.h8; have := h.h9; have := h.h10; have := h.h11; have := h.h12; have := h.h13; have := h.h14; have := h.h15; have := h.h16; omega)
    | exact emptyS rfl ⟨by omega, by omega, by omega, by omega, by omega, by omega, by omega, by omega, by omega, by omega, by omega, by omega, by omega, by omega, by omega, by omega⟩
end Go.Proofs.YtifjhpaoejageaaGreatDoor
namespace Go.Proofs.YtifjhpaoejageaaGreatDoor
open Eng
theorem aE4 {a : Addon} (h : nameB a.name = false) : 4 = addonErr a := by unfold addonErr; rw [if_pos h]
theorem aE7 {a : Addon} (h : nameB a.name = true) (hk : a.kind ≠ 1 ∧ a.kind ≠ 2) : 7 = addonErr a := by unfold addonErr; rw [if_neg (by rw [h]; exact Bool.noConfusion), if_pos hk]
theorem aE2 {a : Addon} (h : nameB a.name = true) (hk : ¬ (a.kind ≠ 1 ∧ a.kind ≠ 2)) (hp : ¬ (0 ≤ a.price ∧ a.price ≤ 1000000)) : 2 = addonErr a := by unfold addonErr; rw [if_neg (by rw [h]; exact Bool.noConfusion), if_neg hk, if_pos hp]
theorem aEf {a : Addon} (h : nameB a.name = true) (hk : a.kind = 1) (hp : 0 ≤ a.price ∧ a.price ≤ 1000000) : addonErr a = if a.digits ≠ 0 ∨ 0 < a.prizes.length then 7 else if ¬ (1 ≤ a.factors.length ∧ a.factors.length ≤ 8) then 3 else allErr 1 100 a.factors := by unfold addonErr; rw [if_neg (by rw [h]; exact Bool.noConfusion), if_neg (by omega), if_neg (by omega), if_pos hk]
theorem aEs {a : Addon} (h : nameB a.name = true) (hk : a.kind = 2) (hp : 0 ≤ a.price ∧ a.price ≤ 1000000) : addonErr a = if 0 < a.factors.length then 7 else if ¬ (1 ≤ a.digits ∧ a.digits ≤ 8) then 2 else if (a.prizes.length : Int) ≠ a.digits then 3 else allErr 0 1000000000 a.prizes := by unfold addonErr; rw [if_neg (by rw [h]; exact Bool.noConfusion), if_neg (by omega), if_neg (by omega), if_neg (by omega)]
theorem checkAddonI {m : Mem} {a : Addon} (h : a.In m) : PureCall Tryz.prog 99 [a.val] m (.int .i64 (addonErr a)) := by
  refine CallsS.pure ?_
  dsimp only [Addon.val]
  refine enter Tryz.func99 Tryz.ntmps99 rfl rfl ?_
  refine SWP_seq (SWP_region ?_)
  refine bx (v := .agg _) rfl rfl (fun B1 => ?_)
  refine pI rfl rfl ?_
  refine SL_nil (nx (SWP_seq (SWP_seq (SWP_region ?_))))
  refine pu rfl rfl ?_
  refine lw (v := .string _) B1 0 rfl rfl rfl rfl ?_
  refine SL_pcall rfl rfl cb67 (nameImpl _) rfl ?_
  refine bsp 5 rfl (fun b5 => ?_) (fun b5 => ?_)
  · skip
    refine pB rfl rfl ?_
    refine SL_nil (nx (SWP_cf rfl (SWP_skip (nx (SWP_seq (SWP_seq (SWP_region ?_)))))))
    refine pu rfl rfl ?_
    refine lw (v := .int .i64 _) B1 1 rfl rfl rfl rfl ?_
    refine pc rfl rfl (fun c9 => ?_) (fun c9 => ?_)
    · skip
      refine pB rfl rfl ?_
      refine SL_yes rfl ?_
      refine pu rfl rfl ?_
      refine SL_yes rfl ?_
      refine lw (v := .int .i64 _) B1 1 rfl rfl rfl rfl ?_
      refine SL_yes rfl ?_
      refine pc rfl rfl (fun c13 => ?_) (fun c13 => ?_)
      · skip
        refine pB rfl rfl ?_
        refine SL_nil (nx (SWP_ct rfl (SWP_seq (SWP_region ?_))))
        refine pI rfl rfl ?_
        refine SL_nil (nx (SWP_ret (nr ?_)))
        refine fin [_] ⟨rfl, trivial⟩ ?_
        refine congrArg (Value.int .i64) ?_
        first | (exfalso; omega) | exact aE4 b5 | exact aE7 b5 (by omega) | exact aE2 b5 (by omega) (by omega) | (rw [aEf b5 (by omega) (by omega)]; first | rw [if_pos (by omega)] | rw [if_neg (by omega), if_pos (by omega)] | rw [if_neg (by omega), if_neg (by omega)]) | (rw [aEs b5 (by omega) (by omega)]; first | rw [if_pos (by omega)] | rw [if_neg (by omega), if_pos (by omega)] | rw [if_neg (by omega), if_neg (by omega), if_pos (by omega)] | rw [if_neg (by omega), if_neg (by omega), if_neg (by omega)])
      refine pB rfl rfl ?_
      refine SL_nil (nx (SWP_cf rfl (SWP_skip (nx (SWP_seq (SWP_seq (SWP_region ?_)))))))
      refine pu rfl rfl ?_
      refine lw (v := .int .i64 _) B1 2 rfl rfl rfl rfl ?_
      refine SL_pcall rfl rfl cb98 (withinI _ _ _) rfl ?_
      refine psp 17 rfl (fun c17 => ?_) (fun c17 => ?_)
      · skip
        refine pB rfl rfl ?_
        refine SL_nil (nx (SWP_cf rfl (SWP_skip (nx (SWP_seq (SWP_seq (SWP_region ?_)))))))
        refine pu rfl rfl ?_
        refine lw (v := .int .i64 _) B1 1 rfl rfl rfl rfl ?_
        refine pc rfl rfl (fun c21 => ?_) (fun c21 => ?_)
        · skip
          refine SL_nil (nx (SWP_ct rfl (SWP_seq (SWP_seq (SWP_region ?_)))))
          refine pu rfl rfl ?_
          refine lw (v := .int .i64 _) B1 4 rfl rfl rfl rfl ?_
          refine pc rfl rfl (fun c24 => ?_) (fun c24 => ?_)
          · skip
            refine pB rfl rfl ?_
            refine SL_no rfl rfl ?_
            refine SL_no rfl rfl ?_
            refine SL_no rfl rfl ?_
            refine SL_no rfl rfl ?_
            refine pB rfl rfl ?_
            refine SL_nil (nx (SWP_ct rfl (SWP_seq (SWP_region ?_))))
            refine pI rfl rfl ?_
            refine SL_nil (nx (SWP_ret (nr (nr ?_))))
            refine fin [_] ⟨rfl, trivial⟩ ?_
            refine congrArg (Value.int .i64) ?_
            first | (exfalso; omega) | exact aE4 b5 | exact aE7 b5 (by omega) | exact aE2 b5 (by omega) (by omega) | (rw [aEf b5 (by omega) (by omega)]; first | rw [if_pos (by omega)] | rw [if_neg (by omega), if_pos (by omega)] | rw [if_neg (by omega), if_neg (by omega)]) | (rw [aEs b5 (by omega) (by omega)]; first | rw [if_pos (by omega)] | rw [if_neg (by omega), if_pos (by omega)] | rw [if_neg (by omega), if_neg (by omega), if_pos (by omega)] | rw [if_neg (by omega), if_neg (by omega), if_neg (by omega)])
          refine pB rfl rfl ?_
          refine SL_yes rfl ?_
          refine pu rfl rfl ?_
          refine SL_yes rfl ?_
          refine lw (v := .slice _ _ _) B1 5 rfl rfl rfl rfl ?_
          refine SL_yes rfl ?_
          refine pu rfl rfl ?_
          refine SL_yes rfl ?_
          refine pc rfl rfl (fun c29 => ?_) (fun c29 => ?_)
          · skip
            refine pB rfl rfl ?_
            refine SL_nil (nx (SWP_ct rfl (SWP_seq (SWP_region ?_))))
            refine pI rfl rfl ?_
            refine SL_nil (nx (SWP_ret (nr (nr ?_))))
            refine fin [_] ⟨rfl, trivial⟩ ?_
            refine congrArg (Value.int .i64) ?_
            first | (exfalso; omega) | exact aE4 b5 | exact aE7 b5 (by omega) | exact aE2 b5 (by omega) (by omega) | (rw [aEf b5 (by omega) (by omega)]; first | rw [if_pos (by omega)] | rw [if_neg (by omega), if_pos (by omega)] | rw [if_neg (by omega), if_neg (by omega)]) | (rw [aEs b5 (by omega) (by omega)]; first | rw [if_pos (by omega)] | rw [if_neg (by omega), if_pos (by omega)] | rw [if_neg (by omega), if_neg (by omega), if_pos (by omega)] | rw [if_neg (by omega), if_neg (by omega), if_neg (by omega)])
          refine pB rfl rfl ?_
          refine SL_nil (nx (SWP_cf rfl (SWP_skip (nx (SWP_seq (SWP_seq (SWP_region ?_)))))))
          refine pu rfl rfl ?_
          refine lw (v := .slice _ _ _) B1 3 rfl rfl rfl rfl ?_
          refine pu rfl rfl ?_
          refine SL_pcall rfl rfl cb98 (withinI _ _ _) rfl ?_
          refine psp 34 rfl (fun c34 => ?_) (fun c34 => ?_)
          · skip
            refine pB rfl rfl ?_
            refine SL_nil (nx (SWP_cf rfl (SWP_skip (nx (SWP_seq (SWP_region ?_))))))
            refine pu rfl rfl ?_
            refine lw (v := .slice _ _ _) B1 3 rfl rfl rfl rfl ?_
            refine SL_pcall rfl rfl cb128 (checkAllI h.1 (by omega) 1 100) rfl ?_
            first | refine pI rfl rfl ?_ | refine pu rfl rfl ?_
            refine SL_nil (nx (SWP_ret (nr ?_)))
            refine fin [_] ⟨rfl, trivial⟩ ?_
            refine congrArg (Value.int .i64) ?_
            first | (exfalso; omega) | exact aE4 b5 | exact aE7 b5 (by omega) | exact aE2 b5 (by omega) (by omega) | (rw [aEf b5 (by omega) (by omega)]; first | rw [if_pos (by omega)] | rw [if_neg (by omega), if_pos (by omega)] | rw [if_neg (by omega), if_neg (by omega)]) | (rw [aEs b5 (by omega) (by omega)]; first | rw [if_pos (by omega)] | rw [if_neg (by omega), if_pos (by omega)] | rw [if_neg (by omega), if_neg (by omega), if_pos (by omega)] | rw [if_neg (by omega), if_neg (by omega), if_neg (by omega)])
          refine pB rfl rfl ?_
          refine SL_nil (nx (SWP_ct rfl (SWP_seq (SWP_region ?_))))
          refine pI rfl rfl ?_
          refine SL_nil (nx (SWP_ret (nr (nr ?_))))
          refine fin [_] ⟨rfl, trivial⟩ ?_
          refine congrArg (Value.int .i64) ?_
          first | (exfalso; omega) | exact aE4 b5 | exact aE7 b5 (by omega) | exact aE2 b5 (by omega) (by omega) | (rw [aEf b5 (by omega) (by omega)]; first | rw [if_pos (by omega)] | rw [if_neg (by omega), if_pos (by omega)] | rw [if_neg (by omega), if_neg (by omega)]) | (rw [aEs b5 (by omega) (by omega)]; first | rw [if_pos (by omega)] | rw [if_neg (by omega), if_pos (by omega)] | rw [if_neg (by omega), if_neg (by omega), if_pos (by omega)] | rw [if_neg (by omega), if_neg (by omega), if_neg (by omega)])
        refine SL_nil (nx (SWP_cf rfl (SWP_skip (nx (SWP_seq (SWP_seq (SWP_region ?_)))))))
        refine pu rfl rfl ?_
        refine lw (v := .slice _ _ _) B1 3 rfl rfl rfl rfl ?_
        refine pu rfl rfl ?_
        refine pc rfl rfl (fun c42 => ?_) (fun c42 => ?_)
        · skip
          refine SL_nil (nx (SWP_ct rfl (SWP_seq (SWP_region ?_))))
          refine pI rfl rfl ?_
          refine SL_nil (nx (SWP_ret (nr ?_)))
          refine fin [_] ⟨rfl, trivial⟩ ?_
          refine congrArg (Value.int .i64) ?_
          first | (exfalso; omega) | exact aE4 b5 | exact aE7 b5 (by omega) | exact aE2 b5 (by omega) (by omega) | (rw [aEf b5 (by omega) (by omega)]; first | rw [if_pos (by omega)] | rw [if_neg (by omega), if_pos (by omega)] | rw [if_neg (by omega), if_neg (by omega)]) | (rw [aEs b5 (by omega) (by omega)]; first | rw [if_pos (by omega)] | rw [if_neg (by omega), if_pos (by omega)] | rw [if_neg (by omega), if_neg (by omega), if_pos (by omega)] | rw [if_neg (by omega), if_neg (by omega), if_neg (by omega)])
        refine SL_nil (nx (SWP_cf rfl (SWP_skip (nx (SWP_seq (SWP_seq (SWP_region ?_)))))))
        refine pu rfl rfl ?_
        refine lw (v := .int .i64 _) B1 4 rfl rfl rfl rfl ?_
        refine SL_pcall rfl rfl cb98 (withinI _ _ _) rfl ?_
        refine psp 45 rfl (fun c45 => ?_) (fun c45 => ?_)
        · skip
          refine pB rfl rfl ?_
          refine SL_nil (nx (SWP_cf rfl (SWP_skip (nx (SWP_seq (SWP_seq (SWP_region ?_)))))))
          refine pu rfl rfl ?_
          refine lw (v := .slice _ _ _) B1 5 rfl rfl rfl rfl ?_
          refine pu rfl rfl ?_
          refine pu rfl rfl ?_
          refine lw (v := .int .i64 _) B1 4 rfl rfl rfl rfl ?_
          refine pc rfl rfl (fun c52 => ?_) (fun c52 => ?_)
          · skip
            refine SL_nil (nx (SWP_ct rfl (SWP_seq (SWP_region ?_))))
            refine pI rfl rfl ?_
            refine SL_nil (nx (SWP_ret (nr ?_)))
            refine fin [_] ⟨rfl, trivial⟩ ?_
            refine congrArg (Value.int .i64) ?_
            first | (exfalso; omega) | exact aE4 b5 | exact aE7 b5 (by omega) | exact aE2 b5 (by omega) (by omega) | (rw [aEf b5 (by omega) (by omega)]; first | rw [if_pos (by omega)] | rw [if_neg (by omega), if_pos (by omega)] | rw [if_neg (by omega), if_neg (by omega)]) | (rw [aEs b5 (by omega) (by omega)]; first | rw [if_pos (by omega)] | rw [if_neg (by omega), if_pos (by omega)] | rw [if_neg (by omega), if_neg (by omega), if_pos (by omega)] | rw [if_neg (by omega), if_neg (by omega), if_neg (by omega)])
          refine SL_nil (nx (SWP_cf rfl (SWP_skip (nx (SWP_seq (SWP_region ?_))))))
          refine pu rfl rfl ?_
          refine lw (v := .slice _ _ _) B1 5 rfl rfl rfl rfl ?_
          refine SL_pcall rfl rfl cb128 (checkAllI h.2 (by omega) 0 1000000000) rfl ?_
          first | refine pI rfl rfl ?_ | refine pu rfl rfl ?_
          refine SL_nil (nx (SWP_ret ?_))
          refine fin [_] ⟨rfl, trivial⟩ ?_
          refine congrArg (Value.int .i64) ?_
          first | (exfalso; omega) | exact aE4 b5 | exact aE7 b5 (by omega) | exact aE2 b5 (by omega) (by omega) | (rw [aEf b5 (by omega) (by omega)]; first | rw [if_pos (by omega)] | rw [if_neg (by omega), if_pos (by omega)] | rw [if_neg (by omega), if_neg (by omega)]) | (rw [aEs b5 (by omega) (by omega)]; first | rw [if_pos (by omega)] | rw [if_neg (by omega), if_pos (by omega)] | rw [if_neg (by omega), if_neg (by omega), if_pos (by omega)] | rw [if_neg (by omega), if_neg (by omega), if_neg (by omega)])
        refine pB rfl rfl ?_
        refine SL_nil (nx (SWP_ct rfl (SWP_seq (SWP_region ?_))))
        refine pI rfl rfl ?_
        refine SL_nil (nx (SWP_ret (nr ?_)))
        refine fin [_] ⟨rfl, trivial⟩ ?_
        refine congrArg (Value.int .i64) ?_
        first | (exfalso; omega) | exact aE4 b5 | exact aE7 b5 (by omega) | exact aE2 b5 (by omega) (by omega) | (rw [aEf b5 (by omega) (by omega)]; first | rw [if_pos (by omega)] | rw [if_neg (by omega), if_pos (by omega)] | rw [if_neg (by omega), if_neg (by omega)]) | (rw [aEs b5 (by omega) (by omega)]; first | rw [if_pos (by omega)] | rw [if_neg (by omega), if_pos (by omega)] | rw [if_neg (by omega), if_neg (by omega), if_pos (by omega)] | rw [if_neg (by omega), if_neg (by omega), if_neg (by omega)])
      refine pB rfl rfl ?_
      refine SL_nil (nx (SWP_ct rfl (SWP_seq (SWP_region ?_))))
      refine pI rfl rfl ?_
      refine SL_nil (nx (SWP_ret (nr ?_)))
      refine fin [_] ⟨rfl, trivial⟩ ?_
      refine congrArg (Value.int .i64) ?_
      first | (exfalso; omega) | exact aE4 b5 | exact aE7 b5 (by omega) | exact aE2 b5 (by omega) (by omega) | (rw [aEf b5 (by omega) (by omega)]; first | rw [if_pos (by omega)] | rw [if_neg (by omega), if_pos (by omega)] | rw [if_neg (by omega), if_neg (by omega)]) | (rw [aEs b5 (by omega) (by omega)]; first | rw [if_pos (by omega)] | rw [if_neg (by omega), if_pos (by omega)] | rw [if_neg (by omega), if_neg (by omega), if_pos (by omega)] | rw [if_neg (by omega), if_neg (by omega), if_neg (by omega)])
    refine pB rfl rfl ?_
    refine SL_no rfl rfl ?_
    refine SL_no rfl rfl ?_
    refine SL_no rfl rfl ?_
    refine pB rfl rfl ?_
    refine SL_nil (nx (SWP_cf rfl (SWP_skip (nx (SWP_seq (SWP_seq (SWP_region ?_)))))))
    refine pu rfl rfl ?_
    refine lw (v := .int .i64 _) B1 2 rfl rfl rfl rfl ?_
    refine SL_pcall rfl rfl cb98 (withinI _ _ _) rfl ?_
    refine psp 17 rfl (fun c17 => ?_) (fun c17 => ?_)
    · skip
      refine pB rfl rfl ?_
      refine SL_nil (nx (SWP_cf rfl (SWP_skip (nx (SWP_seq (SWP_seq (SWP_region ?_)))))))
      refine pu rfl rfl ?_
      refine lw (v := .int .i64 _) B1 1 rfl rfl rfl rfl ?_
      refine pc rfl rfl (fun c21 => ?_) (fun c21 => ?_)
      · skip
        refine SL_nil (nx (SWP_ct rfl (SWP_seq (SWP_seq (SWP_region ?_)))))
        refine pu rfl rfl ?_
        refine lw (v := .int .i64 _) B1 4 rfl rfl rfl rfl ?_
        refine pc rfl rfl (fun c24 => ?_) (fun c24 => ?_)
        · skip
          refine pB rfl rfl ?_
          refine SL_no rfl rfl ?_
          refine SL_no rfl rfl ?_
          refine SL_no rfl rfl ?_
          refine SL_no rfl rfl ?_
          refine pB rfl rfl ?_
          refine SL_nil (nx (SWP_ct rfl (SWP_seq (SWP_region ?_))))
          refine pI rfl rfl ?_
          refine SL_nil (nx (SWP_ret (nr (nr ?_))))
          refine fin [_] ⟨rfl, trivial⟩ ?_
          refine congrArg (Value.int .i64) ?_
          first | (exfalso; omega) | exact aE4 b5 | exact aE7 b5 (by omega) | exact aE2 b5 (by omega) (by omega) | (rw [aEf b5 (by omega) (by omega)]; first | rw [if_pos (by omega)] | rw [if_neg (by omega), if_pos (by omega)] | rw [if_neg (by omega), if_neg (by omega)]) | (rw [aEs b5 (by omega) (by omega)]; first | rw [if_pos (by omega)] | rw [if_neg (by omega), if_pos (by omega)] | rw [if_neg (by omega), if_neg (by omega), if_pos (by omega)] | rw [if_neg (by omega), if_neg (by omega), if_neg (by omega)])
        refine pB rfl rfl ?_
        refine SL_yes rfl ?_
        refine pu rfl rfl ?_
        refine SL_yes rfl ?_
        refine lw (v := .slice _ _ _) B1 5 rfl rfl rfl rfl ?_
        refine SL_yes rfl ?_
        refine pu rfl rfl ?_
        refine SL_yes rfl ?_
        refine pc rfl rfl (fun c29 => ?_) (fun c29 => ?_)
        · skip
          refine pB rfl rfl ?_
          refine SL_nil (nx (SWP_ct rfl (SWP_seq (SWP_region ?_))))
          refine pI rfl rfl ?_
          refine SL_nil (nx (SWP_ret (nr (nr ?_))))
          refine fin [_] ⟨rfl, trivial⟩ ?_
          refine congrArg (Value.int .i64) ?_
          first | (exfalso; omega) | exact aE4 b5 | exact aE7 b5 (by omega) | exact aE2 b5 (by omega) (by omega) | (rw [aEf b5 (by omega) (by omega)]; first | rw [if_pos (by omega)] | rw [if_neg (by omega), if_pos (by omega)] | rw [if_neg (by omega), if_neg (by omega)]) | (rw [aEs b5 (by omega) (by omega)]; first | rw [if_pos (by omega)] | rw [if_neg (by omega), if_pos (by omega)] | rw [if_neg (by omega), if_neg (by omega), if_pos (by omega)] | rw [if_neg (by omega), if_neg (by omega), if_neg (by omega)])
        refine pB rfl rfl ?_
        refine SL_nil (nx (SWP_cf rfl (SWP_skip (nx (SWP_seq (SWP_seq (SWP_region ?_)))))))
        refine pu rfl rfl ?_
        refine lw (v := .slice _ _ _) B1 3 rfl rfl rfl rfl ?_
        refine pu rfl rfl ?_
        refine SL_pcall rfl rfl cb98 (withinI _ _ _) rfl ?_
        refine psp 34 rfl (fun c34 => ?_) (fun c34 => ?_)
        · skip
          refine pB rfl rfl ?_
          refine SL_nil (nx (SWP_cf rfl (SWP_skip (nx (SWP_seq (SWP_region ?_))))))
          refine pu rfl rfl ?_
          refine lw (v := .slice _ _ _) B1 3 rfl rfl rfl rfl ?_
          refine SL_pcall rfl rfl cb128 (checkAllI h.1 (by omega) 1 100) rfl ?_
          first | refine pI rfl rfl ?_ | refine pu rfl rfl ?_
          refine SL_nil (nx (SWP_ret (nr ?_)))
          refine fin [_] ⟨rfl, trivial⟩ ?_
          refine congrArg (Value.int .i64) ?_
          first | (exfalso; omega) | exact aE4 b5 | exact aE7 b5 (by omega) | exact aE2 b5 (by omega) (by omega) | (rw [aEf b5 (by omega) (by omega)]; first | rw [if_pos (by omega)] | rw [if_neg (by omega), if_pos (by omega)] | rw [if_neg (by omega), if_neg (by omega)]) | (rw [aEs b5 (by omega) (by omega)]; first | rw [if_pos (by omega)] | rw [if_neg (by omega), if_pos (by omega)] | rw [if_neg (by omega), if_neg (by omega), if_pos (by omega)] | rw [if_neg (by omega), if_neg (by omega), if_neg (by omega)])
        refine pB rfl rfl ?_
        refine SL_nil (nx (SWP_ct rfl (SWP_seq (SWP_region ?_))))
        refine pI rfl rfl ?_
        refine SL_nil (nx (SWP_ret (nr (nr ?_))))
        refine fin [_] ⟨rfl, trivial⟩ ?_
        refine congrArg (Value.int .i64) ?_
        first | (exfalso; omega) | exact aE4 b5 | exact aE7 b5 (by omega) | exact aE2 b5 (by omega) (by omega) | (rw [aEf b5 (by omega) (by omega)]; first | rw [if_pos (by omega)] | rw [if_neg (by omega), if_pos (by omega)] | rw [if_neg (by omega), if_neg (by omega)]) | (rw [aEs b5 (by omega) (by omega)]; first | rw [if_pos (by omega)] | rw [if_neg (by omega), if_pos (by omega)] | rw [if_neg (by omega), if_neg (by omega), if_pos (by omega)] | rw [if_neg (by omega), if_neg (by omega), if_neg (by omega)])
      refine SL_nil (nx (SWP_cf rfl (SWP_skip (nx (SWP_seq (SWP_seq (SWP_region ?_)))))))
      refine pu rfl rfl ?_
      refine lw (v := .slice _ _ _) B1 3 rfl rfl rfl rfl ?_
      refine pu rfl rfl ?_
      refine pc rfl rfl (fun c42 => ?_) (fun c42 => ?_)
      · skip
        refine SL_nil (nx (SWP_ct rfl (SWP_seq (SWP_region ?_))))
        refine pI rfl rfl ?_
        refine SL_nil (nx (SWP_ret (nr ?_)))
        refine fin [_] ⟨rfl, trivial⟩ ?_
        refine congrArg (Value.int .i64) ?_
        first | (exfalso; omega) | exact aE4 b5 | exact aE7 b5 (by omega) | exact aE2 b5 (by omega) (by omega) | (rw [aEf b5 (by omega) (by omega)]; first | rw [if_pos (by omega)] | rw [if_neg (by omega), if_pos (by omega)] | rw [if_neg (by omega), if_neg (by omega)]) | (rw [aEs b5 (by omega) (by omega)]; first | rw [if_pos (by omega)] | rw [if_neg (by omega), if_pos (by omega)] | rw [if_neg (by omega), if_neg (by omega), if_pos (by omega)] | rw [if_neg (by omega), if_neg (by omega), if_neg (by omega)])
      refine SL_nil (nx (SWP_cf rfl (SWP_skip (nx (SWP_seq (SWP_seq (SWP_region ?_)))))))
      refine pu rfl rfl ?_
      refine lw (v := .int .i64 _) B1 4 rfl rfl rfl rfl ?_
      refine SL_pcall rfl rfl cb98 (withinI _ _ _) rfl ?_
      refine psp 45 rfl (fun c45 => ?_) (fun c45 => ?_)
      · skip
        refine pB rfl rfl ?_
        refine SL_nil (nx (SWP_cf rfl (SWP_skip (nx (SWP_seq (SWP_seq (SWP_region ?_)))))))
        refine pu rfl rfl ?_
        refine lw (v := .slice _ _ _) B1 5 rfl rfl rfl rfl ?_
        refine pu rfl rfl ?_
        refine pu rfl rfl ?_
        refine lw (v := .int .i64 _) B1 4 rfl rfl rfl rfl ?_
        refine pc rfl rfl (fun c52 => ?_) (fun c52 => ?_)
        · skip
          refine SL_nil (nx (SWP_ct rfl (SWP_seq (SWP_region ?_))))
          refine pI rfl rfl ?_
          refine SL_nil (nx (SWP_ret (nr ?_)))
          refine fin [_] ⟨rfl, trivial⟩ ?_
          refine congrArg (Value.int .i64) ?_
          first | (exfalso; omega) | exact aE4 b5 | exact aE7 b5 (by omega) | exact aE2 b5 (by omega) (by omega) | (rw [aEf b5 (by omega) (by omega)]; first | rw [if_pos (by omega)] | rw [if_neg (by omega), if_pos (by omega)] | rw [if_neg (by omega), if_neg (by omega)]) | (rw [aEs b5 (by omega) (by omega)]; first | rw [if_pos (by omega)] | rw [if_neg (by omega), if_pos (by omega)] | rw [if_neg (by omega), if_neg (by omega), if_pos (by omega)] | rw [if_neg (by omega), if_neg (by omega), if_neg (by omega)])
        refine SL_nil (nx (SWP_cf rfl (SWP_skip (nx (SWP_seq (SWP_region ?_))))))
        refine pu rfl rfl ?_
        refine lw (v := .slice _ _ _) B1 5 rfl rfl rfl rfl ?_
        refine SL_pcall rfl rfl cb128 (checkAllI h.2 (by omega) 0 1000000000) rfl ?_
        first | refine pI rfl rfl ?_ | refine pu rfl rfl ?_
        refine SL_nil (nx (SWP_ret ?_))
        refine fin [_] ⟨rfl, trivial⟩ ?_
        refine congrArg (Value.int .i64) ?_
        first | (exfalso; omega) | exact aE4 b5 | exact aE7 b5 (by omega) | exact aE2 b5 (by omega) (by omega) | (rw [aEf b5 (by omega) (by omega)]; first | rw [if_pos (by omega)] | rw [if_neg (by omega), if_pos (by omega)] | rw [if_neg (by omega), if_neg (by omega)]) | (rw [aEs b5 (by omega) (by omega)]; first | rw [if_pos (by omega)] | rw [if_neg (by omega), if_pos (by omega)] | rw [if_neg (by omega), if_neg (by omega), if_pos (by omega)] | rw [if_neg (by omega), if_neg (by omega), if_neg (by omega)])
      refine pB rfl rfl ?_
      refine SL_nil (nx (SWP_ct rfl (SWP_seq (SWP_region ?_))))
      refine pI rfl rfl ?_
      refine SL_nil (nx (SWP_ret (nr ?_)))
      refine fin [_] ⟨rfl, trivial⟩ ?_
      refine congrArg (Value.int .i64) ?_
      first | (exfalso; omega) | exact aE4 b5 | exact aE7 b5 (by omega) | exact aE2 b5 (by omega) (by omega) | (rw [aEf b5 (by omega) (by omega)]; first | rw [if_pos (by omega)] | rw [if_neg (by omega), if_pos (by omega)] | rw [if_neg (by omega), if_neg (by omega)]) | (rw [aEs b5 (by omega) (by omega)]; first | rw [if_pos (by omega)] | rw [if_neg (by omega), if_pos (by omega)] | rw [if_neg (by omega), if_neg (by omega), if_pos (by omega)] | rw [if_neg (by omega), if_neg (by omega), if_neg (by omega)])
    refine pB rfl rfl ?_
    refine SL_nil (nx (SWP_ct rfl (SWP_seq (SWP_region ?_))))
    refine pI rfl rfl ?_
    refine SL_nil (nx (SWP_ret (nr ?_)))
    refine fin [_] ⟨rfl, trivial⟩ ?_
    refine congrArg (Value.int .i64) ?_
    first | (exfalso; omega) | exact aE4 b5 | exact aE7 b5 (by omega) | exact aE2 b5 (by omega) (by omega) | (rw [aEf b5 (by omega) (by omega)]; first | rw [if_pos (by omega)] | rw [if_neg (by omega), if_pos (by omega)] | rw [if_neg (by omega), if_neg (by omega)]) | (rw [aEs b5 (by omega) (by omega)]; first | rw [if_pos (by omega)] | rw [if_neg (by omega), if_pos (by omega)] | rw [if_neg (by omega), if_neg (by omega), if_pos (by omega)] | rw [if_neg (by omega), if_neg (by omega), if_neg (by omega)])
  refine pB rfl rfl ?_
  refine SL_nil (nx (SWP_ct rfl (SWP_seq (SWP_region ?_))))
  refine pI rfl rfl ?_
  refine SL_nil (nx (SWP_ret (nr ?_)))
  refine fin [_] ⟨rfl, trivial⟩ ?_
  refine congrArg (Value.int .i64) ?_
  first | (exfalso; omega) | exact aE4 b5 | exact aE7 b5 (by omega) | exact aE2 b5 (by omega) (by omega) | (rw [aEf b5 (by omega) (by omega)]; first | rw [if_pos (by omega)] | rw [if_neg (by omega), if_pos (by omega)] | rw [if_neg (by omega), if_neg (by omega)]) | (rw [aEs b5 (by omega) (by omega)]; first | rw [if_pos (by omega)] | rw [if_neg (by omega), if_pos (by omega)] | rw [if_neg (by omega), if_neg (by omega), if_pos (by omega)] | rw [if_neg (by omega), if_neg (by omega), if_neg (by omega)])
theorem checkChooseI {m : Mem} (g : Game) (t : Tier) (hk : g.kind ≠ 2) : PureCall Tryz.prog 129 [g.val, t.val] m (.int .i64 (hitsErr g.kind g.main g.bonus g.extra t)) := by
  refine CallsS.pure ?_
  dsimp only [Game.val, Tier.val]
  refine enter Tryz.func129 Tryz.ntmps129 rfl rfl ?_
  refine SWP_seq (SWP_region ?_)
  refine bx (v := .agg _) rfl rfl (fun B2 => ?_)
  refine bx (v := .agg _) rfl rfl (fun B3 => ?_)
  refine pI rfl rfl ?_
  refine SL_nil (nx (SWP_seq (SWP_seq (SWP_region ?_))))
  refine pu rfl rfl ?_
  refine lw (v := .int .i64 _) B3 3 rfl rfl rfl rfl ?_
  refine pc rfl rfl (fun c7 => ?_) (fun c7 => ?_)
  · skip
    refine SL_nil (nx (SWP_ct rfl (SWP_seq (SWP_region ?_))))
    refine pI rfl rfl ?_
    refine SL_nil (nx (SWP_ret (nr ?_)))
    refine fin [_] ⟨rfl, trivial⟩ ?_
    refine congrArg (Value.int .i64) ?_
    unfold hitsErr
    rw [if_neg hk]
    first | rw [if_pos (by omega)] | rw [if_neg (by omega), if_pos (by omega)] | rw [if_neg (by omega), if_neg (by omega)]
  refine SL_nil (nx (SWP_cf rfl (SWP_skip (nx (SWP_seq (SWP_seq (SWP_region ?_)))))))
  refine pu rfl rfl ?_
  refine lw (v := .int .i64 _) B3 0 rfl rfl rfl rfl ?_
  refine pu rfl rfl ?_
  refine lw (v := .int .i64 _) B2 3 rfl rfl rfl rfl ?_
  refine SL_pcall rfl rfl cb98 (withinI _ _ _) rfl ?_
  refine psp 12 rfl (fun c12 => ?_) (fun c12 => ?_)
  · skip
    refine pB rfl rfl ?_
    refine pB rfl rfl ?_
    refine SL_yes rfl ?_
    refine pu rfl rfl ?_
    refine SL_yes rfl ?_
    refine lw (v := .int .i64 _) B3 1 rfl rfl rfl rfl ?_
    refine SL_yes rfl ?_
    refine pu rfl rfl ?_
    refine SL_yes rfl ?_
    refine lw (v := .int .i64 _) B2 5 rfl rfl rfl rfl ?_
    refine SL_yes rfl ?_
    refine SL_pcall rfl rfl cb98 (withinI _ _ _) rfl ?_
    refine psp 19 rfl (fun c19 => ?_) (fun c19 => ?_)
    · skip
      refine SL_yes rfl ?_
      refine pB rfl rfl ?_
      refine pB rfl rfl ?_
      refine pB rfl rfl ?_
      refine SL_yes rfl ?_
      refine pu rfl rfl ?_
      refine SL_yes rfl ?_
      refine lw (v := .int .i64 _) B3 2 rfl rfl rfl rfl ?_
      refine SL_yes rfl ?_
      refine pu rfl rfl ?_
      refine SL_yes rfl ?_
      refine lw (v := .int .i64 _) B2 7 rfl rfl rfl rfl ?_
      refine SL_yes rfl ?_
      refine SL_pcall rfl rfl cb98 (withinI _ _ _) rfl ?_
      refine psp 27 rfl (fun c27 => ?_) (fun c27 => ?_)
      · skip
        refine SL_yes rfl ?_
        refine pB rfl rfl ?_
        refine pB rfl rfl ?_
        refine SL_nil (nx (SWP_cf rfl (SWP_skip (nx (SWP_seq (SWP_seq (SWP_region ?_)))))))
        refine pu rfl rfl ?_
        refine lw (v := .int .i64 _) B3 0 rfl rfl rfl rfl ?_
        refine pc rfl rfl (fun c32 => ?_) (fun c32 => ?_)
        · skip
          refine pB rfl rfl ?_
          refine SL_yes rfl ?_
          refine pu rfl rfl ?_
          refine SL_yes rfl ?_
          refine lw (v := .int .i64 _) B3 1 rfl rfl rfl rfl ?_
          refine SL_yes rfl ?_
          refine pc rfl rfl (fun c36 => ?_) (fun c36 => ?_)
          · skip
            refine pB rfl rfl ?_
            refine pB rfl rfl ?_
            refine SL_yes rfl ?_
            refine pu rfl rfl ?_
            refine SL_yes rfl ?_
            refine lw (v := .int .i64 _) B3 2 rfl rfl rfl rfl ?_
            refine SL_yes rfl ?_
            refine pc rfl rfl (fun c41 => ?_) (fun c41 => ?_)
            · skip
              refine pB rfl rfl ?_
              refine SL_nil (nx (SWP_ct rfl (SWP_seq (SWP_region ?_))))
              refine pI rfl rfl ?_
              refine SL_nil (nx (SWP_ret (nr ?_)))
              refine fin [_] ⟨rfl, trivial⟩ ?_
              refine congrArg (Value.int .i64) ?_
              unfold hitsErr
              rw [if_neg hk]
              first | rw [if_pos (by omega)] | rw [if_neg (by omega), if_pos (by omega)] | rw [if_neg (by omega), if_neg (by omega)]
            refine pB rfl rfl ?_
            refine SL_nil (nx (SWP_cf rfl (SWP_skip (nx (SWP_seq (SWP_region ?_))))))
            refine pI rfl rfl ?_
            refine SL_nil (nx (SWP_ret ?_))
            refine fin [_] ⟨rfl, trivial⟩ ?_
            refine congrArg (Value.int .i64) ?_
            unfold hitsErr
            rw [if_neg hk]
            first | rw [if_pos (by omega)] | rw [if_neg (by omega), if_pos (by omega)] | rw [if_neg (by omega), if_neg (by omega)]
          refine pB rfl rfl ?_
          refine pB rfl rfl ?_
          refine SL_no rfl rfl ?_
          refine SL_no rfl rfl ?_
          refine SL_no rfl rfl ?_
          refine pB rfl rfl ?_
          refine SL_nil (nx (SWP_cf rfl (SWP_skip (nx (SWP_seq (SWP_region ?_))))))
          refine pI rfl rfl ?_
          refine SL_nil (nx (SWP_ret ?_))
          refine fin [_] ⟨rfl, trivial⟩ ?_
          refine congrArg (Value.int .i64) ?_
          unfold hitsErr
          rw [if_neg hk]
          first | rw [if_pos (by omega)] | rw [if_neg (by omega), if_pos (by omega)] | rw [if_neg (by omega), if_neg (by omega)]
        refine pB rfl rfl ?_
        refine SL_no rfl rfl ?_
        refine SL_no rfl rfl ?_
        refine SL_no rfl rfl ?_
        refine pB rfl rfl ?_
        refine pB rfl rfl ?_
        refine SL_no rfl rfl ?_
        refine SL_no rfl rfl ?_
        refine SL_no rfl rfl ?_
        refine pB rfl rfl ?_
        refine SL_nil (nx (SWP_cf rfl (SWP_skip (nx (SWP_seq (SWP_region ?_))))))
        refine pI rfl rfl ?_
        refine SL_nil (nx (SWP_ret ?_))
        refine fin [_] ⟨rfl, trivial⟩ ?_
        refine congrArg (Value.int .i64) ?_
        unfold hitsErr
        rw [if_neg hk]
        first | rw [if_pos (by omega)] | rw [if_neg (by omega), if_pos (by omega)] | rw [if_neg (by omega), if_neg (by omega)]
      refine SL_yes rfl ?_
      refine pB rfl rfl ?_
      refine pB rfl rfl ?_
      refine SL_nil (nx (SWP_ct rfl (SWP_seq (SWP_region ?_))))
      refine pI rfl rfl ?_
      refine SL_nil (nx (SWP_ret (nr ?_)))
      refine fin [_] ⟨rfl, trivial⟩ ?_
      refine congrArg (Value.int .i64) ?_
      unfold hitsErr
      rw [if_neg hk]
      first | rw [if_pos (by omega)] | rw [if_neg (by omega), if_pos (by omega)] | rw [if_neg (by omega), if_neg (by omega)]
    refine SL_yes rfl ?_
    refine pB rfl rfl ?_
    refine pB rfl rfl ?_
    refine pB rfl rfl ?_
    refine SL_no rfl rfl ?_
    refine SL_no rfl rfl ?_
    refine SL_no rfl rfl ?_
    refine SL_no rfl rfl ?_
    refine SL_no rfl rfl ?_
    refine SL_no rfl rfl ?_
    refine pB rfl rfl ?_
    refine SL_nil (nx (SWP_ct rfl (SWP_seq (SWP_region ?_))))
    refine pI rfl rfl ?_
    refine SL_nil (nx (SWP_ret (nr ?_)))
    refine fin [_] ⟨rfl, trivial⟩ ?_
    refine congrArg (Value.int .i64) ?_
    unfold hitsErr
    rw [if_neg hk]
    first | rw [if_pos (by omega)] | rw [if_neg (by omega), if_pos (by omega)] | rw [if_neg (by omega), if_neg (by omega)]
  refine pB rfl rfl ?_
  refine pB rfl rfl ?_
  refine SL_no rfl rfl ?_
  refine SL_no rfl rfl ?_
  refine SL_no rfl rfl ?_
  refine SL_no rfl rfl ?_
  refine SL_no rfl rfl ?_
  refine SL_no rfl rfl ?_
  refine pB rfl rfl ?_
  refine pB rfl rfl ?_
  refine SL_no rfl rfl ?_
  refine SL_no rfl rfl ?_
  refine SL_no rfl rfl ?_
  refine SL_no rfl rfl ?_
  refine SL_no rfl rfl ?_
  refine SL_no rfl rfl ?_
  refine pB rfl rfl ?_
  refine SL_nil (nx (SWP_ct rfl (SWP_seq (SWP_region ?_))))
  refine pI rfl rfl ?_
  refine SL_nil (nx (SWP_ret (nr ?_)))
  refine fin [_] ⟨rfl, trivial⟩ ?_
  refine congrArg (Value.int .i64) ?_
  unfold hitsErr
  rw [if_neg hk]
  first | rw [if_pos (by omega)] | rw [if_neg (by omega), if_pos (by omega)] | rw [if_neg (by omega), if_neg (by omega)]
theorem checkDigitsI {m : Mem} (g : Game) (t : Tier) (hk : g.kind = 2) : PureCall Tryz.prog 130 [g.val, t.val] m (.int .i64 (hitsErr g.kind g.main g.bonus g.extra t)) := by
  refine CallsS.pure ?_
  dsimp only [Game.val, Tier.val]
  refine enter Tryz.func130 Tryz.ntmps130 rfl rfl ?_
  refine SWP_seq (SWP_region ?_)
  refine bx (v := .agg _) rfl rfl (fun B2 => ?_)
  refine bx (v := .agg _) rfl rfl (fun B3 => ?_)
  refine pI rfl rfl ?_
  refine SL_nil (nx (SWP_seq (SWP_region ?_)))
  refine pI rfl rfl ?_
  refine pI rfl rfl ?_
  refine SL_nil (nx (SWP_seq (SWP_seq (SWP_region ?_))))
  refine pu rfl rfl ?_
  refine lw (v := .int .i64 _) B3 3 rfl rfl rfl rfl ?_
  refine SL_nil (nx (SWP_block (SWP_seq (SWP_seq (SWP_region ?_)))))
  refine pc rfl rfl (fun c10 => ?_) (fun c10 => ?_)
  · skip
    refine pB rfl rfl ?_
    refine SL_nil (nx (SWP_ct rfl (SWP_skip (nx (SWP_ct rfl (SWP_skip (nb (nx (SWP_seq (SWP_seq (SWP_region ?_)))))))))))
    refine pu rfl rfl ?_
    refine lw (v := .int .i64 _) B3 1 rfl rfl rfl rfl ?_
    refine pc rfl rfl (fun c19 => ?_) (fun c19 => ?_)
    · skip
      refine pB rfl rfl ?_
      refine SL_no rfl rfl ?_
      refine SL_no rfl rfl ?_
      refine SL_no rfl rfl ?_
      refine pB rfl rfl ?_
      refine pB rfl rfl ?_
      refine SL_no rfl rfl ?_
      refine SL_no rfl rfl ?_
      refine SL_no rfl rfl ?_
      refine SL_no rfl rfl ?_
      refine SL_no rfl rfl ?_
      refine SL_no rfl rfl ?_
      refine pB rfl rfl ?_
      refine SL_nil (nx (SWP_ct rfl (SWP_seq (SWP_region ?_))))
      refine pI rfl rfl ?_
      refine SL_nil (nx (SWP_ret (nr ?_)))
      refine fin [_] ⟨rfl, trivial⟩ ?_
      refine congrArg (Value.int .i64) ?_
      unfold hitsErr
      rw [if_pos hk]
      first | rw [if_pos (by omega)] | rw [if_neg (by omega), if_pos (by omega)] | rw [if_neg (by omega), if_neg (by omega)]
    refine pB rfl rfl ?_
    refine SL_yes rfl ?_
    refine pu rfl rfl ?_
    refine SL_yes rfl ?_
    refine lw (v := .int .i64 _) B3 2 rfl rfl rfl rfl ?_
    refine SL_yes rfl ?_
    refine pc rfl rfl (fun c23 => ?_) (fun c23 => ?_)
    · skip
      refine pB rfl rfl ?_
      refine pB rfl rfl ?_
      refine SL_no rfl rfl ?_
      refine SL_no rfl rfl ?_
      refine SL_no rfl rfl ?_
      refine SL_no rfl rfl ?_
      refine SL_no rfl rfl ?_
      refine SL_no rfl rfl ?_
      refine pB rfl rfl ?_
      refine SL_nil (nx (SWP_ct rfl (SWP_seq (SWP_region ?_))))
      refine pI rfl rfl ?_
      refine SL_nil (nx (SWP_ret (nr ?_)))
      refine fin [_] ⟨rfl, trivial⟩ ?_
      refine congrArg (Value.int .i64) ?_
      unfold hitsErr
      rw [if_pos hk]
      first | rw [if_pos (by omega)] | rw [if_neg (by omega), if_pos (by omega)] | rw [if_neg (by omega), if_neg (by omega)]
    refine pB rfl rfl ?_
    refine pB rfl rfl ?_
    refine SL_yes rfl ?_
    refine pu rfl rfl ?_
    refine SL_yes rfl ?_
    refine lw (v := .int .i64 _) B3 0 rfl rfl rfl rfl ?_
    refine SL_yes rfl ?_
    refine pI rfl rfl ?_
    refine SL_yes rfl ?_
    refine pI rfl rfl ?_
    refine SL_yes rfl ?_
    refine SL_pcall rfl rfl cb98 (withinI _ _ _) rfl ?_
    refine psp 30 rfl (fun c30 => ?_) (fun c30 => ?_)
    · skip
      refine SL_yes rfl ?_
      refine pB rfl rfl ?_
      refine pB rfl rfl ?_
      refine SL_nil (nx (SWP_cf rfl (SWP_skip (nx (SWP_seq (SWP_region ?_))))))
      refine pI rfl rfl ?_
      refine SL_nil (nx (SWP_ret ?_))
      refine fin [_] ⟨rfl, trivial⟩ ?_
      refine congrArg (Value.int .i64) ?_
      unfold hitsErr
      rw [if_pos hk]
      first | rw [if_pos (by omega)] | rw [if_neg (by omega), if_pos (by omega)] | rw [if_neg (by omega), if_neg (by omega)]
    refine SL_yes rfl ?_
    refine pB rfl rfl ?_
    refine pB rfl rfl ?_
    refine SL_nil (nx (SWP_ct rfl (SWP_seq (SWP_region ?_))))
    refine pI rfl rfl ?_
    refine SL_nil (nx (SWP_ret (nr ?_)))
    refine fin [_] ⟨rfl, trivial⟩ ?_
    refine congrArg (Value.int .i64) ?_
    unfold hitsErr
    rw [if_pos hk]
    first | rw [if_pos (by omega)] | rw [if_neg (by omega), if_pos (by omega)] | rw [if_neg (by omega), if_neg (by omega)]
  refine pB rfl rfl ?_
  refine SL_nil (nx (SWP_cf rfl (SWP_region ?_)))
  refine pc rfl rfl (fun c11 => ?_) (fun c11 => ?_)
  · skip
    refine pB rfl rfl ?_
    refine SL_nil (nx (SWP_ct rfl (SWP_skip (nb (nx (SWP_seq (SWP_seq (SWP_region ?_))))))))
    refine pu rfl rfl ?_
    refine lw (v := .int .i64 _) B3 1 rfl rfl rfl rfl ?_
    refine pc rfl rfl (fun c19 => ?_) (fun c19 => ?_)
    · skip
      refine pB rfl rfl ?_
      refine SL_no rfl rfl ?_
      refine SL_no rfl rfl ?_
      refine SL_no rfl rfl ?_
      refine pB rfl rfl ?_
      refine pB rfl rfl ?_
      refine SL_no rfl rfl ?_
      refine SL_no rfl rfl ?_
      refine SL_no rfl rfl ?_
      refine SL_no rfl rfl ?_
      refine SL_no rfl rfl ?_
      refine SL_no rfl rfl ?_
      refine pB rfl rfl ?_
      refine SL_nil (nx (SWP_ct rfl (SWP_seq (SWP_region ?_))))
      refine pI rfl rfl ?_
      refine SL_nil (nx (SWP_ret (nr ?_)))
      refine fin [_] ⟨rfl, trivial⟩ ?_
      refine congrArg (Value.int .i64) ?_
      unfold hitsErr
      rw [if_pos hk]
      first | rw [if_pos (by omega)] | rw [if_neg (by omega), if_pos (by omega)] | rw [if_neg (by omega), if_neg (by omega)]
    refine pB rfl rfl ?_
    refine SL_yes rfl ?_
    refine pu rfl rfl ?_
    refine SL_yes rfl ?_
    refine lw (v := .int .i64 _) B3 2 rfl rfl rfl rfl ?_
    refine SL_yes rfl ?_
    refine pc rfl rfl (fun c23 => ?_) (fun c23 => ?_)
    · skip
      refine pB rfl rfl ?_
      refine pB rfl rfl ?_
      refine SL_no rfl rfl ?_
      refine SL_no rfl rfl ?_
      refine SL_no rfl rfl ?_
      refine SL_no rfl rfl ?_
      refine SL_no rfl rfl ?_
      refine SL_no rfl rfl ?_
      refine pB rfl rfl ?_
      refine SL_nil (nx (SWP_ct rfl (SWP_seq (SWP_region ?_))))
      refine pI rfl rfl ?_
      refine SL_nil (nx (SWP_ret (nr ?_)))
      refine fin [_] ⟨rfl, trivial⟩ ?_
      refine congrArg (Value.int .i64) ?_
      unfold hitsErr
      rw [if_pos hk]
      first | rw [if_pos (by omega)] | rw [if_neg (by omega), if_pos (by omega)] | rw [if_neg (by omega), if_neg (by omega)]
    refine pB rfl rfl ?_
    refine pB rfl rfl ?_
    refine SL_yes rfl ?_
    refine pu rfl rfl ?_
    refine SL_yes rfl ?_
    refine lw (v := .int .i64 _) B3 0 rfl rfl rfl rfl ?_
    refine SL_yes rfl ?_
    refine pI rfl rfl ?_
    refine SL_yes rfl ?_
    refine pI rfl rfl ?_
    refine SL_yes rfl ?_
    refine SL_pcall rfl rfl cb98 (withinI _ _ _) rfl ?_
    refine psp 30 rfl (fun c30 => ?_) (fun c30 => ?_)
    · skip
      refine SL_yes rfl ?_
      refine pB rfl rfl ?_
      refine pB rfl rfl ?_
      refine SL_nil (nx (SWP_cf rfl (SWP_skip (nx (SWP_seq (SWP_region ?_))))))
      refine pI rfl rfl ?_
      refine SL_nil (nx (SWP_ret ?_))
      refine fin [_] ⟨rfl, trivial⟩ ?_
      refine congrArg (Value.int .i64) ?_
      unfold hitsErr
      rw [if_pos hk]
      first | rw [if_pos (by omega)] | rw [if_neg (by omega), if_pos (by omega)] | rw [if_neg (by omega), if_neg (by omega)]
    refine SL_yes rfl ?_
    refine pB rfl rfl ?_
    refine pB rfl rfl ?_
    refine SL_nil (nx (SWP_ct rfl (SWP_seq (SWP_region ?_))))
    refine pI rfl rfl ?_
    refine SL_nil (nx (SWP_ret (nr ?_)))
    refine fin [_] ⟨rfl, trivial⟩ ?_
    refine congrArg (Value.int .i64) ?_
    unfold hitsErr
    rw [if_pos hk]
    first | rw [if_pos (by omega)] | rw [if_neg (by omega), if_pos (by omega)] | rw [if_neg (by omega), if_neg (by omega)]
  refine pB rfl rfl ?_
  refine SL_nil (nx (SWP_cf rfl (SWP_seq (SWP_seq (SWP_region ?_)))))
  refine pc rfl rfl (fun c13 => ?_) (fun c13 => ?_)
  · skip
    refine pB rfl rfl ?_
    refine SL_nil (nx (SWP_ct rfl (SWP_skip (nx (SWP_ct rfl ?_)))))
    refine SWP_draws (by kernel_rfl) (by kernel_rfl) ?_
    refine pu rfl rfl ?_
    refine lw (v := .int .i64 _) B2 3 rfl rfl rfl rfl ?_
    refine pI rfl rfl ?_
    refine pI rfl rfl ?_
    refine SL_nil (nb (nx (SWP_seq (SWP_seq (SWP_region ?_)))))
    refine pu rfl rfl ?_
    refine lw (v := .int .i64 _) B3 1 rfl rfl rfl rfl ?_
    refine pc rfl rfl (fun c19 => ?_) (fun c19 => ?_)
    · skip
      refine pB rfl rfl ?_
      refine SL_no rfl rfl ?_
      refine SL_no rfl rfl ?_
      refine SL_no rfl rfl ?_
      refine pB rfl rfl ?_
      refine pB rfl rfl ?_
      refine SL_no rfl rfl ?_
      refine SL_no rfl rfl ?_
      refine SL_no rfl rfl ?_
      refine SL_no rfl rfl ?_
      refine SL_no rfl rfl ?_
      refine SL_no rfl rfl ?_
      refine pB rfl rfl ?_
      refine SL_nil (nx (SWP_ct rfl (SWP_seq (SWP_region ?_))))
      refine pI rfl rfl ?_
      refine SL_nil (nx (SWP_ret (nr ?_)))
      refine fin [_] ⟨rfl, trivial⟩ ?_
      refine congrArg (Value.int .i64) ?_
      unfold hitsErr
      rw [if_pos hk]
      first | rw [if_pos (by omega)] | rw [if_neg (by omega), if_pos (by omega)] | rw [if_neg (by omega), if_neg (by omega)]
    refine pB rfl rfl ?_
    refine SL_yes rfl ?_
    refine pu rfl rfl ?_
    refine SL_yes rfl ?_
    refine lw (v := .int .i64 _) B3 2 rfl rfl rfl rfl ?_
    refine SL_yes rfl ?_
    refine pc rfl rfl (fun c23 => ?_) (fun c23 => ?_)
    · skip
      refine pB rfl rfl ?_
      refine pB rfl rfl ?_
      refine SL_no rfl rfl ?_
      refine SL_no rfl rfl ?_
      refine SL_no rfl rfl ?_
      refine SL_no rfl rfl ?_
      refine SL_no rfl rfl ?_
      refine SL_no rfl rfl ?_
      refine pB rfl rfl ?_
      refine SL_nil (nx (SWP_ct rfl (SWP_seq (SWP_region ?_))))
      refine pI rfl rfl ?_
      refine SL_nil (nx (SWP_ret (nr ?_)))
      refine fin [_] ⟨rfl, trivial⟩ ?_
      refine congrArg (Value.int .i64) ?_
      unfold hitsErr
      rw [if_pos hk]
      first | rw [if_pos (by omega)] | rw [if_neg (by omega), if_pos (by omega)] | rw [if_neg (by omega), if_neg (by omega)]
    refine pB rfl rfl ?_
    refine pB rfl rfl ?_
    refine SL_yes rfl ?_
    refine pu rfl rfl ?_
    refine SL_yes rfl ?_
    refine lw (v := .int .i64 _) B3 0 rfl rfl rfl rfl ?_
    refine SL_yes rfl ?_
    refine pI rfl rfl ?_
    refine SL_yes rfl ?_
    refine pI rfl rfl ?_
    refine SL_yes rfl ?_
    refine SL_pcall rfl rfl cb98 (withinI _ _ _) rfl ?_
    refine psp 30 rfl (fun c30 => ?_) (fun c30 => ?_)
    · skip
      refine SL_yes rfl ?_
      refine pB rfl rfl ?_
      refine pB rfl rfl ?_
      refine SL_nil (nx (SWP_cf rfl (SWP_skip (nx (SWP_seq (SWP_region ?_))))))
      refine pI rfl rfl ?_
      refine SL_nil (nx (SWP_ret ?_))
      refine fin [_] ⟨rfl, trivial⟩ ?_
      refine congrArg (Value.int .i64) ?_
      unfold hitsErr
      rw [if_pos hk]
      first | rw [if_pos (by omega)] | rw [if_neg (by omega), if_pos (by omega)] | rw [if_neg (by omega), if_neg (by omega)]
    refine SL_yes rfl ?_
    refine pB rfl rfl ?_
    refine pB rfl rfl ?_
    refine SL_nil (nx (SWP_ct rfl (SWP_seq (SWP_region ?_))))
    refine pI rfl rfl ?_
    refine SL_nil (nx (SWP_ret (nr ?_)))
    refine fin [_] ⟨rfl, trivial⟩ ?_
    refine congrArg (Value.int .i64) ?_
    unfold hitsErr
    rw [if_pos hk]
    first | rw [if_pos (by omega)] | rw [if_neg (by omega), if_pos (by omega)] | rw [if_neg (by omega), if_neg (by omega)]
  refine pB rfl rfl ?_
  refine SL_nil (nx (SWP_cf rfl (SWP_region ?_)))
  refine pc rfl rfl (fun c14 => ?_) (fun c14 => ?_)
  · skip
    refine pB rfl rfl ?_
    refine SL_nil (nx (SWP_ct rfl ?_))
    refine SWP_draws (by kernel_rfl) (by kernel_rfl) ?_
    refine pu rfl rfl ?_
    refine lw (v := .int .i64 _) B2 3 rfl rfl rfl rfl ?_
    refine pI rfl rfl ?_
    refine pI rfl rfl ?_
    refine SL_nil (nb (nx (SWP_seq (SWP_seq (SWP_region ?_)))))
    refine pu rfl rfl ?_
    refine lw (v := .int .i64 _) B3 1 rfl rfl rfl rfl ?_
    refine pc rfl rfl (fun c19 => ?_) (fun c19 => ?_)
    · skip
      refine pB rfl rfl ?_
      refine SL_no rfl rfl ?_
      refine SL_no rfl rfl ?_
      refine SL_no rfl rfl ?_
      refine pB rfl rfl ?_
      refine pB rfl rfl ?_
      refine SL_no rfl rfl ?_
      refine SL_no rfl rfl ?_
      refine SL_no rfl rfl ?_
      refine SL_no rfl rfl ?_
      refine SL_no rfl rfl ?_
      refine SL_no rfl rfl ?_
      refine pB rfl rfl ?_
      refine SL_nil (nx (SWP_ct rfl (SWP_seq (SWP_region ?_))))
      refine pI rfl rfl ?_
      refine SL_nil (nx (SWP_ret (nr ?_)))
      refine fin [_] ⟨rfl, trivial⟩ ?_
      refine congrArg (Value.int .i64) ?_
      unfold hitsErr
      rw [if_pos hk]
      first | rw [if_pos (by omega)] | rw [if_neg (by omega), if_pos (by omega)] | rw [if_neg (by omega), if_neg (by omega)]
    refine pB rfl rfl ?_
    refine SL_yes rfl ?_
    refine pu rfl rfl ?_
    refine SL_yes rfl ?_
    refine lw (v := .int .i64 _) B3 2 rfl rfl rfl rfl ?_
    refine SL_yes rfl ?_
    refine pc rfl rfl (fun c23 => ?_) (fun c23 => ?_)
    · skip
      refine pB rfl rfl ?_
      refine pB rfl rfl ?_
      refine SL_no rfl rfl ?_
      refine SL_no rfl rfl ?_
      refine SL_no rfl rfl ?_
      refine SL_no rfl rfl ?_
      refine SL_no rfl rfl ?_
      refine SL_no rfl rfl ?_
      refine pB rfl rfl ?_
      refine SL_nil (nx (SWP_ct rfl (SWP_seq (SWP_region ?_))))
      refine pI rfl rfl ?_
      refine SL_nil (nx (SWP_ret (nr ?_)))
      refine fin [_] ⟨rfl, trivial⟩ ?_
      refine congrArg (Value.int .i64) ?_
      unfold hitsErr
      rw [if_pos hk]
      first | rw [if_pos (by omega)] | rw [if_neg (by omega), if_pos (by omega)] | rw [if_neg (by omega), if_neg (by omega)]
    refine pB rfl rfl ?_
    refine pB rfl rfl ?_
    refine SL_yes rfl ?_
    refine pu rfl rfl ?_
    refine SL_yes rfl ?_
    refine lw (v := .int .i64 _) B3 0 rfl rfl rfl rfl ?_
    refine SL_yes rfl ?_
    refine pI rfl rfl ?_
    refine SL_yes rfl ?_
    refine pI rfl rfl ?_
    refine SL_yes rfl ?_
    refine SL_pcall rfl rfl cb98 (withinI _ _ _) rfl ?_
    refine psp 30 rfl (fun c30 => ?_) (fun c30 => ?_)
    · skip
      refine SL_yes rfl ?_
      refine pB rfl rfl ?_
      refine pB rfl rfl ?_
      refine SL_nil (nx (SWP_cf rfl (SWP_skip (nx (SWP_seq (SWP_region ?_))))))
      refine pI rfl rfl ?_
      refine SL_nil (nx (SWP_ret ?_))
      refine fin [_] ⟨rfl, trivial⟩ ?_
      refine congrArg (Value.int .i64) ?_
      unfold hitsErr
      rw [if_pos hk]
      first | rw [if_pos (by omega)] | rw [if_neg (by omega), if_pos (by omega)] | rw [if_neg (by omega), if_neg (by omega)]
    refine SL_yes rfl ?_
    refine pB rfl rfl ?_
    refine pB rfl rfl ?_
    refine SL_nil (nx (SWP_ct rfl (SWP_seq (SWP_region ?_))))
    refine pI rfl rfl ?_
    refine SL_nil (nx (SWP_ret (nr ?_)))
    refine fin [_] ⟨rfl, trivial⟩ ?_
    refine congrArg (Value.int .i64) ?_
    unfold hitsErr
    rw [if_pos hk]
    first | rw [if_pos (by omega)] | rw [if_neg (by omega), if_pos (by omega)] | rw [if_neg (by omega), if_neg (by omega)]
  refine pB rfl rfl ?_
  refine SL_nil (nx (SWP_cf rfl (SWP_seq (SWP_region ?_))))
  refine pI rfl rfl ?_
  refine SL_nil (nx (SWP_ret (br (nr ?_))))
  refine fin [_] ⟨rfl, trivial⟩ ?_
  refine congrArg (Value.int .i64) ?_
  unfold hitsErr
  rw [if_pos hk]
  first | rw [if_pos (by omega)] | rw [if_neg (by omega), if_pos (by omega)] | rw [if_neg (by omega), if_neg (by omega)]
theorem checkTierI {m : Mem} (g : Game) (t : Tier) : PureCall Tryz.prog 100 [g.val, t.val] m (.int .i64 (tierErr g t)) := by
  refine CallsS.pure ?_
  dsimp only [Game.val, Tier.val]
  refine enter Tryz.func100 Tryz.ntmps100 rfl rfl ?_
  refine SWP_seq (SWP_region ?_)
  refine bx (v := .agg _) rfl rfl (fun B2 => ?_)
  refine bx (v := .agg _) rfl rfl (fun B3 => ?_)
  refine pI rfl rfl ?_
  refine SL_nil (nx (SWP_seq (SWP_region ?_)))
  refine pu rfl rfl ?_
  refine SL_nil (nx (SWP_seq (SWP_seq (SWP_region ?_))))
  refine pu rfl rfl ?_
  refine lw (v := .int .i64 _) B2 1 rfl rfl rfl rfl ?_
  refine pc rfl rfl (fun c9 => ?_) (fun c9 => ?_)
  · skip
    refine SL_nil (nx (SWP_ct rfl (SWP_region ?_)))
    refine pu rfl rfl ?_
    refine SL_nil (nx (SWP_seq (SWP_seq (SWP_region ?_))))
    refine pu rfl rfl ?_
    refine lw (v := .agg _) B2 0 rfl rfl rfl rfl ?_
    refine lw (v := .agg _) B3 0 rfl rfl rfl rfl ?_
    refine SL_pcall rfl rfl cb130 (checkDigitsI g t (by omega)) rfl ?_
    first | refine pI rfl rfl ?_ | refine pu rfl rfl ?_
    refine SL_nil (nx (SWP_seq (SWP_region ?_)))
    first | refine pI rfl rfl ?_ | refine pu rfl rfl ?_
    refine pc rfl rfl (fun c15 => ?_) (fun c15 => ?_)
    · skip
      refine SL_nil (nx (SWP_ct rfl (SWP_seq (SWP_region ?_))))
      first | refine pI rfl rfl ?_ | refine pu rfl rfl ?_
      first | refine pI rfl rfl ?_ | refine pu rfl rfl ?_
      refine SL_nil (nx (SWP_ret (nr ?_)))
      refine fin [_] ⟨rfl, trivial⟩ ?_
      refine congrArg (Value.int .i64) ?_
      unfold tierErr
      first | rw [if_pos (by omega)] | rw [if_neg (by omega), if_pos (by omega)] | rw [if_neg (by omega), if_neg (by omega), if_pos (by omega)] | rw [if_neg (by omega), if_neg (by omega), if_neg (by omega)]
    refine SL_nil (nx (SWP_cf rfl (SWP_skip (nx (SWP_seq (SWP_seq (SWP_region ?_)))))))
    refine pu rfl rfl ?_
    refine lw (v := .int .i64 _) B3 4 rfl rfl rfl rfl ?_
    refine pc rfl rfl (fun c19 => ?_) (fun c19 => ?_)
    · skip
      refine pB rfl rfl ?_
      refine SL_yes rfl ?_
      refine pu rfl rfl ?_
      refine SL_yes rfl ?_
      refine lw (v := .int .i64 _) B3 4 rfl rfl rfl rfl ?_
      refine SL_yes rfl ?_
      refine pc rfl rfl (fun c23 => ?_) (fun c23 => ?_)
      · skip
        refine pB rfl rfl ?_
        refine pB rfl rfl ?_
        refine SL_yes rfl ?_
        refine pu rfl rfl ?_
        refine SL_yes rfl ?_
        refine lw (v := .int .i64 _) B3 4 rfl rfl rfl rfl ?_
        refine SL_yes rfl ?_
        refine pc rfl rfl (fun c28 => ?_) (fun c28 => ?_)
        · skip
          refine pB rfl rfl ?_
          refine SL_nil (nx (SWP_ct rfl (SWP_seq (SWP_region ?_))))
          refine pI rfl rfl ?_
          refine SL_nil (nx (SWP_ret (nr ?_)))
          refine fin [_] ⟨rfl, trivial⟩ ?_
          refine congrArg (Value.int .i64) ?_
          unfold tierErr
          first | rw [if_pos (by omega)] | rw [if_neg (by omega), if_pos (by omega)] | rw [if_neg (by omega), if_neg (by omega), if_pos (by omega)] | rw [if_neg (by omega), if_neg (by omega), if_neg (by omega)]
        refine pB rfl rfl ?_
        refine SL_nil (nx (SWP_cf rfl (SWP_skip (nx (SWP_seq (SWP_seq (SWP_region ?_)))))))
        refine pu rfl rfl ?_
        refine lw (v := .int .i64 _) B3 5 rfl rfl rfl rfl ?_
        refine SL_pcall rfl rfl cb98 (withinI _ _ _) rfl ?_
        refine psp 32 rfl (fun c32 => ?_) (fun c32 => ?_)
        · skip
          refine pB rfl rfl ?_
          refine SL_nil (nx (SWP_cf rfl (SWP_skip (nx (SWP_seq (SWP_region ?_))))))
          refine pI rfl rfl ?_
          refine SL_nil (nx (SWP_ret ?_))
          refine fin [_] ⟨rfl, trivial⟩ ?_
          refine congrArg (Value.int .i64) ?_
          unfold tierErr
          first | rw [if_pos (by omega)] | rw [if_neg (by omega), if_pos (by omega)] | rw [if_neg (by omega), if_neg (by omega), if_pos (by omega)] | rw [if_neg (by omega), if_neg (by omega), if_neg (by omega)]
        refine pB rfl rfl ?_
        refine SL_nil (nx (SWP_ct rfl (SWP_seq (SWP_region ?_))))
        refine pI rfl rfl ?_
        refine SL_nil (nx (SWP_ret (nr ?_)))
        refine fin [_] ⟨rfl, trivial⟩ ?_
        refine congrArg (Value.int .i64) ?_
        unfold tierErr
        first | rw [if_pos (by omega)] | rw [if_neg (by omega), if_pos (by omega)] | rw [if_neg (by omega), if_neg (by omega), if_pos (by omega)] | rw [if_neg (by omega), if_neg (by omega), if_neg (by omega)]
      refine pB rfl rfl ?_
      refine pB rfl rfl ?_
      refine SL_no rfl rfl ?_
      refine SL_no rfl rfl ?_
      refine SL_no rfl rfl ?_
      refine pB rfl rfl ?_
      refine SL_nil (nx (SWP_cf rfl (SWP_skip (nx (SWP_seq (SWP_seq (SWP_region ?_)))))))
      refine pu rfl rfl ?_
      refine lw (v := .int .i64 _) B3 5 rfl rfl rfl rfl ?_
      refine SL_pcall rfl rfl cb98 (withinI _ _ _) rfl ?_
      refine psp 32 rfl (fun c32 => ?_) (fun c32 => ?_)
      · skip
        refine pB rfl rfl ?_
        refine SL_nil (nx (SWP_cf rfl (SWP_skip (nx (SWP_seq (SWP_region ?_))))))
        refine pI rfl rfl ?_
        refine SL_nil (nx (SWP_ret ?_))
        refine fin [_] ⟨rfl, trivial⟩ ?_
        refine congrArg (Value.int .i64) ?_
        unfold tierErr
        first | rw [if_pos (by omega)] | rw [if_neg (by omega), if_pos (by omega)] | rw [if_neg (by omega), if_neg (by omega), if_pos (by omega)] | rw [if_neg (by omega), if_neg (by omega), if_neg (by omega)]
      refine pB rfl rfl ?_
      refine SL_nil (nx (SWP_ct rfl (SWP_seq (SWP_region ?_))))
      refine pI rfl rfl ?_
      refine SL_nil (nx (SWP_ret (nr ?_)))
      refine fin [_] ⟨rfl, trivial⟩ ?_
      refine congrArg (Value.int .i64) ?_
      unfold tierErr
      first | rw [if_pos (by omega)] | rw [if_neg (by omega), if_pos (by omega)] | rw [if_neg (by omega), if_neg (by omega), if_pos (by omega)] | rw [if_neg (by omega), if_neg (by omega), if_neg (by omega)]
    refine pB rfl rfl ?_
    refine SL_no rfl rfl ?_
    refine SL_no rfl rfl ?_
    refine SL_no rfl rfl ?_
    refine pB rfl rfl ?_
    refine pB rfl rfl ?_
    refine SL_no rfl rfl ?_
    refine SL_no rfl rfl ?_
    refine SL_no rfl rfl ?_
    refine pB rfl rfl ?_
    refine SL_nil (nx (SWP_cf rfl (SWP_skip (nx (SWP_seq (SWP_seq (SWP_region ?_)))))))
    refine pu rfl rfl ?_
    refine lw (v := .int .i64 _) B3 5 rfl rfl rfl rfl ?_
    refine SL_pcall rfl rfl cb98 (withinI _ _ _) rfl ?_
    refine psp 32 rfl (fun c32 => ?_) (fun c32 => ?_)
    · skip
      refine pB rfl rfl ?_
      refine SL_nil (nx (SWP_cf rfl (SWP_skip (nx (SWP_seq (SWP_region ?_))))))
      refine pI rfl rfl ?_
      refine SL_nil (nx (SWP_ret ?_))
      refine fin [_] ⟨rfl, trivial⟩ ?_
      refine congrArg (Value.int .i64) ?_
      unfold tierErr
      first | rw [if_pos (by omega)] | rw [if_neg (by omega), if_pos (by omega)] | rw [if_neg (by omega), if_neg (by omega), if_pos (by omega)] | rw [if_neg (by omega), if_neg (by omega), if_neg (by omega)]
    refine pB rfl rfl ?_
    refine SL_nil (nx (SWP_ct rfl (SWP_seq (SWP_region ?_))))
    refine pI rfl rfl ?_
    refine SL_nil (nx (SWP_ret (nr ?_)))
    refine fin [_] ⟨rfl, trivial⟩ ?_
    refine congrArg (Value.int .i64) ?_
    unfold tierErr
    first | rw [if_pos (by omega)] | rw [if_neg (by omega), if_pos (by omega)] | rw [if_neg (by omega), if_neg (by omega), if_pos (by omega)] | rw [if_neg (by omega), if_neg (by omega), if_neg (by omega)]
  refine SL_nil (nx (SWP_cf rfl (SWP_skip (nx (SWP_seq (SWP_seq (SWP_region ?_)))))))
  refine pu rfl rfl ?_
  refine lw (v := .agg _) B2 0 rfl rfl rfl rfl ?_
  refine lw (v := .agg _) B3 0 rfl rfl rfl rfl ?_
  refine SL_pcall rfl rfl cb129 (checkChooseI g t (by omega)) rfl ?_
  first | refine pI rfl rfl ?_ | refine pu rfl rfl ?_
  refine SL_nil (nx (SWP_seq (SWP_region ?_)))
  first | refine pI rfl rfl ?_ | refine pu rfl rfl ?_
  refine pc rfl rfl (fun c15 => ?_) (fun c15 => ?_)
  · skip
    refine SL_nil (nx (SWP_ct rfl (SWP_seq (SWP_region ?_))))
    first | refine pI rfl rfl ?_ | refine pu rfl rfl ?_
    first | refine pI rfl rfl ?_ | refine pu rfl rfl ?_
    refine SL_nil (nx (SWP_ret (nr ?_)))
    refine fin [_] ⟨rfl, trivial⟩ ?_
    refine congrArg (Value.int .i64) ?_
    unfold tierErr
    first | rw [if_pos (by omega)] | rw [if_neg (by omega), if_pos (by omega)] | rw [if_neg (by omega), if_neg (by omega), if_pos (by omega)] | rw [if_neg (by omega), if_neg (by omega), if_neg (by omega)]
  refine SL_nil (nx (SWP_cf rfl (SWP_skip (nx (SWP_seq (SWP_seq (SWP_region ?_)))))))
  refine pu rfl rfl ?_
  refine lw (v := .int .i64 _) B3 4 rfl rfl rfl rfl ?_
  refine pc rfl rfl (fun c19 => ?_) (fun c19 => ?_)
  · skip
    refine pB rfl rfl ?_
    refine SL_yes rfl ?_
    refine pu rfl rfl ?_
    refine SL_yes rfl ?_
    refine lw (v := .int .i64 _) B3 4 rfl rfl rfl rfl ?_
    refine SL_yes rfl ?_
    refine pc rfl rfl (fun c23 => ?_) (fun c23 => ?_)
    · skip
      refine pB rfl rfl ?_
      refine pB rfl rfl ?_
      refine SL_yes rfl ?_
      refine pu rfl rfl ?_
      refine SL_yes rfl ?_
      refine lw (v := .int .i64 _) B3 4 rfl rfl rfl rfl ?_
      refine SL_yes rfl ?_
      refine pc rfl rfl (fun c28 => ?_) (fun c28 => ?_)
      · skip
        refine pB rfl rfl ?_
        refine SL_nil (nx (SWP_ct rfl (SWP_seq (SWP_region ?_))))
        refine pI rfl rfl ?_
        refine SL_nil (nx (SWP_ret (nr ?_)))
        refine fin [_] ⟨rfl, trivial⟩ ?_
        refine congrArg (Value.int .i64) ?_
        unfold tierErr
        first | rw [if_pos (by omega)] | rw [if_neg (by omega), if_pos (by omega)] | rw [if_neg (by omega), if_neg (by omega), if_pos (by omega)] | rw [if_neg (by omega), if_neg (by omega), if_neg (by omega)]
      refine pB rfl rfl ?_
      refine SL_nil (nx (SWP_cf rfl (SWP_skip (nx (SWP_seq (SWP_seq (SWP_region ?_)))))))
      refine pu rfl rfl ?_
      refine lw (v := .int .i64 _) B3 5 rfl rfl rfl rfl ?_
      refine SL_pcall rfl rfl cb98 (withinI _ _ _) rfl ?_
      refine psp 32 rfl (fun c32 => ?_) (fun c32 => ?_)
      · skip
        refine pB rfl rfl ?_
        refine SL_nil (nx (SWP_cf rfl (SWP_skip (nx (SWP_seq (SWP_region ?_))))))
        refine pI rfl rfl ?_
        refine SL_nil (nx (SWP_ret ?_))
        refine fin [_] ⟨rfl, trivial⟩ ?_
        refine congrArg (Value.int .i64) ?_
        unfold tierErr
        first | rw [if_pos (by omega)] | rw [if_neg (by omega), if_pos (by omega)] | rw [if_neg (by omega), if_neg (by omega), if_pos (by omega)] | rw [if_neg (by omega), if_neg (by omega), if_neg (by omega)]
      refine pB rfl rfl ?_
      refine SL_nil (nx (SWP_ct rfl (SWP_seq (SWP_region ?_))))
      refine pI rfl rfl ?_
      refine SL_nil (nx (SWP_ret (nr ?_)))
      refine fin [_] ⟨rfl, trivial⟩ ?_
      refine congrArg (Value.int .i64) ?_
      unfold tierErr
      first | rw [if_pos (by omega)] | rw [if_neg (by omega), if_pos (by omega)] | rw [if_neg (by omega), if_neg (by omega), if_pos (by omega)] | rw [if_neg (by omega), if_neg (by omega), if_neg (by omega)]
    refine pB rfl rfl ?_
    refine pB rfl rfl ?_
    refine SL_no rfl rfl ?_
    refine SL_no rfl rfl ?_
    refine SL_no rfl rfl ?_
    refine pB rfl rfl ?_
    refine SL_nil (nx (SWP_cf rfl (SWP_skip (nx (SWP_seq (SWP_seq (SWP_region ?_)))))))
    refine pu rfl rfl ?_
    refine lw (v := .int .i64 _) B3 5 rfl rfl rfl rfl ?_
    refine SL_pcall rfl rfl cb98 (withinI _ _ _) rfl ?_
    refine psp 32 rfl (fun c32 => ?_) (fun c32 => ?_)
    · skip
      refine pB rfl rfl ?_
      refine SL_nil (nx (SWP_cf rfl (SWP_skip (nx (SWP_seq (SWP_region ?_))))))
      refine pI rfl rfl ?_
      refine SL_nil (nx (SWP_ret ?_))
      refine fin [_] ⟨rfl, trivial⟩ ?_
      refine congrArg (Value.int .i64) ?_
      unfold tierErr
      first | rw [if_pos (by omega)] | rw [if_neg (by omega), if_pos (by omega)] | rw [if_neg (by omega), if_neg (by omega), if_pos (by omega)] | rw [if_neg (by omega), if_neg (by omega), if_neg (by omega)]
    refine pB rfl rfl ?_
    refine SL_nil (nx (SWP_ct rfl (SWP_seq (SWP_region ?_))))
    refine pI rfl rfl ?_
    refine SL_nil (nx (SWP_ret (nr ?_)))
    refine fin [_] ⟨rfl, trivial⟩ ?_
    refine congrArg (Value.int .i64) ?_
    unfold tierErr
    first | rw [if_pos (by omega)] | rw [if_neg (by omega), if_pos (by omega)] | rw [if_neg (by omega), if_neg (by omega), if_pos (by omega)] | rw [if_neg (by omega), if_neg (by omega), if_neg (by omega)]
  refine pB rfl rfl ?_
  refine SL_no rfl rfl ?_
  refine SL_no rfl rfl ?_
  refine SL_no rfl rfl ?_
  refine pB rfl rfl ?_
  refine pB rfl rfl ?_
  refine SL_no rfl rfl ?_
  refine SL_no rfl rfl ?_
  refine SL_no rfl rfl ?_
  refine pB rfl rfl ?_
  refine SL_nil (nx (SWP_cf rfl (SWP_skip (nx (SWP_seq (SWP_seq (SWP_region ?_)))))))
  refine pu rfl rfl ?_
  refine lw (v := .int .i64 _) B3 5 rfl rfl rfl rfl ?_
  refine SL_pcall rfl rfl cb98 (withinI _ _ _) rfl ?_
  refine psp 32 rfl (fun c32 => ?_) (fun c32 => ?_)
  · skip
    refine pB rfl rfl ?_
    refine SL_nil (nx (SWP_cf rfl (SWP_skip (nx (SWP_seq (SWP_region ?_))))))
    refine pI rfl rfl ?_
    refine SL_nil (nx (SWP_ret ?_))
    refine fin [_] ⟨rfl, trivial⟩ ?_
    refine congrArg (Value.int .i64) ?_
    unfold tierErr
    first | rw [if_pos (by omega)] | rw [if_neg (by omega), if_pos (by omega)] | rw [if_neg (by omega), if_neg (by omega), if_pos (by omega)] | rw [if_neg (by omega), if_neg (by omega), if_neg (by omega)]
  refine pB rfl rfl ?_
  refine SL_nil (nx (SWP_ct rfl (SWP_seq (SWP_region ?_))))
  refine pI rfl rfl ?_
  refine SL_nil (nx (SWP_ret (nr ?_)))
  refine fin [_] ⟨rfl, trivial⟩ ?_
  refine congrArg (Value.int .i64) ?_
  unfold tierErr
  first | rw [if_pos (by omega)] | rw [if_neg (by omega), if_pos (by omega)] | rw [if_neg (by omega), if_neg (by omega), if_pos (by omega)] | rw [if_neg (by omega), if_neg (by omega), if_neg (by omega)]
theorem effModeI {m : Mem} (g : Game) (t : Tier) : PureCall Tryz.prog 131 [g.val, t.val] m (.int .i64 (effM g t)) := by
  refine CallsS.pure ?_
  dsimp only [Game.val, Tier.val]
  refine enter Tryz.func131 Tryz.ntmps131 rfl rfl ?_
  refine SWP_seq (SWP_region ?_)
  refine bx (v := .agg _) rfl rfl (fun B2 => ?_)
  refine bx (v := .agg _) rfl rfl (fun B3 => ?_)
  refine pI rfl rfl ?_
  refine SL_nil (nx (SWP_seq (SWP_seq (SWP_region ?_))))
  refine pu rfl rfl ?_
  refine lw (v := .int .i64 _) B3 3 rfl rfl rfl rfl ?_
  refine pc rfl rfl (fun c7 => ?_) (fun c7 => ?_)
  · skip
    refine pB rfl rfl ?_
    refine SL_no rfl rfl ?_
    refine SL_no rfl rfl ?_
    refine SL_no rfl rfl ?_
    refine pB rfl rfl ?_
    refine pB rfl rfl ?_
    refine SL_yes rfl ?_
    refine pu rfl rfl ?_
    refine SL_yes rfl ?_
    refine lw (v := .int .i64 _) B3 0 rfl rfl rfl rfl ?_
    refine SL_yes rfl ?_
    refine pu rfl rfl ?_
    refine SL_yes rfl ?_
    refine lw (v := .int .i64 _) B2 3 rfl rfl rfl rfl ?_
    refine SL_yes rfl ?_
    refine pc rfl rfl (fun c18 => ?_) (fun c18 => ?_)
    · skip
      refine pB rfl rfl ?_
      refine SL_nil (nx (SWP_ct rfl (SWP_seq (SWP_region ?_))))
      refine pI rfl rfl ?_
      refine SL_nil (nx (SWP_ret (nr ?_)))
      refine fin [_] ⟨rfl, trivial⟩ ?_
      refine congrArg (Value.int .i64) ?_
      unfold effM
      first | rw [if_pos (by omega)] | rw [if_neg (by omega)]
    refine pB rfl rfl ?_
    refine SL_nil (nx (SWP_cf rfl (SWP_skip (nx (SWP_seq (SWP_region ?_))))))
    refine pu rfl rfl ?_
    refine lw (v := .int .i64 _) B3 3 rfl rfl rfl rfl ?_
    refine pI rfl rfl ?_
    refine SL_nil (nx (SWP_ret ?_))
    refine fin [_] ⟨rfl, trivial⟩ ?_
    refine congrArg (Value.int .i64) ?_
    unfold effM
    first | rw [if_pos (by omega)] | rw [if_neg (by omega)]
  refine pB rfl rfl ?_
  refine SL_yes rfl ?_
  refine pu rfl rfl ?_
  refine SL_yes rfl ?_
  refine lw (v := .int .i64 _) B3 3 rfl rfl rfl rfl ?_
  refine SL_yes rfl ?_
  refine pc rfl rfl (fun c11 => ?_) (fun c11 => ?_)
  · skip
    refine pB rfl rfl ?_
    refine pB rfl rfl ?_
    refine SL_yes rfl ?_
    refine pu rfl rfl ?_
    refine SL_yes rfl ?_
    refine lw (v := .int .i64 _) B3 0 rfl rfl rfl rfl ?_
    refine SL_yes rfl ?_
    refine pu rfl rfl ?_
    refine SL_yes rfl ?_
    refine lw (v := .int .i64 _) B2 3 rfl rfl rfl rfl ?_
    refine SL_yes rfl ?_
    refine pc rfl rfl (fun c18 => ?_) (fun c18 => ?_)
    · skip
      refine pB rfl rfl ?_
      refine SL_nil (nx (SWP_ct rfl (SWP_seq (SWP_region ?_))))
      refine pI rfl rfl ?_
      refine SL_nil (nx (SWP_ret (nr ?_)))
      refine fin [_] ⟨rfl, trivial⟩ ?_
      refine congrArg (Value.int .i64) ?_
      unfold effM
      first | rw [if_pos (by omega)] | rw [if_neg (by omega)]
    refine pB rfl rfl ?_
    refine SL_nil (nx (SWP_cf rfl (SWP_skip (nx (SWP_seq (SWP_region ?_))))))
    refine pu rfl rfl ?_
    refine lw (v := .int .i64 _) B3 3 rfl rfl rfl rfl ?_
    refine pI rfl rfl ?_
    refine SL_nil (nx (SWP_ret ?_))
    refine fin [_] ⟨rfl, trivial⟩ ?_
    refine congrArg (Value.int .i64) ?_
    unfold effM
    first | rw [if_pos (by omega)] | rw [if_neg (by omega)]
  refine pB rfl rfl ?_
  refine pB rfl rfl ?_
  refine SL_no rfl rfl ?_
  refine SL_no rfl rfl ?_
  refine SL_no rfl rfl ?_
  refine SL_no rfl rfl ?_
  refine SL_no rfl rfl ?_
  refine pB rfl rfl ?_
  refine SL_nil (nx (SWP_cf rfl (SWP_skip (nx (SWP_seq (SWP_region ?_))))))
  refine pu rfl rfl ?_
  refine lw (v := .int .i64 _) B3 3 rfl rfl rfl rfl ?_
  refine pI rfl rfl ?_
  refine SL_nil (nx (SWP_ret ?_))
  refine fin [_] ⟨rfl, trivial⟩ ?_
  refine congrArg (Value.int .i64) ?_
  unfold effM
  first | rw [if_pos (by omega)] | rw [if_neg (by omega)]
theorem coversI {m : Mem} (g : Game) (a b : Tier) : PureCall Tryz.prog 101 [g.val, a.val, b.val] m (.bool (decide (covP g a b))) := by
  refine CallsS.pure ?_
  dsimp only [Game.val, Tier.val]
  refine enter Tryz.func101 Tryz.ntmps101 rfl rfl ?_
  refine SWP_seq (SWP_region ?_)
  refine bx (v := .agg _) rfl rfl (fun B3 => ?_)
  refine bx (v := .agg _) rfl rfl (fun B4 => ?_)
  refine bx (v := .agg _) rfl rfl (fun B5 => ?_)
  refine pB rfl rfl ?_
  refine SL_nil (nx (SWP_seq (SWP_seq (SWP_region ?_))))
  refine pu rfl rfl ?_
  refine lw (v := .int .i64 _) B3 1 rfl rfl rfl rfl ?_
  refine pc rfl rfl (fun c11 => ?_) (fun c11 => ?_)
  · skip
    refine SL_nil (nx (SWP_ct rfl (SWP_seq (SWP_region ?_))))
    refine pu rfl rfl ?_
    refine lw (v := .int .i64 _) B4 0 rfl rfl rfl rfl ?_
    refine pu rfl rfl ?_
    refine lw (v := .int .i64 _) B5 0 rfl rfl rfl rfl ?_
    refine pc rfl rfl (fun c16 => ?_) (fun c16 => ?_)
    · skip
      refine pB rfl rfl ?_
      refine SL_yes rfl ?_
      refine pu rfl rfl ?_
      refine SL_yes rfl ?_
      refine lw (v := .int .i64 _) B4 1 rfl rfl rfl rfl ?_
      refine SL_yes rfl ?_
      refine pu rfl rfl ?_
      refine SL_yes rfl ?_
      refine lw (v := .int .i64 _) B5 1 rfl rfl rfl rfl ?_
      refine SL_yes rfl ?_
      refine pc rfl rfl (fun c22 => ?_) (fun c22 => ?_)
      · skip
        refine pB rfl rfl ?_
        refine pB rfl rfl ?_
        refine SL_yes rfl ?_
        refine pu rfl rfl ?_
        refine SL_yes rfl ?_
        refine lw (v := .int .i64 _) B4 2 rfl rfl rfl rfl ?_
        refine SL_yes rfl ?_
        refine pu rfl rfl ?_
        refine SL_yes rfl ?_
        refine lw (v := .int .i64 _) B5 2 rfl rfl rfl rfl ?_
        refine SL_yes rfl ?_
        refine pu rfl rfl ?_
        refine pB rfl rfl ?_
        refine pB rfl rfl ?_
        refine SL_nil (nx (SWP_ret (nr ?_)))
        refine fin [_] ⟨rfl, trivial⟩ ?_
        refine congrArg Value.bool ?_
        first | exact (decide_eq_true (by unfold covP; omega)).symm | exact (decide_eq_false (by unfold covP; omega)).symm | exact decide_eq_decide.2 (by unfold covP; omega)
      refine pB rfl rfl ?_
      refine pB rfl rfl ?_
      refine SL_no rfl rfl ?_
      refine SL_no rfl rfl ?_
      refine SL_no rfl rfl ?_
      refine SL_no rfl rfl ?_
      refine SL_no rfl rfl ?_
      refine pB rfl rfl ?_
      refine pB rfl rfl ?_
      refine SL_nil (nx (SWP_ret (nr ?_)))
      refine fin [_] ⟨rfl, trivial⟩ ?_
      refine congrArg Value.bool ?_
      first | exact (decide_eq_true (by unfold covP; omega)).symm | exact (decide_eq_false (by unfold covP; omega)).symm | exact decide_eq_decide.2 (by unfold covP; omega)
    refine pB rfl rfl ?_
    refine SL_no rfl rfl ?_
    refine SL_no rfl rfl ?_
    refine SL_no rfl rfl ?_
    refine SL_no rfl rfl ?_
    refine SL_no rfl rfl ?_
    refine pB rfl rfl ?_
    refine pB rfl rfl ?_
    refine SL_no rfl rfl ?_
    refine SL_no rfl rfl ?_
    refine SL_no rfl rfl ?_
    refine SL_no rfl rfl ?_
    refine SL_no rfl rfl ?_
    refine pB rfl rfl ?_
    refine pB rfl rfl ?_
    refine SL_nil (nx (SWP_ret (nr ?_)))
    refine fin [_] ⟨rfl, trivial⟩ ?_
    refine congrArg Value.bool ?_
    first | exact (decide_eq_true (by unfold covP; omega)).symm | exact (decide_eq_false (by unfold covP; omega)).symm | exact decide_eq_decide.2 (by unfold covP; omega)
  refine SL_nil (nx (SWP_cf rfl (SWP_skip (nx (SWP_seq ?_)))))
  refine SWP_draws (by kernel_rfl) (by kernel_rfl) ?_
  refine lw (v := .agg _) B3 0 rfl rfl rfl rfl ?_
  refine lw (v := .agg _) B4 0 rfl rfl rfl rfl ?_
  refine SL_pcall rfl rfl cb131 (effModeI g a) rfl ?_
  refine lw (v := .agg _) B3 0 rfl rfl rfl rfl ?_
  refine lw (v := .agg _) B5 0 rfl rfl rfl rfl ?_
  refine SL_pcall rfl rfl cb131 (effModeI g b) rfl ?_
  first | refine pI rfl rfl ?_ | refine pu rfl rfl ?_
  first | refine pI rfl rfl ?_ | refine pu rfl rfl ?_
  refine SL_nil (nx (SWP_seq (SWP_seq (SWP_region ?_))))
  first | refine pI rfl rfl ?_ | refine pu rfl rfl ?_
  refine pc rfl rfl (fun c38 => ?_) (fun c38 => ?_)
  · skip
    refine SL_nil (nx (SWP_ct rfl (SWP_seq (SWP_region ?_))))
    refine pB rfl rfl ?_
    refine SL_nil (nx (SWP_ret (nr ?_)))
    refine fin [_] ⟨rfl, trivial⟩ ?_
    refine congrArg Value.bool ?_
    first | exact (decide_eq_true (by unfold covP; omega)).symm | exact (decide_eq_false (by unfold covP; omega)).symm | exact decide_eq_decide.2 (by unfold covP; omega)
  refine SL_nil (nx (SWP_cf rfl (SWP_skip (nx (SWP_seq (SWP_region ?_))))))
  first | refine pI rfl rfl ?_ | refine pu rfl rfl ?_
  first | refine pI rfl rfl ?_ | refine pu rfl rfl ?_
  refine pc rfl rfl (fun c41 => ?_) (fun c41 => ?_)
  · skip
    refine pB rfl rfl ?_
    refine SL_yes rfl ?_
    refine pu rfl rfl ?_
    refine SL_yes rfl ?_
    refine lw (v := .int .i64 _) B4 0 rfl rfl rfl rfl ?_
    refine SL_yes rfl ?_
    refine pu rfl rfl ?_
    refine SL_yes rfl ?_
    refine lw (v := .int .i64 _) B5 0 rfl rfl rfl rfl ?_
    refine SL_yes rfl ?_
    refine pu rfl rfl ?_
    refine pB rfl rfl ?_
    refine pB rfl rfl ?_
    refine SL_nil (nx (SWP_ret ?_))
    refine fin [_] ⟨rfl, trivial⟩ ?_
    refine congrArg Value.bool ?_
    first | exact (decide_eq_true (by unfold covP; omega)).symm | exact (decide_eq_false (by unfold covP; omega)).symm | exact decide_eq_decide.2 (by unfold covP; omega)
  refine pB rfl rfl ?_
  refine SL_no rfl rfl ?_
  refine SL_no rfl rfl ?_
  refine SL_no rfl rfl ?_
  refine SL_no rfl rfl ?_
  refine SL_no rfl rfl ?_
  refine pB rfl rfl ?_
  refine pB rfl rfl ?_
  refine SL_nil (nx (SWP_ret ?_))
  refine fin [_] ⟨rfl, trivial⟩ ?_
  refine congrArg Value.bool ?_
  first | exact (decide_eq_true (by unfold covP; omega)).symm | exact (decide_eq_false (by unfold covP; omega)).symm | exact decide_eq_decide.2 (by unfold covP; omega)
abbrev sV (s : ByteArray) : Value := .string s
abbrev iK (i : Int) : Value := .int .i64 i
abbrev bV (b : Bool) : Value := .bool b
theorem lookB {α : Type} [DecidableEq α] (k : α) (l : List (α × Bool)) : ((mlook k l).map bV).getD (.bool false) = .bool ((mlook k l).getD false) := by cases mlook k l <;> rfl
theorem putB {α : Type} [DecidableEq α] (k k' : α) (v : Bool) : ∀ (l : List (α × Bool)), (mlook k' (mput k v l)).getD false = if k' = k then v else (mlook k' l).getD false
  | [] => by
    unfold mput mlook
    by_cases h : k' = k <;> simp [h, mlook]
  | p :: l => by
    unfold mput
    by_cases h : k = p.1
    · rw [if_pos h]
      simp only [mlook]
      by_cases e : k' = k
      · rw [if_pos e, if_pos e]; rfl
      · rw [if_neg e, if_neg e, if_neg (fun e2 => e (e2.trans h.symm))]
    · rw [if_neg h]
      simp only [mlook]
      by_cases e : k' = p.1
      · rw [if_pos e, if_pos e, if_neg (fun e2 => h (e2.symm.trans e))]
      · rw [if_neg e, if_neg e]
        exact putB k k' v l
set_option maxRecDepth 100000 in
theorem checkAddonsI {m : Mem} {va : Option Addr} {vc : Nat} {l : List Addon} (h : RL m Addon.enc 6 (.slice va l.length vc) l) (hin : ∀ a ∈ l, a.In m) : PureCall Tryz.prog 70 [.slice va l.length vc] m (.int .i64 (addonsErr l)) := by
  refine CallsS.pure ?_
  refine enter Tryz.func70 Tryz.ntmps70 rfl rfl ?_
  refine SWP_seq (SWP_region ?_)
  refine pI rfl rfl ?_
  refine SL_nil (nx (SWP_seq (SWP_seq (SWP_region ?_))))
  first | refine pL rfl rfl ?_ | refine pu rfl rfl ?_
  refine pu rfl rfl ?_
  refine pc rfl rfl (fun c10 => ?_) (fun c10 => ?_)
  · skip
    refine SL_nil (nx (SWP_ct rfl (SWP_seq (SWP_region ?_))))
    refine pI rfl rfl ?_
    refine SL_nil (nx (SWP_ret (nr ?_)))
    refine fin [_] ⟨rfl, trivial⟩ ?_
    refine congrArg (Value.int .i64) ?_
    unfold addonsErr
    rw [if_pos (by omega)]
  refine SL_nil (nx (SWP_cf rfl (SWP_skip (nx (SWP_seq (SWP_region ?_))))))
  refine mk (kc := sV) (vc := bV) rfl (fun MN => ?_)
  refine mk (kc := iK) (vc := bV) rfl (fun MK => ?_)
  first | refine pu (v := .map _) rfl rfl ?_ | refine pu rfl rfl ?_
  first | refine pu (v := .map _) rfl rfl ?_ | refine pu rfl rfl ?_
  refine SL_nil (nx (SWP_seq (SWP_seq (SWP_region ?_))))
  first | refine pL rfl rfl ?_ | refine pu rfl rfl ?_
  refine pu rfl rfl ?_
  refine pI rfl rfl ?_
  refine SL_nil (nx (SWP_block ?_))
  refine SWP_loop [2, 6, 7, 15, 16, 17, 18, 19, 20, 21, 22, 23, 24, 25, 26, 27, 28, 29, 30, 31, 32, 33, 34, 35, 36, 37, 38, 39, 40] [15]
      (fun vs σ' m' => ∃ (i : Nat) (ln : List (ByteArray × Bool)) (lk2 : List (Int × Bool)), vs = [.int .i64 (i : Nat)] ∧ i ≤ l.length ∧ addonsErr l = addonsFrom (l.take i) (l.drop i) ∧ (∀ k, (mlook k ln).getD false = decide (∃ b ∈ l.take i, b.name = k)) ∧ (∀ k, (mlook k lk2).getD false = decide (∃ b ∈ l.take i, b.kind = k)) ∧ σ' = [(MK, MapC iK bV lk2), (MN, MapC sV bV ln)] ∧ m = m')
      (fun vs => l.length - nOf (vs.getD 0 undef)) rfl ?_ ?_
  · refine ⟨0, [], [], rfl, by omega, ?_, fun k => by simp [mlook], fun k => by simp [mlook], rfl, rfl⟩
    unfold addonsErr
    rw [if_neg (by omega)]; rfl
  intro u0 vs0 σ0 m0 hJ0 _
  obtain ⟨i, ln, lk2, rfl, hi, hres, hnm, hkd, rfl, rfl⟩ := hJ0
  refine SWP_seq (SWP_region ?_)
  refine pc rfl rfl (fun c16 => ?_) (fun c16 => ?_)
  · skip
    refine SL_nil (nx (SWP_seq (SWP_ct rfl (SWP_skip (nx (SWP_seq (SWP_block (SWP_seq ?_))))))))
    obtain ⟨a, ha⟩ : ∃ a, l[i]? = some a := ⟨_, List.getElem?_eq_getElem (by omega)⟩
    obtain ⟨ad, had, _, hat⟩ := h.atA Addon.enc_len ha
    rw [had]
    rw [addonsFrom_at ha] at hres
    refine SWP_region ?_
    first | refine ia (es := 6) rfl rfl rfl rfl rfl rfl (by omega) rfl ?_ | refine iai (es := 6) rfl rfl rfl rfl rfl rfl (by omega) (by omega) rfl ?_
    refine ldA (v := .agg _) rfl (by assumption) rfl rfl ?_
    refine al rfl rfl (fun B6 => ?_)
    refine sw (v := .agg _) B6 0 rfl rfl rfl rfl rfl rfl rfl ?_
    refine SL_nil (nx (SWP_seq (SWP_seq (SWP_region ?_))))
    refine lw (v := .agg _) B6 0 rfl rfl rfl rfl ?_
    refine SL_pcall rfl rfl cb99 (checkAddonI (hin a (List.mem_of_getElem? ha))) rfl ?_
    first | refine pI rfl rfl ?_ | refine pu rfl rfl ?_
    refine SL_nil (nx (SWP_seq (SWP_region ?_)))
    first | refine pI rfl rfl ?_ | refine pu rfl rfl ?_
    refine pc rfl rfl (fun c22 => ?_) (fun c22 => ?_)
    · skip
      refine SL_nil (nx (SWP_ct rfl (SWP_seq (SWP_region ?_))))
      first | refine pI rfl rfl ?_ | refine pu rfl rfl ?_
      first | refine pI rfl rfl ?_ | refine pu rfl rfl ?_
      refine SL_nil (nx (SWP_ret (nr (br (nr (nr (br (nr ?_))))))))
      refine fin [_] ⟨rfl, trivial⟩ ?_
      refine congrArg (Value.int .i64) ?_
      rw [hres, if_pos (by omega)]
    refine SL_nil (nx (SWP_cf rfl (SWP_skip (nx (SWP_seq (SWP_seq ?_))))))
    rw [if_neg (by omega)] at hres
    refine SWP_region ?_
    first | refine pu (v := .map _) rfl rfl ?_ | refine pu rfl rfl ?_
    refine pu rfl rfl ?_
    refine lw (v := .string _) B6 0 rfl rfl rfl rfl ?_
    refine lk (kc := sV) (vc := bV) (a := a.name) (l := ln) rfl rfl rfl keyStr rfl rfl (.tail _ (.tail _ (.head _))) (lookB _ ln) rfl ?_
    refine bsp 27 rfl (fun b27 => ?_) (fun b27 => ?_)
    · skip
      first | refine pB rfl rfl ?_ | refine pu rfl rfl ?_
      refine SL_no rfl rfl ?_
      refine SL_no rfl rfl ?_
      refine SL_no rfl rfl ?_
      refine SL_no rfl rfl ?_
      refine pB rfl rfl ?_
      refine SL_nil (nx (SWP_ct rfl (SWP_seq (SWP_region ?_))))
      refine pI rfl rfl ?_
      refine SL_nil (nx (SWP_ret (nr (br (nr (nr (br (nr ?_))))))))
      refine fin [_] ⟨rfl, trivial⟩ ?_
      refine congrArg (Value.int .i64) ?_
      rw [hnm] at b27
      obtain ⟨b, hb, e⟩ := of_decide_eq_true b27
      rw [hres, if_pos ⟨b, hb, .inl e⟩]
    first | refine pB rfl rfl ?_ | refine pu rfl rfl ?_
    refine SL_yes rfl ?_
    first | refine pu (v := .map _) rfl rfl ?_ | refine pu rfl rfl ?_
    refine SL_yes rfl ?_
    refine pu rfl rfl ?_
    refine SL_yes rfl ?_
    refine lw (v := .int .i64 _) B6 1 rfl rfl rfl rfl ?_
    refine SL_yes rfl ?_
    refine lk (kc := iK) (vc := bV) (a := a.kind) (l := lk2) rfl rfl rfl (keyInt .i64) rfl rfl (.tail _ (.head _)) (lookB _ lk2) rfl ?_
    refine bsp 32 rfl (fun b32 => ?_) (fun b32 => ?_)
    · skip
      refine pB rfl rfl ?_
      refine SL_nil (nx (SWP_ct rfl (SWP_seq (SWP_region ?_))))
      refine pI rfl rfl ?_
      refine SL_nil (nx (SWP_ret (nr (br (nr (nr (br (nr ?_))))))))
      refine fin [_] ⟨rfl, trivial⟩ ?_
      refine congrArg (Value.int .i64) ?_
      rw [hkd] at b32
      obtain ⟨b, hb, e⟩ := of_decide_eq_true b32
      rw [hres, if_pos ⟨b, hb, .inr e⟩]
    refine pB rfl rfl ?_
    refine SL_nil (nx (SWP_cf rfl (SWP_skip (nx ?_))))
    have hno : ¬ ∃ b ∈ l.take i, b.name = a.name ∨ b.kind = a.kind := by
      rintro ⟨b, hb, e | e⟩
      · rw [hnm] at b27
        exact of_decide_eq_false b27 ⟨b, hb, e⟩
      · rw [hkd] at b32
        exact of_decide_eq_false b32 ⟨b, hb, e⟩
    refine SWP_drawn [_] [0, 1, 2, 3, 4, 5, 6, 7] (by kernel_rfl) (by kernel_rfl) (Sub.cons2 _ (Sub.nil _)) ?_
    first | refine pu (v := .map _) rfl rfl ?_ | refine pu rfl rfl ?_
    refine pu rfl rfl ?_
    refine lw (v := .string _) B6 0 rfl rfl rfl rfl ?_
    first | refine pu (v := .map _) rfl rfl ?_ | refine pu rfl rfl ?_
    refine pu rfl rfl ?_
    refine lw (v := .int .i64 _) B6 1 rfl rfl rfl rfl ?_
    refine mu (kc := sV) (vc := bV) (a := a.name) (b := true) (l := ln) (σ₁ := [_, _]) rfl rfl keyStr rfl rfl rfl rfl ?_
    refine mu (kc := iK) (vc := bV) (a := a.kind) (b := true) (l := lk2) (σ₁ := [_]) rfl rfl (keyInt .i64) rfl rfl rfl rfl ?_
    refine SL_nil (nb (nx ?_))
    refine SWP_weak (List.sublist_cons_self _ _) ?_
    refine SWP_region ?_
    first | refine pw rfl rfl (w64 (by omega) (by omega)) ?_ | refine pu rfl rfl ?_
    refine pI rfl rfl ?_
    refine SL_nil (nx ?_)
    refine ⟨by repeat (first | exact Under.upds rfl (Under.hav _ _ _) | exact Under.hav _ _ _ | refine Under.upd rfl ?_), ?_, ?_⟩
    · refine ⟨i + 1, mput a.name true ln, mput a.kind true lk2, rfl, by omega, ?_, fun k => ?_, fun k => ?_, rfl, rfl⟩
      · rw [hres, if_neg hno, take_snocA ha]
      · rw [putB, hnm, take_snocA ha]
        by_cases e : k = a.name <;> simp [e, eq_comm]
      · rw [putB, hkd, take_snocA ha]
        by_cases e : k = a.kind <;> simp [e, eq_comm]
    · simp only [L_vals, List.map, List.getD]; show l.length - (i + 1) < l.length - i; omega
  refine SL_nil (nx (SWP_seq (SWP_cf rfl (SWP_exit (ne (ne (be rfl (nx (SWP_seq (SWP_region ?_))))))))))
  first | refine pI rfl rfl ?_ | refine pu rfl rfl ?_
  refine SL_nil (nx (SWP_ret ?_))
  refine fin [_] ⟨rfl, trivial⟩ ?_
  refine congrArg (Value.int .i64) ?_
  have e : i = l.length := by omega
  rw [hres, e, List.drop_length]; rfl
end Go.Proofs.YtifjhpaoejageaaGreatDoor
namespace Go.Proofs.YtifjhpaoejageaaGreatDoor
open Eng
theorem Eng.RL.capI {α : Type} {m : Mem} {en : α → List Value} {size n c : Nat} {a : Option Addr} {l : List α} (h : RL m en size (.slice a n c) l) : l.length ≤ c ∧ n = l.length := by
  obtain ⟨a', cap, e, _, h2, _⟩ := h
  cases e
  exact ⟨h2, rfl⟩
def Game.enc (g : Game) : List Value := [.string g.name, .int .i64 g.kind, .int .i64 g.price, .int .i64 g.main, .int .i64 g.of, .int .i64 g.bonus, .int .i64 g.bonusOf, .int .i64 g.extra, .int .i64 g.draws, .int .i64 g.system, .int .i64 g.days, .int .i64 g.minute, .int .i64 g.close, .int .i64 g.cancel, .int .i64 g.expiry, .int .i64 g.pool, .int .i64 g.reserve, .int .i64 g.round, .int .i64 g.cap, .int .i64 g.rolls, .slice g.aa g.addons.length g.ac, .slice g.ta g.tiers.length g.tc]
set_option maxRecDepth 100000 in
theorem checkTiersI {m : Mem} {g : Game} (hin : g.In m) : PureCall Tryz.prog 71 [g.val] m (.int .i64 (tiersErr g)) := by
  refine CallsS.pure ?_
  obtain ⟨hcap, _⟩ := hin.trs.capI
  dsimp only [Game.val]
  refine enter Tryz.func71 Tryz.ntmps71 rfl rfl ?_
  refine SWP_seq (SWP_region ?_)
  refine bx (v := .agg _) rfl rfl (fun B1 => ?_)
  refine pI rfl rfl ?_
  refine SL_nil (nx (SWP_scope (SWP_seq (SWP_seq (SWP_region ?_)))))
  refine pu rfl rfl ?_
  refine lw (v := .slice _ _ _) B1 21 rfl rfl rfl rfl ?_
  refine pu rfl rfl ?_
  refine SL_pcall rfl rfl cb98 (withinI _ _ _) rfl ?_
  refine psp 11 rfl (fun c11 => ?_) (fun c11 => ?_)
  · skip
    refine pB rfl rfl ?_
    refine SL_nil (nx (SWP_cf rfl (SWP_skip (nx (SWP_seq (SWP_region ?_))))))
    refine pI rfl rfl ?_
    refine SL_nil (nx (SWP_seq (SWP_label (nx (SWP_seq (SWP_seq (SWP_region ?_)))))))
    refine pu rfl rfl ?_
    refine lw (v := .slice _ _ _) B1 21 rfl rfl rfl rfl ?_
    refine pu rfl rfl ?_
    refine pI rfl rfl ?_
    refine SL_nil (nx (SWP_block ?_))
    refine SWP_loop [3, 4, 5, 7, 16, 17, 18, 19, 20, 21, 22, 23, 24, 25, 26, 27, 28, 29, 30, 31, 32, 33, 34, 35, 36, 37, 38, 39, 40] [3, 16]
        (fun vs σ' m' => ∃ (i : Nat), vs = [.int .i64 0, .int .i64 (i : Nat)] ∧ i ≤ g.tiers.length ∧ tiersErr g = tiersFrom g (g.tiers.take i) (g.tiers.drop i) ∧ σ' = [(B1, Cells 25 g.enc)] ∧ m = m')
        (fun vs => g.tiers.length - nOf (vs.getD 1 undef)) rfl ?_ ?_
    · refine ⟨0, rfl, by omega, ?_, rfl, rfl⟩
      unfold tiersErr
      rw [if_neg (by omega)]; rfl
    intro u0 vs0 σ0 m0 hJ0 _
    obtain ⟨i, rfl, hi, hres, rfl, rfl⟩ := hJ0
    dsimp only [Game.enc]
    refine SWP_seq (SWP_region ?_)
    refine pc rfl rfl (fun c17 => ?_) (fun c17 => ?_)
    · skip
      refine SL_nil (nx (SWP_seq (SWP_ct rfl (SWP_skip (nx (SWP_seq (SWP_block (SWP_seq ?_))))))))
      obtain ⟨t, ht⟩ : ∃ t, g.tiers[i]? = some t := ⟨_, List.getElem?_eq_getElem (by omega)⟩
      obtain ⟨ad, had, _, hat⟩ := hin.trs.atA Tier.enc_len ht
      rw [tiersFrom_at ht] at hres
      refine SWP_region ?_
      first | refine pI rfl rfl ?_ | refine pu rfl rfl ?_
      rw [had]
      first | refine ia (es := 6) rfl rfl rfl rfl rfl rfl (by omega) rfl ?_ | refine iai (es := 6) rfl rfl rfl rfl rfl rfl (by omega) (by omega) rfl ?_
      rw [← had]
      refine ldA (v := .agg _) rfl (by assumption) rfl rfl ?_
      refine al rfl rfl (fun B5 => ?_)
      first | refine pI rfl rfl ?_ | refine pu rfl rfl ?_
      refine sw (v := .agg _) B5 0 rfl rfl rfl rfl rfl rfl rfl ?_
      refine SL_nil (nx (SWP_seq (SWP_seq (SWP_region ?_))))
      refine lw (v := .agg _) B1 0 rfl rfl rfl rfl ?_
      refine lw (v := .agg _) B5 0 rfl rfl rfl rfl ?_
      refine SL_pcall rfl rfl cb100 (checkTierI g t) rfl ?_
      first | refine pI rfl rfl ?_ | refine pu rfl rfl ?_
      refine SL_nil (nx (SWP_seq (SWP_region ?_)))
      first | refine pI rfl rfl ?_ | refine pu rfl rfl ?_
      refine pc rfl rfl (fun c25 => ?_) (fun c25 => ?_)
      · skip
        refine SL_nil (nx (SWP_ct rfl (SWP_exit (ne (bo rfl (ne (ne (be rfl (nx (SWP_seq (SWP_region ?_)))))))))))
        first | refine pI rfl rfl ?_ | refine pu rfl rfl ?_
        first | refine pI rfl rfl ?_ | refine pu rfl rfl ?_
        refine SL_nil (nx (SWP_ret (sr ?_)))
        refine fin [_] ⟨rfl, trivial⟩ ?_
        refine congrArg (Value.int .i64) ?_
        rw [hres, if_pos (by omega)]
      refine SL_nil (nx (SWP_cf rfl (SWP_skip (nx (SWP_seq ?_)))))
      rw [if_neg (by omega)] at hres
      have ht0 : tierErr g t = 0 := by omega
      rw [ht0]
      refine SWP_region ?_
      refine pu rfl rfl ?_
      refine lw (v := .slice _ _ _) B1 21 rfl rfl rfl rfl ?_
      first | refine pI rfl rfl ?_ | refine pu rfl rfl ?_
      refine slh (size := 6) rfl rfl rfl rfl rfl (by omega) (by omega) rfl ?_
      have hsub := RL.sub Tier.enc_len hin.trs (Nat.zero_le i) (by omega)
      rw [List.drop_zero] at hsub
      obtain ⟨pa, pcap, hsl⟩ := hsub.len
      rw [Int.toNat_natCast, hsl]
      rw [hsl] at hsub
      have hlt : (g.tiers.take i).length = i := by rw [List.length_take]; omega
      refine pu rfl rfl ?_
      refine pI rfl rfl ?_
      refine SL_nil (nx (SWP_block ?_))
      refine SWP_loop [3, 7, 31, 32, 33, 34, 35, 36, 37, 38, 39] [3, 31]
          (fun vs σ' m' => ∃ (k : Nat), vs = [.int .i64 0, .int .i64 (k : Nat)] ∧ k ≤ i ∧ (∀ b ∈ (g.tiers.take i).take k, ¬ covP g b t) ∧ σ' = [(B5, Cells 74 t.enc), (B1, Cells 25 g.enc)] ∧ m = m')
          (fun vs => i - nOf (vs.getD 1 undef)) rfl ?_ ?_
      · exact ⟨0, rfl, by omega, by simp, rfl, rfl⟩
      intro u1 vs1 σ1 m1 hJ1 _
      obtain ⟨k, rfl, hk, hcv, rfl, rfl⟩ := hJ1
      dsimp only [Game.enc, Tier.enc]
      refine SWP_seq (SWP_region ?_)
      refine pc rfl rfl (fun c32 => ?_) (fun c32 => ?_)
      · skip
        refine SL_nil (nx (SWP_seq (SWP_ct rfl (SWP_skip (nx (SWP_seq (SWP_block (SWP_seq ?_))))))))
        obtain ⟨u, hu⟩ : ∃ u, (g.tiers.take i)[k]? = some u := ⟨_, List.getElem?_eq_getElem (by omega)⟩
        obtain ⟨ad2, rfl, _, hat2⟩ := hsub.atA Tier.enc_len hu
        refine SWP_region ?_
        first | refine ia (es := 6) rfl rfl rfl rfl rfl rfl (by omega) rfl ?_ | refine iai (es := 6) rfl rfl rfl rfl rfl rfl (by omega) (by omega) rfl ?_
        refine ldA (v := .agg _) rfl (by assumption) rfl rfl ?_
        refine al rfl rfl (fun B7 => ?_)
        refine sw (v := .agg _) B7 0 rfl rfl rfl rfl rfl rfl rfl ?_
        refine SL_nil (nx (SWP_seq (SWP_region ?_)))
        refine lw (v := .agg _) B1 0 rfl rfl rfl rfl ?_
        refine lw (v := .agg _) B7 0 rfl rfl rfl rfl ?_
        refine lw (v := .agg _) B5 0 rfl rfl rfl rfl ?_
        refine SL_pcall rfl rfl cb101 (coversI g u t) rfl ?_
        refine psp 38 rfl (fun c38 => ?_) (fun c38 => ?_)
        · skip
          refine SL_nil (nx (SWP_ct rfl (SWP_seq (SWP_region ?_))))
          refine pI rfl rfl ?_
          refine SL_nil (nx (SWP_exit (bo rfl (ne (ne (bo rfl (bo rfl (ne (ne (be rfl (nx ?_)))))))))))
          refine SWP_seq (SWP_region ?_)
          first | refine pI rfl rfl ?_ | refine pu rfl rfl ?_
          first | refine pI rfl rfl ?_ | refine pu rfl rfl ?_
          refine SL_nil (nx (SWP_ret (sr ?_)))
          refine fin [_] ⟨rfl, trivial⟩ ?_
          refine congrArg (Value.int .i64) ?_
          rw [hres, if_pos ⟨u, List.mem_of_getElem? hu, c38⟩]
        refine SL_nil (nx (SWP_cf rfl (SWP_skip (nb (nx ?_)))))
        refine SWP_weak (List.sublist_cons_self _ _) ?_
        refine SWP_region ?_
        first | refine pw rfl rfl (w64 (by omega) (by omega)) ?_ | refine pu rfl rfl ?_
        refine pI rfl rfl ?_
        refine SL_nil (nx ?_)
        refine ⟨by repeat (first | exact Under.upds rfl (Under.hav _ _ _) | exact Under.hav _ _ _ | refine Under.upd rfl ?_ | refine Under.upds rfl ?_ | refine Under.hav2 rfl ?_), ?_, ?_⟩
        · refine ⟨k + 1, rfl, by omega, fun b hb => ?_, rfl, rfl⟩
          rw [take_snocA hu] at hb
          rcases List.mem_append.1 hb with hb | hb
          · exact hcv b hb
          · rw [List.mem_singleton.1 hb]; exact c38
        · simp only [L_vals, List.map, List.getD]; show i - (k + 1) < i - k; omega
      refine SL_nil (nx (SWP_seq (SWP_cf rfl (SWP_exit (ne (ne (be rfl (nb (nx ?_)))))))))
      refine SWP_weak (List.sublist_cons_self _ _) ?_
      refine SWP_region ?_
      first | refine pw rfl rfl (w64 (by omega) (by omega)) ?_ | refine pu rfl rfl ?_
      refine pI rfl rfl ?_
      refine SL_nil (nx ?_)
      refine ⟨by repeat (first | exact Under.upds rfl (Under.hav _ _ _) | exact Under.hav _ _ _ | refine Under.upd rfl ?_ | refine Under.upds rfl ?_ | refine Under.hav2 rfl ?_), ?_, ?_⟩
      · refine ⟨i + 1, rfl, by omega, ?_, rfl, rfl⟩
        have e : k = i := by omega
        rw [e, List.take_take, Nat.min_self] at hcv
        rw [hres, if_neg (by rintro ⟨b, hb, hc⟩; exact hcv b hb hc), take_snocA ht]
      · simp only [L_vals, List.map, List.getD]; show g.tiers.length - (i + 1) < g.tiers.length - i; omega
    refine SL_nil (nx (SWP_seq (SWP_cf rfl (SWP_exit (ne (ne (be rfl (nx (SWP_seq (SWP_region ?_))))))))))
    first | refine pI rfl rfl ?_ | refine pu rfl rfl ?_
    first | refine pI rfl rfl ?_ | refine pu rfl rfl ?_
    refine SL_nil (nx (SWP_ret (sr ?_)))
    refine fin [_] ⟨rfl, trivial⟩ ?_
    refine congrArg (Value.int .i64) ?_
    have e : i = g.tiers.length := by omega
    rw [hres, e, List.drop_length]; rfl
  refine pB rfl rfl ?_
  refine SL_nil (nx (SWP_ct rfl (SWP_seq (SWP_region ?_))))
  refine pI rfl rfl ?_
  refine SL_nil (nx (SWP_ret (nr (sr ?_))))
  refine fin [_] ⟨rfl, trivial⟩ ?_
  refine congrArg (Value.int .i64) ?_
  unfold tiersErr
  rw [if_pos (by omega)]
set_option maxRecDepth 100000 in
theorem checkI {m : Mem} {g : Game} (hin : g.In m) : CallsS Tryz.prog 37 [g.val].toArray [] m fun r σ' m' => σ' = [] ∧ m' = m ∧ ∃ s, r = .tuple #[.int .i64 (gameErr g), .string s] := by
  refine CallsS.ghost (R' := fun r σ' m' => m' = m ∧ ∃ s, r = .tuple #[.int .i64 (gameErr g), .string s]) ?_ ?h2
  case h2 =>
    rintro r σ' m' ⟨rfl, hr⟩ g0 W hC
    exact ⟨_, m', hC.sublist (List.nil_sublist _), Le.refl _, rfl, rfl, hr⟩
  dsimp only [Game.val]
  refine enter Tryz.func37 Tryz.ntmps37 rfl rfl ?_
  refine SWP_seq (SWP_region ?_)
  refine bx (v := .agg _) rfl rfl (fun B1 => ?_)
  refine pI rfl rfl ?_
  refine pS rfl rfl ?_
  refine SL_nil (nx (SWP_seq (SWP_seq (SWP_region ?_))))
  refine pu rfl rfl ?_
  refine lw (v := .string _) B1 0 rfl rfl rfl rfl ?_
  refine SL_pcall rfl rfl cb67 (nameImpl _) rfl ?_
  refine bsp 10 rfl (fun b10 => ?_) (fun b10 => ?_)
  · skip
    refine pB rfl rfl ?_
    refine SL_nil (nx (SWP_cf rfl (SWP_skip (nx (SWP_seq (SWP_seq (SWP_region ?_)))))))
    refine pu rfl rfl ?_
    refine lw (v := .int .i64 _) B1 1 rfl rfl rfl rfl ?_
    refine pc rfl rfl (fun c14 => ?_) (fun c14 => ?_)
    · skip
      refine pB rfl rfl ?_
      refine SL_yes rfl ?_
      refine pu rfl rfl ?_
      refine SL_yes rfl ?_
      refine lw (v := .int .i64 _) B1 1 rfl rfl rfl rfl ?_
      refine SL_yes rfl ?_
      refine pc rfl rfl (fun c18 => ?_) (fun c18 => ?_)
      · skip
        refine pB rfl rfl ?_
        refine SL_nil (nx (SWP_ct rfl (SWP_seq (SWP_region ?_))))
        refine pI rfl rfl ?_
        refine pS rfl rfl ?_
        refine SL_nil (nx (SWP_ret (nr ?_)))
        refine fin [_, _] ⟨rfl, rfl, trivial⟩ ?_
        refine ⟨rfl, ?_⟩
        have hge : gameErr g = 7 := by
          unfold gameErr
          rw [if_neg (by rw [b10]; exact Bool.noConfusion), if_pos (by omega)]
        rw [hge]
        exact ⟨_, rfl⟩
      refine pB rfl rfl ?_
      refine SL_nil (nx (SWP_cf rfl (SWP_skip (nx (SWP_seq (SWP_seq (SWP_region ?_)))))))
      refine lw (v := .agg _) B1 0 rfl rfl rfl rfl ?_
      refine SL_call rfl rfl cb68 (CallsS.frame0 (badMatrixI g)) rfl (fun v5_1 σ5_1 m5_1 hl5_1 hR5_1 => ?_)
      obtain ⟨σ₁, rfl, rfl, hm5_1, s1, rfl, hs1⟩ := hR5_1
      have hn5_1 := hm5_1.symm
      subst hn5_1
      first | refine pS rfl rfl ?_ | refine pu rfl rfl ?_
      refine SL_nil (nx (SWP_seq (SWP_region ?_)))
      first | refine pS rfl rfl ?_ | refine pu rfl rfl ?_
      refine pc rfl rfl (fun c23 => ?_) (fun c23 => ?_)
      · skip
        refine SL_nil (nx (SWP_ct rfl (SWP_seq (SWP_region ?_))))
        first | refine pS rfl rfl ?_ | refine pu rfl rfl ?_
        refine pI rfl rfl ?_
        first | refine pS rfl rfl ?_ | refine pu rfl rfl ?_
        refine SL_nil (nx (SWP_ret (nr ?_)))
        refine fin [_, _] ⟨rfl, rfl, trivial⟩ ?_
        refine ⟨rfl, ?_⟩
        have hge : gameErr g = 2 := by
          unfold gameErr
          rw [if_neg (by rw [b10]; exact Bool.noConfusion), if_neg (by omega), okE_f (fun h => c23 (hs1.2 h.1))]
        rw [hge]
        exact ⟨_, rfl⟩
      refine SL_nil (nx (SWP_cf rfl (SWP_skip (nx (SWP_seq (SWP_seq (SWP_region ?_)))))))
      refine lw (v := .agg _) B1 0 rfl rfl rfl rfl ?_
      refine SL_call rfl rfl cb69 (CallsS.frame0 (badTermsI g)) rfl (fun v8_1 σ8_1 m8_1 hl8_1 hR8_1 => ?_)
      obtain ⟨σ₁, rfl, rfl, hm8_1, s2, rfl, hs2⟩ := hR8_1
      have hn8_1 := hm8_1.symm
      subst hn8_1
      first | refine pS rfl rfl ?_ | refine pu rfl rfl ?_
      refine SL_nil (nx (SWP_seq (SWP_region ?_)))
      first | refine pS rfl rfl ?_ | refine pu rfl rfl ?_
      refine pc rfl rfl (fun c28 => ?_) (fun c28 => ?_)
      · skip
        refine SL_nil (nx (SWP_ct rfl (SWP_seq (SWP_region ?_))))
        first | refine pS rfl rfl ?_ | refine pu rfl rfl ?_
        refine pI rfl rfl ?_
        first | refine pS rfl rfl ?_ | refine pu rfl rfl ?_
        refine SL_nil (nx (SWP_ret (nr ?_)))
        refine fin [_, _] ⟨rfl, rfl, trivial⟩ ?_
        refine ⟨rfl, ?_⟩
        have hge : gameErr g = 2 := by
          unfold gameErr
          rw [if_neg (by rw [b10]; exact Bool.noConfusion), if_neg (by omega), okE_f (fun h => c28 (hs2.2 h.2))]
        rw [hge]
        exact ⟨_, rfl⟩
      refine SL_nil (nx (SWP_cf rfl (SWP_skip (nx (SWP_seq (SWP_seq (SWP_region ?_)))))))
      refine pu rfl rfl ?_
      refine lw (v := .slice _ _ _) B1 20 rfl rfl rfl rfl ?_
      refine SL_pcall rfl rfl cb70 (checkAddonsI hin.ads hin.each) rfl ?_
      first | refine pI rfl rfl ?_ | refine pu rfl rfl ?_
      refine SL_nil (nx (SWP_seq (SWP_region ?_)))
      first | refine pI rfl rfl ?_ | refine pu rfl rfl ?_
      refine pc rfl rfl (fun c34 => ?_) (fun c34 => ?_)
      · skip
        refine SL_nil (nx (SWP_ct rfl (SWP_seq (SWP_region ?_))))
        first | refine pI rfl rfl ?_ | refine pu rfl rfl ?_
        first | refine pI rfl rfl ?_ | refine pu rfl rfl ?_
        refine pS rfl rfl ?_
        refine SL_nil (nx (SWP_ret (nr ?_)))
        refine fin [_, _] ⟨rfl, rfl, trivial⟩ ?_
        refine ⟨rfl, ?_⟩
        have hge : gameErr g = addonsErr g.addons := by
          unfold gameErr
          rw [if_neg (by rw [b10]; exact Bool.noConfusion), if_neg (by omega), okE_t ⟨hs1.1 (Classical.not_not.1 c23), hs2.1 (Classical.not_not.1 c28)⟩, if_pos c34]
        rw [hge]
        exact ⟨_, rfl⟩
      refine SL_nil (nx (SWP_cf rfl (SWP_skip (nx (SWP_seq (SWP_seq (SWP_region ?_)))))))
      refine lw (v := .agg _) B1 0 rfl rfl rfl rfl ?_
      refine SL_pcall rfl rfl cb71 (checkTiersI hin) rfl ?_
      first | refine pI rfl rfl ?_ | refine pu rfl rfl ?_
      refine SL_nil (nx (SWP_seq (SWP_region ?_)))
      first | refine pI rfl rfl ?_ | refine pu rfl rfl ?_
      refine pc rfl rfl (fun c39 => ?_) (fun c39 => ?_)
      · skip
        refine SL_nil (nx (SWP_ct rfl (SWP_seq (SWP_region ?_))))
        first | refine pI rfl rfl ?_ | refine pu rfl rfl ?_
        first | refine pI rfl rfl ?_ | refine pu rfl rfl ?_
        refine pS rfl rfl ?_
        refine SL_nil (nx (SWP_ret (nr ?_)))
        refine fin [_, _] ⟨rfl, rfl, trivial⟩ ?_
        refine ⟨rfl, ?_⟩
        have hge : gameErr g = tiersErr g := by
          unfold gameErr
          rw [if_neg (by rw [b10]; exact Bool.noConfusion), if_neg (by omega), okE_t ⟨hs1.1 (Classical.not_not.1 c23), hs2.1 (Classical.not_not.1 c28)⟩, if_neg c34]
        rw [hge]
        exact ⟨_, rfl⟩
      refine SL_nil (nx (SWP_cf rfl (SWP_skip (nx (SWP_seq (SWP_region ?_))))))
      refine pI rfl rfl ?_
      refine pS rfl rfl ?_
      refine SL_nil (nx (SWP_ret ?_))
      refine fin [_, _] ⟨rfl, rfl, trivial⟩ ?_
      refine ⟨rfl, ?_⟩
      have hge : gameErr g = 0 := by
        unfold gameErr
        rw [if_neg (by rw [b10]; exact Bool.noConfusion), if_neg (by omega), okE_t ⟨hs1.1 (Classical.not_not.1 c23), hs2.1 (Classical.not_not.1 c28)⟩, if_neg c34]; omega
      rw [hge]
      exact ⟨_, rfl⟩
    refine pB rfl rfl ?_
    refine SL_no rfl rfl ?_
    refine SL_no rfl rfl ?_
    refine SL_no rfl rfl ?_
    refine pB rfl rfl ?_
    refine SL_nil (nx (SWP_cf rfl (SWP_skip (nx (SWP_seq (SWP_seq (SWP_region ?_)))))))
    refine lw (v := .agg _) B1 0 rfl rfl rfl rfl ?_
    refine SL_call rfl rfl cb68 (CallsS.frame0 (badMatrixI g)) rfl (fun v5_1 σ5_1 m5_1 hl5_1 hR5_1 => ?_)
    obtain ⟨σ₁, rfl, rfl, hm5_1, s1, rfl, hs1⟩ := hR5_1
    have hn5_1 := hm5_1.symm
    subst hn5_1
    first | refine pS rfl rfl ?_ | refine pu rfl rfl ?_
    refine SL_nil (nx (SWP_seq (SWP_region ?_)))
    first | refine pS rfl rfl ?_ | refine pu rfl rfl ?_
    refine pc rfl rfl (fun c23 => ?_) (fun c23 => ?_)
    · skip
      refine SL_nil (nx (SWP_ct rfl (SWP_seq (SWP_region ?_))))
      first | refine pS rfl rfl ?_ | refine pu rfl rfl ?_
      refine pI rfl rfl ?_
      first | refine pS rfl rfl ?_ | refine pu rfl rfl ?_
      refine SL_nil (nx (SWP_ret (nr ?_)))
      refine fin [_, _] ⟨rfl, rfl, trivial⟩ ?_
      refine ⟨rfl, ?_⟩
      have hge : gameErr g = 2 := by
        unfold gameErr
        rw [if_neg (by rw [b10]; exact Bool.noConfusion), if_neg (by omega), okE_f (fun h => c23 (hs1.2 h.1))]
      rw [hge]
      exact ⟨_, rfl⟩
    refine SL_nil (nx (SWP_cf rfl (SWP_skip (nx (SWP_seq (SWP_seq (SWP_region ?_)))))))
    refine lw (v := .agg _) B1 0 rfl rfl rfl rfl ?_
    refine SL_call rfl rfl cb69 (CallsS.frame0 (badTermsI g)) rfl (fun v8_1 σ8_1 m8_1 hl8_1 hR8_1 => ?_)
    obtain ⟨σ₁, rfl, rfl, hm8_1, s2, rfl, hs2⟩ := hR8_1
    have hn8_1 := hm8_1.symm
    subst hn8_1
    first | refine pS rfl rfl ?_ | refine pu rfl rfl ?_
    refine SL_nil (nx (SWP_seq (SWP_region ?_)))
    first | refine pS rfl rfl ?_ | refine pu rfl rfl ?_
    refine pc rfl rfl (fun c28 => ?_) (fun c28 => ?_)
    · skip
      refine SL_nil (nx (SWP_ct rfl (SWP_seq (SWP_region ?_))))
      first | refine pS rfl rfl ?_ | refine pu rfl rfl ?_
      refine pI rfl rfl ?_
      first | refine pS rfl rfl ?_ | refine pu rfl rfl ?_
      refine SL_nil (nx (SWP_ret (nr ?_)))
      refine fin [_, _] ⟨rfl, rfl, trivial⟩ ?_
      refine ⟨rfl, ?_⟩
      have hge : gameErr g = 2 := by
        unfold gameErr
        rw [if_neg (by rw [b10]; exact Bool.noConfusion), if_neg (by omega), okE_f (fun h => c28 (hs2.2 h.2))]
      rw [hge]
      exact ⟨_, rfl⟩
    refine SL_nil (nx (SWP_cf rfl (SWP_skip (nx (SWP_seq (SWP_seq (SWP_region ?_)))))))
    refine pu rfl rfl ?_
    refine lw (v := .slice _ _ _) B1 20 rfl rfl rfl rfl ?_
    refine SL_pcall rfl rfl cb70 (checkAddonsI hin.ads hin.each) rfl ?_
    first | refine pI rfl rfl ?_ | refine pu rfl rfl ?_
    refine SL_nil (nx (SWP_seq (SWP_region ?_)))
    first | refine pI rfl rfl ?_ | refine pu rfl rfl ?_
    refine pc rfl rfl (fun c34 => ?_) (fun c34 => ?_)
    · skip
      refine SL_nil (nx (SWP_ct rfl (SWP_seq (SWP_region ?_))))
      first | refine pI rfl rfl ?_ | refine pu rfl rfl ?_
      first | refine pI rfl rfl ?_ | refine pu rfl rfl ?_
      refine pS rfl rfl ?_
      refine SL_nil (nx (SWP_ret (nr ?_)))
      refine fin [_, _] ⟨rfl, rfl, trivial⟩ ?_
      refine ⟨rfl, ?_⟩
      have hge : gameErr g = addonsErr g.addons := by
        unfold gameErr
        rw [if_neg (by rw [b10]; exact Bool.noConfusion), if_neg (by omega), okE_t ⟨hs1.1 (Classical.not_not.1 c23), hs2.1 (Classical.not_not.1 c28)⟩, if_pos c34]
      rw [hge]
      exact ⟨_, rfl⟩
    refine SL_nil (nx (SWP_cf rfl (SWP_skip (nx (SWP_seq (SWP_seq (SWP_region ?_)))))))
    refine lw (v := .agg _) B1 0 rfl rfl rfl rfl ?_
    refine SL_pcall rfl rfl cb71 (checkTiersI hin) rfl ?_
    first | refine pI rfl rfl ?_ | refine pu rfl rfl ?_
    refine SL_nil (nx (SWP_seq (SWP_region ?_)))
    first | refine pI rfl rfl ?_ | refine pu rfl rfl ?_
    refine pc rfl rfl (fun c39 => ?_) (fun c39 => ?_)
    · skip
      refine SL_nil (nx (SWP_ct rfl (SWP_seq (SWP_region ?_))))
      first | refine pI rfl rfl ?_ | refine pu rfl rfl ?_
      first | refine pI rfl rfl ?_ | refine pu rfl rfl ?_
      refine pS rfl rfl ?_
      refine SL_nil (nx (SWP_ret (nr ?_)))
      refine fin [_, _] ⟨rfl, rfl, trivial⟩ ?_
      refine ⟨rfl, ?_⟩
      have hge : gameErr g = tiersErr g := by
        unfold gameErr
        rw [if_neg (by rw [b10]; exact Bool.noConfusion), if_neg (by omega), okE_t ⟨hs1.1 (Classical.not_not.1 c23), hs2.1 (Classical.not_not.1 c28)⟩, if_neg c34]
      rw [hge]
      exact ⟨_, rfl⟩
    refine SL_nil (nx (SWP_cf rfl (SWP_skip (nx (SWP_seq (SWP_region ?_))))))
    refine pI rfl rfl ?_
    refine pS rfl rfl ?_
    refine SL_nil (nx (SWP_ret ?_))
    refine fin [_, _] ⟨rfl, rfl, trivial⟩ ?_
    refine ⟨rfl, ?_⟩
    have hge : gameErr g = 0 := by
      unfold gameErr
      rw [if_neg (by rw [b10]; exact Bool.noConfusion), if_neg (by omega), okE_t ⟨hs1.1 (Classical.not_not.1 c23), hs2.1 (Classical.not_not.1 c28)⟩, if_neg c34]; omega
    rw [hge]
    exact ⟨_, rfl⟩
  refine pB rfl rfl ?_
  refine SL_nil (nx (SWP_ct rfl (SWP_seq (SWP_region ?_))))
  refine pI rfl rfl ?_
  refine pS rfl rfl ?_
  refine SL_nil (nx (SWP_ret (nr ?_)))
  refine fin [_, _] ⟨rfl, rfl, trivial⟩ ?_
  refine ⟨rfl, ?_⟩
  have hge : gameErr g = 4 := by
    unfold gameErr
    rw [if_pos b10]
  rw [hge]
  exact ⟨_, rfl⟩
end Go.Proofs.YtifjhpaoejageaaGreatDoor
