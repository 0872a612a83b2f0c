/- ledger.sortedKeys: the keys of a map in order. -/
import Derived.Test.YtadnflbohflckaaLedL
import Derived.Test.YtadnflbohflckaaEngSort
import Derived.Test.YtadnflbohflckaaShelf
namespace Go.Proofs.Ytadnflbohflckaa
open Eng

def strE (s : ByteArray) : List Value := [.string s]
theorem strE_len (s : ByteArray) : (strE s).length = 1 := rfl
theorem bless_lt : ∀ (a b : List UInt8), Op.bytesLess a b = decide (a < b)
  | [], [] => by simp [Op.bytesLess]
  | _ :: _, [] => by simp [Op.bytesLess]
  | [], _ :: _ => by simp [Op.bytesLess]
  | x :: a, y :: b => by
    simp only [Op.bytesLess, bless_lt a b, List.cons_lt_cons_iff]
    by_cases h : x < y <;> by_cases e : x = y <;> simp [h, e]
def ofL (l : List UInt8) : ByteArray := ⟨l.toArray⟩
def kle (a b : ByteArray) : Prop := klt b a = false
def sortK (ks : List ByteArray) : List ByteArray := ((ks.map fun s => s.data.toList).mergeSort fun x y => decide (x ≤ y)).map ofL
theorem ofL_map (ks : List ByteArray) : (ks.map fun s => s.data.toList).map ofL = ks := by
  rw [List.map_map]
  conv => rhs; rw [← List.map_id ks]
  exact List.map_congr_left fun s _ => by simp [ofL]
theorem ofL_back (L : List (List UInt8)) : (L.map ofL).map (fun s => s.data.toList) = L := by
  rw [List.map_map]
  conv => rhs; rw [← List.map_id L]
  exact List.map_congr_left fun s _ => by simp [ofL]
theorem sortK_perm (ks : List ByteArray) : (sortK ks).Perm ks := by
  have h := (List.mergeSort_perm (ks.map fun s => s.data.toList) fun x y => decide (x ≤ y)).map ofL
  rw [ofL_map] at h
  exact h
theorem sortK_sorted (ks : List ByteArray) : (sortK ks).Pairwise kle := by
  have h := List.pairwise_mergeSort (le := fun (x y : List UInt8) => decide (x ≤ y)) (fun a b c h1 h2 => by
    simp only [decide_eq_true_eq] at h1 h2 ⊢; exact List.le_trans h1 h2) (fun a b => by
    simp only [Bool.or_eq_true, decide_eq_true_eq]; exact List.le_total a b) (ks.map fun s => s.data.toList)
  unfold sortK
  rw [List.pairwise_map]
  refine h.imp fun {a b} hab => ?_
  unfold kle klt ofL
  rw [ByteArray.toList_eq, ByteArray.toList_eq, bless_lt]
  simp only [decide_eq_true_eq] at hab
  simpa using hab
theorem strE_map (ks : List ByteArray) : ks.flatMap strE = (ks.map fun s => s.data.toList).map Go.Proofs.encStr := by
  induction ks with
  | nil => rfl
  | cons s ks ih => simp only [List.flatMap_cons, List.map_cons, ih]; rfl
theorem nodup_le : ∀ (n : Nat) (js : List Nat), js.Nodup → (∀ j ∈ js, j < n) → js.length ≤ n
  | 0, [], _, _ => Nat.le_refl _
  | 0, j :: _, _, h => by have := h j (by simp); omega
  | n + 1, js, hnd, h => by
    by_cases hm : n ∈ js
    · have h1 := nodup_le n (js.erase n) (hnd.erase n) (fun j hj => by
        have h2 := hnd.mem_erase_iff.1 hj
        have := h j h2.2
        have := h2.1
        omega)
      rw [List.length_erase_of_mem hm] at h1
      omega
    · have := nodup_le n js hnd (fun j hj => by
        have := h j hj
        rcases Nat.lt_or_ge j n with h' | h'
        · exact h'
        · exact absurd (by rw [show n = j by omega]; exact hj) hm)
      omega
theorem sortS {m : Mem} {τ σk : Sig} {sv : Value} {ks : List ByteArray} (hown : OwnS 9 1 sv (ks.flatMap strE) σk) (hsz : ks.length < 4611686018427387904) :
    CallsS Try.prog 31 [sv].toArray (σk ++ τ) m fun _ σ' m' => m' = m ∧ ∃ σk', σ' = σk' ++ τ ∧ OwnS 9 1 sv ((sortK ks).flatMap strE) σk' := by
  have hx : (ks.flatMap strE).length = ks.length := by rw [flatMap_len strE_len, Nat.mul_one]
  have hl2 : (sortK ks).length = ks.length := (sortK_perm ks).length_eq
  generalize hxs : ks.flatMap strE = xs at hown hx
  cases hown with
  | nil =>
    have h0 : ks = [] := List.eq_nil_of_length_eq_zero (by simpa using hx.symm)
    subst h0
    intro g W hC
    exact (Try.sort_Strings_none none 0 W).mono fun e W' ⟨h1, h2⟩ => by
      subst h2
      refine ⟨_, _, m, h1, hC, Le.refl m, rfl, [], rfl, ?_⟩
      have e0 : sortK [] = [] := List.eq_nil_of_length_eq_zero hl2
      rw [e0]; exact .nil
  | row B n cap xs hn hle hcm =>
    have hnl : n = ks.length := by omega
    subst hnl
    subst hxs
    have hs := CallsS.sorted (P := Try.prog) (m := m) (enc := Go.Proofs.encStr) (F := 31) (B := B) (e := 9) (cap := cap) (cap' := cap) (ss := ks.map fun s => s.data.toList) (ss' := (ks.map fun s => s.data.toList).mergeSort fun x y => decide (x ≤ y)) (τ := τ)
      (by simp) (fun w hH hb => by
        have h0 := Try.sort_Strings B 0 cap (ks.map fun s => s.data.toList) w hH hb (by rw [List.length_map]; exact hsz)
        exact h0)
    rw [← strE_map, List.length_map] at hs
    refine hs.mono fun v σ' m' _ ⟨h1, h2⟩ => ⟨h2, [(B, Row 9 1 cap ((sortK ks).flatMap strE))], ?_, ?_⟩
    · rw [h1, strE_map (sortK ks)]
      unfold sortK
      rw [ofL_back]; rfl
    · exact .row B ks.length cap _ (by rw [flatMap_len strE_len, Nat.mul_one, hl2, Nat.mul_one]) hle hcm

def keyAt (l : Acc) (j : Nat) : ByteArray := ((l[j]?).map (·.1)).getD ByteArray.empty
def lenOf : Value → Nat
  | .slice _ n _ => n
  | _ => 0
theorem keys_perm {l : Acc} {js : List Nat} (h1 : js.Nodup) (h2 : ∀ j ∈ js, j < l.length) (h3 : ∀ j, j < l.length → j ∈ js) : (js.map (keyAt l)).Perm (l.map (·.1)) := by
  have hp : js.Perm (List.range l.length) := (List.perm_ext_iff_of_nodup h1 List.nodup_range).2 fun j => ⟨fun h => List.mem_range.2 (h2 j h), fun h => h3 j (List.mem_range.1 h)⟩
  have h4 := hp.map (keyAt l)
  have e : (List.range l.length).map (keyAt l) = l.map (·.1) := by
    apply List.ext_getElem?
    intro j
    simp only [List.getElem?_map]
    by_cases hj : j < l.length
    · rw [List.getElem?_range hj, Option.map_some]
      unfold keyAt
      rw [List.getElem?_eq_getElem hj]; rfl
    · rw [List.getElem?_eq_none (by simpa using hj), List.getElem?_eq_none (by omega)]; rfl
  rwa [e] at h4

theorem ledKeys {m : Mem} {M : Nat} {l : Acc} (hl : l.length ≤ 1000) :
    CallsS Try.prog 30 [.map (some M)].toArray [(M, MapC sV iV l)] m fun r σ' m' => m' = m ∧ ∃ σk ks, σ' = σk ++ [(M, MapC sV iV l)] ∧ OwnS 9 1 r ((sortK ks).flatMap strE) σk ∧ ks.Perm (l.map (·.1)) := by
  refine enter Try.func30 Try.ntmps30 rfl rfl ?_
  refine SWP_seq ?_
  refine SWP_region ?_
  first | refine pu (v := .slice _ _ _) rfl rfl ?_ | refine pu rfl rfl ?_
  refine SL_nil ?_
  refine nx ?_
  refine SWP_seq ?_
  refine SWP_region ?_
  first | refine pu (v := .map _) rfl rfl ?_ | refine pu rfl rfl ?_
  refine lnm (kc := sV) (vc := iV) (l := l) rfl rfl (.head _) rfl ?_
  refine msl rfl rfl rfl rfl (by show 16 * l.length ≤ _; omega) (by unfold maxLen; omega) rfl (fun B7 σ7 hσ7 hown7 => ?_)
  first | refine pu (v := .slice _ _ _) rfl rfl ?_ | refine pu rfl rfl ?_
  refine SL_nil ?_
  refine nx ?_
  refine SWP_seq ?_
  refine SWP_seq ?_
  refine SWP_openMap (kc := sV) (vc := iV) (l := l) (List.perm_append_comm (l₂ := [_])) (fun bl clock hnd hlt hbl => ?_)
  refine SWP_region ?_
  first | refine pu (v := .map _) rfl rfl ?_ | refine pu rfl rfl ?_
  refine rgm rfl rfl (.head _) rfl (fun r => ?_)
  refine SL_nil ?_
  refine nx ?_
  refine SWP_block ?_
  refine SWP_loop [3, 4, 10, 11, 12, 13, 14, 15, 16, 17] [3]
      (fun vs σ' m' => ∃ (js : List Nat) (v3 : Value) (σk : Sig), vs = [v3] ∧ js.Nodup ∧ (∀ j ∈ js, j < l.length) ∧ OwnS 9 1 v3 ((js.map (keyAt l)).flatMap strE) σk ∧ σ' = (r, IterB M clock (js.map (fun j => bl.getD j 0)).toArray) :: (M, MapB sV iV l bl clock) :: σk ∧ m = m')
      (fun vs => l.length - lenOf (vs.getD 0 undef)) rfl ?_ ?_
  · exact ⟨[], _, _, rfl, List.nodup_nil, by simp, hown7, rfl, rfl⟩
  · intro u0 vs0 σ0 m0 hJ0 _
    obtain ⟨js, v3, σk, rfl, hjnd, hjlt, hown, rfl, rfl⟩ := hJ0
    obtain ⟨a, cap, rfl⟩ := hown.lenL (by omega) strE_len
    have hjl := nodup_le l.length js hjnd hjlt
    rw [List.length_map] at hown ⊢
    refine SWP_seq ?_
    refine SWP_region ?_
    refine nxm hlt rfl rfl (.head _) rfl (fun hdone => ?_) (fun j b p hb hp hnew => ?_)
    · skip
      refine pu (v := .bool false) rfl rfl ?_
      refine SL_nil ?_
      refine nx ?_
      refine SWP_seq ?_
      refine SWP_cf rfl ?_
      refine SWP_exit ?_
      refine ne ?_
      refine ne ?_
      refine be rfl ?_
      refine nx ?_
      refine SWP_seq ?_
      refine SWP_weak (List.sublist_cons_self _ _) ?_
      refine SWP_imp (MapB.close hnd hlt) ?_
      refine SWP_region ?_
      first | refine pu (v := .slice _ _ _) rfl rfl ?_ | refine pu rfl rfl ?_
      refine SL_call rfl rfl cb31 (CallsS.perm1 (sortS hown (by rw [List.length_map]; omega)) (List.perm_append_comm (l₁ := [_]))) rfl (fun v6_1 σ6_1 m6_1 hl6_1 hR6_1 => ?_)
      obtain ⟨rfl, σs, rfl, howns⟩ := hR6_1
      refine SL_nil ?_
      refine nx ?_
      refine SWP_seq ?_
      refine SWP_region ?_
      first | refine pu (v := .slice _ _ _) rfl rfl ?_ | refine pu rfl rfl ?_
      first | refine pu (v := .slice _ _ _) rfl rfl ?_ | refine pu rfl rfl ?_
      refine SL_nil ?_
      refine nx ?_
      refine SWP_ret ?_
      refine fin [_] ⟨rfl, trivial⟩ ?_
      refine ⟨rfl, σs, js.map (keyAt l), rfl, howns, keys_perm hjnd hjlt (fun j hj => ?_)⟩
      have hjb : j < bl.length := by omega
      have h1 := hdone bl[j] (List.getElem_mem hjb)
      rw [List.toList_toArray] at h1
      obtain ⟨i, hi, e⟩ := List.mem_map.1 h1
      have hib : i < bl.length := by have := hjlt i hi; omega
      rw [List.getD_eq_getElem?_getD, List.getElem?_eq_getElem hib, Option.getD_some] at e
      have hpw := List.pairwise_iff_getElem.1 hnd
      have hij : i = j := by
        rcases Nat.lt_trichotomy i j with h | h | h
        · exact absurd e (hpw i j hib hjb h)
        · exact h
        · exact absurd e.symm (hpw j i hjb hib h)
      rw [← hij]; exact hi
    · skip
      refine pu (v := .bool true) rfl rfl ?_
      refine SL_nil ?_
      refine nx ?_
      refine SWP_seq ?_
      refine SWP_ct rfl ?_
      refine SWP_skip ?_
      refine nx ?_
      refine SWP_block ?_
      refine SWP_seq ?_
      refine SWP_region ?_
      refine enm hnd rfl (.head _) (.tail _ (.head _)) hb hp rfl ?_
      first | refine pu (v := .string _) rfl rfl ?_ | refine pu rfl rfl ?_
      first | refine pu (v := .string _) rfl rfl ?_ | refine pu rfl rfl ?_
      refine SL_nil ?_
      refine nx ?_
      refine SWP_region ?_
      first | refine pu (v := .slice _ _ _) rfl rfl ?_ | refine pu rfl rfl ?_
      first | refine pu (v := .string _) rfl rfl ?_ | refine pu rfl rfl ?_
      refine bs rfl rfl rfl rfl rfl (fun B16 => ?_)
      refine ap (e := 9) (size := 1) (bytes := 16) rfl rfl rfl rfl rfl rfl rfl hown (List.perm_append_comm (l₁ := [_, _, _])) rfl (Rd.of_cells (.head _)) rfl rfl (by rw [flatMap_len strE_len, List.length_map]; omega) rfl rfl (fun v17 σ17 hown17 => ?_)
      refine SL_weak (List.Sublist.append_left (List.sublist_cons_self _ _) _) ?_
      refine SL_perm (List.perm_append_comm (l₂ := [_, _])) ?_
      have hjn : j ∉ js := fun hm => hnew (by
        rw [List.toList_toArray]
        refine List.mem_map.2 ⟨j, hm, ?_⟩
        exact (show bl.getD j 0 = b by rw [List.getD_eq_getElem?_getD, hb]; rfl))
      have hjl2 : j < l.length := (List.getElem?_eq_some_iff.1 hp).1
      have hnd2 : (js ++ [j]).Nodup := by
        rw [List.nodup_append]
        exact ⟨hjnd, by simp, fun x hx y hy e => by simp at hy; subst hy; subst e; exact hjn hx⟩
      have hlt2 : ∀ i ∈ js ++ [j], i < l.length := fun i hi => by
        rcases List.mem_append.1 hi with hi | hi
        · exact hjlt i hi
        · simp at hi; omega
      have hown18 : OwnS 9 1 v17 (((js ++ [j]).map (keyAt l)).flatMap strE) σ17 := by
        rw [List.map_append, List.flatMap_append]
        have ek : keyAt l j = p.1 := by unfold keyAt; rw [hp]; rfl
        simp only [List.map_cons, List.map_nil, ek, List.flatMap_cons, List.flatMap_nil]
        exact hown17
      obtain ⟨a', cap', hv17⟩ := hown18.lenL (by omega) strE_len
      rw [List.length_map, List.length_append, List.length_singleton] at hv17
      first | refine pu (v := .slice _ _ _) rfl rfl ?_ | refine pu rfl rfl ?_
      refine SL_nil ?_
      refine nb ?_
      refine nx ?_
      refine ⟨by repeat (first | exact Under.upds rfl (Under.hav _ _ _) | exact Under.hav _ _ _ | refine Under.upd rfl ?_), ?_, ?_⟩
      · refine ⟨js ++ [j], _, σ17, rfl, hnd2, hlt2, ?_, ?_, rfl⟩
        · exact hown18
        · have eb : bl.getD j 0 = b := by rw [List.getD_eq_getElem?_getD, hb]; rfl
          rw [List.map_append]
          simp only [List.map_cons, List.map_nil, eb]
          simp
      · have hjl3 := nodup_le l.length (js ++ [j]) hnd2 hlt2
        rw [List.length_append, List.length_singleton] at hjl3
        simp only [L_vals, List.map, List.getD]
        show l.length - lenOf v17 < l.length - js.length
        rw [hv17]
        show l.length - (js.length + 1) < l.length - js.length
        omega

end Go.Proofs.Ytadnflbohflckaa

