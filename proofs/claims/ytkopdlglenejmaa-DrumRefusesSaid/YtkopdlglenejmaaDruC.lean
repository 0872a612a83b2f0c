/- The generators of numbers: Sample. -/
import Derived.Test.YtkopdlglenejmaaDruB
import Derived.Test.YtkopdlglenejmaaEngLow
namespace Go.Proofs.Ytkopdlglenejmaa
open Eng

def iotaL (n : Nat) : List Int := (List.range n).map fun (i : Nat) => (i : Int) + 1
theorem iotaL_len (n : Nat) : (iotaL n).length = n := by simp [iotaL]
theorem iotaL_succ (n : Nat) : iotaL (n + 1) = iotaL n ++ [(n : Int) + 1] := by simp [iotaL, List.range_succ]
def swapL (L : List Int) (i j : Nat) : List Int := match L[i]?, L[j]? with
  | some x, some y => (L.set i y).set j x
  | _, _ => L
theorem swapL_at {L : List Int} {i j : Nat} {x y : Int} (hx : L[i]? = some x) (hy : L[j]? = some y) : swapL L i j = (L.set i y).set j x := by unfold swapL; rw [hx, hy]
theorem swapL_len (L : List Int) (i j : Nat) : (swapL L i j).length = L.length := by
  unfold swapL
  split
  · rw [List.length_set, List.length_set]
  · rfl
/-- k of the numbers of L from place i on: the error, the list, the state. -/
def sampN (n : Int) : Nat → Nat → Int → List Int → Int × List Int × Int
  | 0, _, s, L => (0, L, s)
  | k + 1, i, s, L => if (belowF (n - i) s).2.1 ≠ 0 then ((belowF (n - i) s).2.1, L, (belowF (n - i) s).2.2) else sampN n k (i + 1) (belowF (n - i) s).2.2 (swapL L i (i + (belowF (n - i) s).1.toNat))
def sampF (n k s : Int) : Int × List Int × Int :=
  if n < 0 ∨ 4096 < n ∨ k < 0 ∨ n < k then (2, [], s)
  else if (sampN n k.toNat 0 s (iotaL n.toNat)).1 ≠ 0 then ((sampN n k.toNat 0 s (iotaL n.toNat)).1, [], (sampN n k.toNat 0 s (iotaL n.toNat)).2.2)
  else (0, (sampN n k.toNat 0 s (iotaL n.toNat)).2.1.take k.toNat, (sampN n k.toNat 0 s (iotaL n.toNat)).2.2)
theorem sampN_err {n s : Int} {k i : Nat} {L : List Int} (h : (belowF (n - i) s).2.1 ≠ 0) : sampN n (k + 1) i s L = ((belowF (n - i) s).2.1, L, (belowF (n - i) s).2.2) := if_pos h
theorem sampN_ok {n s : Int} {k i : Nat} {L : List Int} (h : (belowF (n - i) s).2.1 = 0) : sampN n (k + 1) i s L = sampN n k (i + 1) (belowF (n - i) s).2.2 (swapL L i (i + (belowF (n - i) s).1.toNat)) := if_neg (fun hh => hh h)
theorem sampF_rng {n k s : Int} (h : n < 0 ∨ 4096 < n ∨ k < 0 ∨ n < k) : sampF n k s = (2, [], s) := if_pos h
theorem sampF_err {n k : Nat} {s : Int} (h : ¬ ((n : Int) < 0 ∨ 4096 < (n : Int) ∨ (k : Int) < 0 ∨ (n : Int) < k)) {e s' : Int} {L : List Int} (he : sampN n k 0 s (iotaL n) = (e, L, s')) (h0 : e ≠ 0) : sampF n k s = (e, [], s') := by
  unfold sampF
  rw [if_neg h, Int.toNat_natCast, Int.toNat_natCast, he]
  exact if_pos h0
theorem sampF_ok {n k : Nat} {s : Int} (h : ¬ ((n : Int) < 0 ∨ 4096 < (n : Int) ∨ (k : Int) < 0 ∨ (n : Int) < k)) {s' : Int} {L : List Int} (he : sampN n k 0 s (iotaL n) = (0, L, s')) : sampF n k s = (0, L.take k, s') := by
  unfold sampF
  rw [if_neg h, Int.toNat_natCast, Int.toNat_natCast, he]
  exact if_neg (fun hh => hh rfl)
theorem rep_flat (n : Nat) : (List.replicate n (0 : Int)).flatMap intE = List.replicate n (.int .i64 0) := by
  induction n with
  | zero => rfl
  | succ n ih => rw [List.replicate_succ, List.flatMap_cons, ih]; rfl
theorem iota_set {n i : Nat} (hi : i < n) : (iotaL i ++ List.replicate (n - i) (0 : Int)).set i ((i : Int) + 1) = iotaL (i + 1) ++ List.replicate (n - (i + 1)) 0 := by
  rw [show n - i = (n - (i + 1)) + 1 by omega, List.replicate_succ, iotaL_succ, List.set_append, if_neg (by rw [iotaL_len]; exact Nat.lt_irrefl i), iotaL_len, Nat.sub_self, List.set_cons_zero, List.append_assoc]
  rfl
theorem iota_at {n i : Nat} (hi : i < n) : (iotaL i ++ List.replicate (n - i) (0 : Int))[i]? = some 0 := by
  rw [List.getElem?_append_right (by rw [iotaL_len]; exact Nat.le_refl _), iotaL_len, Nat.sub_self, List.getElem?_replicate, if_pos (by omega)]
theorem permS {α : Type} (a b c d : α) (l : List α) : ([a] ++ (b :: (l ++ [c, d]))).Perm (b :: (l ++ [c, d, a])) := by
  refine List.perm_append_comm.trans ?_
  simp

theorem ascG {m : Mem} {n : Nat} (hn : n ≤ 4096) : CallsS Try.prog 66 [.int .i64 (n : Nat)].toArray [] m fun r σ' m' => (∃ a c, r = .slice a n c ∧ OwnS 3 1 r ((iotaL n).flatMap intE) σ') ∧ m' = m := by
  refine enter Try.func66 Try.ntmps66 rfl rfl ?_
  refine SWP_seq ?_
  refine SWP_region ?_
  refine pL rfl rfl ?_
  refine SL_nil ?_
  refine nx ?_
  refine SWP_seq ?_
  refine SWP_region ?_
  first | refine pI rfl rfl ?_ | refine pu rfl rfl ?_
  refine mkn (c := n) (z := .int .i64 0) rfl rfl rfl rfl rfl rfl (by show 8 * n ≤ 281474976710656; omega) (by unfold maxLen; omega) rfl (fun B6 σ6 hown6 => ?_)
  rw [← rep_flat] at hown6
  rw [List.append_nil]
  first | refine pL rfl rfl ?_ | refine pu rfl rfl ?_
  refine SL_nil ?_
  refine nx ?_
  refine SWP_seq ?_
  refine SWP_seq ?_
  refine SWP_region ?_
  first | refine pL rfl rfl ?_ | refine pu rfl rfl ?_
  refine pu rfl rfl ?_
  refine pI rfl rfl ?_
  refine SL_nil ?_
  refine nx ?_
  refine SWP_block ?_
  refine SWP_loop [4, 9, 10, 11, 12, 13, 14, 15, 16, 17] [9]
      (fun vs σ' m' => ∃ (i : Nat), vs = [.int .i64 (i : Nat)] ∧ i ≤ n ∧ OwnS 3 1 (.slice (some ⟨B6, 0, none⟩) n n) ((iotaL i ++ List.replicate (n - i) (0 : Int)).flatMap intE) σ' ∧ m = m')
      (fun vs => n - nOf (vs.getD 0 undef)) rfl ?_ ?_
  · exact ⟨0, rfl, by omega, hown6, rfl⟩
  intro u0 vs0 σ0 m0 hJ0 _
  obtain ⟨i, rfl, hi, hown, rfl⟩ := hJ0
  refine SWP_seq ?_
  refine SWP_region ?_
  refine pc rfl rfl (fun c10 => ?_) (fun c10 => ?_)
  · skip
    refine SL_nil ?_
    refine nx ?_
    refine SWP_seq ?_
    refine SWP_ct rfl ?_
    refine SWP_skip ?_
    refine nx ?_
    refine SWP_seq ?_
    refine SWP_block ?_
    refine SWP_seq ?_
    refine SWP_region ?_
    first | refine pI rfl rfl ?_ | refine pu rfl rfl ?_
    first | refine pI rfl rfl ?_ | refine pu rfl rfl ?_
    refine SL_nil ?_
    refine nx ?_
    refine SWP_region ?_
    first | refine pL rfl rfl ?_ | refine pu rfl rfl ?_
    first | refine pI rfl rfl ?_ | refine pu rfl rfl ?_
    first | refine pI rfl rfl ?_ | refine pu rfl rfl ?_
    first | refine pw rfl rfl (w64 (by omega) (by omega)) ?_ | refine pu rfl rfl ?_
    obtain ⟨ad, e6, _, _, hrd⟩ := hown.atN (by omega) intE_len (iota_at (show i < n by omega))
    cases e6
    refine ia (es := 1) rfl rfl rfl (Nat.mul_one _) rfl rfl (by omega) rfl ?_
    refine stL (σe := σ0) (τ := []) (k := i) (b := 0) (b' := (i : Int) + 1) (off := 0) intE_len rfl hown (by simp) (iota_at (by omega)) rfl (q1 _ _) rfl rfl (by show 0 + 1 ≤ 1; omega) rfl rfl (fun σ2 hown2 => ?_)
    rw [List.append_nil]
    rw [iota_set (by omega)] at hown2
    refine SL_nil ?_
    refine nb ?_
    refine nx ?_
    refine SWP_region ?_
    first | refine pw rfl rfl (w64 (by omega) (by omega)) ?_ | refine pu rfl rfl ?_
    refine pI rfl rfl ?_
    refine SL_nil ?_
    refine nx ?_
    refine ⟨by repeat (first | exact Under.upds rfl (Under.hav _ _ _) | exact Under.hav _ _ _ | refine Under.upd rfl ?_), ?_, ?_⟩
    · exact ⟨i + 1, rfl, by omega, hown2, rfl⟩
    · simp only [L_vals, List.map, List.getD]; show n - (i + 1) < n - i; omega
  refine SL_nil ?_
  refine nx ?_
  refine SWP_seq ?_
  refine SWP_cf rfl ?_
  refine SWP_exit ?_
  refine ne ?_
  refine ne ?_
  refine be rfl ?_
  refine nx ?_
  refine SWP_seq ?_
  refine SWP_region ?_
  first | refine pL rfl rfl ?_ | refine pu rfl rfl ?_
  first | refine pL rfl rfl ?_ | refine pu rfl rfl ?_
  refine SL_nil ?_
  refine nx ?_
  refine SWP_ret ?_
  refine fin [_] ⟨rfl, trivial⟩ ?_
  obtain rfl : i = n := by omega
  rw [Nat.sub_self, List.replicate_zero, List.append_nil] at hown
  exact ⟨⟨_, _, rfl, hown⟩, rfl⟩

theorem risR {m : Mem} {n : Nat} (hn : n ≤ 4096) : CallsS Try.prog 52 [.int .i64 (n : Nat)].toArray [] m fun r σ' m' => (∃ σe τ, σ' = σe ++ τ ∧ OwnS 3 1 r ((iotaL n).flatMap intE) σe) ∧ m' = m := by
  refine enter Try.func52 Try.ntmps52 rfl rfl ?_
  refine SWP_seq ?_
  refine SWP_region ?_
  refine pL rfl rfl ?_
  refine SL_nil ?_
  refine nx ?_
  refine SWP_seq ?_
  refine SWP_region ?_
  refine pL rfl rfl ?_
  refine SL_nil ?_
  refine nx ?_
  refine SWP_seq ?_
  refine SWP_seq ?_
  refine SWP_region ?_
  refine pI rfl rfl ?_
  refine SL_nil ?_
  refine nx ?_
  refine SWP_block ?_
  refine SWP_loop [3, 4, 5, 6, 7, 8, 9, 10, 11, 12, 13] [3, 4]
      (fun vs σ' m' => ∃ (i : Nat) (w3 : Value) (σ1 : Sig), vs = [w3, .int .i64 ((i : Int) + 1)] ∧ i ≤ n ∧ OwnS 3 1 w3 ((iotaL i).flatMap intE) σ1 ∧ σ' = σ1 ++ [] ∧ m = m')
      (fun vs => n + 1 - nOf (vs.getD 1 undef)) rfl ?_ ?_
  · exact ⟨0, _, [], rfl, by omega, .nil, rfl, rfl⟩
  intro u0 vs0 σ0 m0 hJ0 _
  obtain ⟨i, w3, σ1, rfl, hi, hown, rfl, rfl⟩ := hJ0
  refine SWP_seq ?_
  refine SWP_seq ?_
  refine SWP_region ?_
  first | refine pI rfl rfl ?_ | refine pu rfl rfl ?_
  first | refine pI rfl rfl ?_ | refine pu rfl rfl ?_
  refine pc rfl rfl (fun c7 => ?_) (fun c7 => ?_)
  · skip
    refine SL_nil ?_
    refine nx ?_
    refine SWP_ct rfl ?_
    refine SWP_skip ?_
    refine nx ?_
    refine SWP_seq ?_
    refine SWP_block ?_
    refine SWP_region ?_
    first | refine pL rfl rfl ?_ | refine pu rfl rfl ?_
    first | refine pI rfl rfl ?_ | refine pu rfl rfl ?_
    refine bs rfl rfl rfl rfl rfl (fun B12 => ?_)
    refine ap (e := 3) (size := 1) (bytes := 8) rfl rfl rfl rfl rfl rfl rfl hown (permX [_] σ1 _) rfl (Rd.of_cells (.head _)) rfl rfl (by rw [flatMap_len intE_len, iotaL_len]; omega) rfl rfl (fun w σw howw => ?_)
    have hown8 : OwnS 3 1 w ((iotaL (i + 1)).flatMap intE) σw := by
      rw [iotaL_succ, List.flatMap_append]; exact howw
    refine SL_weak (List.Sublist.append_left (List.nil_sublist _) _) ?_
    first | refine pL rfl rfl ?_ | refine pu rfl rfl ?_
    refine SL_nil ?_
    refine nb ?_
    refine nx ?_
    refine SWP_region ?_
    first | refine pI rfl rfl ?_ | refine pu rfl rfl ?_
    first | refine pw rfl rfl (w64 (by omega) (by omega)) ?_ | refine pu rfl rfl ?_
    refine pI rfl rfl ?_
    refine SL_nil ?_
    refine nx ?_
    refine ⟨by repeat (first | exact Under.upds rfl (Under.hav _ _ _) | exact Under.hav _ _ _ | refine Under.upd rfl ?_), ?_, ?_⟩
    · exact ⟨i + 1, w, σw, rfl, by omega, hown8, rfl, rfl⟩
    · simp only [L_vals, List.map, List.getD]; show n + 1 - ((i : Int) + 1 + 1).toNat < n + 1 - ((i : Int) + 1).toNat; omega
  refine SL_nil ?_
  refine nx ?_
  refine SWP_cf rfl ?_
  refine SWP_exit ?_
  refine ne ?_
  refine ne ?_
  refine be rfl ?_
  refine nx ?_
  refine SWP_seq ?_
  refine SWP_region ?_
  first | refine pL rfl rfl ?_ | refine pu rfl rfl ?_
  first | refine pL rfl rfl ?_ | refine pu rfl rfl ?_
  refine SL_nil ?_
  refine nx ?_
  refine SWP_ret ?_
  refine fin [_] ⟨rfl, trivial⟩ ?_
  obtain rfl : i = n := by omega
  exact ⟨⟨σ1, _, rfl, hown⟩, rfl⟩

set_option maxRecDepth 100000 in
theorem stepG {m : Mem} {B B3 B4 B8 n i c : Nat} {a : Option Addr} {s u : Int} {L : List Int} {σl : Sig} (hi : i < n) (hn : n ≤ 4096) (hL : L.length = n) (hown : OwnS 3 1 (.slice a n c) (L.flatMap intE) σl) :
    CallsS Try.prog 67 [.int .i64 (i : Nat), .pointer (some ⟨B3, 0, none⟩), .pointer (some ⟨B4, 0, none⟩), .pointer (some ⟨B8, 0, none⟩)].toArray ((B8, Cells 29 [.slice a n c]) :: (σl ++ [(B4, Cells 3 [.int .i64 (n : Nat)]), (B3, Cells 49 [.pointer (some ⟨B, 0, none⟩)]), (B, Cells 73 [.int .u64 s, .int .i64 u])])) m fun r σ' m' => r = .int .i64 (belowF ((n : Int) - (i : Int)) s).2.1 ∧
      (∃ u' σl', σ' = (B8, Cells 29 [.slice a n c]) :: (σl' ++ [(B4, Cells 3 [.int .i64 (n : Nat)]), (B3, Cells 49 [.pointer (some ⟨B, 0, none⟩)]), (B, Cells 73 [.int .u64 (belowF ((n : Int) - (i : Int)) s).2.2, .int .i64 u'])]) ∧ OwnS 3 1 (.slice a n c) ((if (belowF ((n : Int) - (i : Int)) s).2.1 = 0 then swapL L i (i + (belowF ((n : Int) - (i : Int)) s).1.toNat) else L).flatMap intE) σl') ∧ m' = m := by
  refine enter Try.func67 Try.ntmps67 rfl rfl ?_
  refine SWP_seq ?_
  refine SWP_region ?_
  refine pI rfl rfl ?_
  refine SL_nil ?_
  refine nx ?_
  refine SWP_seq ?_
  refine SWP_region ?_
  refine lw (v := .pointer _) B3 0 rfl rfl rfl rfl ?_
  refine lw (v := .int .i64 _) B4 0 rfl rfl rfl rfl ?_
  first | refine pI rfl rfl ?_ | refine pu rfl rfl ?_
  first | refine pw rfl rfl (w64 (by omega) (by omega)) ?_ | refine pu rfl rfl ?_
  refine SL_call rfl rfl cb47 (CallsS.subF ((B8, Cells 29 [.slice a n c]) :: (σl ++ [(B4, Cells 3 [.int .i64 (n : Nat)]), (B3, Cells 49 [.pointer (some ⟨B, 0, none⟩)])])) (belowG B ((n : Int) - (i : Int)) s u) (permS _ _ _ _ σl).symm) rfl (fun v1_4 σ1_4 m1_4 hl1_4 hR1_4 => ?_)
  obtain ⟨σz, rfl, hz⟩ := hR1_4
  obtain ⟨rfl, ⟨u2, rfl⟩, hm1_4⟩ := hz
  have hn1_4 := hm1_4.symm
  subst hn1_4
  obtain ⟨h0j, hjl⟩ := belowF_rng (n := (n : Int) - (i : Int)) (s := s) (by omega)
  obtain ⟨jn, hj⟩ := Int.eq_ofNat_of_zero_le h0j
  refine SL_perm (permS _ _ _ _ σl) ?_
  refine pu rfl rfl ?_
  first | refine pI rfl rfl ?_ | refine pu rfl rfl ?_
  first | refine pI rfl rfl ?_ | refine pu rfl rfl ?_
  first | refine pI rfl rfl ?_ | refine pu rfl rfl ?_
  first | refine pI rfl rfl ?_ | refine pu rfl rfl ?_
  refine SL_nil ?_
  refine nx ?_
  refine SWP_seq ?_
  refine SWP_seq ?_
  refine SWP_region ?_
  first | refine pI rfl rfl ?_ | refine pu rfl rfl ?_
  refine pc rfl rfl (fun c17 => ?_) (fun c17 => ?_)
  · skip
    refine SL_nil ?_
    refine nx ?_
    refine SWP_ct rfl ?_
    obtain ⟨x, hx⟩ : ∃ z, L[i]? = some z := ⟨_, List.getElem?_eq_getElem (by omega)⟩
    obtain ⟨adx, ex, _, _, hrdx⟩ := hown.atN (by omega) intE_len hx
    cases ex
    obtain ⟨y, hy⟩ : ∃ z, L[i + jn]? = some z := ⟨_, List.getElem?_eq_getElem (by omega)⟩
    obtain ⟨ady, ey, _, _, hrdy⟩ := hown.atN (by omega) intE_len hy
    cases ey
    rw [hj]
    refine SWP_low ((B8, Cells 29 [.slice (some adx) n c]) :: (σl ++ [(B4, Cells 3 [.int .i64 (n : Nat)]), (B3, Cells 49 [.pointer (some ⟨B, 0, none⟩)]), (B, Cells 73 [.int .u64 (belowF ((n : Int) - (i : Int)) s).2.2, .int .i64 u2])])) ((B8, Cells 29 [.slice (some adx) n c]) :: [(B4, Cells 3 [.int .i64 (n : Nat)]), (B3, Cells 49 [.pointer (some ⟨B, 0, none⟩)]), (B, Cells 73 [.int .u64 (belowF ((n : Int) - (i : Int)) s).2.2, .int .i64 u2])]) 17 [2, 3, 4, 5, 12, 13, 14] [0, 1, 6, 7, 8, 9, 10, 11, 15, 16] [17, 18, 19] (by kernel_rfl) (by kernel_rfl) (by repeat (first | exact Sub.refl _ | exact Sub.nil _ | refine Sub.cons2 _ ?_ | refine Sub.cons _ ?_ | refine Sub.left _ ?_)) (by repeat (first | exact Sub.refl _ | exact Sub.nil _ | refine Sub.cons2 _ ?_ | refine Sub.cons _ ?_ | refine Sub.left _ ?_)) ?_
    refine lw (v := .slice _ _ _) B8 0 rfl rfl rfl rfl ?_
    first | refine pI rfl rfl ?_ | refine pu rfl rfl ?_
    first | refine pI rfl rfl ?_ | refine pu rfl rfl ?_
    refine pw rfl rfl (w64 (by omega) (by omega)) ?_
    rw [show (i : Int) + (jn : Int) = ((i + jn : Nat) : Int) by omega]
    refine lw (v := .slice _ _ _) B8 0 rfl rfl rfl rfl ?_
    first | refine pI rfl rfl ?_ | refine pu rfl rfl ?_
    refine ia (es := 1) rfl rfl rfl (Nat.mul_one _) rfl rfl (by omega) rfl ?_
    refine SL_nil ?_
    refine ⟨by repeat (first | exact Sub.refl _ | exact Sub.nil _ | refine Sub.cons2 _ ?_ | refine Sub.cons _ ?_ | refine Sub.left _ ?_), ?_⟩
    refine lw (v := .slice _ _ _) B8 0 rfl rfl rfl rfl ?_
    first | refine pI rfl rfl ?_ | refine pu rfl rfl ?_
    refine lw (v := .slice _ _ _) B8 0 rfl rfl rfl rfl ?_
    first | refine pI rfl rfl ?_ | refine pu rfl rfl ?_
    first | refine pI rfl rfl ?_ | refine pu rfl rfl ?_
    refine pw rfl rfl (w64 (by omega) (by omega)) ?_
    rw [show (i : Int) + (jn : Int) = ((i + jn : Nat) : Int) by omega]
    refine ia (es := 1) rfl rfl rfl (Nat.mul_one _) rfl rfl (by omega) rfl ?_
    refine ldO (off := 0) (hrdy _ _ (fun q hq => by simp [hq])) rfl (q1 _ _) rfl rfl ?_
    refine ldO (off := 0) (hrdx _ _ (fun q hq => by simp [hq])) rfl (q1 _ _) rfl rfl ?_
    refine ia (es := 1) rfl rfl rfl (Nat.mul_one _) rfl rfl (by omega) rfl ?_
    refine SL_nil ?_
    refine stL (σe := σl) (τ := (B8, Cells 29 [.slice (some adx) n c]) :: [(B4, Cells 3 [.int .i64 (n : Nat)]), (B3, Cells 49 [.pointer (some ⟨B, 0, none⟩)]), (B, Cells 73 [.int .u64 (belowF ((n : Int) - (i : Int)) s).2.2, .int .i64 u2])]) (k := i) (b := x) (b' := y) (off := 0) intE_len rfl hown List.perm_middle.symm hx rfl (q1 _ _) rfl rfl (by show 0 + 1 ≤ 1; omega) rfl rfl (fun σl1 hown1 => ?_)
    obtain ⟨z, hz⟩ : ∃ z, (L.set i y)[i + jn]? = some z := ⟨_, List.getElem?_eq_getElem (by rw [List.length_set]; omega)⟩
    refine ia (es := 1) rfl rfl rfl (Nat.mul_one _) rfl rfl (by omega) rfl ?_
    refine stL (σe := σl1) (τ := (B8, Cells 29 [.slice (some adx) n c]) :: [(B4, Cells 3 [.int .i64 (n : Nat)]), (B3, Cells 49 [.pointer (some ⟨B, 0, none⟩)]), (B, Cells 73 [.int .u64 (belowF ((n : Int) - (i : Int)) s).2.2, .int .i64 u2])]) (k := i + jn) (b := z) (b' := x) (off := 0) intE_len rfl hown1 (.refl _) hz rfl (q1 _ _) rfl rfl (by show 0 + 1 ≤ 1; omega) rfl rfl (fun σl2 hown2 => ?_)
    refine SL_perm List.perm_middle ?_
    refine SL_nil ?_
    refine nx ?_
    refine SWP_seq ?_
    refine SWP_region ?_
    first | refine pI rfl rfl ?_ | refine pu rfl rfl ?_
    first | refine pI rfl rfl ?_ | refine pu rfl rfl ?_
    refine SL_nil ?_
    refine nx ?_
    refine SWP_ret ?_
    refine fin [_] ⟨rfl, trivial⟩ ?_
    refine ⟨rfl, ⟨u2, σl2, rfl, ?_⟩, rfl⟩
    rw [if_pos (by assumption), Int.toNat_natCast, swapL_at hx hy]
    exact hown2
  refine SL_nil ?_
  refine nx ?_
  refine SWP_cf rfl ?_
  refine SWP_skip ?_
  refine nx ?_
  refine SWP_seq ?_
  refine SWP_region ?_
  first | refine pI rfl rfl ?_ | refine pu rfl rfl ?_
  first | refine pI rfl rfl ?_ | refine pu rfl rfl ?_
  refine SL_nil ?_
  refine nx ?_
  refine SWP_ret ?_
  refine fin [_] ⟨rfl, trivial⟩ ?_
  refine ⟨rfl, ⟨u2, σl, rfl, ?_⟩, rfl⟩
  rw [if_neg (by assumption)]
  exact hown

end Go.Proofs.Ytkopdlglenejmaa

