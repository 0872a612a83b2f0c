/- ledger.All, Turnover. -/
import Derived.Test.YtadnflbohflckaaLedS
namespace Go.Proofs.Ytadnflbohflckaa
open Eng

/-- The accounts of these names whose balances are not 0. -/
def nz (la : Acc) (ks : List ByteArray) : Acc := (ks.filter fun k => decide (bal k la ≠ 0)).map fun k => (k, bal k la)
theorem nz_snoc {la : Acc} {ks : List ByteArray} {i : Nat} {k : ByteArray} (h : ks[i]? = some k) : nz la (ks.take (i + 1)) = if bal k la ≠ 0 then nz la (ks.take i) ++ [(k, bal k la)] else nz la (ks.take i) := by
  have hk := (List.getElem?_eq_some_iff.1 h)
  unfold nz
  rw [List.take_succ_eq_append_getElem hk.1, hk.2, List.filter_append]
  by_cases hb : bal k la ≠ 0 <;> simp [hb]
theorem nz_len (la : Acc) (ks : List ByteArray) : (nz la ks).length ≤ ks.length := by
  unfold nz; rw [List.length_map]; exact List.length_filter_le _ _

theorem ledAll {m : Mem} {B M : Nat} {la : Acc} {t : Int} (hl : la.length ≤ 1000) :
    CallsS Try.prog 17 [.pointer (some ⟨B, 0, none⟩)].toArray (LedC B M la t) m fun r σ' m' => σ' = LedC B M la t ∧ ∃ ks, ks.Perm (la.map (·.1)) ∧ RL m' balE 2 r (nz la (sortK ks)) := by
  refine CallsS.ghost (R' := fun r σ' m' => ∃ σe ks, σ' = σe ++ LedC B M la t ∧ ks.Perm (la.map (·.1)) ∧ OwnS 37 2 r ((nz la (sortK ks)).flatMap balE) σe) ?_ ?h2
  case h2 =>
    rintro r σ' m' ⟨σe, ks, rfl, h1, h2⟩ g W hC
    obtain ⟨m2, h3, h4, h5⟩ := h2.freezeL (by omega) balE_len hC
    exact ⟨_, m2, h4, h3, rfl, ks, h1, h5⟩
  refine enter Try.func17 Try.ntmps17 rfl rfl ?_
  refine SWP_seq ?_
  refine SWP_region ?_
  first | refine pu (v := .slice _ _ _) rfl rfl ?_ | refine pu rfl rfl ?_
  refine SL_nil ?_
  refine nx ?_
  refine SWP_seq ?_
  refine SWP_seq ?_
  refine SWP_region ?_
  first | refine pu (v := .pointer _) rfl rfl ?_ | refine pu rfl rfl ?_
  refine pu (v := .bool false) rfl rfl ?_
  refine SL_nil ?_
  refine nx ?_
  refine SWP_cf rfl ?_
  refine SWP_skip ?_
  refine nx ?_
  refine SWP_seq ?_
  refine SWP_region ?_
  first | refine pu (v := .slice _ _ _) rfl rfl ?_ | refine pu rfl rfl ?_
  refine SL_nil ?_
  refine nx ?_
  refine SWP_seq ?_
  refine SWP_seq ?_
  refine SWP_region ?_
  first | refine pu (v := .pointer _) rfl rfl ?_ | refine pu rfl rfl ?_
  refine pu rfl rfl ?_
  refine pu rfl rfl ?_
  first | refine ld (v := .map _) (off := 0) (Rd.of_cells (.head _)) rfl rfl rfl rfl ?_ | refine ld (v := .map _) (off := 0) (Rd.of_cells (.tail _ (.head _))) rfl rfl rfl rfl ?_ | refine ld (v := .map _) (off := 0) (Rd.of_cells (.tail _ (.tail _ (.head _)))) rfl rfl rfl rfl ?_ | refine ld (v := .map _) (off := 0) (Rd.of_cells (.tail _ (.tail _ (.tail _ (.head _))))) rfl rfl rfl rfl ?_ | refine ld (v := .map _) (off := 0) (Rd.of_cells (.tail _ (.tail _ (.tail _ (.tail _ (.head _)))))) rfl rfl rfl rfl ?_ | refine ld (v := .map _) (off := 0) (Rd.of_cells (.tail _ (.tail _ (.tail _ (.tail _ (.tail _ (.head _))))))) rfl rfl rfl rfl ?_ | refine ld (v := .map _) (off := 0) (Rd.of_cells (.tail _ (.tail _ (.tail _ (.tail _ (.tail _ (.tail _ (.head _)))))))) rfl rfl rfl rfl ?_
  refine SL_call rfl rfl cb30 (CallsS.subF [_] (ledKeys hl) (List.Perm.swap _ _ _)) rfl (fun v4_4 σ4_4 m4_4 hl4_4 hR4_4 => ?_)
  obtain ⟨_, rfl, hm2, σk, ks, rfl, hownk, hks⟩ := hR4_4
  rw [List.append_assoc]
  refine SL_freezeL (by omega) strE_len hownk (fun m3 hl3 hrl => ?_)
  refine SL_perm (List.Perm.swap _ _ _) ?_
  obtain ⟨ak, capk, rfl⟩ := hrl.len
  have hkl : (sortK ks).length ≤ 1000 := by
    rw [(sortK_perm ks).length_eq, hks.length_eq, List.length_map]; exact hl
  refine pu rfl rfl ?_
  first | refine pu (v := .int .i64 _) rfl rfl ?_ | refine pu rfl rfl ?_
  refine SL_nil ?_
  refine nx ?_
  refine SWP_block ?_
  refine SWP_loop [3, 5, 6, 15, 16, 17, 18, 19, 20, 21, 22, 23, 24, 25, 26, 27, 28, 29, 30, 31, 32, 33] [3, 15]
      (fun vs σ' m' => ∃ (i : Nat) (v3 : Value) (σe : Sig), vs = [v3, .int .i64 (i : Nat)] ∧ i ≤ (sortK ks).length ∧ OwnS 37 2 v3 ((nz la ((sortK ks).take i)).flatMap balE) σe ∧ σ' = σe ++ LedC B M la t ∧ m3 = m')
      (fun vs => (sortK ks).length - nOf (vs.getD 1 undef)) rfl ?_ ?_
  · exact ⟨0, _, [], rfl, by omega, .nil, rfl, rfl⟩
  · intro u0 vs0 σ0 m0 hJ0 _
    obtain ⟨i, v3, σe, rfl, hi, hown, rfl, rfl⟩ := hJ0
    refine SWP_seq ?_
    refine SWP_region ?_
    refine pc rfl rfl (fun c16 => ?_) (fun c16 => ?_)
    · skip
      refine SL_nil ?_
      refine nx ?_
      refine SWP_seq ?_
      refine SWP_ct rfl ?_
      refine SWP_skip ?_
      refine nx ?_
      refine SWP_seq ?_
      refine SWP_block ?_
      refine SWP_seq ?_
      obtain ⟨k, hk⟩ : ∃ k, (sortK ks)[i]? = some k := ⟨_, List.getElem?_eq_getElem (by omega)⟩
      obtain ⟨ad, cap', e1, hat⟩ := RL.at1 strE_len hrl hk
      cases e1
      refine SWP_region ?_
      first | refine ia (es := 1) rfl rfl rfl (Nat.mul_one _) rfl rfl (by omega) rfl ?_ | refine iai (es := 1) rfl rfl rfl (Nat.mul_one _) rfl rfl (by omega) (by omega) rfl ?_
      refine ldA (v := .string _) rfl (by assumption) rfl rfl ?_
      first | refine pu (v := .string _) rfl rfl ?_ | refine pu rfl rfl ?_
      refine SL_nil ?_
      refine nx ?_
      refine SWP_seq ?_
      refine SWP_perm List.perm_append_comm ?_
      refine SWP_region ?_
      first | refine pu (v := .pointer _) rfl rfl ?_ | refine pu rfl rfl ?_
      refine pu rfl rfl ?_
      refine pu rfl rfl ?_
      first | refine ld (v := .map _) (off := 0) (Rd.of_cells (.head _)) rfl rfl rfl rfl ?_ | refine ld (v := .map _) (off := 0) (Rd.of_cells (.tail _ (.head _))) rfl rfl rfl rfl ?_ | refine ld (v := .map _) (off := 0) (Rd.of_cells (.tail _ (.tail _ (.head _)))) rfl rfl rfl rfl ?_ | refine ld (v := .map _) (off := 0) (Rd.of_cells (.tail _ (.tail _ (.tail _ (.head _))))) rfl rfl rfl rfl ?_ | refine ld (v := .map _) (off := 0) (Rd.of_cells (.tail _ (.tail _ (.tail _ (.tail _ (.head _)))))) rfl rfl rfl rfl ?_ | refine ld (v := .map _) (off := 0) (Rd.of_cells (.tail _ (.tail _ (.tail _ (.tail _ (.tail _ (.head _))))))) rfl rfl rfl rfl ?_ | refine ld (v := .map _) (off := 0) (Rd.of_cells (.tail _ (.tail _ (.tail _ (.tail _ (.tail _ (.tail _ (.head _)))))))) rfl rfl rfl rfl ?_
      first | refine pu (v := .string _) rfl rfl ?_ | refine pu rfl rfl ?_
      refine lk (kc := sV) (vc := iV) (a := k) (l := la) rfl rfl rfl keyStr rfl rfl (.tail _ (.head _)) (bal_v k la) rfl ?_
      first | refine pu (v := .int .i64 _) rfl rfl ?_ | refine pu rfl rfl ?_
      refine SL_nil ?_
      refine nx ?_
      refine SWP_seq ?_
      refine SWP_perm (List.perm_append_comm (l₁ := [_, _])) ?_
      refine SWP_region ?_
      first | refine pu (v := .int .i64 _) rfl rfl ?_ | refine pu rfl rfl ?_
      refine pc rfl rfl (fun c26 => ?_) (fun c26 => ?_)
      · skip
        refine SL_nil ?_
        refine nx ?_
        refine SWP_ct rfl ?_
        refine SWP_region ?_
        first | refine pu (v := .slice _ _ _) rfl rfl ?_ | refine pu rfl rfl ?_
        first | refine pu (v := .string _) rfl rfl ?_ | refine pu rfl rfl ?_
        first | refine pu (v := .int .i64 _) rfl rfl ?_ | refine pu rfl rfl ?_
        first | refine pu (v := .agg _) rfl rfl ?_ | refine pu rfl rfl ?_
        refine bs rfl rfl rfl rfl rfl (fun B31 => ?_)
        have hn1 := nz_len la ((sortK ks).take i)
        have hn2 : ((sortK ks).take i).length ≤ (sortK ks).length := by rw [List.length_take]; omega
        refine ap (e := 37) (size := 2) (bytes := 24) rfl rfl rfl rfl rfl rfl rfl hown List.perm_middle.symm rfl (Rd.of_cells (.head _)) rfl rfl (by rw [flatMap_len balE_len]; omega) rfl rfl (fun v32 σ32 hown32 => ?_)
        refine SL_weak (List.Sublist.append_left (List.sublist_cons_self _ _) _) ?_
        first | refine pu (v := .slice _ _ _) rfl rfl ?_ | refine pu rfl rfl ?_
        refine SL_nil ?_
        refine nb ?_
        refine nx ?_
        refine SWP_region ?_
        first | refine pw rfl rfl (w64 (by omega) (by omega)) ?_ | refine pu rfl rfl ?_
        first | refine pu (v := .int .i64 _) rfl rfl ?_ | refine pu rfl rfl ?_
        refine SL_nil ?_
        refine nx ?_
        refine ⟨by repeat (first | exact Under.upds rfl (Under.hav _ _ _) | exact Under.hav _ _ _ | refine Under.upd rfl ?_), ?_, ?_⟩
        · refine ⟨i + 1, v32, σ32, rfl, by omega, ?_, rfl, rfl⟩
          rw [nz_snoc hk, if_pos c26, List.flatMap_append]
          exact hown32
        · simp only [L_vals, List.map, List.getD]; show (sortK ks).length - (i + 1) < (sortK ks).length - i; omega
      · skip
        refine SL_nil ?_
        refine nx ?_
        refine SWP_cf rfl ?_
        refine SWP_skip ?_
        refine nb ?_
        refine nx ?_
        refine SWP_region ?_
        first | refine pw rfl rfl (w64 (by omega) (by omega)) ?_ | refine pu rfl rfl ?_
        first | refine pu (v := .int .i64 _) rfl rfl ?_ | refine pu rfl rfl ?_
        refine SL_nil ?_
        refine nx ?_
        refine ⟨by repeat (first | exact Under.upds rfl (Under.hav _ _ _) | exact Under.hav _ _ _ | refine Under.upd rfl ?_), ?_, ?_⟩
        · refine ⟨i + 1, v3, σe, rfl, by omega, ?_, rfl, rfl⟩
          rw [nz_snoc hk, if_neg c26]
          exact hown
        · simp only [L_vals, List.map, List.getD]; show (sortK ks).length - (i + 1) < (sortK ks).length - i; omega
    · skip
      refine SL_nil ?_
      refine nx ?_
      refine SWP_seq ?_
      refine SWP_cf rfl ?_
      refine SWP_exit ?_
      refine ne ?_
      refine ne ?_
      refine be rfl ?_
      refine nx ?_
      refine SWP_seq ?_
      refine SWP_region ?_
      first | refine pu (v := .slice _ _ _) rfl rfl ?_ | refine pu rfl rfl ?_
      first | refine pu (v := .slice _ _ _) rfl rfl ?_ | refine pu rfl rfl ?_
      refine SL_nil ?_
      refine nx ?_
      refine SWP_ret ?_
      refine fin [_] ⟨rfl, trivial⟩ ?_
      have e : i = (sortK ks).length := by omega
      rw [e, List.take_length] at hown
      exact ⟨σe, ks, rfl, hks, hown⟩

def nzR (L : Acc) : Acc := L.filter fun p => decide (p.2 ≠ 0)
theorem nzR_snoc {L : Acc} {i : Nat} {b : ByteArray × Int} (h : L[i]? = some b) : nzR (L.take (i + 1)) = if b.2 ≠ 0 then nzR (L.take i) ++ [b] else nzR (L.take i) := by
  have hk := (List.getElem?_eq_some_iff.1 h)
  unfold nzR
  rw [List.take_succ_eq_append_getElem hk.1, hk.2, List.filter_append]
  by_cases hb : b.2 ≠ 0 <;> simp [hb]
theorem nzR_len (L : Acc) : (nzR L).length ≤ L.length := List.length_filter_le _ _

theorem refAll {m : Mem} {B : Nat} {sv : Value} {L : Acc} {t : Int} {σe : Sig} (hown : OwnS 37 2 sv (L.flatMap balE) σe) (hL : L.length ≤ 1000) :
    CallsS Try.prog 19 [.pointer (some ⟨B, 0, none⟩)].toArray (RefC B sv t σe) m fun r σ' m' => σ' = RefC B sv t σe ∧ RL m' balE 2 r (nzR L) := by
  refine CallsS.ghost (R' := fun r σ' m' => ∃ σx, σ' = RefC B sv t σe ++ σx ∧ OwnS 37 2 r ((nzR L).flatMap balE) σx) ?_ ?h2
  case h2 =>
    rintro r σ' m' ⟨σx, rfl, h2⟩ g W hC
    obtain ⟨m2, h3, h4, h5⟩ := h2.freezeL (by omega) balE_len (hC.perm List.perm_append_comm)
    exact ⟨_, m2, h4, h3, rfl, h5⟩
  obtain ⟨a, cap, rfl⟩ := hown.lenL (by omega) balE_len
  refine enter Try.func19 Try.ntmps19 rfl rfl ?_
  refine SWP_seq ?_
  refine SWP_region ?_
  first | refine pu (v := .slice _ _ _) rfl rfl ?_ | refine pu rfl rfl ?_
  refine SL_nil ?_
  refine nx ?_
  refine SWP_seq ?_
  refine SWP_region ?_
  first | refine pu (v := .slice _ _ _) rfl rfl ?_ | refine pu rfl rfl ?_
  refine SL_nil ?_
  refine nx ?_
  refine SWP_seq ?_
  refine SWP_seq ?_
  refine SWP_region ?_
  first | refine pu (v := .int .i64 _) rfl rfl ?_ | refine pu rfl rfl ?_
  refine SL_nil ?_
  refine nx ?_
  refine SWP_block ?_
  refine SWP_loop [3, 4, 5, 6, 7, 8, 9, 10, 11, 12, 13, 14, 15, 16, 17, 18, 19, 20, 21, 22, 23, 24, 25, 26, 27, 28, 29, 30, 31, 32] [3, 4]
      (fun vs σ' m' => ∃ (i : Nat) (v3 : Value) (σx : Sig), vs = [v3, .int .i64 (i : Nat)] ∧ i ≤ L.length ∧ OwnS 37 2 v3 ((nzR (L.take i)).flatMap balE) σx ∧ σ' = RefC B (.slice a L.length cap) t σe ++ σx ∧ m = m')
      (fun vs => L.length - nOf (vs.getD 1 undef)) rfl ?_ ?_
  · exact ⟨0, _, [], rfl, by omega, .nil, (List.append_nil _).symm, rfl⟩
  · intro u0 vs0 σ0 m0 hJ0 _
    obtain ⟨i, v3, σx, rfl, hi, hownx, rfl, rfl⟩ := hJ0
    refine SWP_seq ?_
    refine SWP_seq ?_
    refine SWP_region ?_
    first | refine pu (v := .int .i64 _) rfl rfl ?_ | refine pu rfl rfl ?_
    first | refine pu (v := .pointer _) rfl rfl ?_ | refine pu rfl rfl ?_
    refine pu rfl rfl ?_
    refine pu rfl rfl ?_
    first | refine ld (v := .slice _ _ _) (off := 0) (Rd.of_cells (.head _)) rfl rfl rfl rfl ?_ | refine ld (v := .slice _ _ _) (off := 0) (Rd.of_cells (.tail _ (.head _))) rfl rfl rfl rfl ?_ | refine ld (v := .slice _ _ _) (off := 0) (Rd.of_cells (.tail _ (.tail _ (.head _)))) rfl rfl rfl rfl ?_ | refine ld (v := .slice _ _ _) (off := 0) (Rd.of_cells (.tail _ (.tail _ (.tail _ (.head _))))) rfl rfl rfl rfl ?_ | refine ld (v := .slice _ _ _) (off := 0) (Rd.of_cells (.tail _ (.tail _ (.tail _ (.tail _ (.head _)))))) rfl rfl rfl rfl ?_ | refine ld (v := .slice _ _ _) (off := 0) (Rd.of_cells (.tail _ (.tail _ (.tail _ (.tail _ (.tail _ (.head _))))))) rfl rfl rfl rfl ?_ | refine ld (v := .slice _ _ _) (off := 0) (Rd.of_cells (.tail _ (.tail _ (.tail _ (.tail _ (.tail _ (.tail _ (.head _)))))))) rfl rfl rfl rfl ?_
    refine pu rfl rfl ?_
    refine pc rfl rfl (fun c11 => ?_) (fun c11 => ?_)
    · skip
      refine SL_nil ?_
      refine nx ?_
      refine SWP_ct rfl ?_
      refine SWP_skip ?_
      refine nx ?_
      refine SWP_seq ?_
      refine SWP_block ?_
      refine SWP_seq ?_
      obtain ⟨b, hb⟩ : ∃ b, L[i]? = some b := ⟨_, List.getElem?_eq_getElem (by omega)⟩
      obtain ⟨ad, rfl, _, hlt, hrd⟩ := hown.atN (by omega) balE_len hb
      refine SWP_region ?_
      first | refine pu (v := .pointer _) rfl rfl ?_ | refine pu rfl rfl ?_
      refine pu rfl rfl ?_
      refine pu rfl rfl ?_
      first | refine ld (v := .slice _ _ _) (off := 0) (Rd.of_cells (.head _)) rfl rfl rfl rfl ?_ | refine ld (v := .slice _ _ _) (off := 0) (Rd.of_cells (.tail _ (.head _))) rfl rfl rfl rfl ?_ | refine ld (v := .slice _ _ _) (off := 0) (Rd.of_cells (.tail _ (.tail _ (.head _)))) rfl rfl rfl rfl ?_ | refine ld (v := .slice _ _ _) (off := 0) (Rd.of_cells (.tail _ (.tail _ (.tail _ (.head _))))) rfl rfl rfl rfl ?_ | refine ld (v := .slice _ _ _) (off := 0) (Rd.of_cells (.tail _ (.tail _ (.tail _ (.tail _ (.head _)))))) rfl rfl rfl rfl ?_ | refine ld (v := .slice _ _ _) (off := 0) (Rd.of_cells (.tail _ (.tail _ (.tail _ (.tail _ (.tail _ (.head _))))))) rfl rfl rfl rfl ?_ | refine ld (v := .slice _ _ _) (off := 0) (Rd.of_cells (.tail _ (.tail _ (.tail _ (.tail _ (.tail _ (.tail _ (.head _)))))))) rfl rfl rfl rfl ?_
      first | refine pu (v := .int .i64 _) rfl rfl ?_ | refine pu rfl rfl ?_
      first | refine ia (es := 2) rfl rfl rfl rfl rfl rfl (by omega) rfl ?_ | refine iai (es := 2) rfl rfl rfl rfl rfl rfl (by omega) (by omega) rfl ?_
      refine pu rfl rfl ?_
      refine ldO (v := .int .i64 _) (hrd _ _ (fun _ h => .tail _ (List.mem_append_left _ h))) rfl rfl rfl rfl ?_
      refine pc rfl rfl (fun c22 => ?_) (fun c22 => ?_)
      · skip
        refine SL_nil ?_
        refine nx ?_
        refine SWP_ct rfl ?_
        refine SWP_region ?_
        first | refine pu (v := .slice _ _ _) rfl rfl ?_ | refine pu rfl rfl ?_
        first | refine pu (v := .pointer _) rfl rfl ?_ | refine pu rfl rfl ?_
        refine pu rfl rfl ?_
        refine pu rfl rfl ?_
        first | refine ld (v := .slice _ _ _) (off := 0) (Rd.of_cells (.head _)) rfl rfl rfl rfl ?_ | refine ld (v := .slice _ _ _) (off := 0) (Rd.of_cells (.tail _ (.head _))) rfl rfl rfl rfl ?_ | refine ld (v := .slice _ _ _) (off := 0) (Rd.of_cells (.tail _ (.tail _ (.head _)))) rfl rfl rfl rfl ?_ | refine ld (v := .slice _ _ _) (off := 0) (Rd.of_cells (.tail _ (.tail _ (.tail _ (.head _))))) rfl rfl rfl rfl ?_ | refine ld (v := .slice _ _ _) (off := 0) (Rd.of_cells (.tail _ (.tail _ (.tail _ (.tail _ (.head _)))))) rfl rfl rfl rfl ?_ | refine ld (v := .slice _ _ _) (off := 0) (Rd.of_cells (.tail _ (.tail _ (.tail _ (.tail _ (.tail _ (.head _))))))) rfl rfl rfl rfl ?_ | refine ld (v := .slice _ _ _) (off := 0) (Rd.of_cells (.tail _ (.tail _ (.tail _ (.tail _ (.tail _ (.tail _ (.head _)))))))) rfl rfl rfl rfl ?_
        first | refine pu (v := .int .i64 _) rfl rfl ?_ | refine pu rfl rfl ?_
        first | refine ia (es := 2) rfl rfl rfl rfl rfl rfl (by omega) rfl ?_ | refine iai (es := 2) rfl rfl rfl rfl rfl rfl (by omega) (by omega) rfl ?_
        refine ldO (v := .agg _) (hrd _ _ (fun _ h => .tail _ (List.mem_append_left _ h))) rfl (add_zero' _).symm rfl rfl ?_
        refine bs rfl rfl rfl rfl rfl (fun B31 => ?_)
        have hn1 := nzR_len (L.take i)
        have hn2 : (L.take i).length ≤ L.length := by rw [List.length_take]; omega
        refine ap (e := 37) (size := 2) (bytes := 24) rfl rfl rfl rfl rfl rfl rfl hownx (List.perm_append_comm (l₁ := (_, _) :: RefC _ _ _ _)) rfl (Rd.of_cells (.head _)) rfl rfl (by rw [flatMap_len balE_len]; omega) rfl rfl (fun v32 σ32 hown32 => ?_)
        refine SL_weak (List.Sublist.append_left (List.sublist_cons_self _ _) _) ?_
        refine SL_perm List.perm_append_comm ?_
        first | refine pu (v := .slice _ _ _) rfl rfl ?_ | refine pu rfl rfl ?_
        refine SL_nil ?_
        refine nb ?_
        refine nx ?_
        refine SWP_region ?_
        first | refine pu (v := .int .i64 _) rfl rfl ?_ | refine pu rfl rfl ?_
        first | refine pw rfl rfl (w64 (by omega) (by omega)) ?_ | refine pu rfl rfl ?_
        first | refine pu (v := .int .i64 _) rfl rfl ?_ | refine pu rfl rfl ?_
        refine SL_nil ?_
        refine nx ?_
        refine ⟨by repeat (first | exact Under.upds rfl (Under.hav _ _ _) | exact Under.hav _ _ _ | refine Under.upd rfl ?_), ?_, ?_⟩
        · refine ⟨i + 1, v32, σ32, rfl, by omega, ?_, rfl, rfl⟩
          rw [nzR_snoc hb, if_pos c22, List.flatMap_append]
          exact hown32
        · simp only [L_vals, List.map, List.getD]; show L.length - (i + 1) < L.length - i; omega
      · skip
        refine SL_nil ?_
        refine nx ?_
        refine SWP_cf rfl ?_
        refine SWP_skip ?_
        refine nb ?_
        refine nx ?_
        refine SWP_region ?_
        first | refine pu (v := .int .i64 _) rfl rfl ?_ | refine pu rfl rfl ?_
        first | refine pw rfl rfl (w64 (by omega) (by omega)) ?_ | refine pu rfl rfl ?_
        first | refine pu (v := .int .i64 _) rfl rfl ?_ | refine pu rfl rfl ?_
        refine SL_nil ?_
        refine nx ?_
        refine ⟨by repeat (first | exact Under.upds rfl (Under.hav _ _ _) | exact Under.hav _ _ _ | refine Under.upd rfl ?_), ?_, ?_⟩
        · refine ⟨i + 1, v3, σx, rfl, by omega, ?_, rfl, rfl⟩
          rw [nzR_snoc hb, if_neg c22]
          exact hownx
        · simp only [L_vals, List.map, List.getD]; show L.length - (i + 1) < L.length - i; omega
    · skip
      refine SL_nil ?_
      refine nx ?_
      refine SWP_cf rfl ?_
      refine SWP_exit ?_
      refine ne ?_
      refine ne ?_
      refine be rfl ?_
      refine nx ?_
      refine SWP_seq ?_
      refine SWP_region ?_
      first | refine pu (v := .slice _ _ _) rfl rfl ?_ | refine pu rfl rfl ?_
      first | refine pu (v := .slice _ _ _) rfl rfl ?_ | refine pu rfl rfl ?_
      refine SL_nil ?_
      refine nx ?_
      refine SWP_ret ?_
      refine fin [_] ⟨rfl, trivial⟩ ?_
      have e : i = L.length := by omega
      rw [e, List.take_length] at hownx
      exact ⟨σx, rfl, hownx⟩

theorem ledTurnover {m : Mem} {B M : Nat} {l : Acc} {t : Int} : CallsS Try.prog 20 [.pointer (some ⟨B, 0, none⟩)].toArray (LedC B M l t) m fun r σ' m' => r = .int .i64 t ∧ σ' = LedC B M l t ∧ m' = m := by
  refine enter Try.func20 Try.ntmps20 rfl rfl ?_
  refine SWP_seq ?_
  refine SWP_region ?_
  first | refine pu (v := .int .i64 _) rfl rfl ?_ | refine pu rfl rfl ?_
  refine SL_nil ?_
  refine nx ?_
  refine SWP_seq ?_
  refine SWP_seq ?_
  refine SWP_region ?_
  first | refine pu (v := .pointer _) rfl rfl ?_ | refine pu rfl rfl ?_
  refine pu (v := .bool false) rfl rfl ?_
  refine SL_nil ?_
  refine nx ?_
  refine SWP_cf rfl ?_
  refine SWP_skip ?_
  refine nx ?_
  refine SWP_seq ?_
  refine SWP_region ?_
  first | refine pu (v := .pointer _) rfl rfl ?_ | refine pu rfl rfl ?_
  refine pu rfl rfl ?_
  refine pu rfl rfl ?_
  first | refine ld (v := .int .i64 _) (off := 1) (Rd.of_cells (.head _)) rfl rfl rfl rfl ?_ | refine ld (v := .int .i64 _) (off := 1) (Rd.of_cells (.tail _ (.head _))) rfl rfl rfl rfl ?_ | refine ld (v := .int .i64 _) (off := 1) (Rd.of_cells (.tail _ (.tail _ (.head _)))) rfl rfl rfl rfl ?_ | refine ld (v := .int .i64 _) (off := 1) (Rd.of_cells (.tail _ (.tail _ (.tail _ (.head _))))) rfl rfl rfl rfl ?_ | refine ld (v := .int .i64 _) (off := 1) (Rd.of_cells (.tail _ (.tail _ (.tail _ (.tail _ (.head _)))))) rfl rfl rfl rfl ?_ | refine ld (v := .int .i64 _) (off := 1) (Rd.of_cells (.tail _ (.tail _ (.tail _ (.tail _ (.tail _ (.head _))))))) rfl rfl rfl rfl ?_ | refine ld (v := .int .i64 _) (off := 1) (Rd.of_cells (.tail _ (.tail _ (.tail _ (.tail _ (.tail _ (.tail _ (.head _)))))))) rfl rfl rfl rfl ?_
  first | refine pu (v := .int .i64 _) rfl rfl ?_ | refine pu rfl rfl ?_
  refine SL_nil ?_
  refine nx ?_
  refine SWP_ret ?_
  refine fin [_] ⟨rfl, trivial⟩ ?_
  exact ⟨rfl, rfl, rfl⟩

theorem refTurnover {m : Mem} {B : Nat} {sv : Value} {t : Int} {σe : Sig} : CallsS Try.prog 21 [.pointer (some ⟨B, 0, none⟩)].toArray (RefC B sv t σe) m fun r σ' m' => r = .int .i64 t ∧ σ' = RefC B sv t σe ∧ m' = m := by
  refine enter Try.func21 Try.ntmps21 rfl rfl ?_
  refine SWP_seq ?_
  refine SWP_region ?_
  first | refine pu (v := .int .i64 _) rfl rfl ?_ | refine pu rfl rfl ?_
  refine SL_nil ?_
  refine nx ?_
  refine SWP_seq ?_
  refine SWP_region ?_
  first | refine pu (v := .pointer _) rfl rfl ?_ | refine pu rfl rfl ?_
  refine pu rfl rfl ?_
  refine pu rfl rfl ?_
  first | refine ld (v := .int .i64 _) (off := 1) (Rd.of_cells (.head _)) rfl rfl rfl rfl ?_ | refine ld (v := .int .i64 _) (off := 1) (Rd.of_cells (.tail _ (.head _))) rfl rfl rfl rfl ?_ | refine ld (v := .int .i64 _) (off := 1) (Rd.of_cells (.tail _ (.tail _ (.head _)))) rfl rfl rfl rfl ?_ | refine ld (v := .int .i64 _) (off := 1) (Rd.of_cells (.tail _ (.tail _ (.tail _ (.head _))))) rfl rfl rfl rfl ?_ | refine ld (v := .int .i64 _) (off := 1) (Rd.of_cells (.tail _ (.tail _ (.tail _ (.tail _ (.head _)))))) rfl rfl rfl rfl ?_ | refine ld (v := .int .i64 _) (off := 1) (Rd.of_cells (.tail _ (.tail _ (.tail _ (.tail _ (.tail _ (.head _))))))) rfl rfl rfl rfl ?_ | refine ld (v := .int .i64 _) (off := 1) (Rd.of_cells (.tail _ (.tail _ (.tail _ (.tail _ (.tail _ (.tail _ (.head _)))))))) rfl rfl rfl rfl ?_
  first | refine pu (v := .int .i64 _) rfl rfl ?_ | refine pu rfl rfl ?_
  refine SL_nil ?_
  refine nx ?_
  refine SWP_ret ?_
  refine fin [_] ⟨rfl, trivial⟩ ?_
  exact ⟨rfl, rfl, rfl⟩

theorem eqBal : EqOk Try.prog 37 [(0, 9), (1, 3)] := ⟨by kernel_rfl, by kernel_rfl, by kernel_rfl, by kernel_rfl, by kernel_rfl⟩

theorem sameOk {m : Mem} {v w : Value} {L : Acc} (h : RL m balE 2 v L) (h' : RL m balE 2 w L) (hL : L.length ≤ 1000) : PureCall Try.prog 18 [v, w] m (.bool true) := by
  refine CallsS.pure ?_
  obtain ⟨a, cap, rfl⟩ := h.len
  obtain ⟨a', cap', rfl⟩ := h'.len
  refine enter Try.func18 Try.ntmps18 rfl rfl ?_
  refine SWP_seq ?_
  refine SWP_region ?_
  first | refine pu (v := .bool _) rfl rfl ?_ | refine pu rfl rfl ?_
  refine SL_nil ?_
  refine nx ?_
  refine SWP_seq ?_
  refine SWP_seq ?_
  refine SWP_region ?_
  first | refine pu (v := .slice _ _ _) rfl rfl ?_ | refine pu rfl rfl ?_
  refine pu rfl rfl ?_
  first | refine pu (v := .slice _ _ _) rfl rfl ?_ | refine pu rfl rfl ?_
  refine pu rfl rfl ?_
  refine pn rfl rfl (fun h => h rfl) ?_
  refine SL_nil ?_
  refine nx ?_
  refine SWP_cf rfl ?_
  refine SWP_skip ?_
  refine nx ?_
  refine SWP_seq ?_
  refine SWP_seq ?_
  refine SWP_region ?_
  first | refine pu (v := .int .i64 _) rfl rfl ?_ | refine pu rfl rfl ?_
  refine SL_nil ?_
  refine nx ?_
  refine SWP_block ?_
  refine SWP_loop [4, 5, 11, 12, 13, 14, 15, 16, 17, 18, 19, 20, 21, 22, 23, 24, 25] [5]
      (fun vs σ' m' => ∃ (i : Nat), vs = [.int .i64 (i : Nat)] ∧ i ≤ L.length ∧ σ' = [] ∧ m = m')
      (fun vs => L.length - nOf (vs.getD 0 undef)) rfl ?_ ?_
  · exact ⟨0, rfl, by omega, rfl, rfl⟩
  · intro u0 vs0 σ0 m0 hJ0 _
    obtain ⟨i, rfl, hi, rfl, rfl⟩ := hJ0
    refine SWP_seq ?_
    refine SWP_seq ?_
    refine SWP_region ?_
    first | refine pu (v := .int .i64 _) rfl rfl ?_ | refine pu rfl rfl ?_
    first | refine pu (v := .slice _ _ _) rfl rfl ?_ | refine pu rfl rfl ?_
    refine pu rfl rfl ?_
    refine pc rfl rfl (fun c14 => ?_) (fun c14 => ?_)
    · skip
      refine SL_nil ?_
      refine nx ?_
      refine SWP_ct rfl ?_
      refine SWP_skip ?_
      refine nx ?_
      refine SWP_seq ?_
      refine SWP_block ?_
      refine SWP_seq ?_
      obtain ⟨b, hb⟩ : ∃ b, L[i]? = some b := ⟨_, List.getElem?_eq_getElem (by omega)⟩
      obtain ⟨ad, cap2, e1, hat⟩ := RL.at_ balE_len h hb
      cases e1
      obtain ⟨ad', cap3, e2, hat'⟩ := RL.at_ balE_len h' hb
      cases e2
      refine SWP_draws (by kernel_rfl) (by kernel_rfl) ?_
      first | refine pu (v := .slice _ _ _) rfl rfl ?_ | refine pu rfl rfl ?_
      first | refine pu (v := .int .i64 _) rfl rfl ?_ | refine pu rfl rfl ?_
      first | refine ia (es := 2) rfl rfl rfl rfl rfl rfl (by omega) rfl ?_ | refine iai (es := 2) rfl rfl rfl rfl rfl rfl (by omega) (by omega) rfl ?_
      refine ldA (v := .agg _) rfl hat rfl rfl ?_
      first | refine pu (v := .slice _ _ _) rfl rfl ?_ | refine pu rfl rfl ?_
      first | refine pu (v := .int .i64 _) rfl rfl ?_ | refine pu rfl rfl ?_
      first | refine ia (es := 2) rfl rfl rfl rfl rfl rfl (by omega) rfl ?_ | refine iai (es := 2) rfl rfl rfl rfl rfl rfl (by omega) (by omega) rfl ?_
      refine ldA (v := .agg _) rfl hat' rfl rfl ?_
      refine neqs (c := true) eqBal rfl rfl (by show some (decide (b.1 = b.1) && (decide (b.2 = b.2) && true)) = some true; simp) rfl ?_
      refine SL_nil ?_
      refine nx ?_
      refine SWP_cf rfl ?_
      refine SWP_skip ?_
      refine nb ?_
      refine nx ?_
      refine SWP_region ?_
      first | refine pu (v := .int .i64 _) rfl rfl ?_ | refine pu rfl rfl ?_
      first | refine pw rfl rfl (w64 (by omega) (by omega)) ?_ | refine pu rfl rfl ?_
      first | refine pu (v := .int .i64 _) rfl rfl ?_ | refine pu rfl rfl ?_
      refine SL_nil ?_
      refine nx ?_
      refine ⟨by repeat (first | exact Under.upds rfl (Under.hav _ _ _) | exact Under.hav _ _ _ | refine Under.upd rfl ?_), ?_, ?_⟩
      · exact ⟨i + 1, rfl, by omega, rfl, rfl⟩
      · simp only [L_vals, List.map, List.getD]; show L.length - (i + 1) < L.length - i; omega
    · skip
      refine SL_nil ?_
      refine nx ?_
      refine SWP_cf rfl ?_
      refine SWP_exit ?_
      refine ne ?_
      refine ne ?_
      refine be rfl ?_
      refine nx ?_
      refine SWP_seq ?_
      refine SWP_region ?_
      first | refine pu (v := .bool _) rfl rfl ?_ | refine pu rfl rfl ?_
      refine SL_nil ?_
      refine nx ?_
      refine SWP_ret ?_
      refine fin [_] ⟨rfl, trivial⟩ ?_
      rfl

end Go.Proofs.Ytadnflbohflckaa

