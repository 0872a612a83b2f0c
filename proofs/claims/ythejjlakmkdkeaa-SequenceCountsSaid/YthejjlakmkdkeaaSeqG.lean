/- sequence.Guard.Gaps; lotterylaw20.same. -/
import Derived.Test.YthejjlakmkdkeaaSeqI
namespace Go.Proofs.Ythejjlakmkdkeaa
open Eng

def pairE (p : Int × Int) : List Value := [.int .i64 p.1, .int .i64 p.2]
theorem pairE_len (p : Int × Int) : (pairE p).length = 2 := rfl
theorem eqA2 : EqA2 Try.prog 36 3 := ⟨by kernel_rfl, by kernel_rfl, by kernel_rfl, by kernel_rfl, by kernel_rfl⟩
theorem gapsF_at {last : Int} {out : Pairs} {K : List Int} {i : Nat} {n : Int} (h : K[i]? = some n) : gapsF last out (K.drop i) = gapsF n (gapAdd last n out) (K.drop (i + 1)) := by
  have hk := List.getElem?_eq_some_iff.1 h
  rw [List.drop_eq_getElem_cons hk.1, hk.2]; rfl

theorem mapKeys {m : Mem} {M : Nat} : CallsS Try.prog 24 [.map (some M)].toArray [] m fun r σ' m' => ∃ B, r = .func (.func 27) #[] #[.pointer (some ⟨B, 0, none⟩)] ∧ σ' = [(B, Cells MT [.map (some M)])] ∧ m' = m := by
  refine enter Try.func24 Try.ntmps24 rfl rfl ?_
  refine SWP_seq ?_
  refine SWP_region ?_
  refine bx (v := .map _) rfl rfl (fun B1 => ?_)
  refine pu rfl rfl ?_
  refine SL_nil ?_
  refine nx ?_
  refine SWP_seq ?_
  refine SWP_region ?_
  refine pu rfl rfl ?_
  refine pu rfl rfl ?_
  refine SL_nil ?_
  refine nx ?_
  refine SWP_ret ?_
  refine fin [_] ⟨rfl, trivial⟩ ?_
  exact ⟨_, rfl, rfl, rfl⟩

theorem guGaps {m : Mem} {B M : Nat} {most : Int} {low : Nat} {l : IMap} {S : List Int} (h : Rep most S low l) (hlen : S.length ≤ 100000) : CallsS Try.prog 21 [.pointer (some ⟨B, 0, none⟩)].toArray (GuC B M most low l) m
      fun r σ' m' => σ' = GuC B M most low l ∧ RL m' pairE 2 r (gapsOf S) := by
  refine CallsS.ghost (R' := fun r σ' m' => ∃ σe, σ' = σe ++ GuC B M most low l ∧ OwnS 36 2 r ((gapsOf S).flatMap pairE) σe) ?_ ?h2
  case h2 =>
    rintro r σ' m' ⟨σe, rfl, h2⟩ g W hC
    obtain ⟨m2, h3, h4, h5⟩ := h2.freezeL (by omega) pairE_len hC
    exact ⟨_, m2, h4, h3, rfl, h5⟩
  have hlo := h.low_le
  have hll := h.len
  have hwf : ∀ p ∈ l, (Lit.int .i64 p.1).wf = true := fun p hp => by
    have h1 := h.good.rng p.1 ((h.mem _).2 (.inr (List.mem_map.2 ⟨p, hp, rfl⟩)))
    have h2 := h.good.m1
    simp [Lit.wf, IntKind.min, IntKind.max, IntKind.signed, IntKind.bits]
    omega
  refine enter Try.func21 Try.ntmps21 rfl rfl ?_
  refine SWP_seq ?_
  refine SWP_region ?_
  first | refine pu (v := .slice _ _ _) rfl rfl ?_ | refine pu rfl rfl ?_
  refine SL_nil ?_
  refine nx ?_
  refine SWP_seq ?_
  refine SWP_seq ?_
  refine SWP_region ?_
  first | refine pu (v := .pointer _) rfl rfl ?_ | refine pu rfl rfl ?_
  refine pu (v := .bool false) rfl rfl ?_
  refine SL_nil ?_
  refine nx ?_
  refine SWP_cf rfl ?_
  refine SWP_skip ?_
  refine nx ?_
  refine SWP_seq ?_
  refine SWP_region ?_
  first | refine pu (v := .slice _ _ _) rfl rfl ?_ | refine pu rfl rfl ?_
  refine SL_nil ?_
  refine nx ?_
  refine SWP_seq ?_
  refine SWP_region ?_
  first | refine pu (v := .pointer _) rfl rfl ?_ | refine pu rfl rfl ?_
  refine pu rfl rfl ?_
  refine pu rfl rfl ?_
  first | refine ld (v := .int .i64 _) (off := 1) (Rd.of_cells (.head _)) rfl rfl rfl rfl ?_ | refine ld (v := .int .i64 _) (off := 1) (Rd.of_cells (.tail _ (.head _))) rfl rfl rfl rfl ?_ | refine ld (v := .int .i64 _) (off := 1) (Rd.of_cells (.tail _ (.tail _ (.head _)))) rfl rfl rfl rfl ?_ | refine ld (v := .int .i64 _) (off := 1) (Rd.of_cells (.tail _ (.tail _ (.tail _ (.head _))))) rfl rfl rfl rfl ?_ | refine ld (v := .int .i64 _) (off := 1) (Rd.of_cells (.tail _ (.tail _ (.tail _ (.tail _ (.head _)))))) rfl rfl rfl rfl ?_ | refine ld (v := .int .i64 _) (off := 1) (Rd.of_cells (.tail _ (.tail _ (.tail _ (.tail _ (.tail _ (.head _))))))) rfl rfl rfl rfl ?_ | refine ld (v := .int .i64 _) (off := 1) (Rd.of_cells (.tail _ (.tail _ (.tail _ (.tail _ (.tail _ (.tail _ (.head _)))))))) rfl rfl rfl rfl ?_
  first | refine pu (v := .int .i64 _) rfl rfl ?_ | refine pu rfl rfl ?_
  refine SL_nil ?_
  refine nx ?_
  refine SWP_seq ?_
  refine SWP_seq ?_
  refine SWP_region ?_
  first | refine pu (v := .pointer _) rfl rfl ?_ | refine pu rfl rfl ?_
  refine pu rfl rfl ?_
  refine pu rfl rfl ?_
  first | refine ld (v := .map _) (off := 2) (Rd.of_cells (.head _)) rfl rfl rfl rfl ?_ | refine ld (v := .map _) (off := 2) (Rd.of_cells (.tail _ (.head _))) rfl rfl rfl rfl ?_ | refine ld (v := .map _) (off := 2) (Rd.of_cells (.tail _ (.tail _ (.head _)))) rfl rfl rfl rfl ?_ | refine ld (v := .map _) (off := 2) (Rd.of_cells (.tail _ (.tail _ (.tail _ (.head _))))) rfl rfl rfl rfl ?_ | refine ld (v := .map _) (off := 2) (Rd.of_cells (.tail _ (.tail _ (.tail _ (.tail _ (.head _)))))) rfl rfl rfl rfl ?_ | refine ld (v := .map _) (off := 2) (Rd.of_cells (.tail _ (.tail _ (.tail _ (.tail _ (.tail _ (.head _))))))) rfl rfl rfl rfl ?_ | refine ld (v := .map _) (off := 2) (Rd.of_cells (.tail _ (.tail _ (.tail _ (.tail _ (.tail _ (.tail _ (.head _)))))))) rfl rfl rfl rfl ?_
  refine SL_call rfl rfl cb24 (CallsS.frame0 mapKeys) rfl (fun v5_4 σ5_4 m5_4 hl5_4 hR5_4 => ?_)
  obtain ⟨σ₁, rfl, BK, rfl, rfl, hm5_4⟩ := hR5_4
  have hn5_4 := hm5_4.symm
  subst hn5_4
  refine SL_call rfl rfl cb23 (CallsS.perm1 (keys_sorted (τ := [_]) h.nodup hwf (by omega)) (List.Perm.cons _ (List.Perm.swap _ _ _))) rfl (fun v5_5 σ5_5 m5_5 hl5_5 hR5_5 => ?_)
  obtain ⟨hm5_5, σk, rfl, hownk⟩ := hR5_5
  have hn5_5 := hm5_5.symm
  subst hn5_5
  refine SL_freezeL (by omega) intE_len hownk (fun m3 hl3 hrl => ?_)
  refine SL_weak (List.sublist_cons_self _ _) ?_
  refine SL_perm (List.Perm.swap _ _ _) ?_
  have hKl : ((keysL l).mergeSort leI).length = l.length := by rw [(List.mergeSort_perm _ _).length_eq, List.length_map]
  have hgf := h.gaps
  have hKm : ∀ n ∈ (keysL l).mergeSort leI, 0 ≤ n ∧ n ≤ 1048576 := fun n hn => by
    have h1 := h.good.rng n ((h.mem _).2 (.inr ((List.mergeSort_perm _ _).mem_iff.1 hn)))
    have h2 := h.good.m1
    omega
  generalize (keysL l).mergeSort leI = K at hrl hKl hgf hKm ⊢
  obtain ⟨ak, capk, rfl⟩ := hrl.len
  refine pu rfl rfl ?_
  first | refine pu (v := .int .i64 _) rfl rfl ?_ | refine pu rfl rfl ?_
  refine SL_nil ?_
  refine nx ?_
  refine SWP_block ?_
  refine SWP_loop [3, 4, 6, 20, 21, 22, 23, 24, 25, 26, 27, 28, 29, 30, 31, 32, 33, 34, 35, 36, 37, 38, 39, 40] [3, 4, 20]
      (fun vs σ' m' => ∃ (i : Nat) (v3 : Value) (σe : Sig) (out : Pairs) (bf : Int), vs = [v3, .int .i64 bf, .int .i64 (i : Nat)] ∧ i ≤ K.length ∧ OwnS 36 2 v3 (out.flatMap pairE) σe ∧ out.length ≤ 64 ∧ gapsOf S = gapsF bf out (K.drop i) ∧ 0 ≤ bf ∧ bf ≤ 1048576 ∧ σ' = σe ++ GuC B M most low l ∧ m3 = m')
      (fun vs => K.length - nOf (vs.getD 2 undef)) rfl ?_ ?_
  · exact ⟨0, _, [], [], low, rfl, by omega, .nil, by simp, hgf, by omega, hlo, rfl, rfl⟩
  · intro u0 vs0 σ0 m0 hJ0 _
    obtain ⟨i, v3, σe, out, bf, rfl, hi, hown, hol, hg, hb0, hb1, rfl, rfl⟩ := hJ0
    obtain ⟨a3, cap3, rfl⟩ := hown.lenL (by omega) pairE_len
    refine SWP_seq ?_
    refine SWP_region ?_
    refine pc rfl rfl (fun c21 => ?_) (fun c21 => ?_)
    · skip
      refine SL_nil ?_
      refine nx ?_
      refine SWP_seq ?_
      refine SWP_ct rfl ?_
      refine SWP_skip ?_
      refine nx ?_
      refine SWP_seq ?_
      refine SWP_block ?_
      refine SWP_seq ?_
      obtain ⟨n, hn⟩ : ∃ n, K[i]? = some n := ⟨_, List.getElem?_eq_getElem (by omega)⟩
      obtain ⟨ad, cap', e1, hat⟩ := RL.at1 intE_len hrl hn
      cases e1
      obtain ⟨hn0, hn1⟩ := hKm n (List.mem_of_getElem? hn)
      refine SWP_region ?_
      first | refine ia (es := 1) rfl rfl rfl (Nat.mul_one _) rfl rfl (by omega) rfl ?_ | refine iai (es := 1) rfl rfl rfl (Nat.mul_one _) rfl rfl (by omega) (by omega) rfl ?_
      refine ldA (v := .int .i64 _) rfl (by assumption) rfl rfl ?_
      first | refine pu (v := .int .i64 _) rfl rfl ?_ | refine pu rfl rfl ?_
      refine SL_nil ?_
      refine nx ?_
      refine SWP_seq ?_
      refine SWP_seq ?_
      refine SWP_region ?_
      first | refine pu (v := .slice _ _ _) rfl rfl ?_ | refine pu rfl rfl ?_
      refine pu rfl rfl ?_
      refine pc rfl rfl (fun c26 => ?_) (fun c26 => ?_)
      · skip
        refine SL_nil ?_
        refine nx ?_
        refine SWP_ct rfl ?_
        refine SWP_exit ?_
        refine ne ?_
        refine bo rfl ?_
        refine ne ?_
        refine ne ?_
        refine be rfl ?_
        refine nx ?_
        refine SWP_seq ?_
        refine SWP_region ?_
        first | refine pu (v := .slice _ _ _) rfl rfl ?_ | refine pu rfl rfl ?_
        first | refine pu (v := .slice _ _ _) rfl rfl ?_ | refine pu rfl rfl ?_
        refine SL_nil ?_
        refine nx ?_
        refine SWP_ret ?_
        refine fin [_] ⟨rfl, trivial⟩ ?_
        refine ⟨σe, rfl, ?_⟩
        rw [hg, gapsF_full (by omega)]
        exact hown
      · skip
        refine SL_nil ?_
        refine nx ?_
        refine SWP_cf rfl ?_
        refine SWP_skip ?_
        refine nx ?_
        refine SWP_seq ?_
        refine SWP_seq ?_
        refine SWP_region ?_
        first | refine pu (v := .int .i64 _) rfl rfl ?_ | refine pu rfl rfl ?_
        first | refine pu (v := .int .i64 _) rfl rfl ?_ | refine pu rfl rfl ?_
        first | refine pw rfl rfl (w64 (by omega) (by omega)) ?_ | refine pu rfl rfl ?_
        refine pc rfl rfl (fun c30 => ?_) (fun c30 => ?_)
        · skip
          refine SL_nil ?_
          refine nx ?_
          refine SWP_ct rfl ?_
          refine SWP_region ?_
          first | refine pu (v := .slice _ _ _) rfl rfl ?_ | refine pu rfl rfl ?_
          first | refine pu (v := .int .i64 _) rfl rfl ?_ | refine pu rfl rfl ?_
          first | refine pw rfl rfl (w64 (by omega) (by omega)) ?_ | refine pu rfl rfl ?_
          first | refine pu (v := .int .i64 _) rfl rfl ?_ | refine pu rfl rfl ?_
          first | refine pw rfl rfl (w64 (by omega) (by omega)) ?_ | refine pu rfl rfl ?_
          first | refine pu (v := .agg _) rfl rfl ?_ | refine pu rfl rfl ?_
          refine bs rfl rfl rfl rfl rfl (fun B37 => ?_)
          refine ap (e := 36) (size := 2) (bytes := 16) rfl rfl rfl rfl rfl rfl rfl hown List.perm_middle.symm rfl (Rd.of_cells (.head _)) rfl rfl (by rw [flatMap_len pairE_len]; omega) rfl rfl (fun v38 σ38 hown38 => ?_)
          refine SL_weak (List.Sublist.append_left (List.sublist_cons_self _ _) _) ?_
          first | refine pu (v := .slice _ _ _) rfl rfl ?_ | refine pu rfl rfl ?_
          refine SL_nil ?_
          refine nx ?_
          refine SWP_region ?_
          first | refine pu (v := .int .i64 _) rfl rfl ?_ | refine pu rfl rfl ?_
          first | refine pu (v := .int .i64 _) rfl rfl ?_ | refine pu rfl rfl ?_
          refine SL_nil ?_
          refine nb ?_
          refine nx ?_
          refine SWP_region ?_
          first | refine pw rfl rfl (w64 (by omega) (by omega)) ?_ | refine pu rfl rfl ?_
          first | refine pu (v := .int .i64 _) rfl rfl ?_ | refine pu rfl rfl ?_
          refine SL_nil ?_
          refine nx ?_
          refine ⟨by repeat (first | exact Under.upds rfl (Under.hav _ _ _) | exact Under.hav _ _ _ | refine Under.upd rfl ?_), ?_, ?_⟩
          · refine ⟨i + 1, v38, σ38, out ++ [(bf + 1, n - 1)], n, rfl, by omega, ?_, ?_, ?_, hn0, hn1, rfl, rfl⟩
            · rw [List.flatMap_append]
              exact hown38
            · rw [List.length_append, List.length_singleton]; omega
            · rw [hg, gapsF_at hn]
              unfold gapAdd
              rw [if_pos ⟨by omega, by omega⟩]
          · simp only [L_vals, List.map, List.getD]; show K.length - (i + 1) < K.length - i; omega
        · skip
          refine SL_nil ?_
          refine nx ?_
          refine SWP_cf rfl ?_
          refine SWP_skip ?_
          refine nx ?_
          refine SWP_region ?_
          first | refine pu (v := .int .i64 _) rfl rfl ?_ | refine pu rfl rfl ?_
          first | refine pu (v := .int .i64 _) rfl rfl ?_ | refine pu rfl rfl ?_
          refine SL_nil ?_
          refine nb ?_
          refine nx ?_
          refine SWP_region ?_
          first | refine pw rfl rfl (w64 (by omega) (by omega)) ?_ | refine pu rfl rfl ?_
          first | refine pu (v := .int .i64 _) rfl rfl ?_ | refine pu rfl rfl ?_
          refine SL_nil ?_
          refine nx ?_
          refine ⟨by repeat (first | exact Under.upds rfl (Under.hav _ _ _) | exact Under.hav _ _ _ | refine Under.upd rfl ?_), ?_, ?_⟩
          · refine ⟨i + 1, _, σe, out, n, rfl, by omega, hown, hol, ?_, hn0, hn1, rfl, rfl⟩
            rw [hg, gapsF_at hn]
            unfold gapAdd
            rw [if_neg (by omega)]
          · simp only [L_vals, List.map, List.getD]; show K.length - (i + 1) < K.length - i; omega
    · skip
      refine SL_nil ?_
      refine nx ?_
      refine SWP_seq ?_
      refine SWP_cf rfl ?_
      refine SWP_exit ?_
      refine ne ?_
      refine ne ?_
      refine be rfl ?_
      refine nx ?_
      refine SWP_seq ?_
      refine SWP_region ?_
      first | refine pu (v := .slice _ _ _) rfl rfl ?_ | refine pu rfl rfl ?_
      first | refine pu (v := .slice _ _ _) rfl rfl ?_ | refine pu rfl rfl ?_
      refine SL_nil ?_
      refine nx ?_
      refine SWP_ret ?_
      refine fin [_] ⟨rfl, trivial⟩ ?_
      have e : i = K.length := by omega
      rw [e, List.drop_length] at hg
      refine ⟨σe, rfl, ?_⟩
      rw [hg]
      exact hown

theorem sameP {m : Mem} {v w : Value} {L : Pairs} (h : RL m pairE 2 v L) (h' : RL m pairE 2 w L) (hL : L.length ≤ 1000) : PureCall Try.prog 20 [v, w] m (.bool true) := by
  refine CallsS.pure ?_
  obtain ⟨a, cap, rfl⟩ := h.len
  obtain ⟨a', cap', rfl⟩ := h'.len
  refine enter Try.func20 Try.ntmps20 rfl rfl ?_
  refine SWP_seq ?_
  refine SWP_region ?_
  first | refine pu (v := .bool _) rfl rfl ?_ | refine pu rfl rfl ?_
  refine SL_nil ?_
  refine nx ?_
  refine SWP_seq ?_
  refine SWP_seq ?_
  refine SWP_region ?_
  first | refine pu (v := .slice _ _ _) rfl rfl ?_ | refine pu rfl rfl ?_
  refine pu rfl rfl ?_
  first | refine pu (v := .slice _ _ _) rfl rfl ?_ | refine pu rfl rfl ?_
  refine pu rfl rfl ?_
  refine pn rfl rfl (fun h => h rfl) ?_
  refine SL_nil ?_
  refine nx ?_
  refine SWP_cf rfl ?_
  refine SWP_skip ?_
  refine nx ?_
  refine SWP_seq ?_
  refine SWP_seq ?_
  refine SWP_region ?_
  first | refine pu (v := .slice _ _ _) rfl rfl ?_ | refine pu rfl rfl ?_
  refine pu rfl rfl ?_
  first | refine pu (v := .int .i64 _) rfl rfl ?_ | refine pu rfl rfl ?_
  refine SL_nil ?_
  refine nx ?_
  refine SWP_block ?_
  refine SWP_loop [4, 5, 13, 14, 15, 16, 17, 18, 19, 20, 21, 22, 23, 24, 25] [13]
      (fun vs σ' m' => ∃ (i : Nat), vs = [.int .i64 (i : Nat)] ∧ i ≤ L.length ∧ σ' = [] ∧ m = m')
      (fun vs => L.length - nOf (vs.getD 0 undef)) rfl ?_ ?_
  · exact ⟨0, rfl, by omega, rfl, rfl⟩
  · intro u0 vs0 σ0 m0 hJ0 _
    obtain ⟨i, rfl, hi, rfl, rfl⟩ := hJ0
    refine SWP_seq ?_
    refine SWP_region ?_
    refine pc rfl rfl (fun c14 => ?_) (fun c14 => ?_)
    · skip
      refine SL_nil ?_
      refine nx ?_
      refine SWP_seq ?_
      refine SWP_ct rfl ?_
      refine SWP_skip ?_
      refine nx ?_
      refine SWP_seq ?_
      refine SWP_block ?_
      refine SWP_seq ?_
      refine SWP_region ?_
      first | refine pu (v := .int .i64 _) rfl rfl ?_ | refine pu rfl rfl ?_
      first | refine pu (v := .int .i64 _) rfl rfl ?_ | refine pu rfl rfl ?_
      refine SL_nil ?_
      refine nx ?_
      refine SWP_seq ?_
      obtain ⟨b, hb⟩ : ∃ b, L[i]? = some b := ⟨_, List.getElem?_eq_getElem (by omega)⟩
      obtain ⟨ad, cap2, e1, hat⟩ := RL.at_ pairE_len h hb
      cases e1
      obtain ⟨ad', cap3, e2, hat'⟩ := RL.at_ pairE_len h' hb
      cases e2
      refine SWP_draws (by kernel_rfl) (by kernel_rfl) ?_
      first | refine pu (v := .slice _ _ _) rfl rfl ?_ | refine pu rfl rfl ?_
      first | refine pu (v := .int .i64 _) rfl rfl ?_ | refine pu rfl rfl ?_
      first | refine ia (es := 2) rfl rfl rfl rfl rfl rfl (by omega) rfl ?_ | refine iai (es := 2) rfl rfl rfl rfl rfl rfl (by omega) (by omega) rfl ?_
      refine ldA (v := .agg _) rfl hat rfl rfl ?_
      first | refine pu (v := .slice _ _ _) rfl rfl ?_ | refine pu rfl rfl ?_
      first | refine pu (v := .int .i64 _) rfl rfl ?_ | refine pu rfl rfl ?_
      first | refine ia (es := 2) rfl rfl rfl rfl rfl rfl (by omega) rfl ?_ | refine iai (es := 2) rfl rfl rfl rfl rfl rfl (by omega) (by omega) rfl ?_
      refine ldA (v := .agg _) rfl hat' rfl rfl ?_
      refine neqA2 (c := true) (a0 := b.1) (a1 := b.2) (b0 := b.1) (b1 := b.2) eqA2 rfl rfl rfl rfl (by simp) rfl ?_
      refine SL_nil ?_
      refine nx ?_
      refine SWP_cf rfl ?_
      refine SWP_skip ?_
      refine nb ?_
      refine nx ?_
      refine SWP_region ?_
      first | refine pw rfl rfl (w64 (by omega) (by omega)) ?_ | refine pu rfl rfl ?_
      first | refine pu (v := .int .i64 _) rfl rfl ?_ | refine pu rfl rfl ?_
      refine SL_nil ?_
      refine nx ?_
      refine ⟨by repeat (first | exact Under.upds rfl (Under.hav _ _ _) | exact Under.hav _ _ _ | refine Under.upd rfl ?_), ?_, ?_⟩
      · exact ⟨i + 1, rfl, by omega, rfl, rfl⟩
      · simp only [L_vals, List.map, List.getD]; show L.length - (i + 1) < L.length - i; omega
    · skip
      refine SL_nil ?_
      refine nx ?_
      refine SWP_seq ?_
      refine SWP_cf rfl ?_
      refine SWP_exit ?_
      refine ne ?_
      refine ne ?_
      refine be rfl ?_
      refine nx ?_
      refine SWP_seq ?_
      refine SWP_region ?_
      first | refine pu (v := .bool _) rfl rfl ?_ | refine pu rfl rfl ?_
      refine SL_nil ?_
      refine nx ?_
      refine SWP_ret ?_
      refine fin [_] ⟨rfl, trivial⟩ ?_
      rfl

end Go.Proofs.Ythejjlakmkdkeaa

