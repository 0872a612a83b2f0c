/- lotterylaw48.LedgerZero. -/
import Derived.Test.YtadnflbohflckaaLedO
namespace Go.Proofs.Ytadnflbohflckaa
open Eng

theorem Eng.memN_sub {S : List Nat} : ∀ {S' : List Nat} {t : Nat}, S'.all (memN S) = true → memN S' t = true → memN S t = true
  | [], _, _, h => by cases h
  | x :: S', t, ha, h => by
    rw [List.all_cons, Bool.and_eq_true] at ha
    unfold memN at h
    cases hx : Nat.beq t x with
    | true => have e : t = x := Nat.eq_of_beq_eq_true hx; subst e; exact ha.1
    | false => rw [hx] at h; exact Eng.memN_sub ha.2 h
theorem Eng.Under.hav2 {S S' : List Nat} {f f' u : Fr} (h : S'.all (memN S) = true) (h' : Under S f f') : Under S f (Eng.hav S' u f') := fun t ht => by
  unfold Eng.hav
  cases hm : memN S' t with
  | false => exact h' t ht
  | true => rw [memN_sub h hm] at ht; cases ht
theorem wr_sum_snoc {LA : Acc} {k : Nat} {b : ByteArray × Int} (h : LA[k]? = some b) : IntKind.wrap .i64 (wr (((LA.take k).map (·.2)).sum) + b.2) = wr (((LA.take (k + 1)).map (·.2)).sum) := by
  have hk := List.getElem?_eq_some_iff.1 h
  rw [List.take_succ_eq_append_getElem hk.1, hk.2, List.map_append, List.sum_append]
  simp only [List.map_cons, List.map_nil, List.sum_cons, List.sum_nil, Int.add_zero]
  exact wr_add _ _
theorem nz_lt {la : Acc} {ks : List ByteArray} {j : Nat} {a b : ByteArray × Int} (h : ks.Perm (la.map (·.1))) (hn : (la.map (·.1)).Nodup) (ha : (nz la (sortK ks))[j]? = some a) (hb : (nz la (sortK ks))[j + 1]? = some b) : klt a.1 b.1 = true := by
  have ha' := List.getElem?_eq_some_iff.1 ha
  have hb' := List.getElem?_eq_some_iff.1 hb
  have := List.pairwise_iff_getElem.1 (nz_sorted h hn) j (j + 1) ha'.1 hb'.1 (by omega)
  rwa [ha'.2, hb'.2] at this

theorem lawLedgerZero {m : Mem} {v : Value} {l : List Posting} (h : RL m Posting.enc 3 v l) :
    CallsS Try.prog 4 [v].toArray [] m fun r _ _ => r = .bool true := by
  obtain ⟨a, cap, rfl⟩ := h.len
  refine enter Try.func4 Try.ntmps4 rfl rfl ?_
  refine SWP_seq ?_
  refine SWP_region ?_
  first | refine pu (v := .bool _) rfl rfl ?_ | refine pu rfl rfl ?_
  refine SL_nil ?_
  refine nx ?_
  refine SWP_seq ?_
  refine SWP_seq ?_
  refine SWP_region ?_
  first | refine pu (v := .slice _ _ _) rfl rfl ?_ | refine pu rfl rfl ?_
  refine pu rfl rfl ?_
  refine pc rfl rfl (fun c10 => ?_) (fun c10 => ?_)
  · skip
    refine SL_nil ?_
    refine nx ?_
    refine SWP_ct rfl ?_
    refine SWP_seq ?_
    refine SWP_region ?_
    refine SL_pcall rfl rfl cb10 (livesOk) rfl ?_
    first | refine pu (v := .bool _) rfl rfl ?_ | refine pu rfl rfl ?_
    refine SL_nil ?_
    refine nx ?_
    refine SWP_ret ?_
    refine nr ?_
    refine fin [_] ⟨rfl, trivial⟩ ?_
    rfl
  · skip
    refine SL_nil ?_
    refine nx ?_
    refine SWP_cf rfl ?_
    refine SWP_skip ?_
    refine nx ?_
    refine SWP_seq ?_
    refine SWP_region ?_
    refine SL_call rfl rfl cb11 (ledNew) rfl (fun v3_0 σ3_0 m3_0 hl3_0 hR3_0 => ?_)
    obtain ⟨B, M, rfl, rfl, hm3_0⟩ := hR3_0
    have hn3_0 := hm3_0.symm
    subst hn3_0
    first | refine pu (v := .pointer _) rfl rfl ?_ | refine pu rfl rfl ?_
    refine SL_nil ?_
    refine nx ?_
    refine SWP_seq ?_
    refine SWP_seq ?_
    refine SWP_region ?_
    first | refine pu (v := .int .i64 _) rfl rfl ?_ | refine pu rfl rfl ?_
    refine SL_nil ?_
    refine nx ?_
    refine SWP_block ?_
    refine SWP_loop [2, 4, 5, 6, 7, 13, 14, 15, 16, 17, 18, 19, 20, 21, 22, 23, 24, 25, 26, 27, 28, 29, 30, 31, 32, 33, 34, 35, 36, 37, 38, 39, 40, 41, 42, 43, 44, 45, 46, 47, 48, 49, 50, 51, 52, 53, 54, 55, 56, 57, 58, 59, 60, 61, 62, 63, 64, 65, 66, 67, 68, 69, 70, 71, 72, 73, 74, 75, 76, 77, 78, 79, 80] [4]
        (fun vs σ' m' => ∃ (i : Nat) (la : Acc) (t : Int), vs = [.int .i64 (i : Nat)] ∧ i ≤ l.length ∧ Inv la t i ∧ σ' = LedC B M la t ∧ Le m m')
        (fun vs => l.length - nOf (vs.getD 0 undef)) rfl ?_ ?_
    · exact ⟨0, [], 0, rfl, by omega, Inv.new, rfl, Le.refl _⟩
    · intro u0 vs0 σ0 m0 hJ0 _
      obtain ⟨i, la, t, rfl, hi, hinv, rfl, hlm⟩ := hJ0
      refine SWP_seq ?_
      refine SWP_seq ?_
      refine SWP_region ?_
      first | refine pu (v := .int .i64 _) rfl rfl ?_ | refine pu rfl rfl ?_
      first | refine pu (v := .slice _ _ _) rfl rfl ?_ | refine pu rfl rfl ?_
      refine pu rfl rfl ?_
      refine pc rfl rfl (fun c16 => ?_) (fun c16 => ?_)
      · skip
        refine SL_nil ?_
        refine nx ?_
        refine SWP_ct rfl ?_
        refine SWP_skip ?_
        refine nx ?_
        refine SWP_seq ?_
        refine SWP_block ?_
        refine SWP_seq ?_
        obtain ⟨q, hq⟩ : ∃ q, l[i]? = some q := ⟨_, List.getElem?_eq_getElem (by omega)⟩
        obtain ⟨ad, cap', e1, hat⟩ := RL.at_ Posting.enc_len (h.mono hlm) hq
        cases e1
        refine SWP_region ?_
        first | refine pu (v := .pointer _) rfl rfl ?_ | refine pu rfl rfl ?_
        first | refine pu (v := .slice _ _ _) rfl rfl ?_ | refine pu rfl rfl ?_
        first | refine pu (v := .int .i64 _) rfl rfl ?_ | refine pu rfl rfl ?_
        first | refine ia (es := 3) rfl rfl rfl rfl rfl rfl (by omega) rfl ?_ | refine iai (es := 3) rfl rfl rfl rfl rfl rfl (by omega) (by omega) rfl ?_
        refine ldA (v := .agg _) rfl (by assumption) rfl rfl ?_
        refine SL_call rfl rfl cb13 (ledPost q) rfl (fun v7_5 σ7_5 m7_5 hl7_5 hR7_5 => ?_)
        obtain ⟨rfl, hm7_5, rfl⟩ := hR7_5
        have hn7_5 := hm7_5.symm
        subst hn7_5
        rw [step_sig]
        have hi2 := hinv.step (by omega) q
        generalize stepAcc la t q = lb at hi2 ⊢
        generalize stepT la t q = tb at hi2 ⊢
        have hl := hi2.len
        refine SL_nil ?_
        refine nx ?_
        refine SWP_seq ?_
        refine SWP_region ?_
        first | refine pu (v := .pointer _) rfl rfl ?_ | refine pu rfl rfl ?_
        refine SL_call rfl rfl cb17 (ledAll (la := lb) (by omega)) rfl (fun v8_1 σ8_1 m8_1 hl8_1 hR8_1 => ?_)
        obtain ⟨rfl, ks, hks, hall⟩ := hR8_1
        have hC := nz_len1 hi2.toFew (by omega) hks
        obtain ⟨a5, cap5, rfl⟩ := hall.len
        first | refine pu (v := .slice _ _ _) rfl rfl ?_ | refine pu rfl rfl ?_
        refine SL_nil ?_
        refine nx ?_
        refine SWP_seq ?_
        refine SWP_region ?_
        first | refine pu (v := .int .i64 _) rfl rfl ?_ | refine pu rfl rfl ?_
        refine SL_nil ?_
        refine nx ?_
        refine SWP_seq ?_
        refine SWP_seq ?_
        refine SWP_region ?_
        first | refine pu (v := .int .i64 _) rfl rfl ?_ | refine pu rfl rfl ?_
        refine SL_nil ?_
        refine nx ?_
        refine SWP_block ?_
        refine SWP_loop [2, 6, 7, 27, 28, 29, 30, 31, 32, 33, 34, 35, 36, 37, 38, 39, 40, 41, 42, 43, 44, 45, 46, 47, 48, 49, 50, 51, 52, 53, 54, 55, 56, 57, 58, 59, 60, 61, 62, 63, 64, 65, 66, 67, 68, 69, 70, 71, 72, 73, 74, 75, 76, 77, 78] [6, 7]
            (fun vs σ' m' => ∃ (k : Nat), vs = [.int .i64 (wr ((((nz lb (sortK ks)).take k).map (·.2)).sum)), .int .i64 (k : Nat)] ∧ k ≤ (nz lb (sortK ks)).length ∧ σ' = LedC B M lb tb ∧ m8_1 = m')
            (fun vs => (nz lb (sortK ks)).length - nOf (vs.getD 1 undef)) rfl ?_ ?_
        · exact ⟨0, rfl, by omega, rfl, rfl⟩
        · intro u1 vs1 σ1 m1 hJ1 _
          obtain ⟨k, rfl, hk, rfl, rfl⟩ := hJ1
          refine SWP_seq ?_
          refine SWP_seq ?_
          refine SWP_region ?_
          first | refine pu (v := .int .i64 _) rfl rfl ?_ | refine pu rfl rfl ?_
          first | refine pu (v := .slice _ _ _) rfl rfl ?_ | refine pu rfl rfl ?_
          refine pu rfl rfl ?_
          refine pc rfl rfl (fun c30 => ?_) (fun c30 => ?_)
          · skip
            refine SL_nil ?_
            refine nx ?_
            refine SWP_ct rfl ?_
            refine SWP_skip ?_
            refine nx ?_
            refine SWP_seq ?_
            refine SWP_block ?_
            refine SWP_seq ?_
            refine SWP_seq ?_
            obtain ⟨b, hb⟩ : ∃ b, (nz lb (sortK ks))[k]? = some b := ⟨_, List.getElem?_eq_getElem (by omega)⟩
            obtain ⟨ad2, cap2, e2, hat2⟩ := RL.at_ balE_len hall hb
            cases e2
            obtain ⟨hbv, hbn⟩ := nz_get (List.mem_of_getElem? hb)
            refine SWP_draws (by kernel_rfl) (by kernel_rfl) ?_
            first | refine pu (v := .slice _ _ _) rfl rfl ?_ | refine pu rfl rfl ?_
            first | refine pu (v := .int .i64 _) rfl rfl ?_ | refine pu rfl rfl ?_
            first | refine ia (es := 2) rfl rfl rfl rfl rfl rfl (by omega) rfl ?_ | refine iai (es := 2) rfl rfl rfl rfl rfl rfl (by omega) (by omega) rfl ?_
            refine pu rfl rfl ?_
            refine ldF (v := .int .i64 _) rfl rfl (by assumption) rfl rfl ?_
            refine pn rfl rfl (hbn) ?_
            first | refine pu (v := .bool _) rfl rfl ?_ | refine pu rfl rfl ?_
            refine SL_yes rfl ?_
            first | refine pu (v := .int .i64 _) rfl rfl ?_ | refine pu rfl rfl ?_
            refine SL_yes rfl ?_
            refine pc rfl rfl (fun c41 => ?_) (fun c41 => ?_)
            · skip
              refine SL_yes rfl ?_
              first | refine pu (v := .bool _) rfl rfl ?_ | refine pu rfl rfl ?_
              refine SL_yes rfl ?_
              obtain ⟨j, hj⟩ : ∃ j, k = j + 1 := ⟨k - 1, by omega⟩
              obtain ⟨b', hb'⟩ : ∃ b, (nz lb (sortK ks))[j]? = some b := ⟨_, List.getElem?_eq_getElem (by omega)⟩
              obtain ⟨ad3, cap3, e3, hat3⟩ := RL.at_ balE_len hall hb'
              cases e3
              have hat4 : At m8_1 (ad2.add ((((k : Nat) : Int) - 1).toNat * 2)) (balE b') := by
                rw [show (((k : Nat) : Int) - 1).toNat = j by omega]
                exact hat3
              have hkl : (klt b.1 b'.1 || decide (b.1 = b'.1)) = false := by
                have h1 := nz_lt hks hi2.keys hb' (by rw [← hj]; exact hb)
                cases h2 : klt b.1 b'.1 with
                | true =>
                  have h3 := klt_trans h1 h2
                  rw [klt_irrefl] at h3
                  cases h3
                | false =>
                  have h3 : b.1 ≠ b'.1 := fun e => by
                    rw [e, klt_irrefl] at h1
                    cases h1
                  simp [h3]
              first | refine pu (v := .slice _ _ _) rfl rfl ?_ | refine pu rfl rfl ?_
              refine SL_yes rfl ?_
              first | refine pu (v := .int .i64 _) rfl rfl ?_ | refine pu rfl rfl ?_
              refine SL_yes rfl ?_
              first | refine ia (es := 2) rfl rfl rfl rfl rfl rfl (by omega) rfl ?_ | refine iai (es := 2) rfl rfl rfl rfl rfl rfl (by omega) (by omega) rfl ?_
              refine SL_yes rfl ?_
              refine pu rfl rfl ?_
              refine SL_yes rfl ?_
              refine ldF (v := .string _) rfl rfl (by assumption) rfl rfl ?_
              refine SL_yes rfl ?_
              first | refine pu (v := .slice _ _ _) rfl rfl ?_ | refine pu rfl rfl ?_
              refine SL_yes rfl ?_
              first | refine pu (v := .int .i64 _) rfl rfl ?_ | refine pu rfl rfl ?_
              refine SL_yes rfl ?_
              first | refine pw rfl rfl (w64 (by omega) (by omega)) ?_ | refine pu rfl rfl ?_
              refine SL_yes rfl ?_
              first | refine ia (es := 2) rfl rfl rfl rfl rfl rfl (by omega) rfl ?_ | refine iai (es := 2) rfl rfl rfl rfl rfl rfl (by omega) (by omega) rfl ?_
              refine SL_yes rfl ?_
              refine pu rfl rfl ?_
              refine SL_yes rfl ?_
              refine ldF (v := .string _) rfl rfl (by assumption) rfl rfl ?_
              refine SL_yes rfl ?_
              refine pu (v := .bool (klt b.1 b'.1 || decide (b.1 = b'.1))) rfl rfl ?_
              rw [hkl]
              refine SL_yes rfl ?_
              first | refine pu (v := .bool _) rfl rfl ?_ | refine pu rfl rfl ?_
              first | refine pu (v := .bool _) rfl rfl ?_ | refine pu rfl rfl ?_
              first | refine pu (v := .bool _) rfl rfl ?_ | refine pu rfl rfl ?_
              refine SL_yes rfl ?_
              first | refine pu (v := .pointer _) rfl rfl ?_ | refine pu rfl rfl ?_
              refine SL_yes rfl ?_
              first | refine pu (v := .slice _ _ _) rfl rfl ?_ | refine pu rfl rfl ?_
              refine SL_yes rfl ?_
              first | refine pu (v := .int .i64 _) rfl rfl ?_ | refine pu rfl rfl ?_
              refine SL_yes rfl ?_
              first | refine ia (es := 2) rfl rfl rfl rfl rfl rfl (by omega) rfl ?_ | refine iai (es := 2) rfl rfl rfl rfl rfl rfl (by omega) (by omega) rfl ?_
              refine SL_yes rfl ?_
              refine pu rfl rfl ?_
              refine SL_yes rfl ?_
              refine ldF (v := .string _) rfl rfl (by assumption) rfl rfl ?_
              refine SL_yes rfl ?_
              refine SL_pcallS rfl rfl cb15 (ledBalance b.1) rfl ?_
              refine SL_yes rfl ?_
              first | refine pu (v := .slice _ _ _) rfl rfl ?_ | refine pu rfl rfl ?_
              refine SL_yes rfl ?_
              first | refine pu (v := .int .i64 _) rfl rfl ?_ | refine pu rfl rfl ?_
              refine SL_yes rfl ?_
              first | refine ia (es := 2) rfl rfl rfl rfl rfl rfl (by omega) rfl ?_ | refine iai (es := 2) rfl rfl rfl rfl rfl rfl (by omega) (by omega) rfl ?_
              refine SL_yes rfl ?_
              refine pu rfl rfl ?_
              refine SL_yes rfl ?_
              refine ldF (v := .int .i64 _) rfl rfl (by assumption) rfl rfl ?_
              refine SL_yes rfl ?_
              refine pn rfl rfl (fun h => h hbv.symm) ?_
              first | refine pu (v := .bool _) rfl rfl ?_ | refine pu rfl rfl ?_
              refine SL_nil ?_
              refine nx ?_
              refine SWP_cf rfl ?_
              refine SWP_skip ?_
              refine nx ?_
              refine SWP_region ?_
              first | refine pu (v := .int .i64 _) rfl rfl ?_ | refine pu rfl rfl ?_
              first | refine pu (v := .slice _ _ _) rfl rfl ?_ | refine pu rfl rfl ?_
              first | refine pu (v := .int .i64 _) rfl rfl ?_ | refine pu rfl rfl ?_
              first | refine ia (es := 2) rfl rfl rfl rfl rfl rfl (by omega) rfl ?_ | refine iai (es := 2) rfl rfl rfl rfl rfl rfl (by omega) (by omega) rfl ?_
              refine pu rfl rfl ?_
              refine ldF (v := .int .i64 _) rfl rfl (by assumption) rfl rfl ?_
              first | refine pw rfl rfl (w64 (by omega) (by omega)) ?_ | refine pu rfl rfl ?_
              first | refine pu (v := .int .i64 _) rfl rfl ?_ | refine pu rfl rfl ?_
              refine SL_nil ?_
              refine nb ?_
              refine nx ?_
              refine SWP_region ?_
              first | refine pu (v := .int .i64 _) rfl rfl ?_ | refine pu rfl rfl ?_
              first | refine pw rfl rfl (w64 (by omega) (by omega)) ?_ | refine pu rfl rfl ?_
              first | refine pu (v := .int .i64 _) rfl rfl ?_ | refine pu rfl rfl ?_
              refine SL_nil ?_
              refine nx ?_
              refine ⟨by repeat (first | exact Under.upds rfl (Under.hav _ _ _) | exact Under.hav _ _ _ | refine Under.upd rfl ?_ | refine Under.upds rfl ?_ | refine Under.hav2 rfl ?_), ?_, ?_⟩
              · exact ⟨k + 1, by rw [← wr_sum_snoc hb]; rfl, by omega, rfl, rfl⟩
              · simp only [L_vals, List.map, List.getD]; show (nz lb (sortK ks)).length - (k + 1) < (nz lb (sortK ks)).length - k; omega
            · skip
              refine SL_yes rfl ?_
              first | refine pu (v := .bool _) rfl rfl ?_ | refine pu rfl rfl ?_
              refine SL_no rfl rfl ?_
              refine SL_no rfl rfl ?_
              refine SL_no rfl rfl ?_
              refine SL_no rfl rfl ?_
              refine SL_no rfl rfl ?_
              refine SL_no rfl rfl ?_
              refine SL_no rfl rfl ?_
              refine SL_no rfl rfl ?_
              refine SL_no rfl rfl ?_
              refine SL_no rfl rfl ?_
              refine SL_no rfl rfl ?_
              refine SL_no rfl rfl ?_
              refine SL_yes rfl ?_
              first | refine pu (v := .bool _) rfl rfl ?_ | refine pu rfl rfl ?_
              first | refine pu (v := .bool _) rfl rfl ?_ | refine pu rfl rfl ?_
              first | refine pu (v := .bool _) rfl rfl ?_ | refine pu rfl rfl ?_
              refine SL_yes rfl ?_
              first | refine pu (v := .pointer _) rfl rfl ?_ | refine pu rfl rfl ?_
              refine SL_yes rfl ?_
              first | refine pu (v := .slice _ _ _) rfl rfl ?_ | refine pu rfl rfl ?_
              refine SL_yes rfl ?_
              first | refine pu (v := .int .i64 _) rfl rfl ?_ | refine pu rfl rfl ?_
              refine SL_yes rfl ?_
              first | refine ia (es := 2) rfl rfl rfl rfl rfl rfl (by omega) rfl ?_ | refine iai (es := 2) rfl rfl rfl rfl rfl rfl (by omega) (by omega) rfl ?_
              refine SL_yes rfl ?_
              refine pu rfl rfl ?_
              refine SL_yes rfl ?_
              refine ldF (v := .string _) rfl rfl (by assumption) rfl rfl ?_
              refine SL_yes rfl ?_
              refine SL_pcallS rfl rfl cb15 (ledBalance b.1) rfl ?_
              refine SL_yes rfl ?_
              first | refine pu (v := .slice _ _ _) rfl rfl ?_ | refine pu rfl rfl ?_
              refine SL_yes rfl ?_
              first | refine pu (v := .int .i64 _) rfl rfl ?_ | refine pu rfl rfl ?_
              refine SL_yes rfl ?_
              first | refine ia (es := 2) rfl rfl rfl rfl rfl rfl (by omega) rfl ?_ | refine iai (es := 2) rfl rfl rfl rfl rfl rfl (by omega) (by omega) rfl ?_
              refine SL_yes rfl ?_
              refine pu rfl rfl ?_
              refine SL_yes rfl ?_
              refine ldF (v := .int .i64 _) rfl rfl (by assumption) rfl rfl ?_
              refine SL_yes rfl ?_
              refine pn rfl rfl (fun h => h hbv.symm) ?_
              first | refine pu (v := .bool _) rfl rfl ?_ | refine pu rfl rfl ?_
              refine SL_nil ?_
              refine nx ?_
              refine SWP_cf rfl ?_
              refine SWP_skip ?_
              refine nx ?_
              refine SWP_region ?_
              first | refine pu (v := .int .i64 _) rfl rfl ?_ | refine pu rfl rfl ?_
              first | refine pu (v := .slice _ _ _) rfl rfl ?_ | refine pu rfl rfl ?_
              first | refine pu (v := .int .i64 _) rfl rfl ?_ | refine pu rfl rfl ?_
              first | refine ia (es := 2) rfl rfl rfl rfl rfl rfl (by omega) rfl ?_ | refine iai (es := 2) rfl rfl rfl rfl rfl rfl (by omega) (by omega) rfl ?_
              refine pu rfl rfl ?_
              refine ldF (v := .int .i64 _) rfl rfl (by assumption) rfl rfl ?_
              first | refine pw rfl rfl (w64 (by omega) (by omega)) ?_ | refine pu rfl rfl ?_
              first | refine pu (v := .int .i64 _) rfl rfl ?_ | refine pu rfl rfl ?_
              refine SL_nil ?_
              refine nb ?_
              refine nx ?_
              refine SWP_region ?_
              first | refine pu (v := .int .i64 _) rfl rfl ?_ | refine pu rfl rfl ?_
              first | refine pw rfl rfl (w64 (by omega) (by omega)) ?_ | refine pu rfl rfl ?_
              first | refine pu (v := .int .i64 _) rfl rfl ?_ | refine pu rfl rfl ?_
              refine SL_nil ?_
              refine nx ?_
              refine ⟨by repeat (first | exact Under.upds rfl (Under.hav _ _ _) | exact Under.hav _ _ _ | refine Under.upd rfl ?_ | refine Under.upds rfl ?_ | refine Under.hav2 rfl ?_), ?_, ?_⟩
              · exact ⟨k + 1, by rw [← wr_sum_snoc hb]; rfl, by omega, rfl, rfl⟩
              · simp only [L_vals, List.map, List.getD]; show (nz lb (sortK ks)).length - (k + 1) < (nz lb (sortK ks)).length - k; omega
          · skip
            refine SL_nil ?_
            refine nx ?_
            refine SWP_cf rfl ?_
            refine SWP_exit ?_
            refine ne ?_
            refine ne ?_
            refine be rfl ?_
            refine nx ?_
            refine SWP_seq ?_
            have e0 : k = (nz lb (sortK ks)).length := by omega
            have hz := nz_zero hi2 hks
            rw [← List.take_length (l := nz lb (sortK ks)), ← e0] at hz
            refine SWP_region ?_
            first | refine pu (v := .int .i64 _) rfl rfl ?_ | refine pu rfl rfl ?_
            refine pn rfl rfl (fun h => h hz) ?_
            refine SL_nil ?_
            refine nx ?_
            refine SWP_cf rfl ?_
            refine SWP_skip ?_
            refine nb ?_
            refine nx ?_
            refine SWP_region ?_
            first | refine pu (v := .int .i64 _) rfl rfl ?_ | refine pu rfl rfl ?_
            first | refine pw rfl rfl (w64 (by omega) (by omega)) ?_ | refine pu rfl rfl ?_
            first | refine pu (v := .int .i64 _) rfl rfl ?_ | refine pu rfl rfl ?_
            refine SL_nil ?_
            refine nx ?_
            refine ⟨by repeat (first | exact Under.upds rfl (Under.hav _ _ _) | exact Under.hav _ _ _ | refine Under.upd rfl ?_ | refine Under.upds rfl ?_ | refine Under.hav2 rfl ?_), ?_, ?_⟩
            · exact ⟨i + 1, _, _, rfl, by omega, hi2, rfl, hlm.trans hl8_1⟩
            · simp only [L_vals, List.map, List.getD]; show l.length - (i + 1) < l.length - i; omega
      · skip
        refine SL_nil ?_
        refine nx ?_
        refine SWP_cf rfl ?_
        refine SWP_exit ?_
        refine ne ?_
        refine ne ?_
        refine be rfl ?_
        refine nx ?_
        refine SWP_seq ?_
        refine SWP_region ?_
        refine SL_pcall rfl rfl cb10 (livesOk) rfl ?_
        first | refine pu (v := .bool _) rfl rfl ?_ | refine pu rfl rfl ?_
        refine SL_nil ?_
        refine nx ?_
        refine SWP_ret ?_
        refine fin [_] ⟨rfl, trivial⟩ ?_
        rfl

end Go.Proofs.Ytadnflbohflckaa

