/- lotterylaw48.LedgerPosts. -/
import Derived.Test.YtadnflbohflckaaLedR
namespace Go.Proofs.Ytadnflbohflckaa
open Eng

theorem mput_look (k : ByteArray) (v : Int) : ∀ (l : Acc) (k' : ByteArray), mlook k' (mput k v l) = if k' = k then some v else mlook k' l
  | [], k' => by simp [mput, mlook]
  | p :: l, k' => by
    unfold mput
    by_cases h : k = p.1
    · rw [if_pos h]
      simp only [mlook]
      by_cases e : k' = k
      · rw [if_pos e, if_pos e]
      · rw [if_neg e, if_neg e, if_neg (fun e2 => e (e2.trans h.symm))]
    · rw [if_neg h]
      simp only [mlook]
      by_cases e : k' = p.1
      · rw [if_pos e, if_pos e, if_neg (fun e2 => h (e2.symm.trans e))]
      · rw [if_neg e, if_neg e]
        exact mput_look k v l k'
theorem mput_len (k : ByteArray) (v : Int) : ∀ (l : Acc), (mput k v l).length = l.length + (if (mlook k l).isSome = true then 0 else 1)
  | [] => rfl
  | p :: l => by
    unfold mput mlook
    by_cases h : k = p.1
    · rw [if_pos h, if_pos h]; rfl
    · rw [if_neg h, if_neg h, List.length_cons, mput_len k v l, List.length_cons]; omega

/-- The program's ledger and the document's say the same. -/
structure Rel (la L : Acc) (t : Int) : Prop where
  look : ∀ k, mlook k la = mlook k L
  len : la.length = L.length
  small : L.length ≤ 128
  t0 : 0 ≤ t
  t1 : t ≤ 1000000000000000000
theorem Rel.bal {la L : Acc} {t : Int} (h : Rel la L t) (k : ByteArray) : bal k la = bal k L := by unfold Go.Proofs.Ytadnflbohflckaa.bal; rw [h.look]
theorem mis_eq {la L : Acc} {k : ByteArray} (h : mlook k la = mlook k L) : mis k la = mis k L := by unfold mis; rw [h]
theorem mis_le (k : ByteArray) (L : Acc) : 0 ≤ mis k L ∧ mis k L ≤ 1 := by unfold mis; split <;> omega
theorem Rel.err {la L : Acc} {t : Int} (h : Rel la L t) (p : Posting) : postErr la t p = postErrR L t p := by
  unfold postErr postErrR
  have h1 := mis_le p.src L
  have h2 := mis_le p.dst L
  have hs := h.small
  have ht0 := h.t0
  have ht1 := h.t1
  split
  · rfl
  · split
    · rfl
    · rw [mis_eq (h.look p.src), mis_eq (h.look p.dst), h.len]
      by_cases ha : p.amt < 1 ∨ 1000000000000 < p.amt
      · rw [if_pos ha, if_pos]
        rcases ha with ha | ha
        · rw [decide_eq_false (by omega)]; rfl
        · rw [decide_eq_false (p := (0 ≤ p.amt ∧ p.amt ≤ 1000000000000)) (by omega), Bool.and_false]
      · rw [if_neg ha, if_neg (by rw [decide_eq_true (by omega), decide_eq_true (p := (0 ≤ p.amt ∧ p.amt ≤ 1000000000000)) (by omega)]; exact Bool.noConfusion)]
        have e1 : wadd (wadd (L.length : Int) (mis p.src L)) (mis p.dst L) = (L.length : Int) + mis p.src L + mis p.dst L := by
          unfold wadd; rw [w64 (x := (L.length : Int) + mis p.src L) (by omega) (by omega), w64 (by omega) (by omega)]
        have e2 : wsub 1000000000000000000 p.amt = 1000000000000000000 - p.amt := by unfold wsub; rw [w64 (by omega) (by omega)]
        have e3 : wadd t p.amt = t + p.amt := by unfold wadd; rw [w64 (by omega) (by omega)]
        rw [e1, e2, e3]
        split
        · rfl
        · by_cases hc : 1000000000000000000 - p.amt < t
          · rw [if_pos hc, if_pos (by omega)]
          · rw [if_neg hc, if_neg (by omega)]
theorem err_zero {L : Acc} {t : Int} {p : Posting} (h : postErrR L t p = 0) : p.src ≠ p.dst ∧ 1 ≤ p.amt ∧ p.amt ≤ 1000000000000 ∧ (L.length : Int) + mis p.src L + mis p.dst L ≤ 128 ∧ wadd t p.amt ≤ 1000000000000000000 := by
  unfold postErrR at h
  split at h
  · cases h
  · split at h
    · cases h
    · rename_i hne
      split at h
      · cases h
      · split at h
        · cases h
        · split at h
          · cases h
          · exact ⟨hne, by omega, by omega, by omega, by omega⟩
def stepAcc (la : Acc) (t : Int) (p : Posting) : Acc := if postErr la t p = 0 then postAcc la p else la
def stepT (la : Acc) (t : Int) (p : Posting) : Int := if postErr la t p = 0 then wadd t p.amt else t
theorem step_sig {B M : Nat} {la : Acc} {t : Int} {p : Posting} : (if postErr la t p = 0 then LedC B M (postAcc la p) (wadd t p.amt) else LedC B M la t) = LedC B M (stepAcc la t p) (stepT la t p) := by
  unfold stepAcc stepT
  by_cases h : postErr la t p = 0
  · rw [if_pos h, if_pos h, if_pos h]
  · rw [if_neg h, if_neg h, if_neg h]
theorem Rel.step {la L L' : Acc} {t t' : Int} {p : Posting} (h : Rel la L t) (hp : PostR (postErrR L t p) L t p L' t') : t' = stepT la t p ∧ Rel (stepAcc la t p) L' t' := by
  unfold stepAcc stepT
  rw [h.err p]
  by_cases he : postErrR L t p = 0
  · rw [if_pos he, if_pos he]
    obtain ⟨rfl, L1, h1, h2⟩ := hp.1 he
    obtain ⟨hne, ha1, ha2, hn, ht⟩ := err_zero he
    have h2d : mlook p.dst L1 = mlook p.dst L := by rw [h1.look, if_neg (fun e => hne e.symm)]
    have h3d : mlook p.dst (mput p.src (wsub (Go.Proofs.Ytadnflbohflckaa.bal p.src la) p.amt) la) = mlook p.dst L := by rw [mput_look, if_neg (fun e => hne e.symm), h.look]
    refine ⟨rfl, fun k => ?_, ?_, ?_, ?_, ht⟩
    · unfold postAcc
      dsimp only
      rw [mput_look, mput_look, h2.look, h1.look]
      have ht0 := h.t0
      have e0 : IntKind.wrap .i64 (0 - p.amt) = -p.amt := by rw [w64 (by omega) (by omega)]; omega
      have e1 : wsub (Go.Proofs.Ytadnflbohflckaa.bal p.src la) p.amt = wadd (Go.Proofs.Ytadnflbohflckaa.bal p.src L) (IntKind.wrap .i64 (0 - p.amt)) := by
        rw [e0, h.bal]; unfold wsub wadd; congr 1
      have e2 : Go.Proofs.Ytadnflbohflckaa.bal p.dst (mput p.src (wsub (Go.Proofs.Ytadnflbohflckaa.bal p.src la) p.amt) la) = Go.Proofs.Ytadnflbohflckaa.bal p.dst L1 := by
        unfold Go.Proofs.Ytadnflbohflckaa.bal
        rw [mput_look, h1.look, if_neg (fun e => hne e.symm), if_neg (fun e => hne e.symm), h.look]
      rw [e2, e1, h.look]
    · unfold postAcc
      dsimp only
      rw [mput_len, h3d, mput_len, h2.len, h2d, h1.len, h.look, h.len]
    · have hl1 := h1.len
      have hl2 := h2.len
      rw [h2d] at hl2
      unfold mis at hn
      split at hl1 <;> split at hl2 <;> simp_all <;> omega
    · unfold wadd
      have := h.t0
      have := h.t1
      rw [w64 (by omega) (by omega)]; omega
  · rw [if_neg he, if_neg he]
    obtain ⟨rfl, rfl⟩ := hp.2 he
    exact ⟨rfl, h⟩
def bankS : ByteArray := ⟨#[98, 97, 110, 107]⟩
def salesS : ByteArray := ⟨#[115, 97, 108, 101, 115]⟩
theorem lives0 : postErr [] 0 ⟨bankS, salesS, 70⟩ = 0 := by decide +kernel
theorem lives1 : bal bankS (stepAcc [] 0 ⟨bankS, salesS, 70⟩) = -70 := by decide +kernel
theorem lives2 : bal salesS (stepAcc [] 0 ⟨bankS, salesS, 70⟩) = 70 := by decide +kernel

theorem livesOk {m : Mem} : PureCall Try.prog 10 [] m (.bool true) := by
  refine CallsS.pure ?_
  refine enter Try.func10 Try.ntmps10 rfl rfl ?_
  refine SWP_seq ?_
  refine SWP_region ?_
  first | refine pu (v := .bool _) rfl rfl ?_ | refine pu rfl rfl ?_
  refine SL_nil ?_
  refine nx ?_
  refine SWP_seq ?_
  refine SWP_region ?_
  refine SL_call rfl rfl cb11 (ledNew) rfl (fun v1_0 σ1_0 m1_0 hl1_0 hR1_0 => ?_)
  obtain ⟨B, M, rfl, rfl, rfl⟩ := hR1_0
  first | refine pu (v := .pointer _) rfl rfl ?_ | refine pu rfl rfl ?_
  refine SL_nil ?_
  refine nx ?_
  refine SWP_seq ?_
  refine SWP_region ?_
  first | refine pu (v := .pointer _) rfl rfl ?_ | refine pu rfl rfl ?_
  first | refine pu (v := .agg _) rfl rfl ?_ | refine pu rfl rfl ?_
  refine SL_call rfl rfl cb13 (ledPost ⟨bankS, salesS, 70⟩) rfl (fun v2_2 σ2_2 m2_2 hl2_2 hR2_2 => ?_)
  rw [step_sig, lives0] at hR2_2
  obtain ⟨rfl, rfl, rfl⟩ := hR2_2
  first | refine pu (v := .int .i64 _) rfl rfl ?_ | refine pu rfl rfl ?_
  refine SL_nil ?_
  refine nx ?_
  refine SWP_seq ?_
  refine SWP_region ?_
  first | refine pu (v := .int .i64 _) rfl rfl ?_ | refine pu rfl rfl ?_
  refine pt rfl rfl (rfl) ?_
  first | refine pu (v := .bool _) rfl rfl ?_ | refine pu rfl rfl ?_
  refine SL_yes rfl ?_
  first | refine pu (v := .pointer _) rfl rfl ?_ | refine pu rfl rfl ?_
  refine SL_yes rfl ?_
  refine SL_call rfl rfl cb15 (ledBalance bankS) rfl (fun v3_4 σ3_4 m3_4 hl3_4 hR3_4 => ?_)
  obtain ⟨rfl, rfl, rfl⟩ := hR3_4
  rw [lives1]
  refine SL_yes rfl ?_
  refine pt rfl rfl (rfl) ?_
  first | refine pu (v := .bool _) rfl rfl ?_ | refine pu rfl rfl ?_
  first | refine pu (v := .bool _) rfl rfl ?_ | refine pu rfl rfl ?_
  refine SL_yes rfl ?_
  first | refine pu (v := .pointer _) rfl rfl ?_ | refine pu rfl rfl ?_
  refine SL_yes rfl ?_
  refine SL_call rfl rfl cb15 (ledBalance salesS) rfl (fun v3_9 σ3_9 m3_9 hl3_9 hR3_9 => ?_)
  obtain ⟨rfl, rfl, rfl⟩ := hR3_9
  rw [lives2]
  refine SL_yes rfl ?_
  refine pt rfl rfl (rfl) ?_
  first | refine pu (v := .bool _) rfl rfl ?_ | refine pu rfl rfl ?_
  first | refine pu (v := .bool _) rfl rfl ?_ | refine pu rfl rfl ?_
  refine SL_nil ?_
  refine nx ?_
  refine SWP_ret ?_
  refine fin [_] ⟨rfl, trivial⟩ ?_
  rfl

theorem lawLedgerPosts {m : Mem} {v : Value} {l : List Posting} (h : RL m Posting.enc 3 v l) (account : ByteArray) :
    CallsS Try.prog 3 [v, .string account].toArray [] m fun r _ _ => r = .bool true := by
  obtain ⟨a, cap, rfl⟩ := h.len
  refine enter Try.func3 Try.ntmps3 rfl rfl ?_
  refine SWP_seq ?_
  refine SWP_region ?_
  first | refine pu (v := .bool _) rfl rfl ?_ | refine pu rfl rfl ?_
  refine SL_nil ?_
  refine nx ?_
  refine SWP_seq ?_
  refine SWP_seq ?_
  refine SWP_region ?_
  first | refine pu (v := .slice _ _ _) rfl rfl ?_ | refine pu rfl rfl ?_
  refine pu rfl rfl ?_
  refine pc rfl rfl (fun c12 => ?_) (fun c12 => ?_)
  · skip
    refine SL_nil ?_
    refine nx ?_
    refine SWP_ct rfl ?_
    refine SWP_seq ?_
    refine SWP_region ?_
    refine SL_pcall rfl rfl cb10 (livesOk) rfl ?_
    first | refine pu (v := .bool _) rfl rfl ?_ | refine pu rfl rfl ?_
    refine SL_nil ?_
    refine nx ?_
    refine SWP_ret ?_
    refine nr ?_
    refine fin [_] ⟨rfl, trivial⟩ ?_
    rfl
  · skip
    refine SL_nil ?_
    refine nx ?_
    refine SWP_cf rfl ?_
    refine SWP_skip ?_
    refine nx ?_
    refine SWP_seq ?_
    refine SWP_region ?_
    refine SL_call rfl rfl cb11 (ledNew) rfl (fun v3_0 σ3_0 m3_0 hl3_0 hR3_0 => ?_)
    obtain ⟨B, M, rfl, rfl, hm3_0⟩ := hR3_0
    have hn3_0 := hm3_0.symm
    subst hn3_0
    first | refine pu (v := .pointer _) rfl rfl ?_ | refine pu rfl rfl ?_
    refine SL_nil ?_
    refine nx ?_
    refine SWP_seq ?_
    refine SWP_region ?_
    refine SL_call rfl rfl cb12 (CallsS.frame0 refNew) rfl (fun v4_0 σ4_0 m4_0 hl4_0 hR4_0 => ?_)
    obtain ⟨σ₁, rfl, B2, rfl, rfl, hm4_0⟩ := hR4_0
    have hn4_0 := hm4_0.symm
    subst hn4_0
    first | refine pu (v := .pointer _) rfl rfl ?_ | refine pu rfl rfl ?_
    refine SL_nil ?_
    refine nx ?_
    refine SWP_seq ?_
    refine SWP_seq ?_
    refine SWP_region ?_
    first | refine pu (v := .int .i64 _) rfl rfl ?_ | refine pu rfl rfl ?_
    refine SL_nil ?_
    refine nx ?_
    refine SWP_block ?_
    refine SWP_loop [4, 7, 8, 9, 16, 17, 18, 19, 20, 21, 22, 23, 24, 25, 26, 27, 28, 29, 30, 31, 32, 33, 34, 35, 36, 37, 38, 39, 40, 41, 42, 43, 44, 45, 46, 47, 48, 49, 50, 51, 52, 53, 54, 55, 56, 57, 58, 59, 60, 61, 62, 63, 64, 65, 66, 67, 68, 69, 70] [7, 8, 9]
        (fun vs σ' m' => ∃ i v8 v9 la L t sv σe, vs = [.int .i64 (i : Nat), v8, v9] ∧ i ≤ l.length ∧ Rel la L t ∧ OwnS 37 2 sv (L.flatMap balE) σe ∧ σ' = RefC B2 sv t σe ++ LedC B M la t ∧ m = m')
        (fun vs => l.length - nOf (vs.getD 0 undef)) rfl ?_ ?_
    · exact ⟨0, _, _, [], [], 0, _, _, rfl, by omega, ⟨fun _ => rfl, rfl, by simp, by omega, by omega⟩, .nil, rfl, rfl⟩
    · intro u0 vs0 σ0 m0 hJ0 _
      obtain ⟨i, v8, v9, la, L, t, sv, σe, rfl, hi, hrel, hown, rfl, rfl⟩ := hJ0
      refine SWP_seq ?_
      refine SWP_seq ?_
      refine SWP_region ?_
      first | refine pu (v := .int .i64 _) rfl rfl ?_ | refine pu rfl rfl ?_
      first | refine pu (v := .slice _ _ _) rfl rfl ?_ | refine pu rfl rfl ?_
      refine pu rfl rfl ?_
      refine pc rfl rfl (fun c19 => ?_) (fun c19 => ?_)
      · skip
        refine SL_nil ?_
        refine nx ?_
        refine SWP_ct rfl ?_
        refine SWP_skip ?_
        refine nx ?_
        refine SWP_seq ?_
        refine SWP_block ?_
        refine SWP_seq ?_
        obtain ⟨p, hp⟩ : ∃ p, l[i]? = some p := ⟨_, List.getElem?_eq_getElem (by omega)⟩
        obtain ⟨ad, cap', e1, hat⟩ := RL.at_ Posting.enc_len h hp
        cases e1
        refine SWP_region ?_
        first | refine pu (v := .pointer _) rfl rfl ?_ | refine pu rfl rfl ?_
        first | refine pu (v := .slice _ _ _) rfl rfl ?_ | refine pu rfl rfl ?_
        first | refine pu (v := .int .i64 _) rfl rfl ?_ | refine pu rfl rfl ?_
        first | refine ia (es := 3) rfl rfl rfl rfl rfl rfl (by omega) rfl ?_ | refine iai (es := 3) rfl rfl rfl rfl rfl rfl (by omega) (by omega) rfl ?_
        refine ldA (v := .agg _) rfl (by assumption) rfl rfl ?_
        refine SL_call rfl rfl cb13 (CallsS.subF (RefC B2 sv t σe) (ledPost p) List.perm_append_comm) rfl (fun v8_5 σ8_5 m8_5 hl8_5 hR8_5 => ?_)
        obtain ⟨σ₁, rfl, rfl, rfl, rfl⟩ := hR8_5
        rw [step_sig, hrel.err p]
        first | refine pu (v := .int .i64 _) rfl rfl ?_ | refine pu rfl rfl ?_
        refine SL_nil ?_
        refine nx ?_
        refine SWP_seq ?_
        refine SWP_region ?_
        first | refine pu (v := .pointer _) rfl rfl ?_ | refine pu rfl rfl ?_
        first | refine pu (v := .slice _ _ _) rfl rfl ?_ | refine pu rfl rfl ?_
        first | refine pu (v := .int .i64 _) rfl rfl ?_ | refine pu rfl rfl ?_
        first | refine ia (es := 3) rfl rfl rfl rfl rfl rfl (by omega) rfl ?_ | refine iai (es := 3) rfl rfl rfl rfl rfl rfl (by omega) (by omega) rfl ?_
        refine ldA (v := .agg _) rfl (by assumption) rfl rfl ?_
        refine SL_call rfl rfl cb14 (CallsS.subF (LedC B M (stepAcc la t p) (stepT la t p)) (refPost hown hrel.small p) List.perm_append_comm) rfl (fun v9_5 σ9_5 m9_5 hl9_5 hR9_5 => ?_)
        obtain ⟨σ₁, rfl, sv2, σe2, L2, t2, rfl, rfl, rfl, hown2, hpost⟩ := hR9_5
        obtain ⟨ht2, hrel2⟩ := hrel.step hpost
        rw [← ht2]
        first | refine pu (v := .int .i64 _) rfl rfl ?_ | refine pu rfl rfl ?_
        refine SL_nil ?_
        refine nx ?_
        refine SWP_seq ?_
        refine SWP_draws (by kernel_rfl) (by kernel_rfl) ?_
        first | refine pu (v := .int .i64 _) rfl rfl ?_ | refine pu rfl rfl ?_
        first | refine pu (v := .int .i64 _) rfl rfl ?_ | refine pu rfl rfl ?_
        refine pn rfl rfl (fun h => h rfl) ?_
        first | refine pu (v := .bool _) rfl rfl ?_ | refine pu rfl rfl ?_
        refine SL_yes rfl ?_
        first | refine pu (v := .pointer _) rfl rfl ?_ | refine pu rfl rfl ?_
        refine SL_yes rfl ?_
        first | refine pu (v := .slice _ _ _) rfl rfl ?_ | refine pu rfl rfl ?_
        refine SL_yes rfl ?_
        first | refine pu (v := .int .i64 _) rfl rfl ?_ | refine pu rfl rfl ?_
        refine SL_yes rfl ?_
        first | refine ia (es := 3) rfl rfl rfl rfl rfl rfl (by omega) rfl ?_ | refine iai (es := 3) rfl rfl rfl rfl rfl rfl (by omega) (by omega) rfl ?_
        refine SL_yes rfl ?_
        refine pu rfl rfl ?_
        refine SL_yes rfl ?_
        refine ldF (v := .string _) rfl rfl (by assumption) rfl rfl ?_
        refine SL_yes rfl ?_
        refine SL_pcallS rfl rfl cb15 (CallsS.pureIn (ledBalance _) (Sub.left _ (Sub.refl _))) rfl ?_
        refine SL_yes rfl ?_
        first | refine pu (v := .pointer _) rfl rfl ?_ | refine pu rfl rfl ?_
        refine SL_yes rfl ?_
        first | refine pu (v := .slice _ _ _) rfl rfl ?_ | refine pu rfl rfl ?_
        refine SL_yes rfl ?_
        first | refine pu (v := .int .i64 _) rfl rfl ?_ | refine pu rfl rfl ?_
        refine SL_yes rfl ?_
        first | refine ia (es := 3) rfl rfl rfl rfl rfl rfl (by omega) rfl ?_ | refine iai (es := 3) rfl rfl rfl rfl rfl rfl (by omega) (by omega) rfl ?_
        refine SL_yes rfl ?_
        refine pu rfl rfl ?_
        refine SL_yes rfl ?_
        refine ldF (v := .string _) rfl rfl (by assumption) rfl rfl ?_
        refine SL_yes rfl ?_
        refine SL_pcallS rfl rfl cb16 (CallsS.pureIn (refBalance hown2 _) (Sub.right _ (Sub.refl _))) rfl ?_
        refine SL_yes rfl ?_
        refine pn rfl rfl (fun h => h (hrel2.bal _)) ?_
        first | refine pu (v := .bool _) rfl rfl ?_ | refine pu rfl rfl ?_
        first | refine pu (v := .bool _) rfl rfl ?_ | refine pu rfl rfl ?_
        refine SL_yes rfl ?_
        first | refine pu (v := .pointer _) rfl rfl ?_ | refine pu rfl rfl ?_
        refine SL_yes rfl ?_
        first | refine pu (v := .slice _ _ _) rfl rfl ?_ | refine pu rfl rfl ?_
        refine SL_yes rfl ?_
        first | refine pu (v := .int .i64 _) rfl rfl ?_ | refine pu rfl rfl ?_
        refine SL_yes rfl ?_
        first | refine ia (es := 3) rfl rfl rfl rfl rfl rfl (by omega) rfl ?_ | refine iai (es := 3) rfl rfl rfl rfl rfl rfl (by omega) (by omega) rfl ?_
        refine SL_yes rfl ?_
        refine pu rfl rfl ?_
        refine SL_yes rfl ?_
        refine ldF (v := .string _) rfl rfl (by assumption) rfl rfl ?_
        refine SL_yes rfl ?_
        refine SL_pcallS rfl rfl cb15 (CallsS.pureIn (ledBalance _) (Sub.left _ (Sub.refl _))) rfl ?_
        refine SL_yes rfl ?_
        first | refine pu (v := .pointer _) rfl rfl ?_ | refine pu rfl rfl ?_
        refine SL_yes rfl ?_
        first | refine pu (v := .slice _ _ _) rfl rfl ?_ | refine pu rfl rfl ?_
        refine SL_yes rfl ?_
        first | refine pu (v := .int .i64 _) rfl rfl ?_ | refine pu rfl rfl ?_
        refine SL_yes rfl ?_
        first | refine ia (es := 3) rfl rfl rfl rfl rfl rfl (by omega) rfl ?_ | refine iai (es := 3) rfl rfl rfl rfl rfl rfl (by omega) (by omega) rfl ?_
        refine SL_yes rfl ?_
        refine pu rfl rfl ?_
        refine SL_yes rfl ?_
        refine ldF (v := .string _) rfl rfl (by assumption) rfl rfl ?_
        refine SL_yes rfl ?_
        refine SL_pcallS rfl rfl cb16 (CallsS.pureIn (refBalance hown2 _) (Sub.right _ (Sub.refl _))) rfl ?_
        refine SL_yes rfl ?_
        refine pn rfl rfl (fun h => h (hrel2.bal _)) ?_
        first | refine pu (v := .bool _) rfl rfl ?_ | refine pu rfl rfl ?_
        refine SL_nil ?_
        refine nx ?_
        refine SWP_cf rfl ?_
        refine SWP_skip ?_
        refine nb ?_
        refine nx ?_
        refine SWP_region ?_
        first | refine pu (v := .int .i64 _) rfl rfl ?_ | refine pu rfl rfl ?_
        first | refine pw rfl rfl (w64 (by omega) (by omega)) ?_ | refine pu rfl rfl ?_
        first | refine pu (v := .int .i64 _) rfl rfl ?_ | refine pu rfl rfl ?_
        refine SL_nil ?_
        refine nx ?_
        refine ⟨by repeat (first | exact Under.upds rfl (Under.hav _ _ _) | exact Under.hav _ _ _ | refine Under.upd rfl ?_), ?_, ?_⟩
        · exact ⟨i + 1, _, _, _, _, _, _, _, rfl, by omega, hrel2, hown2, rfl, rfl⟩
        · simp only [L_vals, List.map, List.getD]; show l.length - (i + 1) < l.length - i; omega
      · skip
        refine SL_nil ?_
        refine nx ?_
        refine SWP_cf rfl ?_
        refine SWP_exit ?_
        refine ne ?_
        refine ne ?_
        refine be rfl ?_
        refine nx ?_
        refine SWP_seq ?_
        refine SWP_region ?_
        first | refine pu (v := .pointer _) rfl rfl ?_ | refine pu rfl rfl ?_
        first | refine pu (v := .string _) rfl rfl ?_ | refine pu rfl rfl ?_
        refine SL_pcallS rfl rfl cb15 (CallsS.pureIn (ledBalance _) (Sub.left _ (Sub.refl _))) rfl ?_
        first | refine pu (v := .pointer _) rfl rfl ?_ | refine pu rfl rfl ?_
        first | refine pu (v := .string _) rfl rfl ?_ | refine pu rfl rfl ?_
        refine SL_pcallS rfl rfl cb16 (CallsS.pureIn (refBalance hown _) (Sub.right _ (Sub.refl _))) rfl ?_
        refine pt rfl rfl (hrel.bal _) ?_
        first | refine pu (v := .bool _) rfl rfl ?_ | refine pu rfl rfl ?_
        refine SL_yes rfl ?_
        refine SL_pcall rfl rfl cb10 (livesOk) rfl ?_
        first | refine pu (v := .bool _) rfl rfl ?_ | refine pu rfl rfl ?_
        first | refine pu (v := .bool _) rfl rfl ?_ | refine pu rfl rfl ?_
        refine SL_nil ?_
        refine nx ?_
        refine SWP_ret ?_
        refine fin [_] ⟨rfl, trivial⟩ ?_
        rfl

end Go.Proofs.Ytadnflbohflckaa

