/- lotterylaw48.LedgerLists. -/
import Derived.Test.YtadnflbohflckaaLedQ
namespace Go.Proofs.Ytadnflbohflckaa
open Eng

structure Rel2 (la L : Acc) (t : Int) : Prop extends Rel la L t where
  srt : Srt L
  keys : (la.map (·.1)).Nodup
theorem Rel2.new : Rel2 [] [] 0 := ⟨⟨fun _ => rfl, rfl, by simp, by omega, by omega⟩, List.Pairwise.nil, List.nodup_nil⟩
theorem Rel2.step {la L L' : Acc} {t t' : Int} {p : Posting} (h : Rel2 la L t) (hp : PostR (postErrR L t p) L t p L' t') : t' = stepT la t p ∧ Rel2 (stepAcc la t p) L' t' := by
  obtain ⟨h1, h2⟩ := h.toRel.step hp
  refine ⟨h1, h2, ?_, ?_⟩
  · by_cases he : postErrR L t p = 0
    · obtain ⟨_, L1, g1, g2⟩ := hp.1 he
      exact g2.srt (g1.srt h.srt)
    · obtain ⟨_, rfl⟩ := hp.2 he
      exact h.srt
  · unfold stepAcc
    split
    · exact mput_keys _ _ (mput_keys _ _ h.keys)
    · exact h.keys
theorem Rel2.all {la L : Acc} {t : Int} {ks : List ByteArray} (h : Rel2 la L t) (hk : ks.Perm (la.map (·.1))) : nz la (sortK ks) = nzR L := all_same h.look h.srt h.keys hk

theorem lawLedgerLists {m : Mem} {v : Value} {l : List Posting} (h : RL m Posting.enc 3 v l) :
    CallsS Try.prog 6 [v].toArray [] m fun r _ _ => r = .bool true := by
  obtain ⟨a, cap, rfl⟩ := h.len
  refine enter Try.func6 Try.ntmps6 rfl rfl ?_
  refine SWP_seq ?_
  refine SWP_region ?_
  first | refine pu (v := .bool _) rfl rfl ?_ | refine pu rfl rfl ?_
  refine SL_nil ?_
  refine nx ?_
  refine SWP_seq ?_
  refine SWP_seq ?_
  refine SWP_region ?_
  first | refine pu (v := .slice _ _ _) rfl rfl ?_ | refine pu rfl rfl ?_
  refine pu rfl rfl ?_
  refine pc rfl rfl (fun c10 => ?_) (fun c10 => ?_)
  · skip
    refine SL_nil ?_
    refine nx ?_
    refine SWP_ct rfl ?_
    refine SWP_seq ?_
    refine SWP_region ?_
    refine SL_pcall rfl rfl cb10 (livesOk) rfl ?_
    first | refine pu (v := .bool _) rfl rfl ?_ | refine pu rfl rfl ?_
    refine SL_nil ?_
    refine nx ?_
    refine SWP_ret ?_
    refine nr ?_
    refine fin [_] ⟨rfl, trivial⟩ ?_
    rfl
  · skip
    refine SL_nil ?_
    refine nx ?_
    refine SWP_cf rfl ?_
    refine SWP_skip ?_
    refine nx ?_
    refine SWP_seq ?_
    refine SWP_region ?_
    refine SL_call rfl rfl cb11 (ledNew) rfl (fun v3_0 σ3_0 m3_0 hl3_0 hR3_0 => ?_)
    obtain ⟨B, M, rfl, rfl, hm3_0⟩ := hR3_0
    have hn3_0 := hm3_0.symm
    subst hn3_0
    first | refine pu (v := .pointer _) rfl rfl ?_ | refine pu rfl rfl ?_
    refine SL_nil ?_
    refine nx ?_
    refine SWP_seq ?_
    refine SWP_region ?_
    refine SL_call rfl rfl cb12 (CallsS.frame0 refNew) rfl (fun v4_0 σ4_0 m4_0 hl4_0 hR4_0 => ?_)
    obtain ⟨σ₁, rfl, B2, rfl, rfl, hm4_0⟩ := hR4_0
    have hn4_0 := hm4_0.symm
    subst hn4_0
    first | refine pu (v := .pointer _) rfl rfl ?_ | refine pu rfl rfl ?_
    refine SL_nil ?_
    refine nx ?_
    refine SWP_seq ?_
    refine SWP_seq ?_
    refine SWP_region ?_
    first | refine pu (v := .int .i64 _) rfl rfl ?_ | refine pu rfl rfl ?_
    refine SL_nil ?_
    refine nx ?_
    refine SWP_block ?_
    refine SWP_loop [2, 5, 6, 7, 14, 15, 16, 17, 18, 19, 20, 21, 22, 23, 24, 25, 26, 27, 28, 29, 30, 31, 32, 33, 34] [5, 6, 7]
        (fun vs σ' m' => ∃ i v8 v9 la L t sv σe, vs = [.int .i64 (i : Nat), v8, v9] ∧ i ≤ l.length ∧ Rel2 la L t ∧ OwnS 37 2 sv (L.flatMap balE) σe ∧ σ' = RefC B2 sv t σe ++ LedC B M la t ∧ m = m')
        (fun vs => l.length - nOf (vs.getD 0 undef)) rfl ?_ ?_
    · exact ⟨0, _, _, [], [], 0, _, _, rfl, by omega, Rel2.new, .nil, rfl, rfl⟩
    · intro u0 vs0 σ0 m0 hJ0 _
      obtain ⟨i, v8, v9, la, L, t, sv, σe, rfl, hi, hrel, hown, rfl, rfl⟩ := hJ0
      refine SWP_seq ?_
      refine SWP_seq ?_
      refine SWP_region ?_
      first | refine pu (v := .int .i64 _) rfl rfl ?_ | refine pu rfl rfl ?_
      first | refine pu (v := .slice _ _ _) rfl rfl ?_ | refine pu rfl rfl ?_
      refine pu rfl rfl ?_
      refine pc rfl rfl (fun c17 => ?_) (fun c17 => ?_)
      · skip
        refine SL_nil ?_
        refine nx ?_
        refine SWP_ct rfl ?_
        refine SWP_skip ?_
        refine nx ?_
        refine SWP_seq ?_
        refine SWP_block ?_
        refine SWP_seq ?_
        obtain ⟨p, hp⟩ : ∃ p, l[i]? = some p := ⟨_, List.getElem?_eq_getElem (by omega)⟩
        obtain ⟨ad, cap', e1, hat⟩ := RL.at_ Posting.enc_len h hp
        cases e1
        refine SWP_region ?_
        first | refine pu (v := .pointer _) rfl rfl ?_ | refine pu rfl rfl ?_
        first | refine pu (v := .slice _ _ _) rfl rfl ?_ | refine pu rfl rfl ?_
        first | refine pu (v := .int .i64 _) rfl rfl ?_ | refine pu rfl rfl ?_
        first | refine ia (es := 3) rfl rfl rfl rfl rfl rfl (by omega) rfl ?_ | refine iai (es := 3) rfl rfl rfl rfl rfl rfl (by omega) (by omega) rfl ?_
        refine ldA (v := .agg _) rfl (by assumption) rfl rfl ?_
        refine SL_call rfl rfl cb13 (CallsS.subF (RefC B2 sv t σe) (ledPost p) List.perm_append_comm) rfl (fun v8_5 σ8_5 m8_5 hl8_5 hR8_5 => ?_)
        obtain ⟨σ₁, rfl, rfl, rfl, rfl⟩ := hR8_5
        rw [step_sig, hrel.err p]
        first | refine pu (v := .int .i64 _) rfl rfl ?_ | refine pu rfl rfl ?_
        refine SL_nil ?_
        refine nx ?_
        refine SWP_seq ?_
        refine SWP_region ?_
        first | refine pu (v := .pointer _) rfl rfl ?_ | refine pu rfl rfl ?_
        first | refine pu (v := .slice _ _ _) rfl rfl ?_ | refine pu rfl rfl ?_
        first | refine pu (v := .int .i64 _) rfl rfl ?_ | refine pu rfl rfl ?_
        first | refine ia (es := 3) rfl rfl rfl rfl rfl rfl (by omega) rfl ?_ | refine iai (es := 3) rfl rfl rfl rfl rfl rfl (by omega) (by omega) rfl ?_
        refine ldA (v := .agg _) rfl (by assumption) rfl rfl ?_
        refine SL_call rfl rfl cb14 (CallsS.subF (LedC B M (stepAcc la t p) (stepT la t p)) (refPost hown hrel.small p) List.perm_append_comm) rfl (fun v9_5 σ9_5 m9_5 hl9_5 hR9_5 => ?_)
        obtain ⟨σ₁, rfl, sv2, σe2, L2, t2, rfl, rfl, rfl, hown2, hpost⟩ := hR9_5
        obtain ⟨ht2, hrel2⟩ := hrel.step hpost
        rw [← ht2]
        first | refine pu (v := .int .i64 _) rfl rfl ?_ | refine pu rfl rfl ?_
        refine SL_nil ?_
        refine nx ?_
        refine SWP_seq ?_
        refine SWP_region ?_
        first | refine pu (v := .int .i64 _) rfl rfl ?_ | refine pu rfl rfl ?_
        first | refine pu (v := .int .i64 _) rfl rfl ?_ | refine pu rfl rfl ?_
        refine pn rfl rfl (fun h => h rfl) ?_
        refine SL_nil ?_
        refine nx ?_
        refine SWP_cf rfl ?_
        refine SWP_skip ?_
        refine nb ?_
        refine nx ?_
        refine SWP_region ?_
        first | refine pu (v := .int .i64 _) rfl rfl ?_ | refine pu rfl rfl ?_
        first | refine pw rfl rfl (w64 (by omega) (by omega)) ?_ | refine pu rfl rfl ?_
        first | refine pu (v := .int .i64 _) rfl rfl ?_ | refine pu rfl rfl ?_
        refine SL_nil ?_
        refine nx ?_
        refine ⟨by repeat (first | exact Under.upds rfl (Under.hav _ _ _) | exact Under.hav _ _ _ | refine Under.upd rfl ?_), ?_, ?_⟩
        · exact ⟨i + 1, _, _, _, _, _, _, _, rfl, by omega, hrel2, hown2, rfl, rfl⟩
        · simp only [L_vals, List.map, List.getD]; show l.length - (i + 1) < l.length - i; omega
      · skip
        refine SL_nil ?_
        refine nx ?_
        refine SWP_cf rfl ?_
        refine SWP_exit ?_
        refine ne ?_
        refine ne ?_
        refine be rfl ?_
        refine nx ?_
        refine SWP_seq ?_
        have hs1 := hrel.small
        have hs2 := hrel.len
        refine SWP_region ?_
        first | refine pu (v := .pointer _) rfl rfl ?_ | refine pu rfl rfl ?_
        refine SL_call rfl rfl cb17 (CallsS.subF (RefC B2 sv t σe) (ledAll (la := la) (by omega)) List.perm_append_comm) rfl (fun v12_1 σ12_1 m12_1 hl12_1 hR12_1 => ?_)
        obtain ⟨σ₁, rfl, rfl, ks, hks, hall1⟩ := hR12_1
        rw [hrel.all hks] at hall1
        first | refine pu (v := .pointer _) rfl rfl ?_ | refine pu rfl rfl ?_
        refine SL_call rfl rfl cb19 (CallsS.subF (LedC B M la t) (refAll hown (by omega)) List.perm_append_comm) rfl (fun v12_3 σ12_3 m12_3 hl12_3 hR12_3 => ?_)
        obtain ⟨σ₁, rfl, rfl, hall2⟩ := hR12_3
        have hnl := nzR_len L
        refine SL_pcall rfl rfl cb18 (sameOk (hall1.mono hl12_3) hall2 (by omega)) rfl ?_
        first | refine pu (v := .bool _) rfl rfl ?_ | refine pu rfl rfl ?_
        refine SL_yes rfl ?_
        first | refine pu (v := .pointer _) rfl rfl ?_ | refine pu rfl rfl ?_
        refine SL_yes rfl ?_
        refine SL_pcallS rfl rfl cb20 (CallsS.pureIn ledTurnover (Sub.left _ (Sub.refl _))) rfl ?_
        refine SL_yes rfl ?_
        first | refine pu (v := .pointer _) rfl rfl ?_ | refine pu rfl rfl ?_
        refine SL_yes rfl ?_
        refine SL_pcallS rfl rfl cb21 (CallsS.pureIn refTurnover (Sub.right _ (Sub.refl _))) rfl ?_
        refine SL_yes rfl ?_
        refine pt rfl rfl (rfl) ?_
        first | refine pu (v := .bool _) rfl rfl ?_ | refine pu rfl rfl ?_
        first | refine pu (v := .bool _) rfl rfl ?_ | refine pu rfl rfl ?_
        refine SL_yes rfl ?_
        refine SL_pcall rfl rfl cb10 (livesOk) rfl ?_
        first | refine pu (v := .bool _) rfl rfl ?_ | refine pu rfl rfl ?_
        first | refine pu (v := .bool _) rfl rfl ?_ | refine pu rfl rfl ?_
        refine SL_nil ?_
        refine nx ?_
        refine SWP_ret ?_
        refine fin [_] ⟨rfl, trivial⟩ ?_
        rfl

end Go.Proofs.Ytadnflbohflckaa

