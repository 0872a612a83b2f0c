/- ledger.Replay and lotterylaw48.LedgerReplays. -/
import Derived.Test.YtadnflbohflckaaLedB
namespace Go.Proofs.Ytadnflbohflckaa
open Eng

/-- What a list of postings does: its error, and the accounts. -/
def replay (la : Acc) (t : Int) : List Posting → Int × Acc
  | [] => (0, la)
  | p :: l => if postErr la t p = 0 then replay (stepAcc la t p) (stepT la t p) l else (postErr la t p, la)
theorem replay_at {la : Acc} {t : Int} {l : List Posting} {i : Nat} {p : Posting} (h : l[i]? = some p) : replay la t (l.drop i) = if postErr la t p = 0 then replay (stepAcc la t p) (stepT la t p) (l.drop (i + 1)) else (postErr la t p, la) := by
  have hk := List.getElem?_eq_some_iff.1 h
  rw [List.drop_eq_getElem_cons hk.1, hk.2]; rfl
theorem replay_end {la : Acc} {t : Int} {l : List Posting} {i : Nat} (h : l.length ≤ i) : replay la t (l.drop i) = (0, la) := by
  rw [List.drop_eq_nil_of_le h]; rfl
/-- At most two new accounts for each posting; the keys stay different. -/
structure Few (la : Acc) (n : Nat) : Prop where
  len : la.length ≤ 2 * n
  keys : (la.map (·.1)).Nodup
theorem Few.step {la : Acc} {n : Nat} (h : Few la n) (t : Int) (p : Posting) : Few (stepAcc la t p) (n + 1) := by
  unfold stepAcc
  split
  · refine ⟨?_, mput_keys _ _ (mput_keys _ _ h.keys)⟩
    unfold postAcc
    dsimp only
    rw [mput_len, mput_len]
    have := h.len
    split <;> split <;> omega
  · exact ⟨by have := h.len; omega, h.keys⟩

theorem ledReplay {m : Mem} {v : Value} {l : List Posting} (h : RL m Posting.enc 3 v l) (hl : l.length ≤ 200) :
    CallsS Try.prog 22 [v].toArray [] m fun r σ' m' => σ' = [] ∧ ∃ w e la, r = .tuple #[w, .int .i64 e] ∧ replay [] 0 l = (e, la) ∧ Few la l.length ∧ if e = 0 then ∃ ks, ks.Perm (la.map (·.1)) ∧ RL m' balE 2 w (nz la (sortK ks)) else w = .slice none 0 0 := by
  refine CallsS.ghost (R' := fun r σ' m' => ∃ w e la, r = .tuple #[w, .int .i64 e] ∧ replay [] 0 l = (e, la) ∧ Few la l.length ∧ if e = 0 then ∃ ks, ks.Perm (la.map (·.1)) ∧ RL m' balE 2 w (nz la (sortK ks)) else w = .slice none 0 0) ?_ ?h2
  case h2 =>
    rintro r σ' m' hr g W hC
    exact ⟨_, m', hC.sublist (List.nil_sublist _), Le.refl _, rfl, hr⟩
  obtain ⟨a, cap, rfl⟩ := h.len
  refine enter Try.func22 Try.ntmps22 rfl rfl ?_
  refine SWP_seq ?_
  refine SWP_region ?_
  first | refine pu (v := .slice _ _ _) rfl rfl ?_ | refine pu rfl rfl ?_
  first | refine pu (v := .int .i64 _) rfl rfl ?_ | refine pu rfl rfl ?_
  refine SL_nil ?_
  refine nx ?_
  refine SWP_seq ?_
  refine SWP_region ?_
  refine SL_call rfl rfl cb11 (ledNew) rfl (fun v1_0 σ1_0 m1_0 hl1_0 hR1_0 => ?_)
  obtain ⟨B, M, rfl, rfl, hm1_0⟩ := hR1_0
  have hn1_0 := hm1_0.symm
  subst hn1_0
  first | refine pu (v := .pointer _) rfl rfl ?_ | refine pu rfl rfl ?_
  refine SL_nil ?_
  refine nx ?_
  refine SWP_seq ?_
  refine SWP_seq ?_
  refine SWP_region ?_
  first | refine pu (v := .slice _ _ _) rfl rfl ?_ | refine pu rfl rfl ?_
  refine pu rfl rfl ?_
  first | refine pu (v := .int .i64 _) rfl rfl ?_ | refine pu rfl rfl ?_
  refine SL_nil ?_
  refine nx ?_
  refine SWP_block ?_
  refine SWP_loop [2, 3, 6, 7, 11, 12, 13, 14, 15, 16, 17, 18, 19, 20, 21] [2, 3, 11]
      (fun vs σ' m' => ∃ (i : Nat) (la : Acc) (t : Int), vs = [.slice none 0 0, .int .i64 0, .int .i64 (i : Nat)] ∧ i ≤ l.length ∧ Few la i ∧ replay la t (l.drop i) = replay [] 0 l ∧ σ' = LedC B M la t ∧ m = m')
      (fun vs => l.length - nOf (vs.getD 2 undef)) rfl ?_ ?_
  · exact ⟨0, [], 0, rfl, by omega, ⟨by simp, List.nodup_nil⟩, rfl, rfl, rfl⟩
  · intro u0 vs0 σ0 m0 hJ0 _
    obtain ⟨i, la, t, rfl, hi, hf, hrep, rfl, rfl⟩ := hJ0
    refine SWP_seq ?_
    refine SWP_region ?_
    refine pc rfl rfl (fun c12 => ?_) (fun c12 => ?_)
    · skip
      refine SL_nil ?_
      refine nx ?_
      refine SWP_seq ?_
      refine SWP_ct rfl ?_
      refine SWP_skip ?_
      refine nx ?_
      refine SWP_seq ?_
      refine SWP_block ?_
      refine SWP_seq ?_
      obtain ⟨p, hp⟩ : ∃ p, l[i]? = some p := ⟨_, List.getElem?_eq_getElem (by omega)⟩
      obtain ⟨ad, cap', e1, hat⟩ := RL.at_ Posting.enc_len h hp
      cases e1
      refine SWP_region ?_
      first | refine ia (es := 3) rfl rfl rfl rfl rfl rfl (by omega) rfl ?_ | refine iai (es := 3) rfl rfl rfl rfl rfl rfl (by omega) (by omega) rfl ?_
      refine ldA (v := .agg _) rfl (by assumption) rfl rfl ?_
      refine al rfl rfl (fun B6 => ?_)
      first | refine st (v := .agg _) (off := 0) (σ₁ := []) rfl rfl rfl rfl rfl rfl rfl rfl ?_ | refine st (v := .agg _) (off := 0) (σ₁ := [_]) rfl rfl rfl rfl rfl rfl rfl rfl ?_ | refine st (v := .agg _) (off := 0) (σ₁ := [_, _]) rfl rfl rfl rfl rfl rfl rfl rfl ?_ | refine st (v := .agg _) (off := 0) (σ₁ := [_, _, _]) rfl rfl rfl rfl rfl rfl rfl rfl ?_ | refine st (v := .agg _) (off := 0) (σ₁ := [_, _, _, _]) rfl rfl rfl rfl rfl rfl rfl rfl ?_ | refine st (v := .agg _) (off := 0) (σ₁ := [_, _, _, _, _]) rfl rfl rfl rfl rfl rfl rfl rfl ?_ | refine st (v := .agg _) (off := 0) (σ₁ := [_, _, _, _, _, _]) rfl rfl rfl rfl rfl rfl rfl rfl ?_
      refine SL_nil ?_
      refine nx ?_
      refine SWP_seq ?_
      refine SWP_region ?_
      first | refine pu (v := .pointer _) rfl rfl ?_ | refine pu rfl rfl ?_
      first | refine ld (v := .agg _) (off := 0) (Rd.of_cells (.head _)) rfl rfl rfl rfl ?_ | refine ld (v := .agg _) (off := 0) (Rd.of_cells (.tail _ (.head _))) rfl rfl rfl rfl ?_ | refine ld (v := .agg _) (off := 0) (Rd.of_cells (.tail _ (.tail _ (.head _)))) rfl rfl rfl rfl ?_ | refine ld (v := .agg _) (off := 0) (Rd.of_cells (.tail _ (.tail _ (.tail _ (.head _))))) rfl rfl rfl rfl ?_ | refine ld (v := .agg _) (off := 0) (Rd.of_cells (.tail _ (.tail _ (.tail _ (.tail _ (.head _)))))) rfl rfl rfl rfl ?_ | refine ld (v := .agg _) (off := 0) (Rd.of_cells (.tail _ (.tail _ (.tail _ (.tail _ (.tail _ (.head _))))))) rfl rfl rfl rfl ?_ | refine ld (v := .agg _) (off := 0) (Rd.of_cells (.tail _ (.tail _ (.tail _ (.tail _ (.tail _ (.tail _ (.head _)))))))) rfl rfl rfl rfl ?_
      refine SL_call rfl rfl cb13 (CallsS.subF [_] (ledPost p) (List.perm_append_comm (l₁ := [_]))) rfl (fun v5_2 σ5_2 m5_2 hl5_2 hR5_2 => ?_)
      obtain ⟨σ₁, rfl, rfl, rfl, rfl⟩ := hR5_2
      rw [step_sig]
      have hrep2 := hrep
      rw [replay_at hp] at hrep2
      first | refine pu (v := .int .i64 _) rfl rfl ?_ | refine pu rfl rfl ?_
      refine SL_nil ?_
      refine nx ?_
      refine SWP_seq ?_
      refine SWP_region ?_
      first | refine pu (v := .int .i64 _) rfl rfl ?_ | refine pu rfl rfl ?_
      refine pc rfl rfl (fun c19 => ?_) (fun c19 => ?_)
      · skip
        refine SL_nil ?_
        refine nx ?_
        refine SWP_ct rfl ?_
        refine SWP_seq ?_
        refine SWP_region ?_
        first | refine pu (v := .int .i64 _) rfl rfl ?_ | refine pu rfl rfl ?_
        first | refine pu (v := .slice _ _ _) rfl rfl ?_ | refine pu rfl rfl ?_
        first | refine pu (v := .int .i64 _) rfl rfl ?_ | refine pu rfl rfl ?_
        refine SL_nil ?_
        refine nx ?_
        refine SWP_ret ?_
        refine br ?_
        refine nr ?_
        refine nr ?_
        refine br ?_
        refine nr ?_
        refine fin [_, _] ⟨rfl, rfl, trivial⟩ ?_
        rw [if_neg c19] at hrep2
        refine ⟨_, _, _, rfl, hrep2.symm, ⟨by have := hf.len; omega, hf.keys⟩, ?_⟩
        rw [if_neg c19]; rfl
      · skip
        refine SL_nil ?_
        refine nx ?_
        refine SWP_cf rfl ?_
        refine SWP_skip ?_
        refine nb ?_
        refine nx ?_
        rw [if_pos (by omega)] at hrep2
        refine SWP_weak (List.sublist_append_left _ _) ?_
        refine SWP_region ?_
        first | refine pw rfl rfl (w64 (by omega) (by omega)) ?_ | refine pu rfl rfl ?_
        first | refine pu (v := .int .i64 _) rfl rfl ?_ | refine pu rfl rfl ?_
        refine SL_nil ?_
        refine nx ?_
        refine ⟨by repeat (first | exact Under.upds rfl (Under.hav _ _ _) | exact Under.hav _ _ _ | refine Under.upd rfl ?_), ?_, ?_⟩
        · exact ⟨i + 1, stepAcc la t p, stepT la t p, rfl, by omega, hf.step t p, hrep2, rfl, rfl⟩
        · simp only [L_vals, List.map, List.getD]; show l.length - (i + 1) < l.length - i; omega
    · skip
      refine SL_nil ?_
      refine nx ?_
      refine SWP_seq ?_
      refine SWP_cf rfl ?_
      refine SWP_exit ?_
      refine ne ?_
      refine ne ?_
      refine be rfl ?_
      refine nx ?_
      refine SWP_seq ?_
      have e0 : i = l.length := by omega
      subst e0
      rw [replay_end (Nat.le_refl _)] at hrep
      refine SWP_region ?_
      first | refine pu (v := .pointer _) rfl rfl ?_ | refine pu rfl rfl ?_
      refine SL_call rfl rfl cb17 (ledAll (la := la) (by have := hf.len; omega)) rfl (fun v9_1 σ9_1 m9_1 hl9_1 hR9_1 => ?_)
      obtain ⟨rfl, ks, hks, hall⟩ := hR9_1
      first | refine pu (v := .slice _ _ _) rfl rfl ?_ | refine pu rfl rfl ?_
      first | refine pu (v := .int .i64 _) rfl rfl ?_ | refine pu rfl rfl ?_
      refine SL_nil ?_
      refine nx ?_
      refine SWP_ret ?_
      refine fin [_, _] ⟨rfl, rfl, trivial⟩ ?_
      exact ⟨_, _, _, rfl, hrep.symm, hf, by rw [if_pos rfl]; exact ⟨ks, hks, hall⟩⟩

theorem refReplay {m : Mem} {v : Value} {l : List Posting} (h : RL m Posting.enc 3 v l) (hl : l.length ≤ 200) :
    CallsS Try.prog 23 [v].toArray [] m fun r σ' m' => σ' = [] ∧ ∃ w e la L t, r = .tuple #[w, .int .i64 e] ∧ replay [] 0 l = (e, la) ∧ Rel2 la L t ∧ if e = 0 then RL m' balE 2 w (nzR L) else w = .slice none 0 0 := by
  refine CallsS.ghost (R' := fun r σ' m' => ∃ w e la L t, r = .tuple #[w, .int .i64 e] ∧ replay [] 0 l = (e, la) ∧ Rel2 la L t ∧ if e = 0 then RL m' balE 2 w (nzR L) else w = .slice none 0 0) ?_ ?h2
  case h2 =>
    rintro r σ' m' hr g W hC
    exact ⟨_, m', hC.sublist (List.nil_sublist _), Le.refl _, rfl, hr⟩
  obtain ⟨a, cap, rfl⟩ := h.len
  refine enter Try.func23 Try.ntmps23 rfl rfl ?_
  refine SWP_seq ?_
  refine SWP_region ?_
  first | refine pu (v := .slice _ _ _) rfl rfl ?_ | refine pu rfl rfl ?_
  first | refine pu (v := .int .i64 _) rfl rfl ?_ | refine pu rfl rfl ?_
  refine SL_nil ?_
  refine nx ?_
  refine SWP_seq ?_
  refine SWP_region ?_
  refine SL_call rfl rfl cb12 (refNew) rfl (fun v1_0 σ1_0 m1_0 hl1_0 hR1_0 => ?_)
  obtain ⟨B2, rfl, rfl, hm1_0⟩ := hR1_0
  have hn1_0 := hm1_0.symm
  subst hn1_0
  first | refine pu (v := .pointer _) rfl rfl ?_ | refine pu rfl rfl ?_
  refine SL_nil ?_
  refine nx ?_
  refine SWP_seq ?_
  refine SWP_seq ?_
  refine SWP_region ?_
  first | refine pu (v := .int .i64 _) rfl rfl ?_ | refine pu rfl rfl ?_
  refine SL_nil ?_
  refine nx ?_
  refine SWP_block ?_
  refine SWP_loop [2, 3, 5, 6, 8, 9, 10, 11, 12, 13, 14, 15, 16, 17, 18, 19, 20, 21, 22] [2, 3, 5]
      (fun vs σ' m' => ∃ (i : Nat) (la L : Acc) (t : Int) (sv : Value) (σe : Sig), vs = [.slice none 0 0, .int .i64 0, .int .i64 (i : Nat)] ∧ i ≤ l.length ∧ Rel2 la L t ∧ OwnS 37 2 sv (L.flatMap balE) σe ∧ replay la t (l.drop i) = replay [] 0 l ∧ σ' = RefC B2 sv t σe ∧ m = m')
      (fun vs => l.length - nOf (vs.getD 2 undef)) rfl ?_ ?_
  · exact ⟨0, [], [], 0, _, _, rfl, by omega, Rel2.new, .nil, rfl, rfl, rfl⟩
  · intro u0 vs0 σ0 m0 hJ0 _
    obtain ⟨i, la, L, t, sv, σe, rfl, hi, hrel, hown, hrep, rfl, rfl⟩ := hJ0
    refine SWP_seq ?_
    refine SWP_seq ?_
    refine SWP_region ?_
    first | refine pu (v := .int .i64 _) rfl rfl ?_ | refine pu rfl rfl ?_
    first | refine pu (v := .slice _ _ _) rfl rfl ?_ | refine pu rfl rfl ?_
    refine pu rfl rfl ?_
    refine pc rfl rfl (fun c11 => ?_) (fun c11 => ?_)
    · skip
      refine SL_nil ?_
      refine nx ?_
      refine SWP_ct rfl ?_
      refine SWP_skip ?_
      refine nx ?_
      refine SWP_seq ?_
      refine SWP_block ?_
      refine SWP_seq ?_
      obtain ⟨p, hp⟩ : ∃ p, l[i]? = some p := ⟨_, List.getElem?_eq_getElem (by omega)⟩
      obtain ⟨ad, cap', e1, hat⟩ := RL.at_ Posting.enc_len h hp
      cases e1
      refine SWP_region ?_
      first | refine pu (v := .pointer _) rfl rfl ?_ | refine pu rfl rfl ?_
      first | refine pu (v := .slice _ _ _) rfl rfl ?_ | refine pu rfl rfl ?_
      first | refine pu (v := .int .i64 _) rfl rfl ?_ | refine pu rfl rfl ?_
      first | refine ia (es := 3) rfl rfl rfl rfl rfl rfl (by omega) rfl ?_ | refine iai (es := 3) rfl rfl rfl rfl rfl rfl (by omega) (by omega) rfl ?_
      refine ldA (v := .agg _) rfl (by assumption) rfl rfl ?_
      refine SL_call rfl rfl cb14 (refPost hown hrel.small p) rfl (fun v5_5 σ5_5 m5_5 hl5_5 hR5_5 => ?_)
      obtain ⟨sv2, σe2, L2, t2, rfl, rfl, rfl, hown2, hpost⟩ := hR5_5
      obtain ⟨ht2, hrel2⟩ := hrel.step hpost
      have hrep2 := hrep
      rw [replay_at hp, hrel.err p] at hrep2
      first | refine pu (v := .int .i64 _) rfl rfl ?_ | refine pu rfl rfl ?_
      refine SL_nil ?_
      refine nx ?_
      refine SWP_seq ?_
      refine SWP_region ?_
      first | refine pu (v := .int .i64 _) rfl rfl ?_ | refine pu rfl rfl ?_
      refine pc rfl rfl (fun c21 => ?_) (fun c21 => ?_)
      · skip
        refine SL_nil ?_
        refine nx ?_
        refine SWP_ct rfl ?_
        refine SWP_seq ?_
        refine SWP_region ?_
        first | refine pu (v := .int .i64 _) rfl rfl ?_ | refine pu rfl rfl ?_
        first | refine pu (v := .slice _ _ _) rfl rfl ?_ | refine pu rfl rfl ?_
        first | refine pu (v := .int .i64 _) rfl rfl ?_ | refine pu rfl rfl ?_
        refine SL_nil ?_
        refine nx ?_
        refine SWP_ret ?_
        refine br ?_
        refine nr ?_
        refine nr ?_
        refine br ?_
        refine nr ?_
        refine fin [_, _] ⟨rfl, rfl, trivial⟩ ?_
        rw [if_neg c21] at hrep2
        refine ⟨_, _, _, _, _, rfl, hrep2.symm, hrel, ?_⟩
        rw [if_neg c21]; rfl
      · skip
        refine SL_nil ?_
        refine nx ?_
        refine SWP_cf rfl ?_
        refine SWP_skip ?_
        refine nb ?_
        refine nx ?_
        rw [if_pos (by omega)] at hrep2
        refine SWP_region ?_
        first | refine pu (v := .int .i64 _) rfl rfl ?_ | refine pu rfl rfl ?_
        first | refine pw rfl rfl (w64 (by omega) (by omega)) ?_ | refine pu rfl rfl ?_
        first | refine pu (v := .int .i64 _) rfl rfl ?_ | refine pu rfl rfl ?_
        refine SL_nil ?_
        refine nx ?_
        refine ⟨by repeat (first | exact Under.upds rfl (Under.hav _ _ _) | exact Under.hav _ _ _ | refine Under.upd rfl ?_), ?_, ?_⟩
        · exact ⟨i + 1, stepAcc la t p, _, _, _, _, rfl, by omega, hrel2, hown2, by rw [ht2]; exact hrep2, rfl, rfl⟩
        · simp only [L_vals, List.map, List.getD]; show l.length - (i + 1) < l.length - i; omega
    · skip
      refine SL_nil ?_
      refine nx ?_
      refine SWP_cf rfl ?_
      refine SWP_exit ?_
      refine ne ?_
      refine ne ?_
      refine be rfl ?_
      refine nx ?_
      refine SWP_seq ?_
      have e0 : i = l.length := by omega
      subst e0
      rw [replay_end (Nat.le_refl _)] at hrep
      refine SWP_region ?_
      first | refine pu (v := .pointer _) rfl rfl ?_ | refine pu rfl rfl ?_
      refine SL_call rfl rfl cb19 (refAll hown (by have := hrel.small; omega)) rfl (fun v8_1 σ8_1 m8_1 hl8_1 hR8_1 => ?_)
      obtain ⟨rfl, hall⟩ := hR8_1
      first | refine pu (v := .slice _ _ _) rfl rfl ?_ | refine pu rfl rfl ?_
      first | refine pu (v := .int .i64 _) rfl rfl ?_ | refine pu rfl rfl ?_
      refine SL_nil ?_
      refine nx ?_
      refine SWP_ret ?_
      refine fin [_, _] ⟨rfl, rfl, trivial⟩ ?_
      exact ⟨_, _, _, _, _, rfl, hrep.symm, hrel, by rw [if_pos rfl]; exact hall⟩

def pAB : Posting := ⟨⟨#[97]⟩, ⟨#[98]⟩, 1⟩
theorem replayAB : replay [] 0 [pAB] = (0, [(⟨#[97]⟩, -1), (⟨#[98]⟩, 1)]) := by decide +kernel
theorem perm2 {α : Type} {a b : α} {ks : List α} (h : ks.Perm [a, b]) : ks = [a, b] ∨ ks = [b, a] := by
  have hl := h.length_eq
  match ks, hl with
  | [x, y], _ =>
    have hx : x ∈ [a, b] := h.mem_iff.1 (by simp)
    rcases List.mem_cons.1 hx with e | hx
    · subst e
      have h2 := (List.perm_cons x).1 h
      rw [List.perm_singleton] at h2
      left; rw [h2]
    · have e : x = b := by simpa using hx
      subst e
      have h2 : [x, y].Perm [x, a] := h.trans (List.Perm.swap _ _ _)
      have h3 := (List.perm_cons x).1 h2
      rw [List.perm_singleton] at h3
      right; rw [h3]
theorem nzAB {ks : List ByteArray} (h : ks.Perm [⟨#[97]⟩, ⟨#[98]⟩]) : nz [(⟨#[97]⟩, -1), (⟨#[98]⟩, 1)] (sortK ks) = [(⟨#[97]⟩, -1), (⟨#[98]⟩, 1)] := by
  have h1 : sortK ks = [⟨#[97]⟩, ⟨#[98]⟩] := by
    have h2 := sortK_strict (h.nodup_iff.2 (by decide +kernel))
    refine srt_eq _ _ h2 (by simp only [List.pairwise_cons]; refine ⟨?_, ?_⟩; · intro b hb; simp at hb; subst hb; decide +kernel
                             · simp) fun x => ?_
    rw [(sortK_perm ks).mem_iff, h.mem_iff]
  rw [h1]; decide +kernel

theorem lawLedgerReplays {m : Mem} {v : Value} {l : List Posting} (h : RL m Posting.enc 3 v l) :
    CallsS Try.prog 8 [v].toArray [] m fun r _ _ => r = .bool true := by
  obtain ⟨a, cap, rfl⟩ := h.len
  refine enter Try.func8 Try.ntmps8 rfl rfl ?_
  refine SWP_seq ?_
  refine SWP_region ?_
  first | refine pu (v := .bool _) rfl rfl ?_ | refine pu rfl rfl ?_
  refine SL_nil ?_
  refine nx ?_
  refine SWP_seq ?_
  refine SWP_seq ?_
  refine SWP_region ?_
  first | refine pu (v := .slice _ _ _) rfl rfl ?_ | refine pu rfl rfl ?_
  refine pu rfl rfl ?_
  refine pc rfl rfl (fun c11 => ?_) (fun c11 => ?_)
  · skip
    refine SL_nil ?_
    refine nx ?_
    refine SWP_ct rfl ?_
    refine SWP_seq ?_
    refine SWP_region ?_
    refine SL_pcall rfl rfl cb10 (livesOk) rfl ?_
    first | refine pu (v := .bool _) rfl rfl ?_ | refine pu rfl rfl ?_
    refine SL_nil ?_
    refine nx ?_
    refine SWP_ret ?_
    refine nr ?_
    refine fin [_] ⟨rfl, trivial⟩ ?_
    rfl
  · skip
    refine SL_nil ?_
    refine nx ?_
    refine SWP_cf rfl ?_
    refine SWP_skip ?_
    refine nx ?_
    refine SWP_seq ?_
    refine SWP_region ?_
    first | refine pu (v := .slice _ _ _) rfl rfl ?_ | refine pu rfl rfl ?_
    refine SL_call rfl rfl cb22 (ledReplay h (by omega)) rfl (fun v3_1 σ3_1 m3_1 hl3_1 hR3_1 => ?_)
    obtain ⟨rfl, w, e, la, rfl, hrep, hfew, hw⟩ := hR3_1
    refine pu rfl rfl ?_
    first | refine pu (v := .slice _ _ _) rfl rfl ?_ | refine pu rfl rfl ?_
    first | refine pu (v := .int .i64 _) rfl rfl ?_ | refine pu rfl rfl ?_
    first | refine pu (v := .slice _ _ _) rfl rfl ?_ | refine pu rfl rfl ?_
    first | refine pu (v := .int .i64 _) rfl rfl ?_ | refine pu rfl rfl ?_
    refine SL_nil ?_
    refine nx ?_
    refine SWP_seq ?_
    refine SWP_region ?_
    first | refine pu (v := .slice _ _ _) rfl rfl ?_ | refine pu rfl rfl ?_
    refine SL_call rfl rfl cb23 (refReplay (h.mono (by assumption)) (by omega)) rfl (fun v4_1 σ4_1 m4_1 hl4_1 hR4_1 => ?_)
    obtain ⟨rfl, w', e', la', L, t, rfl, hrep', hrel, hw'⟩ := hR4_1
    rw [hrep, Prod.mk.injEq] at hrep'
    obtain ⟨rfl, rfl⟩ := hrep'
    refine pu rfl rfl ?_
    first | refine pu (v := .slice _ _ _) rfl rfl ?_ | refine pu rfl rfl ?_
    first | refine pu (v := .int .i64 _) rfl rfl ?_ | refine pu rfl rfl ?_
    first | refine pu (v := .slice _ _ _) rfl rfl ?_ | refine pu rfl rfl ?_
    first | refine pu (v := .int .i64 _) rfl rfl ?_ | refine pu rfl rfl ?_
    refine SL_nil ?_
    refine nx ?_
    refine SWP_seq ?_
    refine SWP_region ?_
    first | refine pu (v := .agg _) rfl rfl ?_ | refine pu rfl rfl ?_
    refine bs rfl rfl rfl rfl rfl (fun B25 => ?_)
    refine SL_freeze (fun m5 hl5 hat5 => ?_)
    have hAB := RL.of_at Posting.enc_len [pAB] rfl rfl hat5
    refine SL_call rfl rfl cb22 (ledReplay (l := [pAB]) hAB (by decide)) rfl (fun v5_2 σ5_2 m5_2 hl5_2 hR5_2 => ?_)
    obtain ⟨rfl, w2, e2, la2, rfl, hrep2, hfew2, hw2⟩ := hR5_2
    rw [replayAB, Prod.mk.injEq] at hrep2
    obtain ⟨rfl, rfl⟩ := hrep2
    rw [if_pos rfl] at hw2
    obtain ⟨ks2, hks2, hw2⟩ := hw2
    rw [nzAB hks2] at hw2
    refine pu rfl rfl ?_
    first | refine pu (v := .slice _ _ _) rfl rfl ?_ | refine pu rfl rfl ?_
    first | refine pu (v := .int .i64 _) rfl rfl ?_ | refine pu rfl rfl ?_
    first | refine pu (v := .slice _ _ _) rfl rfl ?_ | refine pu rfl rfl ?_
    first | refine pu (v := .int .i64 _) rfl rfl ?_ | refine pu rfl rfl ?_
    refine SL_nil ?_
    refine nx ?_
    refine SWP_seq ?_
    have hC : (if e = 0 then nzR L else []).length ≤ 1000 := by
      have h1 := nzR_len L
      have h2 := hrel.small
      split
      · omega
      · simp
    have hA : ∀ m', Le m3_1 m' → RL m' balE 2 w (if e = 0 then nzR L else []) := fun m' hm' => by
      by_cases he : e = 0
      · rw [if_pos he] at hw ⊢
        obtain ⟨ks, hks, hall⟩ := hw
        rw [hrel.all hks] at hall
        exact hall.mono hm'
      · rw [if_neg he] at hw ⊢
        subst hw
        exact RL.nil _ _
    have hB : ∀ m', Le m4_1 m' → RL m' balE 2 w' (if e = 0 then nzR L else []) := fun m' hm' => by
      by_cases he : e = 0
      · rw [if_pos he] at hw' ⊢
        exact hw'.mono hm'
      · rw [if_neg he] at hw' ⊢
        subst hw'
        exact RL.nil _ _
    refine SWP_region ?_
    first | refine pu (v := .int .i64 _) rfl rfl ?_ | refine pu rfl rfl ?_
    first | refine pu (v := .int .i64 _) rfl rfl ?_ | refine pu rfl rfl ?_
    refine pt rfl rfl (rfl) ?_
    first | refine pu (v := .bool _) rfl rfl ?_ | refine pu rfl rfl ?_
    refine SL_yes rfl ?_
    first | refine pu (v := .slice _ _ _) rfl rfl ?_ | refine pu rfl rfl ?_
    refine SL_yes rfl ?_
    first | refine pu (v := .slice _ _ _) rfl rfl ?_ | refine pu rfl rfl ?_
    refine SL_yes rfl ?_
    refine SL_pcall rfl rfl cb18 (sameOk (hA _ ((hl4_1.trans hl5).trans hl5_2)) (hB _ (hl5.trans hl5_2)) hC) rfl ?_
    first | refine pu (v := .bool _) rfl rfl ?_ | refine pu rfl rfl ?_
    first | refine pu (v := .bool _) rfl rfl ?_ | refine pu rfl rfl ?_
    refine SL_yes rfl ?_
    first | refine pu (v := .int .i64 _) rfl rfl ?_ | refine pu rfl rfl ?_
    refine SL_yes rfl ?_
    refine pt rfl rfl (rfl) ?_
    first | refine pu (v := .bool _) rfl rfl ?_ | refine pu rfl rfl ?_
    first | refine pu (v := .bool _) rfl rfl ?_ | refine pu rfl rfl ?_
    refine SL_yes rfl ?_
    first | refine pu (v := .slice _ _ _) rfl rfl ?_ | refine pu rfl rfl ?_
    refine SL_yes rfl ?_
    first | refine pu (v := .agg _) rfl rfl ?_ | refine pu rfl rfl ?_
    refine SL_yes rfl ?_
    first | refine pu (v := .agg _) rfl rfl ?_ | refine pu rfl rfl ?_
    refine SL_yes rfl ?_
    refine bs rfl rfl rfl rfl rfl (fun B45 => ?_)
    refine SL_freeze (fun m6 hl6 hat6 => ?_)
    have hcd := RL.of_at balE_len [((⟨#[97]⟩ : ByteArray), (-1 : Int)), (⟨#[98]⟩, 1)] rfl rfl hat6
    refine SL_yes rfl ?_
    refine SL_pcall rfl rfl cb18 (sameOk (L := [(⟨#[97]⟩, -1), (⟨#[98]⟩, 1)]) (hw2.mono (by assumption)) hcd (by decide)) rfl ?_
    first | refine pu (v := .bool _) rfl rfl ?_ | refine pu rfl rfl ?_
    first | refine pu (v := .bool _) rfl rfl ?_ | refine pu rfl rfl ?_
    refine SL_nil ?_
    refine nx ?_
    refine SWP_ret ?_
    refine fin [_] ⟨rfl, trivial⟩ ?_
    rfl

end Go.Proofs.Ytadnflbohflckaa

