/- mechanical.Of, lotteryref29.Of: the balls that a witness saw. -/
import Derived.Test.YtnpnleapnbdllaaData
import Derived.Test.YtnpnleapnbdllaaTys
import Derived.Test.YtnpnleapnbdllaaFns
namespace Go.Proofs.Ytnpnleapnbdllaa
open Eng

def ofB (l : List Ball) (x : Int) : List Ball := l.filter fun b => decide (b.wit = x)
theorem ofB_snoc (l : List Ball) (x : Int) (k : Nat) (b : Ball) (h : l[k]? = some b) : ofB (l.take (k + 1)) x = if b.wit = x then ofB (l.take k) x ++ [b] else ofB (l.take k) x := by
  have e : l.take (k + 1) = l.take k ++ [b] := by
    have hk := (List.getElem?_eq_some_iff.1 h)
    rw [List.take_succ_eq_append_getElem hk.1, hk.2]
  unfold ofB
  rw [e, List.filter_append]
  by_cases hb : b.wit = x <;> simp [hb]
theorem ofB_len (l : List Ball) (x : Int) (k : Nat) : ((ofB (l.take k) x).flatMap Ball.enc).length ≤ l.length * 3 := by
  rw [flatMap_len Ball.enc_len]
  have := List.length_filter_le (fun b : Ball => decide (b.wit = x)) (l.take k)
  have h2 : (l.take k).length ≤ l.length := by simp; omega
  have h3 : (ofB (l.take k) x).length ≤ l.length := by unfold ofB; omega
  omega

theorem mechOf {m : Mem} {v : Value} {l : List Ball} (x : Int) (h : RL m Ball.enc 3 v l) (hl : l.length ≤ 4000000) :
    CallsS Try.prog 17 [v, .int .i64 x].toArray [] m fun r σ' m' => σ' = [] ∧ RL m' Ball.enc 3 r (ofB l x) := by
  refine CallsS.ghost (R' := fun r σ' _ => OwnS 42 3 r ((ofB l x).flatMap Ball.enc) σ') ?_ ?h2
  case h2 =>
    intro r σ' m' hR g W hC
    obtain ⟨m2, h1, h2, h3⟩ := hR.freezeL (τ := []) (by omega) Ball.enc_len (by simpa using hC)
    exact ⟨[], m2, h2, h1, rfl, h3⟩
  obtain ⟨a, cap, rfl⟩ := h.len
  refine enter Try.func17 Try.ntmps17 rfl rfl ?_
  refine SWP_seq ?_
  refine SWP_region ?_
  refine pL rfl rfl ?_
  refine SL_nil ?_
  refine nx ?_
  refine SWP_seq ?_
  refine SWP_region ?_
  refine pL rfl rfl ?_
  refine SL_nil ?_
  refine nx ?_
  refine SWP_seq ?_
  refine SWP_seq ?_
  refine SWP_region ?_
  first | refine pL rfl rfl ?_ | refine pu rfl rfl ?_
  refine pu rfl rfl ?_
  refine pI rfl rfl ?_
  refine SL_nil ?_
  refine nx ?_
  refine SWP_block ?_
  refine SWP_loop [5, 7, 10, 11, 12, 13, 14, 15, 16, 17, 18, 19, 20, 21, 22] [5, 10]
      (fun vs σ' m' => ∃ k v5, k ≤ l.length ∧ vs = [v5, .int .i64 (k : Nat)] ∧ OwnS 42 3 v5 ((ofB (l.take k) x).flatMap Ball.enc) σ' ∧ m = m')
      (fun vs => l.length - nOf (vs.getD 1 undef)) rfl ?_ ?_
  · exact ⟨0, _, by omega, rfl, .nil, rfl⟩
  intro u0 vs0 σ0 m0 hJ0 _
  obtain ⟨k, v5, hk, rfl, hown, rfl⟩ := hJ0
  refine SWP_seq ?_
  refine SWP_region ?_
  refine pc rfl rfl (fun c11 => ?_) (fun c11 => ?_)
  · skip
    refine SL_nil ?_
    refine nx ?_
    refine SWP_seq ?_
    refine SWP_ct rfl ?_
    refine SWP_skip ?_
    refine nx ?_
    refine SWP_seq ?_
    refine SWP_block ?_
    refine SWP_seq ?_
    obtain ⟨b, hb⟩ : ∃ b, l[k]? = some b := ⟨_, List.getElem?_eq_getElem (by omega)⟩
    obtain ⟨ad, cap', e1, hat⟩ := RL.at_ Ball.enc_len h hb
    cases e1
    refine SWP_region ?_
    first | refine ia (es := 3) rfl rfl rfl rfl rfl rfl (by omega) rfl ?_ | refine iai (es := 3) rfl rfl rfl rfl rfl rfl (by omega) (by omega) rfl ?_
    refine ldA (v := .agg _) rfl (by assumption) rfl rfl ?_
    refine al rfl rfl (fun B7 => ?_)
    refine sw (v := .agg _) B7 0 rfl rfl rfl rfl rfl rfl rfl ?_
    refine SL_nil ?_
    refine nx ?_
    refine SWP_seq ?_
    refine SWP_region ?_
    refine pu rfl rfl ?_
    refine lw (v := .int .i64 _) B7 0 rfl rfl rfl rfl ?_
    first | refine pI rfl rfl ?_ | refine pu rfl rfl ?_
    refine pc rfl rfl (fun c17 => ?_) (fun c17 => ?_)
    · skip
      refine SL_nil ?_
      refine nx ?_
      refine SWP_ct rfl ?_
      refine SWP_region ?_
      first | refine pL rfl rfl ?_ | refine pu rfl rfl ?_
      refine lw (v := .agg _) B7 0 rfl rfl rfl rfl ?_
      refine bs rfl rfl rfl rfl rfl (fun B20 => ?_)
      refine ap (e := 42) (size := 3) (bytes := 24) rfl rfl rfl rfl rfl rfl rfl hown (List.perm_append_comm (l₁ := [_, _])) rfl (Rd.of_cells (.head _)) rfl rfl (by have := ofB_len l x k; omega) rfl rfl (fun v6 σ6 hown6 => ?_)
      refine SL_weak (List.sublist_append_left _ _) ?_
      first | refine pL rfl rfl ?_ | refine pu rfl rfl ?_
      refine SL_nil ?_
      refine nb ?_
      refine nx ?_
      refine SWP_region ?_
      first | refine pw rfl rfl (w64 (by omega) (by omega)) ?_ | refine pu rfl rfl ?_
      refine pI rfl rfl ?_
      refine SL_nil ?_
      refine nx ?_
      refine ⟨by repeat (first | exact Under.upds rfl (Under.hav _ _ _) | exact Under.hav _ _ _ | refine Under.upd rfl ?_), ?_, ?_⟩
      · refine ⟨k + 1, v6, by omega, rfl, ?_, rfl⟩
        rw [ofB_snoc l x k b hb, if_pos c17, List.flatMap_append]
        exact hown6
      · simp only [L_vals, List.map, List.getD]; show l.length - (k + 1) < l.length - k; omega
    refine SL_nil ?_
    refine nx ?_
    refine SWP_cf rfl ?_
    refine SWP_skip ?_
    refine nb ?_
    refine nx ?_
    refine SWP_weak (List.sublist_cons_self _ _) ?_
    refine SWP_region ?_
    first | refine pw rfl rfl (w64 (by omega) (by omega)) ?_ | refine pu rfl rfl ?_
    refine pI rfl rfl ?_
    refine SL_nil ?_
    refine nx ?_
    refine ⟨by repeat (first | exact Under.upds rfl (Under.hav _ _ _) | exact Under.hav _ _ _ | refine Under.upd rfl ?_), ?_, ?_⟩
    · refine ⟨k + 1, v5, by omega, rfl, ?_, rfl⟩
      rw [ofB_snoc l x k b hb, if_neg c17]
      exact hown
    · simp only [L_vals, List.map, List.getD]; show l.length - (k + 1) < l.length - k; omega
  refine SL_nil ?_
  refine nx ?_
  refine SWP_seq ?_
  refine SWP_cf rfl ?_
  refine SWP_exit ?_
  refine ne ?_
  refine ne ?_
  refine be rfl ?_
  refine nx ?_
  refine SWP_seq ?_
  refine SWP_region ?_
  first | refine pL rfl rfl ?_ | refine pu rfl rfl ?_
  first | refine pL rfl rfl ?_ | refine pu rfl rfl ?_
  refine SL_nil ?_
  refine nx ?_
  refine SWP_ret ?_
  refine fin [_] ⟨rfl, trivial⟩ ?_
  have e : k = l.length := by omega
  subst e
  rw [List.take_length] at hown
  exact hown

theorem refOf {m : Mem} {v : Value} {l : List Ball} (x : Int) (h : RL m Ball.enc 3 v l) (hl : l.length ≤ 4000000) :
    CallsS Try.prog 27 [v, .int .i64 x].toArray [] m fun r σ' m' => σ' = [] ∧ RL m' Ball.enc 3 r (ofB l x) := by
  refine CallsS.ghost (R' := fun r σ' _ => OwnS 42 3 r ((ofB l x).flatMap Ball.enc) σ') ?_ ?h2
  case h2 =>
    intro r σ' m' hR g W hC
    obtain ⟨m2, h1, h2, h3⟩ := hR.freezeL (τ := []) (by omega) Ball.enc_len (by simpa using hC)
    exact ⟨[], m2, h2, h1, rfl, h3⟩
  obtain ⟨a, cap, rfl⟩ := h.len
  refine enter Try.func27 Try.ntmps27 rfl rfl ?_
  refine SWP_seq ?_
  refine SWP_region ?_
  refine pL rfl rfl ?_
  refine SL_nil ?_
  refine nx ?_
  refine SWP_seq ?_
  refine SWP_region ?_
  refine pL rfl rfl ?_
  refine SL_nil ?_
  refine nx ?_
  refine SWP_seq ?_
  refine SWP_seq ?_
  refine SWP_region ?_
  refine pI rfl rfl ?_
  refine SL_nil ?_
  refine nx ?_
  refine SWP_block ?_
  refine SWP_loop [5, 6, 7, 8, 9, 10, 11, 12, 13, 14, 15, 16, 17, 18, 19, 20, 21, 22, 23, 24, 25, 26] [5, 6]
      (fun vs σ' m' => ∃ k v5, k ≤ l.length ∧ vs = [v5, .int .i64 (k : Nat)] ∧ OwnS 42 3 v5 ((ofB (l.take k) x).flatMap Ball.enc) σ' ∧ m = m')
      (fun vs => l.length - nOf (vs.getD 1 undef)) rfl ?_ ?_
  · exact ⟨0, _, by omega, rfl, .nil, rfl⟩
  intro u0 vs0 σ0 m0 hJ0 _
  obtain ⟨k, v5, hk, rfl, hown, rfl⟩ := hJ0
  refine SWP_seq ?_
  refine SWP_seq ?_
  refine SWP_region ?_
  first | refine pI rfl rfl ?_ | refine pu rfl rfl ?_
  first | refine pL rfl rfl ?_ | refine pu rfl rfl ?_
  refine pu rfl rfl ?_
  refine pc rfl rfl (fun c10 => ?_) (fun c10 => ?_)
  · skip
    refine SL_nil ?_
    refine nx ?_
    refine SWP_ct rfl ?_
    refine SWP_skip ?_
    refine nx ?_
    refine SWP_seq ?_
    refine SWP_block ?_
    refine SWP_seq ?_
    obtain ⟨b, hb⟩ : ∃ b, l[k]? = some b := ⟨_, List.getElem?_eq_getElem (by omega)⟩
    obtain ⟨ad, cap', e1, hat⟩ := RL.at_ Ball.enc_len h hb
    cases e1
    refine SWP_region ?_
    first | refine pL rfl rfl ?_ | refine pu rfl rfl ?_
    first | refine pI rfl rfl ?_ | refine pu rfl rfl ?_
    first | refine ia (es := 3) rfl rfl rfl rfl rfl rfl (by omega) rfl ?_ | refine iai (es := 3) rfl rfl rfl rfl rfl rfl (by omega) (by omega) rfl ?_
    refine pu rfl rfl ?_
    refine ldF (v := .int .i64 _) rfl rfl (by assumption) rfl rfl ?_
    first | refine pI rfl rfl ?_ | refine pu rfl rfl ?_
    refine pc rfl rfl (fun c19 => ?_) (fun c19 => ?_)
    · skip
      refine SL_nil ?_
      refine nx ?_
      refine SWP_ct rfl ?_
      refine SWP_region ?_
      first | refine pL rfl rfl ?_ | refine pu rfl rfl ?_
      first | refine pL rfl rfl ?_ | refine pu rfl rfl ?_
      first | refine pI rfl rfl ?_ | refine pu rfl rfl ?_
      first | refine ia (es := 3) rfl rfl rfl rfl rfl rfl (by omega) rfl ?_ | refine iai (es := 3) rfl rfl rfl rfl rfl rfl (by omega) (by omega) rfl ?_
      refine ldA (v := .agg _) rfl (by assumption) rfl rfl ?_
      refine bs rfl rfl rfl rfl rfl (fun B25 => ?_)
      refine ap (e := 42) (size := 3) (bytes := 24) rfl rfl rfl rfl rfl rfl rfl hown (List.perm_append_comm (l₁ := [_])) rfl (Rd.of_cells (.head _)) rfl rfl (by have := ofB_len l x k; omega) rfl rfl (fun v6 σ6 hown6 => ?_)
      refine SL_weak (List.sublist_append_left _ _) ?_
      first | refine pL rfl rfl ?_ | refine pu rfl rfl ?_
      refine SL_nil ?_
      refine nb ?_
      refine nx ?_
      refine SWP_region ?_
      first | refine pI rfl rfl ?_ | refine pu rfl rfl ?_
      first | refine pw rfl rfl (w64 (by omega) (by omega)) ?_ | refine pu rfl rfl ?_
      refine pI rfl rfl ?_
      refine SL_nil ?_
      refine nx ?_
      refine ⟨by repeat (first | exact Under.upds rfl (Under.hav _ _ _) | exact Under.hav _ _ _ | refine Under.upd rfl ?_), ?_, ?_⟩
      · refine ⟨k + 1, v6, by omega, rfl, ?_, rfl⟩
        rw [ofB_snoc l x k b hb, if_pos c19, List.flatMap_append]
        exact hown6
      · simp only [L_vals, List.map, List.getD]; show l.length - (k + 1) < l.length - k; omega
    refine SL_nil ?_
    refine nx ?_
    refine SWP_cf rfl ?_
    refine SWP_skip ?_
    refine nb ?_
    refine nx ?_
    refine SWP_region ?_
    first | refine pI rfl rfl ?_ | refine pu rfl rfl ?_
    first | refine pw rfl rfl (w64 (by omega) (by omega)) ?_ | refine pu rfl rfl ?_
    refine pI rfl rfl ?_
    refine SL_nil ?_
    refine nx ?_
    refine ⟨by repeat (first | exact Under.upds rfl (Under.hav _ _ _) | exact Under.hav _ _ _ | refine Under.upd rfl ?_), ?_, ?_⟩
    · refine ⟨k + 1, v5, by omega, rfl, ?_, rfl⟩
      rw [ofB_snoc l x k b hb, if_neg c19]
      exact hown
    · simp only [L_vals, List.map, List.getD]; show l.length - (k + 1) < l.length - k; omega
  refine SL_nil ?_
  refine nx ?_
  refine SWP_cf rfl ?_
  refine SWP_exit ?_
  refine ne ?_
  refine ne ?_
  refine be rfl ?_
  refine nx ?_
  refine SWP_seq ?_
  refine SWP_region ?_
  first | refine pL rfl rfl ?_ | refine pu rfl rfl ?_
  first | refine pL rfl rfl ?_ | refine pu rfl rfl ?_
  refine SL_nil ?_
  refine nx ?_
  refine SWP_ret ?_
  refine fin [_] ⟨rfl, trivial⟩ ?_
  have e : k = l.length := by omega
  subst e
  rw [List.take_length] at hown
  exact hown

end Go.Proofs.Ytnpnleapnbdllaa

