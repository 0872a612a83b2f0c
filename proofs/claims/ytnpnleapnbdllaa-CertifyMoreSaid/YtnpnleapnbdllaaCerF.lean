/- Plain laws of certified results: smaller and larger quorums. -/
import Derived.Test.YtnpnleapnbdllaaCerD
namespace Go.Proofs.Ytnpnleapnbdllaa
open Eng

theorem agree_two {k1 k2 : RK} (hne : k1 ≠ k2) : ∀ K : List PK, agreeN k1 K + agreeN k2 K ≤ K.length
  | [] => Nat.le_refl _
  | x :: K => by
    have ih := agree_two hne K
    unfold agreeN at *
    have hb : ¬ (agreeB k1 x = true ∧ agreeB k2 x = true) := by
      rintro ⟨h1, h2⟩
      unfold agreeB at h1 h2
      rw [Bool.and_eq_true, decide_eq_true_eq] at h1 h2
      exact hne (h1.2.trans h2.2.symm)
    by_cases h1 : agreeB k1 x = true
    · rw [List.filter_cons_of_pos h1, List.filter_cons_of_neg (fun h2 => hb ⟨h1, h2⟩), List.length_cons, List.length_cons]; omega
    · rw [List.filter_cons_of_neg h1]
      by_cases h2 : agreeB k2 x = true
      · rw [List.filter_cons_of_pos h2, List.length_cons, List.length_cons]; omega
      · rw [List.filter_cons_of_neg h2, List.length_cons]; omega
theorem winB_def {q : Int} {K : List PK} {x : PK} : winB q K x = true ↔ x.2.1 = true ∧ (K.length : Int) < 2 * (agreeN x.2.2 K : Int) ∧ q ≤ (agreeN x.2.2 K : Int) := by
  unfold winB
  rw [Bool.and_eq_true, decide_eq_true_eq]
theorem find_some {α : Type} {p : α → Bool} : ∀ {K : List α} {x : α}, K.find? p = some x → x ∈ K ∧ p x = true := fun h => ⟨List.mem_of_find?_eq_some h, List.find?_some h⟩
theorem win_same {q q' : Int} {K : List PK} {x y : PK} (h : winB q K x = true) (h' : winB q' K y = true) : y.2.2 = x.2.2 := by
  refine Classical.byContradiction fun hne => ?_
  have h1 := agree_two hne K
  have h2 := (winB_def.1 h).2.1
  have h3 := (winB_def.1 h').2.1
  omega
theorem certF_zero {g : Game} {l : List Ball} {q : Int} (h : (certF g l q).1 = 0) : gameErr g = 0 ∧ 1 ≤ q ∧ q ≤ 8 ∧ ∃ x, (reps g l).find? (winB q (reps g l)) = some x ∧ certF g l q = (0, x.2.2, dissN x.2.2 (reps g l)) := by
  by_cases h1 : gameErr g ≠ 0
  · rw [certF_err h1] at h; exact absurd h h1
  · by_cases h2 : q < 1 ∨ 8 < q
    · rw [certF_rng h1 h2] at h; exact absurd h (by show ¬ (2 : Int) = 0; decide)
    · rw [certF_ok h1 h2] at h ⊢
      refine ⟨Classical.not_not.1 h1, by omega, by omega, ?_⟩
      cases hf : (reps g l).find? (winB q (reps g l)) with
      | none => rw [certK_none hf] at h; exact absurd h (by show ¬ (23 : Int) = 0; decide)
      | some x => exact ⟨x, rfl, certK_some hf⟩
theorem cert_less {g : Game} {l : List Ball} {q q' : Int} (h : (certF g l q).1 = 0) (h1 : 1 ≤ q') (h2 : q' ≤ q) : certF g l q' = certF g l q := by
  obtain ⟨hg, hq1, hq2, x, hx, e⟩ := certF_zero h
  rw [e, certF_ok (by rw [hg]; decide) (by omega)]
  obtain ⟨hm, hw⟩ := find_some hx
  have hw' : winB q' (reps g l) x = true := by
    obtain ⟨a, b, c⟩ := winB_def.1 hw
    exact winB_def.2 ⟨a, b, by omega⟩
  cases hf : (reps g l).find? (winB q' (reps g l)) with
  | none => exact absurd hw' (List.find?_eq_none.1 hf x hm)
  | some y => rw [certK_some hf, win_same hw (find_some hf).2]
theorem cert_more {g : Game} {l : List Ball} {q : Int} (h : (certF g l q).1 = 0) : (certF g l (((wits l).length : Int) - ((certF g l q).2.2.length : Int) + 1)).1 ≠ 0 := by
  obtain ⟨hg, hq1, hq2, x, hx, e⟩ := certF_zero h
  have had := agree_diss x.2.2 (reps g l)
  have hln : (reps g l).length = (wits l).length := by unfold reps; rw [List.length_map]
  have ed : (certF g l q).2.2.length = (dissN x.2.2 (reps g l)).length := by rw [e]
  have ey : ((wits l).length : Int) - ((certF g l q).2.2.length : Int) + 1 = (agreeN x.2.2 (reps g l) : Int) + 1 := by rw [ed]; omega
  rw [ey]
  intro h'
  obtain ⟨_, _, _, y, hy, _⟩ := certF_zero h'
  have e2 := win_same (find_some hx).2 (find_some hy).2
  have h3 := (winB_def.1 (find_some hy).2).2.2
  rw [e2] at h3
  omega

end Go.Proofs.Ytnpnleapnbdllaa

