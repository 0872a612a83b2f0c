/- lotterylaw30: the law CertifyAgrees. -/
import Derived.Test.YtnpnleapnbdllaaCerH
namespace Go.Proofs.Ytnpnleapnbdllaa
open Eng

theorem allErr_le (lo hi : Int) (l : List Int) : allErr lo hi l ≤ 7 := by unfold allErr; split <;> decide
theorem addonErr_le (a : Addon) : addonErr a ≤ 7 := by
  unfold addonErr
  repeat' split
  all_goals first | decide | exact allErr_le _ _ _
theorem addonsFrom_le : ∀ (l pre : List Addon), addonsFrom pre l ≤ 7
  | [], pre => by unfold addonsFrom; decide
  | a :: l, pre => by
    unfold addonsFrom
    split
    · exact addonErr_le a
    · split
      · decide
      · exact addonsFrom_le l _
theorem hitsErr_le (k a b c : Int) (t : Tier) : hitsErr k a b c t ≤ 7 := by
  unfold hitsErr
  repeat' split
  all_goals decide
theorem tierErr_le (g : Game) (t : Tier) : tierErr g t ≤ 7 := by
  unfold tierErr
  repeat' split
  all_goals first | decide | exact hitsErr_le _ _ _ _ _
theorem tiersFrom_le (g : Game) : ∀ (l pre : List Tier), tiersFrom g pre l ≤ 7
  | [], pre => by unfold tiersFrom; decide
  | a :: l, pre => by
    unfold tiersFrom
    split
    · exact tierErr_le g a
    · split
      · decide
      · exact tiersFrom_le g l _
theorem gameErr_le (g : Game) : gameErr g ≤ 7 := by
  unfold gameErr okE addonsErr tiersErr
  repeat' split
  all_goals first | decide | exact addonsFrom_le _ _ | exact tiersFrom_le _ _ _
theorem certF_no {g : Game} {l : List Ball} {q : Int} (h : (certF g l q).1 ≠ 0) : (certF g l q).2.2 = [] := by
  by_cases h1 : gameErr g ≠ 0
  · rw [certF_err h1]
  · by_cases h2 : q < 1 ∨ 8 < q
    · rw [certF_rng h1 h2]
    · rw [certF_ok h1 h2] at h ⊢
      cases hf : (reps g l).find? (winB q (reps g l)) with
      | none => rw [certK_none hf]
      | some x => rw [certK_some hf] at h; exact absurd rfl h
theorem certF_lost {g : Game} {l : List Ball} {q : Int} (h : (certF g l q).1 = 23) : ∀ x ∈ reps g l, winB q (reps g l) x = false := by
  by_cases h1 : gameErr g ≠ 0
  · rw [certF_err h1] at h
    have h' : gameErr g = 23 := h
    have := gameErr_le g
    omega
  · by_cases h2 : q < 1 ∨ 8 < q
    · rw [certF_rng h1 h2] at h; exact absurd h (by show ¬ (2 : Int) = 23; decide)
    · rw [certF_ok h1 h2] at h
      cases hf : (reps g l).find? (winB q (reps g l)) with
      | none => exact fun x hx => by simpa using List.find?_eq_none.1 hf x hx
      | some x => rw [certK_some hf] at h; exact absurd h (by show ¬ (0 : Int) = 23; decide)
theorem agreeB_ref {g : Game} {l : List Ball} {w : Int} {x y : Res} (hy : y.key = outKey (mechO g (ofB l w))) : agreeB x.key (keyOf g l w) = true ↔ mechE g (ofB l w) = 0 ∧ sameR x y := by
  show (decide (mechE g (ofB l w) = 0) && decide (x.key = outKey (mechO g (ofB l w)))) = true ↔ _
  rw [Bool.and_eq_true, decide_eq_true_eq, decide_eq_true_eq, sameR_key, hy]
theorem lost_not {g : Game} {l : List Ball} {q w : Int} {x : Res} (hx : x.key = outKey (mechO g (ofB l w))) (he : mechE g (ofB l w) = 0) (hw : w ∈ wits l) (h : (certF g l q).1 = 23) : ¬ (((wits l).length : Int) < 2 * (agreeN x.key (reps g l) : Int) ∧ q ≤ (agreeN x.key (reps g l) : Int)) := by
  rintro ⟨h1, h2⟩
  have hm : keyOf g l w ∈ reps g l := List.mem_map.2 ⟨w, hw, rfl⟩
  have hf := certF_lost h _ hm
  have hln : (reps g l).length = (wits l).length := by unfold reps; rw [List.length_map]
  rw [(winB_ref hx).2 ⟨he, by rw [hln]; exact h1, h2⟩] at hf
  exact Bool.noConfusion hf
theorem certF_won {g : Game} {l : List Ball} {q : Int} {x : Res} (h : (certF g l q).1 = 0) (kx : x.key = (certF g l q).2.1) : (certF g l q).2.2 = dissN x.key (reps g l) ∧ ((wits l).length : Int) < 2 * (((wits l).length : Int) - ((certF g l q).2.2.length : Int)) ∧ q ≤ ((wits l).length : Int) - ((certF g l q).2.2.length : Int) := by
  obtain ⟨hg, hq1, hq2, y, hy, e⟩ := certF_zero h
  have had := agree_diss y.2.2 (reps g l)
  have hln : (reps g l).length = (wits l).length := by unfold reps; rw [List.length_map]
  obtain ⟨_, w2, w3⟩ := winB_def.1 (find_some hy).2
  rw [e] at kx ⊢
  have kx' : x.key = y.2.2 := kx
  rw [kx']
  refine ⟨rfl, ?_, ?_⟩
  · show ((wits l).length : Int) < 2 * (((wits l).length : Int) - ((dissN y.2.2 (reps g l)).length : Int)); omega
  · show q ≤ ((wits l).length : Int) - ((dissN y.2.2 (reps g l)).length : Int); omega

end Go.Proofs.Ytnpnleapnbdllaa

