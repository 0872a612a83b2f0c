/- Plain laws of certified results: balls in another order, a further witness. -/
import Derived.Test.YtnpnleapnbdllaaCerF
namespace Go.Proofs.Ytnpnleapnbdllaa
open Eng

theorem ofB_app (a b : List Ball) (x : Int) : ofB (a ++ b) x = ofB a x ++ ofB b x := List.filter_append ..
theorem ofB_ofB (l : List Ball) (x y : Int) : ofB (ofB l y) x = if x = y then ofB l x else [] := by
  unfold ofB
  rw [List.filter_filter]
  by_cases h : x = y
  · subst h
    rw [if_pos rfl]
    congr 1
    funext b
    rw [Bool.and_self]
  · rw [if_neg h, List.filter_eq_nil_iff]
    intro b _ hb
    rw [Bool.and_eq_true, decide_eq_true_eq, decide_eq_true_eq] at hb
    exact h (hb.1.symm.trans hb.2)
def ordD (l : List Ball) : Nat → List Ball
  | 0 => []
  | n + 1 => ordD l n ++ ofB l (8 - (n : Int))
theorem ofB_ordD (l : List Ball) (x : Int) : ∀ n : Nat, ofB (ordD l n) x = if 8 - (n : Int) < x ∧ x ≤ 8 then ofB l x else []
  | 0 => by rw [if_neg (by omega)]; rfl
  | n + 1 => by
    unfold ordD
    rw [ofB_app, ofB_ordD l x n, ofB_ofB]
    by_cases h1 : 8 - (n : Int) < x ∧ x ≤ 8
    · rw [if_pos h1, if_neg (by omega), if_pos (by omega), List.append_nil]
    · rw [if_neg h1, List.nil_append]
      by_cases h2 : x = 8 - (n : Int)
      · rw [if_pos h2, if_pos (by omega)]
      · rw [if_neg h2, if_neg (by omega)]
theorem seenW_congr {l m : List Ball} {w : Nat} (h : 1 ≤ w → ofB m (w : Int) = ofB l (w : Int)) : seenW m w = seenW l w := by
  by_cases hw : 1 ≤ w
  · rw [← seen_of_of m w hw, ← seen_of_of l w hw, h hw]
  · unfold seenW
    rw [decide_eq_false hw, Bool.false_and, Bool.false_and]
theorem wits_mem {l : List Ball} {x : Int} (h : x ∈ wits l) : 1 ≤ x ∧ x ≤ 8 := by
  unfold wits witsTo at h
  obtain ⟨w, hw, rfl⟩ := List.mem_map.1 h
  rw [List.mem_filter, List.mem_range] at hw
  have h2 := hw.2
  unfold seenW at h2
  rw [Bool.and_eq_true, decide_eq_true_eq] at h2
  omega
theorem reps_congr {g : Game} {l m : List Ball} (h : ∀ w : Int, 1 ≤ w → w ≤ 8 → ofB m w = ofB l w) : reps g m = reps g l := by
  have hw : wits m = wits l := by
    unfold wits witsTo
    rw [List.filter_congr fun w hw => ?_]
    have := List.mem_range.1 hw
    exact seenW_congr fun h1 => h _ (by omega) (by omega)
  unfold reps
  rw [hw]
  refine List.map_congr_left fun w hw => ?_
  obtain ⟨h1, h2⟩ := wits_mem hw
  unfold keyOf
  rw [h w h1 h2]
theorem certF_congr {g : Game} {l m : List Ball} (q : Int) (h : ∀ w : Int, 1 ≤ w → w ≤ 8 → ofB m w = ofB l w) : certF g m q = certF g l q := by
  unfold certF
  rw [reps_congr h]
theorem certF_ord (g : Game) (l : List Ball) (q : Int) : certF g (ordD l 8) q = certF g l q :=
  certF_congr q fun w h1 h2 => by rw [ofB_ordD, if_pos (by omega)]
theorem agreeN_put (k : RK) (A B : List PK) (y : PK) : agreeN k (A ++ y :: B) = agreeN k (A ++ B) + if agreeB k y = true then 1 else 0 := by
  unfold agreeN
  rw [List.filter_append, List.filter_append, List.length_append, List.length_append]
  by_cases h : agreeB k y = true
  · rw [if_pos h, List.filter_cons_of_pos h, List.length_cons]; omega
  · rw [if_neg h, List.filter_cons_of_neg h]; omega
theorem dissN_put (k : RK) (A B : List PK) (y : PK) (h : agreeB k y = true) : dissN k (A ++ y :: B) = dissN k (A ++ B) := by
  unfold dissN
  rw [List.filter_append, List.filter_append, List.filter_cons_of_neg (by rw [dissB_not, h]; decide)]
theorem certK_put {q : Int} {A B : List PK} {x y : PK} (h : (A ++ B).find? (winB q (A ++ B)) = some x) (hy : agreeB x.2.2 y = true) : certK q (A ++ y :: B) = (0, x.2.2, dissN x.2.2 (A ++ B)) := by
  obtain ⟨hm, hw⟩ := find_some h
  obtain ⟨w1, w2, w3⟩ := winB_def.1 hw
  have hA := agreeN_put x.2.2 A B y
  rw [if_pos hy] at hA
  have hx : winB q (A ++ y :: B) x = true := winB_def.2 ⟨w1, by
    rw [hA]
    rw [List.length_append] at w2 ⊢
    rw [List.length_cons]
    omega, by omega⟩
  have hm' : x ∈ A ++ y :: B := by
    rcases List.mem_append.1 hm with h1 | h1
    · exact List.mem_append_left _ h1
    · exact List.mem_append_right _ (List.mem_cons_of_mem _ h1)
  cases hf : (A ++ y :: B).find? (winB q (A ++ y :: B)) with
  | none => exact absurd hx (List.find?_eq_none.1 hf x hm')
  | some z => rw [certK_some hf, win_same hx (find_some hf).2, dissN_put _ _ _ _ hy]

end Go.Proofs.Ytnpnleapnbdllaa

