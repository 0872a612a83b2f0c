/- Plain laws of certified results: where a further witness stands. -/
import Derived.Test.YtnpnleapnbdllaaCerG
namespace Go.Proofs.Ytnpnleapnbdllaa
open Eng

theorem ofB_other {b : List Ball} {w x : Int} (hb : ∀ y ∈ b, y.wit = w) (hx : x ≠ w) : ofB b x = [] := by
  unfold ofB
  rw [List.filter_eq_nil_iff]
  intro y hy h
  rw [decide_eq_true_eq] at h
  exact hx (h.symm.trans (hb y hy))
theorem ofB_same {b : List Ball} {w : Int} (hb : ∀ y ∈ b, y.wit = w) : ofB b w = b := by
  unfold ofB
  rw [List.filter_eq_self]
  intro y hy
  rw [decide_eq_true_eq]
  exact hb y hy
theorem range_split {n : Nat} (h1 : 1 ≤ n) (h8 : n ≤ 8) : List.range 9 = List.range n ++ n :: List.range' (n + 1) (8 - n) := by
  have : n = 1 ∨ n = 2 ∨ n = 3 ∨ n = 4 ∨ n = 5 ∨ n = 6 ∨ n = 7 ∨ n = 8 := by omega
  rcases this with rfl | rfl | rfl | rfl | rfl | rfl | rfl | rfl <;> decide
theorem keyOf_congr {g : Game} {l m : List Ball} {w : Int} (h : ofB m w = ofB l w) : keyOf g m w = keyOf g l w := by
  unfold keyOf; rw [h]
theorem reps_put {g : Game} {l b : List Ball} {n : Nat} (h1 : 1 ≤ n) (h8 : n ≤ 8) (hw : ofB l (n : Int) = []) (hb : ∀ y ∈ b, y.wit = (n : Int)) (hne : 0 < b.length) :
    ∃ A B, reps g l = A ++ B ∧ reps g (l ++ b) = A ++ keyOf g b (n : Int) :: B := by
  have ho : ∀ x : Int, x ≠ (n : Int) → ofB (l ++ b) x = ofB l x := fun x hx => by rw [ofB_app, ofB_other hb hx, List.append_nil]
  have hs : ofB (l ++ b) (n : Int) = ofB b (n : Int) := by rw [ofB_app, hw, List.nil_append]
  have s1 : seenW l n = false := by rw [← seen_of_of l n h1, hw]; rfl
  have s2 : seenW (l ++ b) n = true := by rw [← seen_of_of (l ++ b) n h1, hs, ofB_same hb]; exact decide_eq_true hne
  have fa : (List.range n).filter (fun w => seenW (l ++ b) w) = (List.range n).filter fun w => seenW l w := List.filter_congr fun w hw' => by
    have := List.mem_range.1 hw'
    exact seenW_congr fun _ => ho _ (by omega)
  have fb : (List.range' (n + 1) (8 - n)).filter (fun w => seenW (l ++ b) w) = (List.range' (n + 1) (8 - n)).filter fun w => seenW l w := List.filter_congr fun w hw' => by
    have := (List.mem_range'_1.1 hw').1
    exact seenW_congr fun _ => ho _ (by omega)
  have wl : wits l = ((List.range n).filter fun w => seenW l w).map (fun (w : Nat) => (w : Int)) ++ ((List.range' (n + 1) (8 - n)).filter fun w => seenW l w).map fun (w : Nat) => (w : Int) := by
    unfold wits witsTo
    rw [range_split h1 h8, List.filter_append, List.filter_cons_of_neg (by rw [s1]; decide), List.map_append]
  have wm : wits (l ++ b) = ((List.range n).filter fun w => seenW l w).map (fun (w : Nat) => (w : Int)) ++ (n : Int) :: ((List.range' (n + 1) (8 - n)).filter fun w => seenW l w).map fun (w : Nat) => (w : Int) := by
    unfold wits witsTo
    rw [range_split h1 h8, List.filter_append, List.filter_cons_of_pos s2, List.map_append, fa, fb, List.map_cons]
  have kc : ∀ (L : List Nat), (∀ w ∈ L, w ≠ n) → (L.map fun (w : Nat) => (w : Int)).map (keyOf g (l ++ b)) = (L.map fun (w : Nat) => (w : Int)).map (keyOf g l) := fun L hL => by
    refine List.map_congr_left fun x hx => ?_
    obtain ⟨w, hw', rfl⟩ := List.mem_map.1 hx
    exact keyOf_congr (ho _ (by have := hL w hw'; omega))
  refine ⟨_, _, by unfold reps; rw [wl, List.map_append], ?_⟩
  unfold reps
  rw [wm, List.map_append, List.map_cons, kc _ (fun w hw' => by
    have := List.mem_range.1 ((List.mem_filter.1 hw').1)
    omega), kc _ (fun w hw' => by
    have := (List.mem_range'_1.1 ((List.mem_filter.1 hw').1)).1
    omega), keyOf_congr (m := l ++ b) (l := b) hs]
theorem certF_put {g : Game} {l b : List Ball} {n : Nat} {q : Int} (h1 : 1 ≤ n) (h8 : n ≤ 8) (hw : ofB l (n : Int) = []) (hb : ∀ y ∈ b, y.wit = (n : Int)) (hne : 0 < b.length)
    (h : (certF g l q).1 = 0) (he : mechE g b = 0) (hk : outKey (mechO g b) = (certF g l q).2.1) : certF g (l ++ b) q = certF g l q := by
  obtain ⟨hg, hq1, hq2, x, hx, e⟩ := certF_zero h
  rw [e] at hk ⊢
  obtain ⟨A, B, eA, eB⟩ := reps_put (g := g) h1 h8 hw hb hne
  rw [certF_ok (by rw [hg]; decide) (by omega), eB]
  rw [eA] at hx ⊢
  refine certK_put hx ?_
  unfold agreeB keyOf
  rw [ofB_same hb, Bool.and_eq_true, decide_eq_true_eq, decide_eq_true_eq]
  exact ⟨he, hk.symm⟩

end Go.Proofs.Ytnpnleapnbdllaa

