/- Plain laws of draws: what is drawn is valid; what it depends on; one extra ball less; a number that is not in the drum. -/
import Derived.Test.YtkopdlglenejmaaDruH
import Derived.Test.YtkopdlglenejmaaMatH
namespace Go.Proofs.Ytkopdlglenejmaa
open Eng

theorem swapL_perm (L : List Int) (i j : Nat) : (swapL L i j).Perm L := by
  unfold swapL
  split
  · rename_i x y hx hy
    obtain ⟨h1, rfl⟩ := List.getElem?_eq_some_iff.1 hx
    obtain ⟨h2, rfl⟩ := List.getElem?_eq_some_iff.1 hy
    exact List.set_set_perm h1 h2
  · exact .refl _
theorem sampN_perm {n : Int} : ∀ (k i : Nat) (s : Int) (L : List Int), (sampN n k i s L).2.1.Perm L
  | 0, _, _, _ => .refl _
  | k + 1, i, s, L => by
    unfold sampN
    split
    · exact .refl _
    · exact (sampN_perm k _ _ _).trans (swapL_perm _ _ _)
theorem iotaL_nodup (n : Nat) : (iotaL n).Nodup := by
  unfold iotaL
  show List.Pairwise _ _
  rw [List.pairwise_map]
  exact List.nodup_range.imp fun {a b} h => by omega
theorem iotaL_mem {n : Nat} {x : Int} (h : x ∈ iotaL n) : 1 ≤ x ∧ x ≤ n := by
  unfold iotaL at h
  obtain ⟨i, hi, rfl⟩ := List.mem_map.1 h
  have := List.mem_range.1 hi
  omega
theorem sampF_form {n k s : Int} (h : (sampF n k s).1 = 0) : (sampN n k.toNat 0 s (iotaL n.toNat)).1 = 0 ∧ (sampF n k s).2.1 = (sampN n k.toNat 0 s (iotaL n.toNat)).2.1.take k.toNat := by
  unfold sampF at h ⊢
  by_cases h1 : n < 0 ∨ 4096 < n ∨ k < 0 ∨ n < k
  · rw [if_pos h1] at h; exact absurd h (by show ¬ (2 : Int) = 0; decide)
  · rw [if_neg h1] at h ⊢
    by_cases h2 : (sampN n k.toNat 0 s (iotaL n.toNat)).1 ≠ 0
    · rw [if_pos h2] at h; exact absurd h h2
    · rw [if_neg h2]
      exact ⟨Classical.not_not.1 h2, rfl⟩
theorem sampF_set {n k s : Int} (h : (sampF n k s).1 = 0) : (sampF n k s).2.1.Nodup ∧ ∀ x ∈ (sampF n k s).2.1, 1 ≤ x ∧ x ≤ n := by
  obtain ⟨_, h0, hk, hn⟩ := sampF_len h
  obtain ⟨_, e⟩ := sampF_form h
  rw [e]
  have hp := sampN_perm (n := n) k.toNat 0 s (iotaL n.toNat)
  refine ⟨(hp.nodup_iff.2 (iotaL_nodup _)).sublist (List.take_sublist _ _), fun x hx => ?_⟩
  have := iotaL_mem (hp.mem_iff.1 (List.mem_of_mem_take hx))
  omega
theorem sortL_perm (l : List Int) : (sortL l).Perm l := List.mergeSort_perm l leI
theorem sortL_len (l : List Int) : (sortL l).length = l.length := (sortL_perm l).length_eq
theorem sortL_lt {l : List Int} (h : l.Nodup) : (sortL l).Pairwise (· < ·) := by
  have tr : ∀ a b c : Int, leI a b = true → leI b c = true → leI a c = true := fun a b c h1 h2 => by simp only [leI, decide_eq_true_eq] at *; exact Int.le_trans h1 h2
  have to : ∀ a b : Int, (leI a b || leI b a) = true := fun a b => by simp only [leI, Bool.or_eq_true, decide_eq_true_eq]; exact Int.le_total a b
  have h1 := List.pairwise_mergeSort tr to l
  have h2 : (l.mergeSort leI).Nodup := (List.mergeSort_perm l leI).nodup_iff.2 h
  exact (h1.and h2).imp fun {a b} ⟨h3, h4⟩ => by simp only [leI, decide_eq_true_eq] at h3; omega
theorem listErr_of {lo hi : Int} {o : Bool} {l : List Int} (h1 : allIn lo hi l) (h2 : o = true → l.Pairwise (· < ·)) : listErr lo hi o l = 0 := by
  refine listErr_zero.2 fun j hj => ?_
  have hx : l[j]? = some l[j] := List.getElem?_eq_getElem hj
  unfold leAt
  rw [getD_at hx]
  rw [if_neg (Classical.not_not.2 (h1 _ (List.getElem_mem hj))), if_neg]
  rintro ⟨ho, h0, hle⟩
  have hp := List.pairwise_iff_getElem.1 (h2 ho) (j - 1) j (by omega) hj (by omega)
  have hy : l[j - 1]? = some l[j - 1] := List.getElem?_eq_getElem (by omega)
  rw [getD_at hy] at hle
  omega
theorem sortL_ok {l : List Int} {n : Int} (h : l.Nodup) (hr : ∀ x ∈ l, 1 ≤ x ∧ x ≤ n) : listErr 1 n true (sortL l) = 0 :=
  listErr_of (fun x hx => hr x ((sortL_perm l).mem_iff.1 hx)) fun _ => sortL_lt h
theorem digN_set {of : Int} (hof : 1 ≤ of) : ∀ (k : Nat) (s : Int) (A : List Int), (digN of k s A).1 = 0 → (digN of k s A).2.length = A.length + k ∧ ((∀ x ∈ A, 0 ≤ x ∧ x < of) → ∀ x ∈ (digN of k s A).2, 0 ≤ x ∧ x < of)
  | 0, _, A, _ => ⟨rfl, fun h => h⟩
  | k + 1, s, A, h => by
    unfold digN at h ⊢
    by_cases h1 : (belowF of s).2.1 ≠ 0
    · rw [if_pos h1] at h; exact absurd h h1
    · rw [if_neg h1] at h ⊢
      obtain ⟨p1, p2⟩ := digN_set hof k _ _ h
      refine ⟨by rw [p1, List.length_append]; show A.length + 1 + k = _; omega, fun hA => p2 fun x hx => ?_⟩
      rcases List.mem_append.1 hx with hx | hx
      · exact hA x hx
      · rw [List.mem_singleton.1 hx]; exact belowF_rng hof
theorem numF_zero {of main bonus bonusOf extra s : Int} (h : (numF of main bonus bonusOf extra s).1 = 0) :
    (sampF of (main + extra) s).1 = 0 ∧ (bonus ≠ 0 → (sampF bonusOf bonus (sampF of (main + extra) s).2.2).1 = 0) ∧
      (numF of main bonus bonusOf extra s).2 = (sortL ((sampF of (main + extra) s).2.1.take main.toNat), (if bonus = 0 then [] else sortL (sampF bonusOf bonus (sampF of (main + extra) s).2.2).2.1), sortL ((sampF of (main + extra) s).2.1.drop main.toNat)) := by
  by_cases h1 : (sampF of (main + extra) s).1 ≠ 0
  · rw [numF_err h1] at h; exact absurd h h1
  · have h1' := Classical.not_not.1 h1
    by_cases h2 : bonus = 0
    · rw [numF_one h1' h2, if_pos h2]
      exact ⟨h1', fun hh => absurd h2 hh, rfl⟩
    · by_cases h3 : (sampF bonusOf bonus (sampF of (main + extra) s).2.2).1 ≠ 0
      · rw [numF_err2 h1' h2 h3] at h; exact absurd h h3
      · have h3' := Classical.not_not.1 h3
        rw [numF_two h1' h2 h3', if_neg h2]
        exact ⟨h1', fun _ => h3', rfl⟩
theorem drawF_zero {g : Game} {s : Int} (h : (drawF g s).1 = 0) : GameOk g ∧ ((g.kind = 2 ∧ (digN g.of g.main.toNat s []).1 = 0 ∧ drawF g s = ((digN g.of g.main.toNat s []).1, ((digN g.of g.main.toNat s []).2, [], []))) ∨
    (g.kind ≠ 2 ∧ (numF g.of g.main g.bonus g.bonusOf g.extra s).1 = 0 ∧ drawF g s = numF g.of g.main g.bonus g.bonusOf g.extra s)) := by
  unfold drawF at h ⊢
  by_cases h1 : gameErr g ≠ 0
  · rw [if_pos h1] at h; exact absurd h h1
  · rw [if_neg h1] at h ⊢
    refine ⟨gameOk (Classical.not_not.1 h1), ?_⟩
    by_cases h2 : g.kind = 2
    · rw [if_pos h2] at h ⊢; exact .inl ⟨h2, h, rfl⟩
    · rw [if_neg h2] at h ⊢; exact .inr ⟨h2, h, rfl⟩
theorem drawn_ok {g : Game} {s : Int} {x : Res} (h : (drawF g s).1 = 0) (ho : OutIs x (drawF g s).2.1 (drawF g s).2.2.1 (drawF g s).2.2.2) : ResOk g x := by
  obtain ⟨hg, hc⟩ := drawF_zero h
  have hxt : xtraErr g x = 0 := by
    unfold xtraErr
    rw [if_neg (fun hh => hh.1 ho.fc)]
    exact if_pos ho.sr
  refine ⟨gameErr_of hg, ?_, hxt⟩
  have m2 := hg.mx.h2
  rcases hc with ⟨hk, hd, e⟩ | ⟨hk, hn, e⟩
  · have m3 := hg.mx.h3 hk
    have m5 := hg.mx.h5
    have m6 := hg.mx.h6 hk
    have m10 := hg.mx.h10
    have m11 := hg.mx.h11 hk
    obtain ⟨p1, p2⟩ := digN_set (of := g.of) (by omega) _ s [] hd
    rw [e] at ho
    have e1 : x.main = (digN g.of g.main.toNat s []).2 := ho.mn
    have e2 : x.bonus = [] := ho.bn
    have e3 : x.extra = [] := ho.xn
    refine ⟨by rw [e1, p1]; simp; omega, by rw [e2]; simp; omega, by rw [e3]; simp; omega, fun _ => ?_, fun hh => absurd hk hh, fun hh => absurd hk hh, fun hh => absurd hk hh, fun hh => absurd hk hh⟩
    rw [e1]
    exact listErr_of (fun y hy => by have := p2 (fun _ h => by cases h) y hy; omega) (fun hh => by cases hh)
  · obtain ⟨h1, h2, h3⟩ := numF_zero hn
    rw [e, h3] at ho
    have e1 := ho.mn
    have e2 := ho.bn
    have e3 := ho.xn
    obtain ⟨l1, _, _, _⟩ := sampF_len h1
    obtain ⟨s1, s2⟩ := sampF_set h1
    have m10 := hg.mx.h10
    refine ⟨?_, ?_, ?_, fun hh => absurd hh hk, fun _ => ?_, fun _ => ?_, fun _ => ?_, fun _ y hy hm => ?_⟩
    · rw [e1, sortL_len, List.length_take]; omega
    · rw [e2]
      by_cases hb : g.bonus = 0
      · rw [if_pos hb, hb]; rfl
      · obtain ⟨l2, l3, _, _⟩ := sampF_len (h2 hb)
        rw [if_neg hb, sortL_len]; omega
    · rw [e3, sortL_len, List.length_drop]; omega
    · rw [e1]; exact sortL_ok (s1.sublist (List.take_sublist _ _)) fun y hy => s2 y (List.mem_of_mem_take hy)
    · rw [e2]
      by_cases hb : g.bonus = 0
      · rw [if_pos hb]; exact listErr_of (fun y hy => by cases hy) (fun _ => List.Pairwise.nil)
      · obtain ⟨s3, s4⟩ := sampF_set (h2 hb)
        rw [if_neg hb]; exact sortL_ok s3 s4
    · rw [e3]; exact sortL_ok (s1.sublist (List.drop_sublist _ _)) fun y hy => s2 y (List.mem_of_mem_drop hy)
    · rw [e3] at hy
      rw [e1] at hm
      have hy' := (sortL_perm _).mem_iff.1 hy
      have hm' := (sortL_perm _).mem_iff.1 hm
      rw [← List.take_append_drop g.main.toNat (sampF g.of (g.main + g.extra) s).2.1, List.nodup_append] at s1
      exact s1.2.2 y hm' y hy' rfl
theorem drawF_same {g h : Game} {s : Int} (h1 : gameErr g = 0) (h2 : gameErr h = 0) (hk : h.kind = g.kind) (hm : h.main = g.main) (ho : h.of = g.of) (hb : h.bonus = g.bonus) (hbo : h.bonusOf = g.bonusOf) (he : h.extra = g.extra) : drawF h s = drawF g s := by
  unfold drawF
  rw [if_neg (c := gameErr h ≠ 0) (fun hh => hh h2), if_neg (c := gameErr g ≠ 0) (fun hh => hh h1), hk, hm, ho, hb, hbo, he]
theorem sampN_snoc {n : Int} : ∀ (k i : Nat) (s : Int) (L : List Int), sampN n (k + 1) i s L = if (sampN n k i s L).1 ≠ 0 then sampN n k i s L else sampN n 1 (i + k) (sampN n k i s L).2.2 (sampN n k i s L).2.1
  | 0, i, s, L => by
    rw [if_neg (fun hh => hh rfl)]; rfl
  | k + 1, i, s, L => by
    by_cases h : (belowF (n - i) s).2.1 ≠ 0
    · rw [sampN_err h, sampN_err h, if_pos h]
    · have h' := Classical.not_not.1 h
      rw [sampN_ok (k := k + 1) h', sampN_ok (k := k) h', sampN_snoc k, show i + 1 + k = i + (k + 1) by omega]
theorem swapL_take {L : List Int} {i j k : Nat} (hi : k ≤ i) (hj : k ≤ j) : (swapL L i j).take k = L.take k := by
  unfold swapL
  split
  · rw [List.take_set_of_le hj, List.take_set_of_le hi]
  · rfl
theorem sampF_prefix {n s : Int} {k : Nat} (h : (sampF n ((k : Int) + 1) s).1 = 0) (h' : (sampF n (k : Int) s).1 = 0) : (sampF n ((k : Int) + 1) s).2.1.take k = (sampF n (k : Int) s).2.1 := by
  obtain ⟨a1, a2⟩ := sampF_form h
  obtain ⟨b1, b2⟩ := sampF_form h'
  have e : ((k : Int) + 1).toNat = k + 1 := by omega
  have e' : ((k : Int)).toNat = k := by omega
  rw [e] at a1 a2
  rw [e'] at b1 b2
  rw [a2, b2, List.take_take, show min k (k + 1) = k by omega, sampN_snoc, if_neg (fun hh => hh b1), Nat.zero_add]
  by_cases hb : (belowF (n - k) (sampN n k 0 s (iotaL n.toNat)).2.2).2.1 ≠ 0
  · rw [sampN_err (k := 0) hb]
  · rw [sampN_ok (k := 0) (Classical.not_not.1 hb)]
    exact swapL_take (Nat.le_refl _) (by omega)
theorem extras_less {g h : Game} {s : Int} (hh : h = { g with extra := g.extra - 1 }) (h1 : 1 ≤ g.extra) (ha : (drawF g s).1 = 0) (hb : (drawF h s).1 = 0) :
    (drawF g s).2.1 = (drawF h s).2.1 ∧ (∀ x ∈ (drawF h s).2.2.2, x ∈ (drawF g s).2.2.2) ∧ ((drawF h s).2.2.2.length : Int) = (drawF g s).2.2.2.length - 1 := by
  obtain ⟨hg, hc⟩ := drawF_zero ha
  obtain ⟨_, hc'⟩ := drawF_zero hb
  have m2 := hg.mx.h2
  have kk : h.kind = g.kind := by rw [hh]
  rcases hc with ⟨hk, _, _⟩ | ⟨hk, hn, e⟩
  · have := hg.mx.h11 hk; omega
  rcases hc' with ⟨hk', _, _⟩ | ⟨hk', hn', e'⟩
  · rw [kk] at hk'; exact absurd hk' hk
  rw [hh] at hn' e'
  obtain ⟨a1, _, a3⟩ := numF_zero hn
  obtain ⟨b1, _, b3⟩ := numF_zero hn'
  rw [hh, e, e', a3, b3]
  obtain ⟨k, hkk⟩ := Int.eq_ofNat_of_zero_le (show 0 ≤ g.main + g.extra - 1 by omega)
  have ea : g.main + g.extra = (k : Int) + 1 := by omega
  have eb : g.main + (g.extra - 1) = (k : Int) := by omega
  have a1' := a1
  have b1' : (sampF g.of (g.main + (g.extra - 1)) s).1 = 0 := b1
  rw [ea] at a1'
  rw [eb] at b1'
  have hp := sampF_prefix a1' b1'
  obtain ⟨la, _⟩ := sampF_len a1'
  obtain ⟨lb, _⟩ := sampF_len b1'
  show sortL ((sampF g.of (g.main + g.extra) s).2.1.take g.main.toNat) = sortL ((sampF g.of (g.main + (g.extra - 1)) s).2.1.take g.main.toNat) ∧ (∀ x ∈ sortL ((sampF g.of (g.main + (g.extra - 1)) s).2.1.drop g.main.toNat), x ∈ sortL ((sampF g.of (g.main + g.extra) s).2.1.drop g.main.toNat)) ∧
    ((sortL ((sampF g.of (g.main + (g.extra - 1)) s).2.1.drop g.main.toNat)).length : Int) = (sortL ((sampF g.of (g.main + g.extra) s).2.1.drop g.main.toNat)).length - 1
  rw [ea, eb, ← hp, sortL_len, sortL_len]
  refine ⟨by rw [List.take_take, show min g.main.toNat k = g.main.toNat by omega], fun x hx => ?_, ?_⟩
  · have hx' := (sortL_perm _).mem_iff.1 hx
    refine (sortL_perm _).mem_iff.2 ?_
    rw [List.drop_take] at hx'
    exact List.mem_of_mem_take hx'
  · rw [List.length_drop, List.length_drop, List.length_take]; omega
theorem listErr_set {lo hi : Int} {o : Bool} {l : List Int} {i : Nat} {x : Int} (h : listErr lo hi o l = 0) (hi' : i < l.length) (hx : ¬ (lo ≤ x ∧ x ≤ hi)) : listErr lo hi o (l.set i x) = 2 := by
  have hz := listErr_zero.1 h
  have hg : ∀ j, j < i → (l.set i x).getD j 0 = l.getD j 0 := fun j hj => by
    rw [List.getD_eq_getElem?_getD, List.getD_eq_getElem?_getD, List.getElem?_set_ne (by omega)]
  refine listErr_at (i := i) (by decide) (fun j hj => ?_) (by rw [List.length_set]; exact hi') ?_
  · have := hz j (by omega)
    unfold leAt at this ⊢
    rw [hg j hj, hg (j - 1) (by omega)]
    exact this
  · unfold leAt
    rw [List.getD_eq_getElem?_getD, List.getElem?_set_self hi']
    exact if_pos hx
theorem set_main {g : Game} {r : Res} {i : Nat} {x : Int} (h : ResOk g r) (hi : i < r.main.length) (hx : ¬ (0 ≤ x ∧ x ≤ 80)) : resErr g { r with main := r.main.set i x } = 2 := by
  have hg := gameOk h.g0
  have hn := h.nu
  have : numsErr g { r with main := r.main.set i x } = 2 := by
    unfold numsErr
    have h1 := hn.ml
    have h2 := hn.bl
    have h3 := hn.xl
    have m2 := hg.mx.h2
    rw [if_neg (by show ¬ (((r.main.set i x).length : Int) ≠ g.main ∨ _); rw [List.length_set]; show ¬ ((r.main.length : Int) ≠ g.main ∨ (r.bonus.length : Int) ≠ g.bonus ∨ (r.extra.length : Int) ≠ g.extra); omega)]
    by_cases hk : g.kind = 2
    · rw [if_pos hk]
      have m3 := hg.mx.h3 hk
      exact listErr_set (hn.dm hk) hi (by omega)
    · rw [if_neg hk]
      have m4 := hg.mx.h4 hk
      have e : listErr 1 g.of true (r.main.set i x) = 2 := listErr_set (hn.cm hk) hi (by omega)
      show (if listErr 1 g.of true (r.main.set i x) ≠ 0 then listErr 1 g.of true (r.main.set i x) else _) = 2
      rw [e, if_pos (by decide)]
  unfold resErr
  rw [if_neg (fun hh => hh h.g0), this, if_pos (by decide)]
theorem set_bonus {g : Game} {r : Res} {i : Nat} {x : Int} (h : ResOk g r) (hi : i < r.bonus.length) (hx : ¬ (0 ≤ x ∧ x ≤ 80)) : resErr g { r with bonus := r.bonus.set i x } = 2 := by
  have hg := gameOk h.g0
  have hn := h.nu
  have : numsErr g { r with bonus := r.bonus.set i x } = 2 := by
    unfold numsErr
    have h1 := hn.ml
    have h2 := hn.bl
    have h3 := hn.xl
    have hb : g.bonus ≠ 0 := by omega
    rw [if_neg (by show ¬ (_ ∨ ((r.bonus.set i x).length : Int) ≠ g.bonus ∨ _); rw [List.length_set]; show ¬ ((r.main.length : Int) ≠ g.main ∨ (r.bonus.length : Int) ≠ g.bonus ∨ (r.extra.length : Int) ≠ g.extra); omega)]
    by_cases hk : g.kind = 2
    · have := hg.mx.h6 hk
      have := hg.mx.h5
      omega
    · rw [if_neg hk]
      have m9 := hg.mx.h9 hb
      have e : listErr 1 g.bonusOf true (r.bonus.set i x) = 2 := listErr_set (hn.cb hk) hi (by omega)
      show (if listErr 1 g.of true r.main ≠ 0 then _ else if listErr 1 g.bonusOf true (r.bonus.set i x) ≠ 0 then listErr 1 g.bonusOf true (r.bonus.set i x) else _) = 2
      rw [if_neg (fun hh => hh (hn.cm hk)), e, if_pos (by decide)]
  unfold resErr
  rw [if_neg (fun hh => hh h.g0), this, if_pos (by decide)]
theorem set_extra {g : Game} {r : Res} {i : Nat} {x : Int} (h : ResOk g r) (hi : i < r.extra.length) (hx : ¬ (0 ≤ x ∧ x ≤ 80)) : resErr g { r with extra := r.extra.set i x } = 2 := by
  have hg := gameOk h.g0
  have hn := h.nu
  have : numsErr g { r with extra := r.extra.set i x } = 2 := by
    unfold numsErr
    have h1 := hn.ml
    have h2 := hn.bl
    have h3 := hn.xl
    rw [if_neg (by show ¬ (_ ∨ _ ∨ ((r.extra.set i x).length : Int) ≠ g.extra); rw [List.length_set]; show ¬ ((r.main.length : Int) ≠ g.main ∨ (r.bonus.length : Int) ≠ g.bonus ∨ (r.extra.length : Int) ≠ g.extra); omega)]
    by_cases hk : g.kind = 2
    · have := hg.mx.h11 hk
      omega
    · rw [if_neg hk]
      have m4 := hg.mx.h4 hk
      have e : listErr 1 g.of true (r.extra.set i x) = 2 := listErr_set (hn.cx hk) hi (by omega)
      show (if listErr 1 g.of true r.main ≠ 0 then _ else if listErr 1 g.bonusOf true r.bonus ≠ 0 then _ else if listErr 1 g.of true (r.extra.set i x) ≠ 0 then listErr 1 g.of true (r.extra.set i x) else _) = 2
      rw [if_neg (fun hh => hh (hn.cm hk)), if_neg (fun hh => hh (hn.cb hk)), e, if_pos (by decide)]
  unfold resErr
  rw [if_neg (fun hh => hh h.g0), this, if_pos (by decide)]

end Go.Proofs.Ytkopdlglenejmaa

