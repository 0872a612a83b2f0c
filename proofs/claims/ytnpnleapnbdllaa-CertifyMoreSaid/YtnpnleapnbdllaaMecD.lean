/- Plain laws of balls and results. -/
import Derived.Test.YtnpnleapnbdllaaMecC
namespace Go.Proofs.Ytnpnleapnbdllaa
open Eng

structure BallsOk (g : Game) (l : List Ball) : Prop where
  inn : ∀ b ∈ l, inB g b
  dif : g.kind = 1 → l.Pairwise fun a b => ¬ repB a b
  full : fullB g l
theorem ballsFrom_zero {g : Game} : ∀ {l pre : List Ball}, ballsFrom g pre l = 0 ↔ ∀ i b, l[i]? = some b → ballErr g (pre ++ l.take i) b = 0
  | [], pre => by simp [ballsFrom]
  | a :: l, pre => by
    unfold ballsFrom
    by_cases h : ballErr g pre a ≠ 0
    · rw [if_pos h]
      exact ⟨fun h' => absurd h' h, fun h' => by have := h' 0 a rfl; rw [List.take_zero, List.append_nil] at this; exact this⟩
    · rw [if_neg h, ballsFrom_zero]
      constructor
      · intro h' i b hb
        cases i with
        | zero => cases hb; rw [List.take_zero, List.append_nil]; exact Classical.not_not.1 h
        | succ i =>
          have := h' i b (by simpa using hb)
          rw [List.take_succ_cons]; simpa using this
      · intro h' i b hb
        have := h' (i + 1) b (by simpa using hb)
        rw [List.take_succ_cons] at this; simpa using this
theorem repB_symm {a b : Ball} (h : repB a b) : repB b a := ⟨h.1.symm, h.2.symm⟩
theorem cntD_take {d : Int} {l : List Ball} {i : Nat} {b : Ball} (hb : l[i]? = some b) (hd : b.drum = d) : cntD d (l.take i) < cntD d l := by
  have h1 : cntD d (l.take (i + 1)) = cntD d (l.take i) + 1 := by rw [take_snocA hb, cntD_snoc, if_pos hd]
  have h2 : cntD d (l.take (i + 1)) ≤ cntD d l := by
    unfold cntD numsD
    rw [List.length_map, List.length_map]
    exact ((List.take_sublist _ _).filter _).length_le
  omega
theorem pair_take {α : Type} {R : α → α → Prop} {l : List α} (h : l.Pairwise R) {i : Nat} {b : α} (hb : l[i]? = some b) {a : α} (ha : a ∈ l.take i) : R a b := by
  have hi := List.getElem?_eq_some_iff.1 hb
  have := (h.sublist (List.take_sublist (i + 1) l))
  rw [take_snocA hb, List.pairwise_append] at this
  exact this.2.2 a ha b (by simp)
theorem pair_of_take {α : Type} {R : α → α → Prop} : ∀ {l : List α}, (∀ i b, l[i]? = some b → ∀ a ∈ l.take i, R a b) → l.Pairwise R := by
  intro l h
  rw [List.pairwise_iff_getElem]
  intro i j hi hj hij
  exact h j l[j] (List.getElem?_eq_getElem hj) l[i] (by rw [List.mem_take_iff_getElem]; exact ⟨i, by omega, rfl⟩)
theorem ballsOk_iff {g : Game} {l : List Ball} : ballsErr g l = 0 ↔ BallsOk g l := by
  unfold ballsErr
  constructor
  · intro h
    by_cases h1 : ballsFrom g [] l ≠ 0
    · rw [if_pos h1] at h; exact absurd h h1
    · rw [if_neg h1] at h
      have h2 := ballsFrom_zero.1 (Classical.not_not.1 h1)
      by_cases h3 : fullB g l
      · refine ⟨fun b hb => ?_, fun hk => pair_of_take fun i b hb a ha hr => ?_, h3⟩
        · obtain ⟨i, hi⟩ := List.getElem?_of_mem hb
          have := h2 i b hi
          rw [List.nil_append] at this
          exact (ballErr_zero this).1
        · have := h2 i b hb
          rw [List.nil_append] at this
          exact (ballErr_zero this).2.2 ⟨hk, a, ha, hr⟩
      · rw [if_neg h3] at h; exact absurd h (by decide)
  · intro h
    have hz : ballsFrom g [] l = 0 := ballsFrom_zero.2 fun i b hb => by
      rw [List.nil_append]
      have hin := h.inn b (List.mem_of_getElem? hb)
      unfold ballErr
      rw [if_neg (Classical.not_not.2 hin), if_neg (fun ⟨hk, a, ha, hr⟩ => pair_take (h.dif hk) hb ha hr), if_neg]
      have hd := inB_drum hin
      obtain ⟨f1, f2, f3⟩ := h.full
      have hc := cntD_take (d := b.drum) hb rfl
      unfold mostD
      rcases hd with hd | hd | hd
      · rw [hd] at hc ⊢
        rw [if_pos rfl]; omega
      · rw [hd] at hc ⊢
        rw [if_neg (by decide), if_pos rfl]; omega
      · rw [hd] at hc ⊢
        rw [if_neg (by decide), if_neg (by decide)]; omega
    rw [if_neg (by rw [hz]; decide), if_pos h.full]
theorem adj_lt {lo hi : Int} {l : List Int} (h : listErr lo hi true l = 0) {j : Nat} (h0 : 0 < j) (hj : j < l.length) : l.getD (j - 1) 0 < l.getD j 0 := by
  have h1 := listErr_zero.1 h j hj
  unfold leAt at h1
  by_cases h2 : ¬ (lo ≤ l.getD j 0 ∧ l.getD j 0 ≤ hi)
  · rw [if_pos h2] at h1; exact absurd h1 (by decide)
  · rw [if_neg h2] at h1
    by_cases h3 : true = true ∧ 0 < j ∧ l.getD j 0 ≤ l.getD (j - 1) 0
    · rw [if_pos h3] at h1; exact absurd h1 (by decide)
    · simp only [true_and, not_and] at h3
      have := h3 h0
      omega
theorem rise_lt {lo hi : Int} {l : List Int} (h : listErr lo hi true l = 0) : ∀ (b a : Nat), a < b → b < l.length → l.getD a 0 < l.getD b 0
  | 0, a, h1, _ => absurd h1 (Nat.not_lt_zero a)
  | b + 1, a, h1, h2 => by
    have h3 := adj_lt h (j := b + 1) (by omega) h2
    rw [Nat.add_sub_cancel] at h3
    by_cases e : a = b
    · rw [e]; exact h3
    · exact Int.lt_trans (rise_lt h b a (by omega) (by omega)) h3
theorem rise_pair {lo hi : Int} {l : List Int} (h : listErr lo hi true l = 0) : l.Pairwise (· < ·) := by
  rw [List.pairwise_iff_getElem]
  intro a b ha hb hab
  have := rise_lt h b a hab hb
  rwa [List.getD_eq_getElem?_getD, List.getD_eq_getElem?_getD, List.getElem?_eq_getElem ha, List.getElem?_eq_getElem hb] at this
theorem listErr_of {lo hi : Int} {o : Bool} {l : List Int} (h1 : allIn lo hi l) (h2 : o = true → l.Pairwise (· < ·)) : listErr lo hi o l = 0 := by
  refine listErr_zero.2 fun j hj => ?_
  have hx : l[j]? = some l[j] := List.getElem?_eq_getElem hj
  unfold leAt
  rw [getD_at hx]
  rw [if_neg (Classical.not_not.2 (h1 _ (List.getElem_mem hj))), if_neg]
  rintro ⟨ho, h0, hle⟩
  have hp := List.pairwise_iff_getElem.1 (h2 ho) (j - 1) j (by omega) hj (by omega)
  have hy : l[j - 1]? = some l[j - 1] := List.getElem?_eq_getElem (by omega)
  rw [getD_at hy] at hle
  omega
theorem numsD_map (w d d' : Int) (l : List Int) : numsD d (l.map (mkB w d')) = if d' = d then l else [] := by
  unfold numsD mkB
  rw [List.filter_map, List.map_map]
  by_cases h : d' = d
  · rw [if_pos h]
    have : (l.filter ((fun b : Ball => decide (b.drum = d)) ∘ fun n => (⟨w, d', n⟩ : Ball))) = l := List.filter_eq_self.2 fun x _ => by simp [h]
    rw [this]
    exact List.map_id' l
  · rw [if_neg h]
    have : (l.filter ((fun b : Ball => decide (b.drum = d)) ∘ fun n => (⟨w, d', n⟩ : Ball))) = [] := List.filter_eq_nil_iff.2 fun x _ => by simp [h]
    rw [this]; rfl
theorem numsD_append (d : Int) (a b : List Ball) : numsD d (a ++ b) = numsD d a ++ numsD d b := by
  unfold numsD; rw [List.filter_append, List.map_append]
theorem numsD_pref (w : Int) (r : Res) : numsD 1 (prefB w r 3) = r.main ∧ numsD 2 (prefB w r 3) = r.bonus ∧ numsD 3 (prefB w r 3) = r.extra := by
  rw [prefB3]
  simp [numsD_append, numsD_map]
theorem pref_ok {g : Game} {r : Res} (w : Int) (h0 : gameErr g = 0) (hn : NumsOk g r) : BallsOk g (prefB w r 3) := by
  obtain ⟨e1, e2, e3⟩ := numsD_pref w r
  have hmx := (gameOk h0).mx
  have m1 := hn.ml
  have m2 := hn.bl
  have m3 := hn.xl
  refine ⟨fun b hb => ?_, fun hk => ?_, ?_⟩
  · rw [prefB3] at hb
    rcases List.mem_append.1 hb with hb | hb
    · rcases List.mem_append.1 hb with hb | hb
      · obtain ⟨n, hx, rfl⟩ := List.mem_map.1 hb
        by_cases hk : g.kind = 2
        · have := listErr_in (hn.dm hk) n hx
          exact .inl ⟨hk, rfl, this.1, by show n < g.of; omega⟩
        · have := listErr_in (hn.cm hk) n hx
          exact .inr ⟨hk, .inl ⟨.inl rfl, this⟩⟩
      · obtain ⟨n, hx, rfl⟩ := List.mem_map.1 hb
        by_cases hk : g.kind = 2
        · have h1 := hmx.h6 hk
          have h2 := List.length_pos_of_mem hx
          omega
        · have := listErr_in (hn.cb hk) n hx
          exact .inr ⟨hk, .inr ⟨rfl, this⟩⟩
    · obtain ⟨n, hx, rfl⟩ := List.mem_map.1 hb
      by_cases hk : g.kind = 2
      · have h1 := hmx.h11 hk
        have h2 := List.length_pos_of_mem hx
        omega
      · have := listErr_in (hn.cx hk) n hx
        exact .inr ⟨hk, .inl ⟨.inr rfl, this⟩⟩
  · have hk2 : g.kind ≠ 2 := by omega
    rw [prefB3, List.pairwise_append, List.pairwise_append]
    have pm : ∀ {d : Int} {l : List Int}, l.Pairwise (· < ·) → (l.map (mkB w d)).Pairwise fun a b => ¬ repB a b := fun {d l} hl => by
      rw [List.pairwise_map]
      exact hl.imp fun {a b} hab hr => by have := hr.1; unfold mkB at this; simp only at this; omega
    refine ⟨⟨pm (rise_pair (hn.cm hk2)), pm (rise_pair (hn.cb hk2)), fun a ha b hb hr => ?_⟩, pm (rise_pair (hn.cx hk2)), fun a ha b hb hr => ?_⟩
    · obtain ⟨n, hx, rfl⟩ := List.mem_map.1 ha
      obtain ⟨k, hy, rfl⟩ := List.mem_map.1 hb
      exact absurd (hr.2.2 rfl) (by show ¬ (1 : Int) = 2; decide)
    · obtain ⟨k, hy, rfl⟩ := List.mem_map.1 hb
      rcases List.mem_append.1 ha with ha | ha
      · obtain ⟨n, hx, rfl⟩ := List.mem_map.1 ha
        have e : n = k := hr.1
        exact hn.ap hk2 k hy (e ▸ hx)
      · obtain ⟨n, hx, rfl⟩ := List.mem_map.1 ha
        exact absurd (hr.2.1 rfl) (by show ¬ (3 : Int) = 2; decide)
  · unfold fullB cntD
    rw [e1, e2, e3]
    exact ⟨m1, m2, m3⟩
theorem outE_ok {g : Game} {w : Int} {r : Res} (h : outE g w r = 0) : ResOk g r := by
  unfold outE at h
  by_cases h1 : gameErr g ≠ 0
  · rw [if_pos h1] at h; exact absurd h h1
  · rw [if_neg h1] at h
    by_cases h2 : ¬ (1 ≤ w ∧ w ≤ 8)
    · rw [if_pos h2] at h; exact absurd h (by decide)
    · rw [if_neg h2] at h; exact resOk h
theorem pref_mech {g : Game} {w : Int} {r : Res} (h : outE g w r = 0) : mechE g (outB g w r) = 0 ∧ mechO g (outB g w r) = (r.main, r.bonus, r.extra) := by
  have ro := outE_ok h
  have ho : outB g w r = prefB w r 3 := by unfold outB; rw [if_neg (by rw [h]; decide)]
  have hb := ballsOk_iff.2 (pref_ok w ro.g0 ro.nu)
  have he : mechE g (prefB w r 3) = 0 := by unfold mechE; rw [if_neg (by rw [ro.g0]; decide)]; exact hb
  obtain ⟨e1, e2, e3⟩ := numsD_pref w r
  rw [ho]
  refine ⟨he, ?_⟩
  unfold mechO
  rw [if_neg (by rw [he]; decide)]
  by_cases hk : g.kind = 1
  · have hk2 : g.kind ≠ 2 := by omega
    have le : ∀ {l : List Int}, l.Pairwise (· < ·) → l.mergeSort leI = l := fun {l} hl => srt_of (hl.imp fun {a b} hab => by omega) (.refl _)
    rw [if_pos hk]
    unfold srtO
    rw [e1, e2, e3, le (rise_pair (ro.nu.cm hk2)), le (rise_pair (ro.nu.cb hk2)), le (rise_pair (ro.nu.cx hk2))]
  · rw [if_neg hk]
    unfold rawO
    rw [e1, e2, e3]

end Go.Proofs.Ytnpnleapnbdllaa

