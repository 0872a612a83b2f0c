/- lotterylaw29: MechanicalResults, MechanicalFits. -/
import Derived.Test.YtnpnleapnbdllaaMecD
namespace Go.Proofs.Ytnpnleapnbdllaa
open Eng


theorem numsD_rev (d : Int) (l : List Ball) : numsD d l.reverse = (numsD d l).reverse := by
  unfold numsD; rw [List.filter_reverse, List.map_reverse]
theorem rev_ok {g : Game} {l : List Ball} (h : BallsOk g l) : BallsOk g l.reverse := by
  refine ⟨fun b hb => h.inn b (List.mem_reverse.1 hb), fun hk => ?_, ?_⟩
  · rw [List.pairwise_reverse]
    exact (h.dif hk).imp fun {a b} hab hr => hab (repB_symm hr)
  · have hf := h.full
    unfold fullB cntD at *
    rw [numsD_rev, numsD_rev, numsD_rev, List.length_reverse, List.length_reverse, List.length_reverse]
    exact hf
theorem mech_zero {g : Game} {l : List Ball} (h : mechE g l = 0) : gameErr g = 0 ∧ BallsOk g l := by
  unfold mechE at h
  by_cases h1 : gameErr g ≠ 0
  · rw [if_pos h1] at h; exact absurd h h1
  · rw [if_neg h1] at h
    exact ⟨Classical.not_not.1 h1, ballsOk_iff.1 h⟩
theorem mech_rev {g : Game} {l : List Ball} (h : mechE g l = 0) : mechE g l.reverse = 0 := by
  obtain ⟨h1, h2⟩ := mech_zero h
  unfold mechE
  rw [if_neg (by rw [h1]; decide)]
  exact ballsOk_iff.2 (rev_ok h2)
theorem mechO_rev {g : Game} {l : List Ball} (h : mechE g l = 0) (hk : g.kind = 1) : mechO g l.reverse = mechO g l := by
  have e1 : mechO g l.reverse = srtO l.reverse := by unfold mechO; rw [if_neg (by rw [mech_rev h]; decide), if_pos hk]
  have e2 : mechO g l = srtO l := by unfold mechO; rw [if_neg (by rw [h]; decide), if_pos hk]
  rw [e1, e2]
  unfold srtO
  have e : ∀ d, (numsD d l.reverse).mergeSort leI = (numsD d l).mergeSort leI := fun d => mergeSort_of_perm_i (by rw [numsD_rev]; exact List.reverse_perm _)
  rw [e, e, e]
theorem pair_any {α : Type} {R : α → α → Prop} (hs : ∀ a b, R a b → R b a) : ∀ {l : List α}, l.Pairwise R → ∀ {a b}, a ∈ l → b ∈ l → a ≠ b → R a b
  | x :: l, h, a, b, ha, hb, hab => by
    rw [List.pairwise_cons] at h
    rcases List.mem_cons.1 ha with ea | ha'
    · rcases List.mem_cons.1 hb with eb | hb'
      · exact absurd (ea.trans eb.symm) hab
      · rw [ea]; exact h.1 b hb'
    · rcases List.mem_cons.1 hb with eb | hb'
      · rw [eb]; exact hs _ _ (h.1 a ha')
      · exact pair_any hs h.2 ha' hb' hab
theorem nodup_nums {l : List Ball} (h : l.Pairwise fun a b => ¬ repB a b) (d : Int) : (numsD d l).Nodup := by
  unfold numsD
  show List.Pairwise _ _
  rw [List.pairwise_map, List.pairwise_filter]
  refine h.imp fun {a b} hab ha hb e => hab ⟨e, ?_⟩
  simp only [decide_eq_true_eq] at ha hb
  rw [ha, hb]
theorem sort_lt {l : List Int} (h : l.Nodup) : (l.mergeSort leI).Pairwise (· < ·) := by
  have tr : ∀ a b c : Int, leI a b = true → leI b c = true → leI a c = true := fun a b c h1 h2 => by simp only [leI, decide_eq_true_eq] at *; exact Int.le_trans h1 h2
  have to : ∀ a b : Int, (leI a b || leI b a) = true := fun a b => by simp only [leI, Bool.or_eq_true, decide_eq_true_eq]; exact Int.le_total a b
  have h1 := List.pairwise_mergeSort tr to l
  have h2 : (l.mergeSort leI).Nodup := (List.mergeSort_perm l leI).nodup_iff.2 h
  exact (h1.and h2).imp fun {a b} ⟨h3, h4⟩ => by simp only [leI, decide_eq_true_eq] at h3; omega
theorem fits_ok {g : Game} {l : List Ball} {x : Res} (h : mechE g l = 0) (ho : OutIs x (mechO g l).1 (mechO g l).2.1 (mechO g l).2.2) : resErr g x = 0 := by
  obtain ⟨h0, hb⟩ := mech_zero h
  have hgo := gameOk h0
  obtain ⟨f1, f2, f3⟩ := hb.full
  have hxt : xtraErr g x = 0 := by
    unfold xtraErr
    rw [if_neg (fun hh => hh.1 ho.fc)]
    exact if_pos ho.sr
  refine resErr_of ⟨h0, ?_, hxt⟩
  by_cases hk : g.kind = 1
  · have hO : mechO g l = srtO l := by unfold mechO; rw [if_neg (by rw [h]; decide), if_pos hk]
    rw [hO] at ho
    have hk2 : g.kind ≠ 2 := by omega
    have e1 : x.main = (numsD 1 l).mergeSort leI := ho.mn
    have e2 : x.bonus = (numsD 2 l).mergeSort leI := ho.bn
    have e3 : x.extra = (numsD 3 l).mergeSort leI := ho.xn
    have hd := hb.dif hk
    have rng : ∀ d lo hi, (∀ b ∈ l, b.drum = d → lo ≤ b.num ∧ b.num ≤ hi) → allIn lo hi ((numsD d l).mergeSort leI) := fun d lo hi hh n hn => by
      obtain ⟨b, hbm, hbd, rfl⟩ := mem_numsD.1 ((List.mergeSort_perm _ leI).mem_iff.1 hn)
      exact hh b hbm hbd
    have ln : ∀ d, ((numsD d l).mergeSort leI).length = cntD d l := fun d => (List.mergeSort_perm _ leI).length_eq
    refine ⟨by rw [e1, ln]; exact f1, by rw [e2, ln]; exact f2, by rw [e3, ln]; exact f3, fun h => absurd h hk2, fun _ => ?_, fun _ => ?_, fun _ => ?_, fun _ z hz hz2 => ?_⟩
    · rw [e1]; exact listErr_of (rng 1 1 g.of fun b hbm hbd => by have := hb.inn b hbm; unfold inB at this; omega) fun _ => sort_lt (nodup_nums hd 1)
    · rw [e2]; exact listErr_of (rng 2 1 g.bonusOf fun b hbm hbd => by have := hb.inn b hbm; unfold inB at this; omega) fun _ => sort_lt (nodup_nums hd 2)
    · rw [e3]; exact listErr_of (rng 3 1 g.of fun b hbm hbd => by have := hb.inn b hbm; unfold inB at this; omega) fun _ => sort_lt (nodup_nums hd 3)
    · rw [e3] at hz
      rw [e1] at hz2
      obtain ⟨a, ham, had, ha⟩ := mem_numsD.1 ((List.mergeSort_perm _ leI).mem_iff.1 hz)
      obtain ⟨b, hbm, hbd, hbn⟩ := mem_numsD.1 ((List.mergeSort_perm _ leI).mem_iff.1 hz2)
      exact pair_any (fun a b hab hr => hab (repB_symm hr)) hd ham hbm (fun e => by rw [e] at had; omega) ⟨by omega, by omega⟩
  · have hO : mechO g l = rawO l := by unfold mechO; rw [if_neg (by rw [h]; decide), if_neg hk]
    rw [hO] at ho
    have hk2 : g.kind = 2 := by have := hgo.kind; omega
    have e1 : x.main = numsD 1 l := ho.mn
    have e2 : x.bonus = numsD 2 l := ho.bn
    have e3 : x.extra = numsD 3 l := ho.xn
    refine ⟨by rw [e1]; exact f1, by rw [e2]; exact f2, by rw [e3]; exact f3, fun _ => ?_, fun h => absurd hk2 h, fun h => absurd hk2 h, fun h => absurd hk2 h, fun h => absurd hk2 h⟩
    rw [e1]
    refine listErr_of (fun n hn => ?_) fun h => Bool.noConfusion h
    obtain ⟨b, hbm, hbd, rfl⟩ := mem_numsD.1 hn
    have := hb.inn b hbm
    unfold inB at this
    omega
theorem rev_snoc {α : Type} {l : List α} {k : Nat} {b : α} (hk : k < l.length) (h : l[l.length - 1 - k]? = some b) : l.reverse.take (k + 1) = l.reverse.take k ++ [b] := by
  refine take_snocA ?_
  rw [List.getElem?_reverse hk]; exact h
theorem r_room {l : List Ball} (hl : l.length ≤ 400) (k : Nat) : (((l.reverse.take k).flatMap Ball.enc).length + 1 * 3) * 24 ≤ 140737488355328 * 3 := by
  rw [flatMap_len Ball.enc_len, List.length_take, List.length_reverse]; omega


end Go.Proofs.Ytnpnleapnbdllaa

