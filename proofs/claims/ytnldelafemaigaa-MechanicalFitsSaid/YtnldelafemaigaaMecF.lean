/- lotterylaw29: MechanicalResults, MechanicalFits. -/
import Derived.Test.YtnldelafemaigaaMecD
namespace Go.Proofs.Ytnldelafemaigaa
open Eng

set_option maxRecDepth 100000 in
theorem lawMechResults {m : Mem} {g : Game} {r : Res} (hin : g.In m) (w : Int) (hr : r.In m) (hs : r.serial.size ≤ 9223372036854775807) : CallsS Try.prog 8 [g.val, .int .i64 w, r.val].toArray [] m fun r _ _ => r = .bool true := by
  dsimp only [Game.val, Res.val]
  refine enter Try.func8 Try.ntmps8 rfl rfl ?_
  refine SWP_seq ?_
  refine SWP_region ?_
  refine bx (v := .agg _) rfl rfl (fun B3 => ?_)
  refine bx (v := .agg _) rfl rfl (fun B5 => ?_)
  refine pB rfl rfl ?_
  refine SL_nil ?_
  refine nx ?_
  refine SWP_seq ?_
  refine SWP_region ?_
  refine lw (v := .agg _) B3 0 rfl rfl rfl rfl ?_
  first | refine pI rfl rfl ?_ | refine pu rfl rfl ?_
  refine lw (v := .agg _) B5 0 rfl rfl rfl rfl ?_
  refine SL_call rfl rfl cb20 (CallsS.frame0 (ballsI hin w hr hs)) rfl (fun v1_3 σ1_3 m1_3 hl1_3 hR1_3 => ?_)
  obtain ⟨σa, rfl, rfl, va, rfl, ha⟩ := hR1_3
  refine pu rfl rfl ?_
  first | refine pL rfl rfl ?_ | refine pu rfl rfl ?_
  first | refine pI rfl rfl ?_ | refine pu rfl rfl ?_
  first | refine pL rfl rfl ?_ | refine pu rfl rfl ?_
  first | refine pI rfl rfl ?_ | refine pu rfl rfl ?_
  refine SL_nil ?_
  refine nx ?_
  refine SWP_seq ?_
  refine SWP_seq ?_
  refine SWP_region ?_
  first | refine pI rfl rfl ?_ | refine pu rfl rfl ?_
  refine pc rfl rfl (fun c19 => ?_) (fun c19 => ?_)
  · skip
    refine SL_nil ?_
    refine nx ?_
    refine SWP_ct rfl ?_
    refine SWP_seq ?_
    refine SWP_region ?_
    refine SL_pcall rfl rfl cb15 (lives9) rfl ?_
    first | refine pB rfl rfl ?_ | refine pu rfl rfl ?_
    refine SL_nil ?_
    refine nx ?_
    refine SWP_ret ?_
    refine nr ?_
    refine fin [_] ⟨rfl, trivial⟩ ?_
    rfl
  refine SL_nil ?_
  refine nx ?_
  refine SWP_cf rfl ?_
  refine SWP_skip ?_
  refine nx ?_
  refine SWP_seq ?_
  refine SWP_region ?_
  refine lw (v := .agg _) B3 0 rfl rfl rfl rfl ?_
  first | refine pL rfl rfl ?_ | refine pu rfl rfl ?_
  refine SL_call rfl rfl cb16 (CallsS.frame0 (resultI (hin.mono hl1_3) ha (outB_len g w r))) rfl (fun v4_2 σ4_2 m4_2 hl4_2 hR4_2 => ?_)
  obtain ⟨σb, rfl, rfl, x, rfl, hx, ox⟩ := hR4_2
  have hz : outE g w r = 0 := Classical.not_not.1 (by assumption)
  rw [(pref_mech hz).2] at ox
  rw [(pref_mech hz).1]
  dsimp only [Res.val]
  refine pu rfl rfl ?_
  first | refine pA rfl rfl ?_ | refine pu rfl rfl ?_
  first | refine pI rfl rfl ?_ | refine pu rfl rfl ?_
  refine al rfl rfl (fun B9 => ?_)
  refine sw (v := .agg _) B9 0 rfl rfl rfl rfl rfl rfl rfl ?_
  first | refine pI rfl rfl ?_ | refine pu rfl rfl ?_
  refine SL_nil ?_
  refine nx ?_
  refine SWP_seq ?_
  refine SWP_region ?_
  refine pu rfl rfl ?_
  refine sw (v := .int .i64 _) B5 3 rfl rfl rfl rfl rfl rfl rfl ?_
  refine SL_nil ?_
  refine nx ?_
  refine SWP_seq ?_
  refine SWP_region ?_
  refine pu rfl rfl ?_
  refine sw (v := .string _) B5 4 rfl rfl rfl rfl rfl rfl rfl ?_
  refine SL_nil ?_
  refine nx ?_
  refine SWP_seq ?_
  refine SWP_region ?_
  first | refine pI rfl rfl ?_ | refine pu rfl rfl ?_
  refine pt rfl rfl (rfl) ?_
  refine pB rfl rfl ?_
  refine SL_yes rfl ?_
  refine lw (v := .agg _) B9 0 rfl rfl rfl rfl ?_
  refine SL_yes rfl ?_
  refine lw (v := .agg _) B5 0 rfl rfl rfl rfl ?_
  refine SL_yes rfl ?_
  refine SL_pcall rfl rfl cb18 (sameF (a := x) (b := { r with factor := 0, serial := ⟨#[]⟩ }) hx ((fun (h : r.In _) => (⟨h.mn, h.bn, h.xn⟩ : Res.In _ { r with factor := 0, serial := ⟨#[]⟩ })) (hr.mono (hl1_3.trans hl4_2)))) rfl ?_
  rw [decide_eq_true (show sameR x { r with factor := 0, serial := ⟨#[]⟩ } from ⟨ox.mn, ox.bn, ox.xn, ox.fc, ox.sr⟩)]
  refine pB rfl rfl ?_
  refine pB rfl rfl ?_
  refine SL_yes rfl ?_
  refine SL_pcall rfl rfl cb15 (lives9) rfl ?_
  refine pB rfl rfl ?_
  refine pB rfl rfl ?_
  refine SL_nil ?_
  refine nx ?_
  refine SWP_ret ?_
  refine fin [_] ⟨rfl, trivial⟩ ?_
  rfl

theorem numsD_rev (d : Int) (l : List Ball) : numsD d l.reverse = (numsD d l).reverse := by
  unfold numsD; rw [List.filter_reverse, List.map_reverse]
theorem rev_ok {g : Game} {l : List Ball} (h : BallsOk g l) : BallsOk g l.reverse := by
  refine ⟨fun b hb => h.inn b (List.mem_reverse.1 hb), fun hk => ?_, ?_⟩
  · rw [List.pairwise_reverse]
    exact (h.dif hk).imp fun {a b} hab hr => hab (repB_symm hr)
  · have hf := h.full
    unfold fullB cntD at *
    rw [numsD_rev, numsD_rev, numsD_rev, List.length_reverse, List.length_reverse, List.length_reverse]
    exact hf
theorem mech_zero {g : Game} {l : List Ball} (h : mechE g l = 0) : gameErr g = 0 ∧ BallsOk g l := by
  unfold mechE at h
  by_cases h1 : gameErr g ≠ 0
  · rw [if_pos h1] at h; exact absurd h h1
  · rw [if_neg h1] at h
    exact ⟨Classical.not_not.1 h1, ballsOk_iff.1 h⟩
theorem mech_rev {g : Game} {l : List Ball} (h : mechE g l = 0) : mechE g l.reverse = 0 := by
  obtain ⟨h1, h2⟩ := mech_zero h
  unfold mechE
  rw [if_neg (by rw [h1]; decide)]
  exact ballsOk_iff.2 (rev_ok h2)
theorem mechO_rev {g : Game} {l : List Ball} (h : mechE g l = 0) (hk : g.kind = 1) : mechO g l.reverse = mechO g l := by
  have e1 : mechO g l.reverse = srtO l.reverse := by unfold mechO; rw [if_neg (by rw [mech_rev h]; decide), if_pos hk]
  have e2 : mechO g l = srtO l := by unfold mechO; rw [if_neg (by rw [h]; decide), if_pos hk]
  rw [e1, e2]
  unfold srtO
  have e : ∀ d, (numsD d l.reverse).mergeSort leI = (numsD d l).mergeSort leI := fun d => mergeSort_of_perm_i (by rw [numsD_rev]; exact List.reverse_perm _)
  rw [e, e, e]
theorem pair_any {α : Type} {R : α → α → Prop} (hs : ∀ a b, R a b → R b a) : ∀ {l : List α}, l.Pairwise R → ∀ {a b}, a ∈ l → b ∈ l → a ≠ b → R a b
  | x :: l, h, a, b, ha, hb, hab => by
    rw [List.pairwise_cons] at h
    rcases List.mem_cons.1 ha with ea | ha'
    · rcases List.mem_cons.1 hb with eb | hb'
      · exact absurd (ea.trans eb.symm) hab
      · rw [ea]; exact h.1 b hb'
    · rcases List.mem_cons.1 hb with eb | hb'
      · rw [eb]; exact hs _ _ (h.1 a ha')
      · exact pair_any hs h.2 ha' hb' hab
theorem nodup_nums {l : List Ball} (h : l.Pairwise fun a b => ¬ repB a b) (d : Int) : (numsD d l).Nodup := by
  unfold numsD
  show List.Pairwise _ _
  rw [List.pairwise_map, List.pairwise_filter]
  refine h.imp fun {a b} hab ha hb e => hab ⟨e, ?_⟩
  simp only [decide_eq_true_eq] at ha hb
  rw [ha, hb]
theorem sort_lt {l : List Int} (h : l.Nodup) : (l.mergeSort leI).Pairwise (· < ·) := by
  have tr : ∀ a b c : Int, leI a b = true → leI b c = true → leI a c = true := fun a b c h1 h2 => by simp only [leI, decide_eq_true_eq] at *; exact Int.le_trans h1 h2
  have to : ∀ a b : Int, (leI a b || leI b a) = true := fun a b => by simp only [leI, Bool.or_eq_true, decide_eq_true_eq]; exact Int.le_total a b
  have h1 := List.pairwise_mergeSort tr to l
  have h2 : (l.mergeSort leI).Nodup := (List.mergeSort_perm l leI).nodup_iff.2 h
  exact (h1.and h2).imp fun {a b} ⟨h3, h4⟩ => by simp only [leI, decide_eq_true_eq] at h3; omega
theorem fits_ok {g : Game} {l : List Ball} {x : Res} (h : mechE g l = 0) (ho : OutIs x (mechO g l).1 (mechO g l).2.1 (mechO g l).2.2) : resErr g x = 0 := by
  obtain ⟨h0, hb⟩ := mech_zero h
  have hgo := gameOk h0
  obtain ⟨f1, f2, f3⟩ := hb.full
  have hxt : xtraErr g x = 0 := by
    unfold xtraErr
    rw [if_neg (fun hh => hh.1 ho.fc)]
    exact if_pos ho.sr
  refine resErr_of ⟨h0, ?_, hxt⟩
  by_cases hk : g.kind = 1
  · have hO : mechO g l = srtO l := by unfold mechO; rw [if_neg (by rw [h]; decide), if_pos hk]
    rw [hO] at ho
    have hk2 : g.kind ≠ 2 := by omega
    have e1 : x.main = (numsD 1 l).mergeSort leI := ho.mn
    have e2 : x.bonus = (numsD 2 l).mergeSort leI := ho.bn
    have e3 : x.extra = (numsD 3 l).mergeSort leI := ho.xn
    have hd := hb.dif hk
    have rng : ∀ d lo hi, (∀ b ∈ l, b.drum = d → lo ≤ b.num ∧ b.num ≤ hi) → allIn lo hi ((numsD d l).mergeSort leI) := fun d lo hi hh n hn => by
      obtain ⟨b, hbm, hbd, rfl⟩ := mem_numsD.1 ((List.mergeSort_perm _ leI).mem_iff.1 hn)
      exact hh b hbm hbd
    have ln : ∀ d, ((numsD d l).mergeSort leI).length = cntD d l := fun d => (List.mergeSort_perm _ leI).length_eq
    refine ⟨by rw [e1, ln]; exact f1, by rw [e2, ln]; exact f2, by rw [e3, ln]; exact f3, fun h => absurd h hk2, fun _ => ?_, fun _ => ?_, fun _ => ?_, fun _ z hz hz2 => ?_⟩
    · rw [e1]; exact listErr_of (rng 1 1 g.of fun b hbm hbd => by have := hb.inn b hbm; unfold inB at this; omega) fun _ => sort_lt (nodup_nums hd 1)
    · rw [e2]; exact listErr_of (rng 2 1 g.bonusOf fun b hbm hbd => by have := hb.inn b hbm; unfold inB at this; omega) fun _ => sort_lt (nodup_nums hd 2)
    · rw [e3]; exact listErr_of (rng 3 1 g.of fun b hbm hbd => by have := hb.inn b hbm; unfold inB at this; omega) fun _ => sort_lt (nodup_nums hd 3)
    · rw [e3] at hz
      rw [e1] at hz2
      obtain ⟨a, ham, had, ha⟩ := mem_numsD.1 ((List.mergeSort_perm _ leI).mem_iff.1 hz)
      obtain ⟨b, hbm, hbd, hbn⟩ := mem_numsD.1 ((List.mergeSort_perm _ leI).mem_iff.1 hz2)
      exact pair_any (fun a b hab hr => hab (repB_symm hr)) hd ham hbm (fun e => by rw [e] at had; omega) ⟨by omega, by omega⟩
  · have hO : mechO g l = rawO l := by unfold mechO; rw [if_neg (by rw [h]; decide), if_neg hk]
    rw [hO] at ho
    have hk2 : g.kind = 2 := by have := hgo.kind; omega
    have e1 : x.main = numsD 1 l := ho.mn
    have e2 : x.bonus = numsD 2 l := ho.bn
    have e3 : x.extra = numsD 3 l := ho.xn
    refine ⟨by rw [e1]; exact f1, by rw [e2]; exact f2, by rw [e3]; exact f3, fun _ => ?_, fun h => absurd hk2 h, fun h => absurd hk2 h, fun h => absurd hk2 h, fun h => absurd hk2 h⟩
    rw [e1]
    refine listErr_of (fun n hn => ?_) fun h => Bool.noConfusion h
    obtain ⟨b, hbm, hbd, rfl⟩ := mem_numsD.1 hn
    have := hb.inn b hbm
    unfold inB at this
    omega
theorem rev_snoc {α : Type} {l : List α} {k : Nat} {b : α} (hk : k < l.length) (h : l[l.length - 1 - k]? = some b) : l.reverse.take (k + 1) = l.reverse.take k ++ [b] := by
  refine take_snocA ?_
  rw [List.getElem?_reverse hk]; exact h
theorem r_room {l : List Ball} (hl : l.length ≤ 400) (k : Nat) : (((l.reverse.take k).flatMap Ball.enc).length + 1 * 3) * 24 ≤ 140737488355328 * 3 := by
  rw [flatMap_len Ball.enc_len, List.length_take, List.length_reverse]; omega

set_option maxRecDepth 100000 in
theorem lawMechFits {m : Mem} {g : Game} {v : Value} {l : List Ball} (hin : g.In m) (h : RL m Ball.enc 3 v l) : CallsS Try.prog 6 [g.val, v].toArray [] m fun r _ _ => r = .bool true := by
  dsimp only [Game.val]
  obtain ⟨pa, pcap, rfl⟩ := h.len
  refine enter Try.func6 Try.ntmps6 rfl rfl ?_
  refine SWP_seq ?_
  refine SWP_region ?_
  refine bx (v := .agg _) rfl rfl (fun B2 => ?_)
  refine pB rfl rfl ?_
  refine SL_nil ?_
  refine nx ?_
  refine SWP_seq ?_
  refine SWP_seq ?_
  refine SWP_region ?_
  first | refine pL rfl rfl ?_ | refine pu rfl rfl ?_
  refine pu rfl rfl ?_
  refine pc rfl rfl (fun c13 => ?_) (fun c13 => ?_)
  · skip
    refine SL_nil ?_
    refine nx ?_
    refine SWP_ct rfl ?_
    refine SWP_seq ?_
    refine SWP_region ?_
    refine SL_pcall rfl rfl cb15 (lives9) rfl ?_
    first | refine pB rfl rfl ?_ | refine pu rfl rfl ?_
    refine SL_nil ?_
    refine nx ?_
    refine SWP_ret ?_
    refine nr ?_
    refine fin [_] ⟨rfl, trivial⟩ ?_
    rfl
  refine SL_nil ?_
  refine nx ?_
  refine SWP_cf rfl ?_
  refine SWP_skip ?_
  refine nx ?_
  refine SWP_seq ?_
  refine SWP_region ?_
  refine lw (v := .agg _) B2 0 rfl rfl rfl rfl ?_
  first | refine pL rfl rfl ?_ | refine pu rfl rfl ?_
  refine SL_call rfl rfl cb16 (CallsS.frame0 (resultI hin h (by omega))) rfl (fun v3_2 σ3_2 m3_2 hl3_2 hR3_2 => ?_)
  obtain ⟨σa, rfl, rfl, x, rfl, hx, ox⟩ := hR3_2
  dsimp only [Res.val]
  refine pu rfl rfl ?_
  first | refine pA rfl rfl ?_ | refine pu rfl rfl ?_
  first | refine pI rfl rfl ?_ | refine pu rfl rfl ?_
  refine al rfl rfl (fun B5 => ?_)
  refine sw (v := .agg _) B5 0 rfl rfl rfl rfl rfl rfl rfl ?_
  first | refine pI rfl rfl ?_ | refine pu rfl rfl ?_
  refine SL_nil ?_
  refine nx ?_
  refine SWP_seq ?_
  refine SWP_seq ?_
  refine SWP_region ?_
  first | refine pI rfl rfl ?_ | refine pu rfl rfl ?_
  refine pc rfl rfl (fun c22 => ?_) (fun c22 => ?_)
  · skip
    refine SL_nil ?_
    refine nx ?_
    refine SWP_ct rfl ?_
    refine SWP_seq ?_
    refine SWP_region ?_
    refine SL_pcall rfl rfl cb15 (lives9) rfl ?_
    first | refine pB rfl rfl ?_ | refine pu rfl rfl ?_
    refine SL_nil ?_
    refine nx ?_
    refine SWP_ret ?_
    refine nr ?_
    refine fin [_] ⟨rfl, trivial⟩ ?_
    rfl
  refine SL_nil ?_
  refine nx ?_
  refine SWP_cf rfl ?_
  refine SWP_skip ?_
  refine nx ?_
  refine SWP_seq ?_
  refine SWP_seq ?_
  refine SWP_region ?_
  refine lw (v := .agg _) B2 0 rfl rfl rfl rfl ?_
  refine lw (v := .agg _) B5 0 rfl rfl rfl rfl ?_
  refine SL_pcall rfl rfl cb19 (resI (hin.mono hl3_2) hx (by rw [ox.sr]; decide)) rfl ?_
  rw [fits_ok (Classical.not_not.1 (by assumption : ¬ mechE g l ≠ 0)) ox]
  refine pn rfl rfl (by decide) ?_
  refine SL_nil ?_
  refine nx ?_
  refine SWP_cf rfl ?_
  refine SWP_skip ?_
  refine nx ?_
  refine SWP_seq ?_
  refine SWP_region ?_
  refine pL rfl rfl ?_
  refine SL_nil ?_
  refine nx ?_
  refine SWP_seq ?_
  refine SWP_seq ?_
  refine SWP_region ?_
  first | refine pL rfl rfl ?_ | refine pu rfl rfl ?_
  refine pu rfl rfl ?_
  first | refine pw rfl rfl (w64 (by omega) (by omega)) ?_ | refine pu rfl rfl ?_
  refine pI rfl rfl ?_
  refine SL_nil ?_
  refine nx ?_
  refine SWP_block ?_
  refine SWP_loop [7, 8, 31, 32, 33, 34, 35, 36, 37, 38, 39, 40, 41] [7, 8]
      (fun vs σ' m' => ∃ (k : Nat) (z : Int) (v : Value) (σ1 : Sig), vs = [v, .int .i64 z] ∧ k ≤ l.length ∧ z = (l.length : Int) - 1 - (k : Nat) ∧ OwnS 30 3 v ((l.reverse.take k).flatMap Ball.enc) σ1 ∧ σ' = σ1 ++ [(B5, Cells 37 x.enc), (B2, Cells 35 g.enc)] ∧ m3_2 = m')
      (fun vs => (match vs.getD 1 undef with | .int _ n => (n + 1).toNat | _ => 0)) rfl ?_ ?_
  · exact ⟨0, _, _, [], rfl, by omega, by omega, .nil, rfl, rfl⟩
  intro u0 vs0 σ0 m0 hJ0 _
  obtain ⟨k, z, v, σ1, rfl, hk, hz9, hown, rfl, rfl⟩ := hJ0
  refine SWP_seq ?_
  refine SWP_seq ?_
  refine SWP_region ?_
  first | refine pI rfl rfl ?_ | refine pu rfl rfl ?_
  refine pc rfl rfl (fun c32 => ?_) (fun c32 => ?_)
  · skip
    refine SL_nil ?_
    refine nx ?_
    refine SWP_ct rfl ?_
    refine SWP_skip ?_
    refine nx ?_
    refine SWP_seq ?_
    refine SWP_block ?_
    obtain rfl : z = ((l.length - 1 - k : Nat) : Int) := by omega
    obtain ⟨b, hb⟩ : ∃ b, l[l.length - 1 - k]? = some b := ⟨_, List.getElem?_eq_getElem (by omega)⟩
    obtain ⟨ad, e1, _, hat⟩ := (h.mono hl3_2).atA Ball.enc_len hb
    refine SWP_region ?_
    first | refine pL rfl rfl ?_ | refine pu rfl rfl ?_
    first | refine pL rfl rfl ?_ | refine pu rfl rfl ?_
    first | refine pI rfl rfl ?_ | refine pu rfl rfl ?_
    rw [e1]
    refine ia (es := 3) rfl rfl rfl rfl rfl rfl (by omega) rfl ?_
    rw [← e1]
    refine ldA (v := .agg _) rfl (by assumption) rfl rfl ?_
    refine bs rfl rfl rfl rfl rfl (fun B40 => ?_)
    refine ap (e := 30) (size := 3) (bytes := 24) rfl rfl rfl rfl rfl rfl rfl hown (permX [_] σ1 _) rfl (Rd.of_cells (.head _)) rfl rfl (r_room (by omega) k) rfl rfl (fun v41 σ41 hown41 => ?_)
    refine SL_weak (List.Sublist.append_left (List.sublist_cons_self _ _) _) ?_
    have hown9 : OwnS 30 3 v41 ((l.reverse.take (k + 1)).flatMap Ball.enc) σ41 := by
      rw [rev_snoc (by omega) hb, List.flatMap_append]
      exact hown41
    first | refine pL rfl rfl ?_ | refine pu rfl rfl ?_
    refine SL_nil ?_
    refine nb ?_
    refine nx ?_
    refine SWP_region ?_
    first | refine pI rfl rfl ?_ | refine pu rfl rfl ?_
    first | refine pw rfl rfl (w64 (by omega) (by omega)) ?_ | refine pu rfl rfl ?_
    refine pI rfl rfl ?_
    refine SL_nil ?_
    refine nx ?_
    refine ⟨by repeat (first | exact Under.upds rfl (Under.hav _ _ _) | exact Under.hav _ _ _ | refine Under.upd rfl ?_), ?_, ?_⟩
    · exact ⟨k + 1, _, _, σ41, rfl, by omega, by omega, hown9, rfl, rfl⟩
    · simp only [L_vals, List.map, List.getD]; show (((l.length - 1 - k : Nat) : Int) - 1 + 1).toNat < (((l.length - 1 - k : Nat) : Int) + 1).toNat; omega
  refine SL_nil ?_
  refine nx ?_
  refine SWP_cf rfl ?_
  refine SWP_exit ?_
  refine ne ?_
  refine ne ?_
  refine be rfl ?_
  refine nx ?_
  refine SWP_seq ?_
  refine SWP_region ?_
  refine SL_freezeL (by omega) Ball.enc_len hown (fun m9 hl9 hb9 => ?_)
  refine lw (v := .agg _) B2 0 rfl rfl rfl rfl ?_
  first | refine pL rfl rfl ?_ | refine pu rfl rfl ?_
  refine SL_call rfl rfl cb16 (CallsS.frame0 (resultI (l := l.reverse) (hin.mono (hl3_2.trans hl9)) (by rw [List.take_of_length_le (by rw [List.length_reverse]; omega)] at hb9; exact hb9) (by rw [List.length_reverse]; omega))) rfl (fun v13_2 σ13_2 m13_2 hl13_2 hR13_2 => ?_)
  obtain ⟨σb, rfl, rfl, y, rfl, hy, oy⟩ := hR13_2
  have hz : mechE g l = 0 := Classical.not_not.1 (by assumption)
  rw [mech_rev hz]
  dsimp only [Res.val]
  refine pu rfl rfl ?_
  first | refine pA rfl rfl ?_ | refine pu rfl rfl ?_
  first | refine pI rfl rfl ?_ | refine pu rfl rfl ?_
  refine al rfl rfl (fun B9 => ?_)
  refine sw (v := .agg _) B9 0 rfl rfl rfl rfl rfl rfl rfl ?_
  first | refine pI rfl rfl ?_ | refine pu rfl rfl ?_
  refine SL_nil ?_
  refine nx ?_
  refine SWP_seq ?_
  refine SWP_region ?_
  first | refine pI rfl rfl ?_ | refine pu rfl rfl ?_
  refine pt rfl rfl (rfl) ?_
  refine pB rfl rfl ?_
  refine SL_yes rfl ?_
  refine pu rfl rfl ?_
  refine SL_yes rfl ?_
  refine lw (v := .int .i64 _) B2 1 rfl rfl rfl rfl ?_
  refine SL_yes rfl ?_
  refine pc rfl rfl (fun c53 => ?_) (fun c53 => ?_)
  · skip
    refine SL_yes rfl ?_
    refine pB rfl rfl ?_
    refine SL_no rfl rfl ?_
    refine SL_no rfl rfl ?_
    refine SL_no rfl rfl ?_
    refine SL_yes rfl ?_
    refine pB rfl rfl ?_
    refine pB rfl rfl ?_
    refine pB rfl rfl ?_
    refine SL_yes rfl ?_
    refine SL_pcall rfl rfl cb15 (lives9) rfl ?_
    refine pB rfl rfl ?_
    refine pB rfl rfl ?_
    refine SL_nil ?_
    refine nx ?_
    refine SWP_ret ?_
    refine fin [_] ⟨rfl, trivial⟩ ?_
    rfl
  refine SL_yes rfl ?_
  refine pB rfl rfl ?_
  refine SL_yes rfl ?_
  refine lw (v := .agg _) B5 0 rfl rfl rfl rfl ?_
  refine SL_yes rfl ?_
  refine lw (v := .agg _) B9 0 rfl rfl rfl rfl ?_
  refine SL_yes rfl ?_
  refine SL_pcall rfl rfl cb18 (sameF (a := x) (b := y) (hx.mono (hl9.trans hl13_2)) hy) rfl ?_
  rw [mechO_rev hz (by have := (gameOk (mech_zero hz).1).kind; omega)] at oy
  rw [decide_eq_true (ox.same oy)]
  refine SL_yes rfl ?_
  refine pB rfl rfl ?_
  refine pB rfl rfl ?_
  refine pB rfl rfl ?_
  refine SL_yes rfl ?_
  refine SL_pcall rfl rfl cb15 (lives9) rfl ?_
  refine pB rfl rfl ?_
  refine pB rfl rfl ?_
  refine SL_nil ?_
  refine nx ?_
  refine SWP_ret ?_
  refine fin [_] ⟨rfl, trivial⟩ ?_
  rfl

end Go.Proofs.Ytnldelafemaigaa

