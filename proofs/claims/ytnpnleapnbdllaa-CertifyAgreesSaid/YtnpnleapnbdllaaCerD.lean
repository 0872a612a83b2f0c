/- lotterylaw30: its example; the laws CertifyResults, CertifySame. -/
import Derived.Test.YtnpnleapnbdllaaCerC
import Derived.Test.YtnpnleapnbdllaaMecL
namespace Go.Proofs.Ytnpnleapnbdllaa
open Eng

def q3T : List Tier := [⟨2, 0, 0, 0, 1, 0⟩]
def q3G (B : Nat) : Game := ⟨⟨#[97]⟩, 1, 100, 2, 5, 0, 0, 0, 4, 2, 1, 0, 0, 0, 1, 0, 0, 1, 0, 0, none, 0, [], some ⟨B, 0, none⟩, 1, q3T⟩
theorem q3G_ok (B : Nat) : GameOk (q3G B) := by
  refine ⟨by kernel_rfl, .inl rfl, ⟨?_, ?_, ?_, ?_, ?_, ?_, ?_, ?_, ?_, ?_, ?_, ?_, ?_, ?_, ?_, ?_⟩, ⟨?_, ?_, ?_, ?_, ?_, ?_, ?_, ?_, ?_, ?_⟩, by kernel_rfl, by kernel_rfl⟩ <;> exact of_decide_eq_true (by kernel_rfl)
def q3L : List Ball := [⟨1, 1, 3⟩, ⟨1, 1, 5⟩, ⟨2, 1, 5⟩, ⟨2, 1, 3⟩, ⟨3, 1, 3⟩, ⟨3, 1, 4⟩]
def q3R (B : Nat) (l : List Int) : Res := ⟨some ⟨B, 0, none⟩, l.length, l, none, 0, [], none, 0, [], 0, ⟨#[]⟩⟩
theorem q3Z (B : Nat) : ¬ gameErr (q3G B) ≠ 0 := by rw [gameErr_of9 (q3G_ok B)]; decide
theorem q3E {B : Nat} {l : List Ball} (h : ballsErr (q3G B) l = 0) : mechE (q3G B) l = 0 := by
  unfold mechE; rw [if_neg (q3Z B)]; exact h
theorem q3E8 {B : Nat} {l : List Ball} (h : ballsErr (q3G B) l = 8) : mechE (q3G B) l = 8 := by
  unfold mechE; rw [if_neg (q3Z B)]; exact h
theorem q3O {B : Nat} {l : List Ball} (h : mechE (q3G B) l = 0) : mechO (q3G B) l = srtO l := by
  unfold mechO; rw [if_neg (by rw [h]; decide), if_pos (by rfl)]
theorem q3K {B : Nat} {l : List Ball} {w : Int} {a b c : List Int} (h : ballsErr (q3G B) (ofB l w) = 0) (h1 : (numsD 1 (ofB l w)).mergeSort leI = a) (h2 : (numsD 2 (ofB l w)).mergeSort leI = b) (h3 : (numsD 3 (ofB l w)).mergeSort leI = c) : keyOf (q3G B) l w = (w, true, (a, b, c, 0, ⟨#[]⟩)) := by
  unfold keyOf
  rw [decide_eq_true (q3E h), q3O (q3E h)]
  unfold outKey srtO
  rw [h1, h2, h3]
def kA : RK := ([3, 5], [], [], 0, ⟨#[]⟩)
def kB : RK := ([3, 4], [], [], 0, ⟨#[]⟩)
theorem q3k1 (B : Nat) : keyOf (q3G B) q3L 1 = (1, true, kA) :=
  q3K (by kernel_rfl) (srt_of (X := [3, 5]) (by decide) (by decide)) (srt_of (X := []) (by decide) (by decide)) (srt_of (X := []) (by decide) (by decide))
theorem q3k2 (B : Nat) : keyOf (q3G B) q3L 2 = (2, true, kA) :=
  q3K (by kernel_rfl) (srt_of (X := [3, 5]) (by decide) (by decide)) (srt_of (X := []) (by decide) (by decide)) (srt_of (X := []) (by decide) (by decide))
theorem q3k3 (B : Nat) : keyOf (q3G B) q3L 3 = (3, true, kB) :=
  q3K (by kernel_rfl) (srt_of (X := [3, 4]) (by decide) (by decide)) (srt_of (X := []) (by decide) (by decide)) (srt_of (X := []) (by decide) (by decide))
theorem q3k4 (B : Nat) : keyOf (q3G B) (q3L.take 3) 1 = (1, true, kA) :=
  q3K (by kernel_rfl) (srt_of (X := [3, 5]) (by decide) (by decide)) (srt_of (X := []) (by decide) (by decide)) (srt_of (X := []) (by decide) (by decide))
theorem q3k5 (B : Nat) : keyOf (q3G B) (q3L.take 3) 2 = (2, false, zeroK) := by
  have h : mechE (q3G B) (ofB (q3L.take 3) 2) = 8 := q3E8 (by kernel_rfl)
  unfold keyOf
  rw [h]
  unfold mechO
  rw [if_pos (by rw [h]; decide)]
  rfl
theorem q3reps (B : Nat) : reps (q3G B) q3L = [(1, true, kA), (2, true, kA), (3, true, kB)] := by
  unfold reps
  rw [show wits q3L = [1, 2, 3] by kernel_rfl]
  simp only [List.map, q3k1, q3k2, q3k3]
theorem q3reps3 (B : Nat) : reps (q3G B) (q3L.take 3) = [(1, true, kA), (2, false, zeroK)] := by
  unfold reps
  rw [show wits (q3L.take 3) = [1, 2] by kernel_rfl]
  simp only [List.map, q3k4, q3k5]
theorem q3c1 (B : Nat) : certF (q3G B) q3L 2 = (0, kA, [3]) := by
  rw [certF_ok (q3Z B) (by decide), q3reps]; kernel_rfl
theorem q3c2 (B : Nat) : certF (q3G B) q3L 3 = (23, zeroK, []) := by
  rw [certF_ok (q3Z B) (by decide), q3reps]; kernel_rfl
theorem q3c3 (B : Nat) : certF (q3G B) (q3L.take 3) 1 = (23, zeroK, []) := by
  rw [certF_ok (q3Z B) (by decide), q3reps3]; kernel_rfl
theorem q3c4 (B : Nat) : certF (q3G B) [] 1 = (23, zeroK, []) := by
  rw [certF_ok (q3Z B) (by decide)]; unfold reps; rw [show wits [] = [] by kernel_rfl]; kernel_rfl
theorem q3c5 (B : Nat) : certF (q3G B) q3L 0 = (2, zeroK, []) := certF_rng (q3Z B) (by decide)

set_option maxRecDepth 100000 in
theorem plain30 {m : Mem} : CallsS Try.prog 19 ([] : List Value).toArray [] m fun r σ' m' => σ' = [] ∧ ∃ B, r = (q3G B).val ∧ (q3G B).In m' := by
  refine CallsS.ghost (R' := fun r σ' m' => ∃ B, r = (q3G B).val ∧ (q3G B).In m') ?_ ?h2
  case h2 =>
    rintro r σ' m' hr g0 W hC
    exact ⟨_, m', hC.sublist (List.nil_sublist _), Le.refl _, rfl, hr⟩
  refine enter Try.func19 Try.ntmps19 rfl rfl ?_
  refine SWP_seq ?_
  refine SWP_region ?_
  refine al rfl rfl (fun B0 => ?_)
  refine SL_nil ?_
  refine nx ?_
  refine SWP_seq ?_
  refine SWP_region ?_
  refine pu (v := .agg (Tier.enc ⟨2, 0, 0, 0, 1, 0⟩).toArray) (by kernel_rfl) rfl ?_
  refine bs (cs := (q3T).flatMap Tier.enc) rfl rfl rfl (by kernel_rfl) rfl (fun B2 => ?_)
  refine SL_freeze (fun m2 hl2 hat2 => ?_)
  refine pu (v := (q3G B2).val) (by kernel_rfl) rfl ?_
  refine swE B0 0 (q3G B2).enc (v := (q3G B2).val) rfl rfl rfl rfl (by kernel_rfl) (by kernel_rfl) (by kernel_rfl) (by kernel_rfl) ?_
  refine SL_nil ?_
  refine nx ?_
  refine SWP_ret ?_
  refine fin [_] ⟨⟨_, _, rfl, Rd.of_cells (MemO.mem (B := B0)), rfl⟩, trivial⟩ ?_
  exact ⟨B2, by kernel_rfl, ⟨RL.nil _ _, fun a h => (by cases h), RL.of_at Tier.enc_len q3T rfl rfl hat2⟩⟩

set_option maxRecDepth 100000 in
theorem ball30 {m : Mem} (w n : Int) : PureCall Try.prog 20 [.int .i64 w, .int .i64 n] m (.agg #[.int .i64 w, .int .i64 1, .int .i64 n]) := by
  refine CallsS.pure ?_
  refine enter Try.func20 Try.ntmps20 rfl rfl ?_
  refine SWP_seq ?_
  refine SWP_region ?_
  refine al rfl rfl (fun B4 => ?_)
  refine SL_nil ?_
  refine nx ?_
  refine SWP_seq ?_
  refine SWP_region ?_
  first | refine pI rfl rfl ?_ | refine pu rfl rfl ?_
  first | refine pI rfl rfl ?_ | refine pu rfl rfl ?_
  refine pA rfl rfl ?_
  refine sw (v := .agg _) B4 0 rfl rfl rfl rfl rfl rfl rfl ?_
  refine SL_nil ?_
  refine nx ?_
  refine SWP_ret ?_
  refine fin [_] ⟨⟨_, _, rfl, Rd.of_cells (MemO.mem (B := B4)), rfl⟩, trivial⟩ ?_
  rfl

set_option maxRecDepth 100000 in
set_option maxHeartbeats 800000 in
theorem lives30 {m : Mem} : PureCall Try.prog 9 [] m (.bool true) := by
  refine CallsS.pure ?_
  refine enter Try.func9 Try.ntmps9 rfl rfl ?_
  refine SWP_seq ?_
  refine SWP_region ?_
  refine pB rfl rfl ?_
  refine SL_nil ?_
  refine nx ?_
  refine SWP_seq ?_
  refine SWP_region ?_
  refine SL_call rfl rfl cb19 (plain30) rfl (fun v1_0 σ1_0 m1_0 hl1_0 hR1_0 => ?_)
  obtain ⟨rfl, BG, rfl, hinG⟩ := hR1_0
  refine al rfl rfl (fun B1 => ?_)
  refine swE B1 0 (q3G BG).enc (v := (q3G BG).val) rfl rfl rfl rfl (by kernel_rfl) (by kernel_rfl) (by kernel_rfl) (by kernel_rfl) ?_
  refine SL_nil ?_
  refine nx ?_
  refine SWP_seq ?_
  refine SWP_region ?_
  refine SL_pcall rfl rfl cb20 (ball30 1 3) rfl ?_
  refine SL_pcall rfl rfl cb20 (ball30 1 5) rfl ?_
  refine SL_pcall rfl rfl cb20 (ball30 2 5) rfl ?_
  refine SL_pcall rfl rfl cb20 (ball30 2 3) rfl ?_
  refine SL_pcall rfl rfl cb20 (ball30 3 3) rfl ?_
  refine SL_pcall rfl rfl cb20 (ball30 3 4) rfl ?_
  refine bs (cs := (q3L).flatMap Ball.enc) rfl rfl rfl (by kernel_rfl) rfl (fun B25 => ?_)
  refine SL_freeze (fun m25 hl25 hat25 => ?_)
  first | refine pL rfl rfl ?_ | refine pu rfl rfl ?_
  refine SL_nil ?_
  refine nx ?_
  refine SWP_seq ?_
  refine SWP_region ?_
  refine lw (v := .agg _) B1 0 rfl rfl rfl rfl ?_
  first | refine pL rfl rfl ?_ | refine pu rfl rfl ?_
  refine SL_call rfl rfl cb10 (CallsS.frame0 (certI (g := q3G BG) (l := q3L) (hinG.mono (hl25)) (RL.of_at Ball.enc_len q3L rfl rfl hat25) (by decide) 2)) rfl (fun v3_2 σ3_2 m3_2 hl3_2 hR3_2 => ?_)
  obtain ⟨σz3_2, rfl, rfl, x1, w1, rfl, hx1, kx1, dx1⟩ := hR3_2
  rw [q3c1] at kx1 dx1
  rw [q3c1 BG]
  dsimp only [Res.val]
  refine pu rfl rfl ?_
  first | refine pA rfl rfl ?_ | refine pu rfl rfl ?_
  first | refine pL rfl rfl ?_ | refine pu rfl rfl ?_
  first | refine pI rfl rfl ?_ | refine pu rfl rfl ?_
  refine al rfl rfl (fun B3 => ?_)
  refine sw (v := .agg _) B3 0 rfl rfl rfl rfl rfl rfl rfl ?_
  first | refine pL rfl rfl ?_ | refine pu rfl rfl ?_
  first | refine pI rfl rfl ?_ | refine pu rfl rfl ?_
  refine SL_nil ?_
  refine nx ?_
  refine SWP_seq ?_
  refine SWP_region ?_
  refine lw (v := .agg _) B1 0 rfl rfl rfl rfl ?_
  first | refine pL rfl rfl ?_ | refine pu rfl rfl ?_
  refine SL_call rfl rfl cb10 (CallsS.frame0 (certI (g := q3G BG) (l := q3L) (hinG.mono (hl25.trans hl3_2)) ((RL.of_at Ball.enc_len q3L rfl rfl hat25).mono hl3_2) (by decide) 3)) rfl (fun v4_2 σ4_2 m4_2 hl4_2 hR4_2 => ?_)
  obtain ⟨σz4_2, rfl, rfl, x2, w2, rfl, hx2, kx2, dx2⟩ := hR4_2
  rw [q3c2] at kx2 dx2
  rw [q3c2 BG]
  dsimp only [Res.val]
  refine pu rfl rfl ?_
  first | refine pA rfl rfl ?_ | refine pu rfl rfl ?_
  first | refine pL rfl rfl ?_ | refine pu rfl rfl ?_
  first | refine pI rfl rfl ?_ | refine pu rfl rfl ?_
  refine al rfl rfl (fun B6 => ?_)
  refine sw (v := .agg _) B6 0 rfl rfl rfl rfl rfl rfl rfl ?_
  first | refine pL rfl rfl ?_ | refine pu rfl rfl ?_
  first | refine pI rfl rfl ?_ | refine pu rfl rfl ?_
  refine SL_nil ?_
  refine nx ?_
  refine SWP_seq ?_
  refine SWP_tree [(B1, Cells 25 (q3G BG).enc)] 12 (.one 0 (.one 1 (.one 2 (.fork (.alt 3 (.one 4 (.one 5 (.one 6 (.one 7 (.one 8 (.one 9 (.one 10 (.one 11 (.fin))))))))) (.alt 8 (.one 3 (.one 4 (.one 5 (.one 6 (.one 7 (.one 9 (.one 10 (.one 11 (.fin))))))))) (.none))))))) (by kernel_rfl) (by kernel_rfl) (by repeat (first | exact Sub.refl _ | exact Sub.nil _ | refine Sub.cons2 _ ?_ | refine Sub.cons _ ?_)) ?_
  refine T1 rfl ?_
  refine lw (v := .agg _) B1 0 rfl rfl rfl rfl ?_
  refine SL_nil ?_
  refine T1 rfl ?_
  first | refine pL rfl rfl ?_ | refine pu rfl rfl ?_
  refine SL_nil ?_
  refine T1 rfl ?_
  refine slh (size := 3) rfl rfl rfl rfl rfl (by decide) (by decide) rfl ?_
  have hsub := RL.sub Ball.enc_len (RL.of_at Ball.enc_len q3L rfl rfl hat25) (Nat.zero_le 3) (by decide)
  rw [List.drop_zero] at hsub
  refine SL_nil ?_
  refine TF ?_
  refine TA rfl ?_ ?_
  · skip
    refine SL_call rfl rfl cb10 (CallsS.frame0 (certI (g := q3G BG) (l := q3L.take 3) (hinG.mono (hl25.trans (hl3_2.trans hl4_2))) (hsub.mono (hl3_2.trans hl4_2)) (by decide) 1)) rfl (fun v5_3 σ5_3 m5_3 hl5_3 hR5_3 => ?_)
    obtain ⟨σz5_3, rfl, rfl, x3, w3, rfl, hx3, kx3, dx3⟩ := hR5_3
    rw [q3c3] at kx3 dx3
    rw [q3c3 BG]
    dsimp only [Res.val]
    refine SL_nil ?_
    refine T1 rfl ?_
    refine pu rfl rfl ?_
    refine SL_nil ?_
    refine T1 rfl ?_
    first | refine pA rfl rfl ?_ | refine pu rfl rfl ?_
    refine SL_nil ?_
    refine T1 rfl ?_
    first | refine pL rfl rfl ?_ | refine pu rfl rfl ?_
    refine SL_nil ?_
    refine T1 rfl ?_
    first | refine pI rfl rfl ?_ | refine pu rfl rfl ?_
    refine SL_nil ?_
    refine T1 rfl ?_
    refine al rfl rfl (fun B9 => ?_)
    refine SL_nil ?_
    refine T1 rfl ?_
    refine sw (v := .agg _) B9 0 rfl rfl rfl rfl rfl rfl rfl ?_
    refine SL_nil ?_
    refine T1 rfl ?_
    first | refine pL rfl rfl ?_ | refine pu rfl rfl ?_
    refine SL_nil ?_
    refine T1 rfl ?_
    first | refine pI rfl rfl ?_ | refine pu rfl rfl ?_
    refine SL_nil ?_
    refine nx ?_
    refine SWP_seq ?_
    refine SWP_region ?_
    refine lw (v := .agg _) B1 0 rfl rfl rfl rfl ?_
    refine SL_call rfl rfl cb10 (CallsS.frame0 (certI (g := q3G BG) (l := []) (hinG.mono (hl25.trans (hl3_2.trans (hl4_2.trans hl5_3)))) (RL.nil _ _) (by decide) 1)) rfl (fun v6_1 σ6_1 m6_1 hl6_1 hR6_1 => ?_)
    obtain ⟨σz6_1, rfl, rfl, x4, w4, rfl, hx4, kx4, dx4⟩ := hR6_1
    rw [q3c4] at kx4 dx4
    rw [q3c4 BG]
    dsimp only [Res.val]
    refine pu rfl rfl ?_
    first | refine pA rfl rfl ?_ | refine pu rfl rfl ?_
    first | refine pL rfl rfl ?_ | refine pu rfl rfl ?_
    first | refine pI rfl rfl ?_ | refine pu rfl rfl ?_
    refine al rfl rfl (fun B12 => ?_)
    refine sw (v := .agg _) B12 0 rfl rfl rfl rfl rfl rfl rfl ?_
    first | refine pL rfl rfl ?_ | refine pu rfl rfl ?_
    first | refine pI rfl rfl ?_ | refine pu rfl rfl ?_
    refine SL_nil ?_
    refine nx ?_
    refine SWP_seq ?_
    refine SWP_region ?_
    refine lw (v := .agg _) B1 0 rfl rfl rfl rfl ?_
    first | refine pL rfl rfl ?_ | refine pu rfl rfl ?_
    refine SL_call rfl rfl cb10 (CallsS.frame0 (certI (g := q3G BG) (l := q3L) (hinG.mono (hl25.trans (hl3_2.trans (hl4_2.trans (hl5_3.trans hl6_1))))) ((RL.of_at Ball.enc_len q3L rfl rfl hat25).mono (hl3_2.trans (hl4_2.trans (hl5_3.trans hl6_1)))) (by decide) 0)) rfl (fun v7_2 σ7_2 m7_2 hl7_2 hR7_2 => ?_)
    obtain ⟨σz7_2, rfl, rfl, x5, w5, rfl, hx5, kx5, dx5⟩ := hR7_2
    rw [q3c5] at kx5 dx5
    rw [q3c5 BG]
    dsimp only [Res.val]
    refine pu rfl rfl ?_
    first | refine pA rfl rfl ?_ | refine pu rfl rfl ?_
    first | refine pL rfl rfl ?_ | refine pu rfl rfl ?_
    first | refine pI rfl rfl ?_ | refine pu rfl rfl ?_
    refine al rfl rfl (fun B15 => ?_)
    refine sw (v := .agg _) B15 0 rfl rfl rfl rfl rfl rfl rfl ?_
    first | refine pL rfl rfl ?_ | refine pu rfl rfl ?_
    first | refine pI rfl rfl ?_ | refine pu rfl rfl ?_
    refine SL_nil ?_
    refine nx ?_
    refine SWP_seq ?_
    refine SWP_region ?_
    refine lw (v := .agg _) B3 0 rfl rfl rfl rfl ?_
    refine bs (cs := (([3, 5] : List Int)).flatMap intE) rfl rfl rfl (by kernel_rfl) rfl (fun B62 => ?_)
    refine SL_freeze (fun m62 hl62 hat62 => ?_)
    refine pA rfl rfl ?_
    refine SL_pcall rfl rfl cb14 (sameC (a := x1) (b := q3R B62 [3, 5]) (hx1.mono ((hl4_2.trans (hl5_3.trans (hl6_1.trans hl7_2))).trans hl62)) ⟨RL.of_at intE_len [3, 5] rfl rfl hat62, RL.nil _ _, RL.nil _ _⟩) rfl ?_
    rw [decide_eq_true (sameR_key.2 (kx1.trans rfl) : sameR x1 (q3R B62 [3, 5]))]
    first | refine pB rfl rfl ?_ | refine pu rfl rfl ?_
    refine SL_yes rfl ?_
    refine lw (v := .agg _) B3 0 rfl rfl rfl rfl ?_
    refine SL_yes rfl ?_
    refine bs (cs := (([3, 4] : List Int)).flatMap intE) rfl rfl rfl (by kernel_rfl) rfl (fun B67 => ?_)
    refine SL_freeze (fun m67 hl67 hat67 => ?_)
    refine SL_yes rfl ?_
    refine pA rfl rfl ?_
    refine SL_yes rfl ?_
    refine SL_pcall rfl rfl cb14 (sameC (a := x1) (b := q3R B67 [3, 4]) (hx1.mono ((hl4_2.trans (hl5_3.trans (hl6_1.trans hl7_2))).trans (hl62.trans hl67))) ⟨RL.of_at intE_len [3, 4] rfl rfl hat67, RL.nil _ _, RL.nil _ _⟩) rfl ?_
    rw [decide_eq_false (fun h => absurd (show kA = kB from kx1.symm.trans (sameR_key.1 h)) (by decide) : ¬ sameR x1 (q3R B67 [3, 4]))]
    refine SL_yes rfl ?_
    refine pB rfl rfl ?_
    refine pB rfl rfl ?_
    refine pB rfl rfl ?_
    refine SL_yes rfl ?_
    first | refine pL rfl rfl ?_ | refine pu rfl rfl ?_
    refine SL_yes rfl ?_
    refine bs (cs := (([3] : List Int)).flatMap intE) rfl rfl rfl (by kernel_rfl) rfl (fun B74 => ?_)
    refine SL_freeze (fun m74 hl74 hat74 => ?_)
    refine SL_yes rfl ?_
    refine SL_pcall rfl rfl cb13 (intsR (dx1.mono ((hl4_2.trans (hl5_3.trans (hl6_1.trans hl7_2))).trans (hl62.trans (hl67.trans hl74)))) (RL.of_at intE_len [3] rfl rfl hat74)) rfl ?_
    rw [decide_eq_true rfl]
    refine pB rfl rfl ?_
    refine pB rfl rfl ?_
    refine SL_yes rfl ?_
    first | refine pI rfl rfl ?_ | refine pu rfl rfl ?_
    refine SL_yes rfl ?_
    refine pt rfl rfl (rfl) ?_
    refine pB rfl rfl ?_
    refine pB rfl rfl ?_
    refine SL_yes rfl ?_
    first | refine pI rfl rfl ?_ | refine pu rfl rfl ?_
    refine SL_yes rfl ?_
    refine pt rfl rfl (rfl) ?_
    refine pB rfl rfl ?_
    refine pB rfl rfl ?_
    refine SL_yes rfl ?_
    first | refine pI rfl rfl ?_ | refine pu rfl rfl ?_
    refine SL_yes rfl ?_
    refine pt rfl rfl (rfl) ?_
    refine pB rfl rfl ?_
    refine pB rfl rfl ?_
    refine SL_yes rfl ?_
    first | refine pI rfl rfl ?_ | refine pu rfl rfl ?_
    refine SL_yes rfl ?_
    refine pt rfl rfl (rfl) ?_
    refine pB rfl rfl ?_
    refine pB rfl rfl ?_
    refine SL_yes rfl ?_
    first | refine pI rfl rfl ?_ | refine pu rfl rfl ?_
    refine SL_yes rfl ?_
    refine pt rfl rfl (rfl) ?_
    refine pB rfl rfl ?_
    refine pB rfl rfl ?_
    refine SL_nil ?_
    refine nx ?_
    refine SWP_ret ?_
    refine fin [_] ⟨rfl, trivial⟩ ?_
    rfl
  refine TA rfl ?_ ?_
  · skip
    refine al rfl rfl (fun B9 => ?_)
    refine SL_nil ?_
    refine T1 rfl ?_
    refine SL_call rfl rfl cb10 (CallsS.frame0 (certI (g := q3G BG) (l := q3L.take 3) (hinG.mono (hl25.trans (hl3_2.trans hl4_2))) (hsub.mono (hl3_2.trans hl4_2)) (by decide) 1)) rfl (fun v5_3 σ5_3 m5_3 hl5_3 hR5_3 => ?_)
    obtain ⟨σz5_3, rfl, rfl, x3, w3, rfl, hx3, kx3, dx3⟩ := hR5_3
    rw [q3c3] at kx3 dx3
    rw [q3c3 BG]
    dsimp only [Res.val]
    refine SL_nil ?_
    refine T1 rfl ?_
    refine pu rfl rfl ?_
    refine SL_nil ?_
    refine T1 rfl ?_
    first | refine pA rfl rfl ?_ | refine pu rfl rfl ?_
    refine SL_nil ?_
    refine T1 rfl ?_
    first | refine pL rfl rfl ?_ | refine pu rfl rfl ?_
    refine SL_nil ?_
    refine T1 rfl ?_
    first | refine pI rfl rfl ?_ | refine pu rfl rfl ?_
    refine SL_nil ?_
    refine T1 rfl ?_
    refine sw (v := .agg _) B9 0 rfl rfl rfl rfl rfl rfl rfl ?_
    refine SL_nil ?_
    refine T1 rfl ?_
    first | refine pL rfl rfl ?_ | refine pu rfl rfl ?_
    refine SL_nil ?_
    refine T1 rfl ?_
    first | refine pI rfl rfl ?_ | refine pu rfl rfl ?_
    refine SL_nil ?_
    refine nx ?_
    refine SWP_seq ?_
    refine SWP_region ?_
    refine lw (v := .agg _) B1 0 rfl rfl rfl rfl ?_
    refine SL_call rfl rfl cb10 (CallsS.frame0 (certI (g := q3G BG) (l := []) (hinG.mono (hl25.trans (hl3_2.trans (hl4_2.trans hl5_3)))) (RL.nil _ _) (by decide) 1)) rfl (fun v6_1 σ6_1 m6_1 hl6_1 hR6_1 => ?_)
    obtain ⟨σz6_1, rfl, rfl, x4, w4, rfl, hx4, kx4, dx4⟩ := hR6_1
    rw [q3c4] at kx4 dx4
    rw [q3c4 BG]
    dsimp only [Res.val]
    refine pu rfl rfl ?_
    first | refine pA rfl rfl ?_ | refine pu rfl rfl ?_
    first | refine pL rfl rfl ?_ | refine pu rfl rfl ?_
    first | refine pI rfl rfl ?_ | refine pu rfl rfl ?_
    refine al rfl rfl (fun B12 => ?_)
    refine sw (v := .agg _) B12 0 rfl rfl rfl rfl rfl rfl rfl ?_
    first | refine pL rfl rfl ?_ | refine pu rfl rfl ?_
    first | refine pI rfl rfl ?_ | refine pu rfl rfl ?_
    refine SL_nil ?_
    refine nx ?_
    refine SWP_seq ?_
    refine SWP_region ?_
    refine lw (v := .agg _) B1 0 rfl rfl rfl rfl ?_
    first | refine pL rfl rfl ?_ | refine pu rfl rfl ?_
    refine SL_call rfl rfl cb10 (CallsS.frame0 (certI (g := q3G BG) (l := q3L) (hinG.mono (hl25.trans (hl3_2.trans (hl4_2.trans (hl5_3.trans hl6_1))))) ((RL.of_at Ball.enc_len q3L rfl rfl hat25).mono (hl3_2.trans (hl4_2.trans (hl5_3.trans hl6_1)))) (by decide) 0)) rfl (fun v7_2 σ7_2 m7_2 hl7_2 hR7_2 => ?_)
    obtain ⟨σz7_2, rfl, rfl, x5, w5, rfl, hx5, kx5, dx5⟩ := hR7_2
    rw [q3c5] at kx5 dx5
    rw [q3c5 BG]
    dsimp only [Res.val]
    refine pu rfl rfl ?_
    first | refine pA rfl rfl ?_ | refine pu rfl rfl ?_
    first | refine pL rfl rfl ?_ | refine pu rfl rfl ?_
    first | refine pI rfl rfl ?_ | refine pu rfl rfl ?_
    refine al rfl rfl (fun B15 => ?_)
    refine sw (v := .agg _) B15 0 rfl rfl rfl rfl rfl rfl rfl ?_
    first | refine pL rfl rfl ?_ | refine pu rfl rfl ?_
    first | refine pI rfl rfl ?_ | refine pu rfl rfl ?_
    refine SL_nil ?_
    refine nx ?_
    refine SWP_seq ?_
    refine SWP_region ?_
    refine lw (v := .agg _) B3 0 rfl rfl rfl rfl ?_
    refine bs (cs := (([3, 5] : List Int)).flatMap intE) rfl rfl rfl (by kernel_rfl) rfl (fun B62 => ?_)
    refine SL_freeze (fun m62 hl62 hat62 => ?_)
    refine pA rfl rfl ?_
    refine SL_pcall rfl rfl cb14 (sameC (a := x1) (b := q3R B62 [3, 5]) (hx1.mono ((hl4_2.trans (hl5_3.trans (hl6_1.trans hl7_2))).trans hl62)) ⟨RL.of_at intE_len [3, 5] rfl rfl hat62, RL.nil _ _, RL.nil _ _⟩) rfl ?_
    rw [decide_eq_true (sameR_key.2 (kx1.trans rfl) : sameR x1 (q3R B62 [3, 5]))]
    first | refine pB rfl rfl ?_ | refine pu rfl rfl ?_
    refine SL_yes rfl ?_
    refine lw (v := .agg _) B3 0 rfl rfl rfl rfl ?_
    refine SL_yes rfl ?_
    refine bs (cs := (([3, 4] : List Int)).flatMap intE) rfl rfl rfl (by kernel_rfl) rfl (fun B67 => ?_)
    refine SL_freeze (fun m67 hl67 hat67 => ?_)
    refine SL_yes rfl ?_
    refine pA rfl rfl ?_
    refine SL_yes rfl ?_
    refine SL_pcall rfl rfl cb14 (sameC (a := x1) (b := q3R B67 [3, 4]) (hx1.mono ((hl4_2.trans (hl5_3.trans (hl6_1.trans hl7_2))).trans (hl62.trans hl67))) ⟨RL.of_at intE_len [3, 4] rfl rfl hat67, RL.nil _ _, RL.nil _ _⟩) rfl ?_
    rw [decide_eq_false (fun h => absurd (show kA = kB from kx1.symm.trans (sameR_key.1 h)) (by decide) : ¬ sameR x1 (q3R B67 [3, 4]))]
    refine SL_yes rfl ?_
    refine pB rfl rfl ?_
    refine pB rfl rfl ?_
    refine pB rfl rfl ?_
    refine SL_yes rfl ?_
    first | refine pL rfl rfl ?_ | refine pu rfl rfl ?_
    refine SL_yes rfl ?_
    refine bs (cs := (([3] : List Int)).flatMap intE) rfl rfl rfl (by kernel_rfl) rfl (fun B74 => ?_)
    refine SL_freeze (fun m74 hl74 hat74 => ?_)
    refine SL_yes rfl ?_
    refine SL_pcall rfl rfl cb13 (intsR (dx1.mono ((hl4_2.trans (hl5_3.trans (hl6_1.trans hl7_2))).trans (hl62.trans (hl67.trans hl74)))) (RL.of_at intE_len [3] rfl rfl hat74)) rfl ?_
    rw [decide_eq_true rfl]
    refine pB rfl rfl ?_
    refine pB rfl rfl ?_
    refine SL_yes rfl ?_
    first | refine pI rfl rfl ?_ | refine pu rfl rfl ?_
    refine SL_yes rfl ?_
    refine pt rfl rfl (rfl) ?_
    refine pB rfl rfl ?_
    refine pB rfl rfl ?_
    refine SL_yes rfl ?_
    first | refine pI rfl rfl ?_ | refine pu rfl rfl ?_
    refine SL_yes rfl ?_
    refine pt rfl rfl (rfl) ?_
    refine pB rfl rfl ?_
    refine pB rfl rfl ?_
    refine SL_yes rfl ?_
    first | refine pI rfl rfl ?_ | refine pu rfl rfl ?_
    refine SL_yes rfl ?_
    refine pt rfl rfl (rfl) ?_
    refine pB rfl rfl ?_
    refine pB rfl rfl ?_
    refine SL_yes rfl ?_
    first | refine pI rfl rfl ?_ | refine pu rfl rfl ?_
    refine SL_yes rfl ?_
    refine pt rfl rfl (rfl) ?_
    refine pB rfl rfl ?_
    refine pB rfl rfl ?_
    refine SL_yes rfl ?_
    first | refine pI rfl rfl ?_ | refine pu rfl rfl ?_
    refine SL_yes rfl ?_
    refine pt rfl rfl (rfl) ?_
    refine pB rfl rfl ?_
    refine pB rfl rfl ?_
    refine SL_nil ?_
    refine nx ?_
    refine SWP_ret ?_
    refine fin [_] ⟨rfl, trivial⟩ ?_
    rfl
  exact True.intro

end Go.Proofs.Ytnpnleapnbdllaa

