/- mechanical.Balls, lotteryref29.Balls; MechanicalBalls, MechanicalResults. -/
import Derived.Test.YtnpnleapnbdllaaMecL
import Derived.Test.YtnpnleapnbdllaaMech3
namespace Go.Proofs.Ytnpnleapnbdllaa
open Eng

def mkB (w d : Int) (n : Int) : Ball := ⟨w, d, n⟩
def lstR (r : Res) (i : Nat) : List Int := if i = 0 then r.main else if i = 1 then r.bonus else r.extra
def saR (r : Res) (i : Nat) : Option Addr := if i = 0 then r.ma else if i = 1 then r.ba else r.ea
def scR (r : Res) (i : Nat) : Nat := if i = 0 then r.mc else if i = 1 then r.bc else r.ec
def svR (r : Res) (i : Nat) : Value := .slice (saR r i) (lstR r i).length (scR r i)
theorem lstR_in {m : Mem} {r : Res} (hr : r.In m) (i : Nat) (hi : i < 3) : RL m intE 1 (svR r i) (lstR r i) := by
  match i, hi with
  | 0, _ => exact hr.mn
  | 1, _ => exact hr.bn
  | 2, _ => exact hr.xn
def prefB (w : Int) (r : Res) (i : Nat) : List Ball := (List.range i).flatMap fun d => (lstR r d).map (mkB w ((d : Int) + 1))
theorem prefB_succ (w : Int) (r : Res) (i : Nat) : prefB w r (i + 1) = prefB w r i ++ (lstR r i).map (mkB w ((i : Int) + 1)) := by
  unfold prefB
  rw [List.range_succ, List.flatMap_append]; simp
theorem map_snocI {w d n : Int} {l : List Int} {k : Nat} (h : l[k]? = some n) : (l.take (k + 1)).map (mkB w d) = (l.take k).map (mkB w d) ++ [mkB w d n] := by
  rw [take_snocA h, List.map_append]; rfl
noncomputable def outE (g : Game) (w : Int) (r : Res) : Int := if gameErr g ≠ 0 then gameErr g else if ¬ (1 ≤ w ∧ w ≤ 8) then 2 else resErr g r
noncomputable def outB (g : Game) (w : Int) (r : Res) : List Ball := if outE g w r ≠ 0 then [] else prefB w r 3
structure SmallR (r : Res) : Prop where
  m : r.main.length ≤ 10
  b : r.bonus.length ≤ 10
  x : r.extra.length ≤ 10
theorem resOk' {g : Game} {r : Res} (h : resErr g r = 0) : gameErr g = 0 ∧ numsErr g r = 0 := by
  unfold resErr at h
  by_cases h1 : gameErr g ≠ 0
  · rw [if_pos h1] at h; exact absurd h h1
  · rw [if_neg h1] at h
    by_cases h2 : numsErr g r ≠ 0
    · rw [if_pos h2] at h; exact absurd h h2
    · exact ⟨Classical.not_not.1 h1, Classical.not_not.1 h2⟩
theorem numsLen {g : Game} {r : Res} (h : numsErr g r = 0) : (r.main.length : Int) = g.main ∧ (r.bonus.length : Int) = g.bonus ∧ (r.extra.length : Int) = g.extra := by
  unfold numsErr at h
  by_cases h1 : (r.main.length : Int) ≠ g.main ∨ (r.bonus.length : Int) ≠ g.bonus ∨ (r.extra.length : Int) ≠ g.extra
  · rw [if_pos h1] at h; exact absurd h (by decide)
  · omega
theorem smallR {g : Game} {r : Res} (h : resErr g r = 0) : SmallR r := by
  obtain ⟨h1, h2⟩ := resOk' h
  obtain ⟨a, b, c⟩ := numsLen h2
  have hm := (gameOk h1).mx
  have h3 := hm.h2
  by_cases hk : g.kind = 2
  · have := hm.h6 hk; have := hm.h11 hk
    exact ⟨by omega, by omega, by omega⟩
  · have := hm.h7 hk; have := hm.h12 hk
    exact ⟨by omega, by omega, by omega⟩
theorem lstR_len {r : Res} (h : SmallR r) (i : Nat) : (lstR r i).length ≤ 10 := by
  have := h.m; have := h.b; have := h.x
  unfold lstR
  split
  · omega
  · split <;> omega
theorem prefB_len {w : Int} {r : Res} (h : SmallR r) : ∀ i, (prefB w r i).length ≤ i * 10
  | 0 => by simp [prefB]
  | i + 1 => by
    rw [prefB_succ, List.length_append, List.length_map]
    have := prefB_len (w := w) h i
    have := lstR_len h i
    omega
theorem b_room {w : Int} {r : Res} (h : SmallR r) {i k : Nat} (hi : i < 3) {l : List Int} (hl : l.length ≤ 10) (d : Int) : (((prefB w r i ++ (l.take k).map (mkB w d)).flatMap Ball.enc).length + 1 * 3) * 24 ≤ 140737488355328 * 3 := by
  rw [flatMap_len Ball.enc_len, List.length_append, List.length_map, List.length_take]
  have := prefB_len (w := w) h i
  omega
theorem all_ballE : ∀ l : List Ball, (l.flatMap Ball.enc).all (·.oneCell') = true
  | [] => rfl
  | x :: l => by rw [List.flatMap_cons, List.all_append, all_ballE l]; rfl

set_option maxRecDepth 100000 in
theorem ballsI {m : Mem} {g : Game} {r : Res} (hin : g.In m) (w : Int) (hr : r.In m) (hs : r.serial.size ≤ 9223372036854775807) : CallsS Try.prog 18 [g.val, .int .i64 w, r.val].toArray [] m fun r' σ' m' => σ' = [] ∧ ∃ v, r' = .tuple #[v, .int .i64 (outE g w r)] ∧ RL m' Ball.enc 3 v (outB g w r) := by
  refine CallsS.ghost (R' := fun r' σ' m' => ∃ v σ1 τ, r' = .tuple #[v, .int .i64 (outE g w r)] ∧ σ'.Perm (σ1 ++ τ) ∧ OwnS 42 3 v ((outB g w r).flatMap Ball.enc) σ1) ?_ ?h2
  case h2 =>
    rintro r' σ' m' ⟨v, σ1, τ, rfl, hp, hown⟩ g0 W hC
    obtain ⟨m2, h1, h2, h3⟩ := hown.freezeL (by omega) Ball.enc_len (hC.perm hp)
    exact ⟨[], m2, h2.sublist (List.nil_sublist _), h1, rfl, v, rfl, h3⟩
  dsimp only [Game.val, Res.val]
  refine enter Try.func18 Try.ntmps18 rfl rfl ?_
  refine SWP_seq ?_
  refine SWP_region ?_
  refine bx (v := .agg _) rfl rfl (fun B3 => ?_)
  refine bx (v := .agg _) rfl rfl (fun B5 => ?_)
  refine pL rfl rfl ?_
  refine pI rfl rfl ?_
  refine SL_nil ?_
  refine nx ?_
  refine SWP_seq ?_
  refine SWP_seq ?_
  refine SWP_region ?_
  refine lw (v := .agg _) B3 0 rfl rfl rfl rfl ?_
  refine SL_call rfl rfl cb30 (CallsS.frame0 (checkI hin)) rfl (fun v1_1 σ1_1 m1_1 hl1_1 hR1_1 => ?_)
  obtain ⟨σc, rfl, rfl, hm1_1, s, rfl⟩ := hR1_1
  have hn1_1 := hm1_1.symm
  subst hn1_1
  refine pu rfl rfl ?_
  first | refine pI rfl rfl ?_ | refine pu rfl rfl ?_
  first | refine pS rfl rfl ?_ | refine pu rfl rfl ?_
  first | refine pI rfl rfl ?_ | refine pu rfl rfl ?_
  first | refine pS rfl rfl ?_ | refine pu rfl rfl ?_
  refine SL_nil ?_
  refine nx ?_
  refine SWP_seq ?_
  refine SWP_region ?_
  first | refine pI rfl rfl ?_ | refine pu rfl rfl ?_
  refine pc rfl rfl (fun c22 => ?_) (fun c22 => ?_)
  · skip
    refine SL_nil ?_
    refine nx ?_
    refine SWP_ct rfl ?_
    refine SWP_seq ?_
    refine SWP_region ?_
    first | refine pI rfl rfl ?_ | refine pu rfl rfl ?_
    refine pL rfl rfl ?_
    first | refine pI rfl rfl ?_ | refine pu rfl rfl ?_
    refine SL_nil ?_
    refine nx ?_
    refine SWP_ret ?_
    refine nr ?_
    refine fin [_, _] ⟨rfl, rfl, trivial⟩ ?_
    have e : outE g w r = gameErr g := if_pos (by assumption)
    have o : outB g w r = [] := by unfold outB; rw [e]; exact if_pos (by first | assumption | decide)
    rw [e, o]
    exact ⟨_, [], _, rfl, .refl _, .nil⟩
  refine SL_nil ?_
  refine nx ?_
  refine SWP_cf rfl ?_
  refine SWP_skip ?_
  refine nx ?_
  refine SWP_merge1 [6, 7, 24, 25, 26, 27, 28, 29] []
      (fun vs σ' m' => vs = [] ∧ (1 ≤ w ∧ w ≤ 8) ∧ σ' = [(B5, Cells 30 r.enc), (B3, Cells 25 g.enc)] ∧ m = m')
      rfl ?_ ?_
  · skip
    refine SWP_seq ?_
    refine SWP_region ?_
    first | refine pI rfl rfl ?_ | refine pu rfl rfl ?_
    refine pc rfl rfl (fun c25 => ?_) (fun c25 => ?_)
    · skip
      refine pB rfl rfl ?_
      refine SL_no rfl rfl ?_
      refine SL_no rfl rfl ?_
      refine pB rfl rfl ?_
      refine SL_nil ?_
      refine nx ?_
      refine SWP_ct rfl ?_
      refine SWP_seq ?_
      refine SWP_region ?_
      refine pL rfl rfl ?_
      refine pI rfl rfl ?_
      refine SL_nil ?_
      refine nx ?_
      refine SWP_ret ?_
      refine nr ?_
      refine fin [_, _] ⟨rfl, rfl, trivial⟩ ?_
      have e : outE g w r = 2 := (if_neg (by assumption)).trans (if_pos (by omega))
      have o : outB g w r = [] := by unfold outB; rw [e]; exact if_pos (by first | assumption | decide)
      rw [e, o]
      exact ⟨_, [], _, rfl, .refl _, .nil⟩
    refine pB rfl rfl ?_
    refine SL_yes rfl ?_
    first | refine pI rfl rfl ?_ | refine pu rfl rfl ?_
    refine SL_yes rfl ?_
    refine pc rfl rfl (fun c28 => ?_) (fun c28 => ?_)
    · skip
      refine pB rfl rfl ?_
      refine SL_nil ?_
      refine nx ?_
      refine SWP_ct rfl ?_
      refine SWP_seq ?_
      refine SWP_region ?_
      refine pL rfl rfl ?_
      refine pI rfl rfl ?_
      refine SL_nil ?_
      refine nx ?_
      refine SWP_ret ?_
      refine nr ?_
      refine fin [_, _] ⟨rfl, rfl, trivial⟩ ?_
      have e : outE g w r = 2 := (if_neg (by assumption)).trans (if_pos (by omega))
      have o : outB g w r = [] := by unfold outB; rw [e]; exact if_pos (by first | assumption | decide)
      rw [e, o]
      exact ⟨_, [], _, rfl, .refl _, .nil⟩
    refine pB rfl rfl ?_
    refine SL_nil ?_
    refine nx ?_
    refine SWP_cf rfl ?_
    refine SWP_skip ?_
    refine nx ?_
    refine ⟨by repeat (first | with_reducible exact Under.refl _ _ | exact Under.upds rfl (Under.hav _ _ _) | exact Under.hav _ _ _ | refine Under.upd rfl ?_ | refine Under.upds rfl ?_ | refine Under.hav2 rfl ?_), ?_⟩
    exact ⟨rfl, by omega, rfl, rfl⟩
  intro uM0 vM0 σM0 mM0 hM0 _
  obtain ⟨rfl, hw, rfl, rfl⟩ := hM0
  dsimp only [Game.enc, Res.enc]
  refine SWP_seq ?_
  refine SWP_seq ?_
  refine SWP_region ?_
  refine lw (v := .agg _) B3 0 rfl rfl rfl rfl ?_
  refine lw (v := .agg _) B5 0 rfl rfl rfl rfl ?_
  refine SL_pcall rfl rfl cb33 (resI hin hr hs) rfl ?_
  first | refine pI rfl rfl ?_ | refine pu rfl rfl ?_
  refine SL_nil ?_
  refine nx ?_
  refine SWP_seq ?_
  refine SWP_region ?_
  first | refine pI rfl rfl ?_ | refine pu rfl rfl ?_
  refine pc rfl rfl (fun c34 => ?_) (fun c34 => ?_)
  · skip
    refine SL_nil ?_
    refine nx ?_
    refine SWP_ct rfl ?_
    refine SWP_seq ?_
    refine SWP_region ?_
    first | refine pI rfl rfl ?_ | refine pu rfl rfl ?_
    refine pL rfl rfl ?_
    first | refine pI rfl rfl ?_ | refine pu rfl rfl ?_
    refine SL_nil ?_
    refine nx ?_
    refine SWP_ret ?_
    refine nr ?_
    refine fin [_, _] ⟨rfl, rfl, trivial⟩ ?_
    have e : outE g w r = resErr g r := (if_neg (by assumption)).trans (if_neg (by omega))
    have o : outB g w r = [] := by unfold outB; rw [e]; exact if_pos (by first | assumption | decide)
    rw [e, o]
    exact ⟨_, [], _, rfl, .refl _, .nil⟩
  refine SL_nil ?_
  refine nx ?_
  refine SWP_cf rfl ?_
  refine SWP_skip ?_
  refine nx ?_
  refine SWP_seq ?_
  refine SWP_region ?_
  refine pL rfl rfl ?_
  refine SL_nil ?_
  refine nx ?_
  refine SWP_seq ?_
  refine SWP_seq ?_
  refine SWP_region ?_
  refine pu rfl rfl ?_
  refine lw (v := .slice _ _ _) B5 0 rfl rfl rfl rfl ?_
  refine pu rfl rfl ?_
  refine lw (v := .slice _ _ _) B5 1 rfl rfl rfl rfl ?_
  refine pu rfl rfl ?_
  refine lw (v := .slice _ _ _) B5 2 rfl rfl rfl rfl ?_
  have hsm := smallR (g := g) (r := r) (Classical.not_not.1 (by assumption))
  refine pu (v := .agg #[svR r 0, svR r 1, svR r 2]) rfl rfl ?_
  refine pI rfl rfl ?_
  refine SL_nil ?_
  refine nx ?_
  refine SWP_block ?_
  refine SWP_loop [11, 12, 13, 15, 43, 44, 45, 46, 47, 48, 49, 50, 51, 52, 53, 54, 55, 56, 57, 58, 59, 60, 61, 62] [11, 43]
      (fun vs σ' m' => ∃ (i : Nat) (v : Value) (σ1 : Sig), vs = [v, .int .i64 (i : Nat)] ∧ i ≤ 3 ∧ OwnS 42 3 v ((prefB w r i).flatMap Ball.enc) σ1 ∧ σ' = σ1 ++ [(B5, Cells 30 r.enc), (B3, Cells 25 g.enc)] ∧ m = m')
      (fun vs => 3 - nOf (vs.getD 1 undef)) rfl ?_ ?_
  · exact ⟨0, _, [], rfl, by omega, .nil, rfl, rfl⟩
  intro u0 vs0 σ0 m0 hJ0 _
  obtain ⟨i, v, σ1, rfl, hi, hown, rfl, rfl⟩ := hJ0
  refine SWP_seq ?_
  refine SWP_region ?_
  refine pc rfl rfl (fun c44 => ?_) (fun c44 => ?_)
  · skip
    refine SL_nil ?_
    refine nx ?_
    refine SWP_seq ?_
    refine SWP_ct rfl ?_
    refine SWP_skip ?_
    refine nx ?_
    refine SWP_seq ?_
    refine SWP_block ?_
    refine SWP_seq ?_
    refine SWP_region ?_
    first | refine pI rfl rfl ?_ | refine pu rfl rfl ?_
    refine ix (es := 1) (ea := i) (v := svR r i) rfl rfl rfl (Nat.mul_one _) rfl rfl (by omega) (by match i, (show i < 3 by omega) with | 0, _ => rfl | 1, _ => rfl | 2, _ => rfl) rfl ?_
    have hLi := lstR_in hr i (by omega)
    have hLl := lstR_len hsm i
    unfold svR
    first | refine pI rfl rfl ?_ | refine pu rfl rfl ?_
    first | refine pL rfl rfl ?_ | refine pu rfl rfl ?_
    refine SL_nil ?_
    refine nx ?_
    refine SWP_seq ?_
    refine SWP_region ?_
    first | refine pL rfl rfl ?_ | refine pu rfl rfl ?_
    refine pu rfl rfl ?_
    refine pI rfl rfl ?_
    refine SL_nil ?_
    refine nx ?_
    refine SWP_block ?_
    refine SWP_loop [11, 15, 49, 50, 51, 52, 53, 54, 55, 56, 57, 58, 59, 60, 61] [11, 49]
        (fun vs σ' m' => ∃ (k : Nat) (v : Value) (σ1 : Sig), vs = [v, .int .i64 (k : Nat)] ∧ k ≤ (lstR r i).length ∧ OwnS 42 3 v ((prefB w r i ++ ((lstR r i).take k).map (mkB w ((i : Int) + 1))).flatMap Ball.enc) σ1 ∧ σ' = σ1 ++ [(B5, Cells 30 r.enc), (B3, Cells 25 g.enc)] ∧ m = m')
        (fun vs => (lstR r i).length - nOf (vs.getD 1 undef)) rfl ?_ ?_
    · refine ⟨0, v, σ1, rfl, by omega, ?_, rfl, rfl⟩
      rw [List.take_zero, List.map_nil, List.append_nil]
      exact hown
    intro u1 vs1 σ1 m1 hJ1 _
    obtain ⟨k, v, σ1, rfl, hk, hown, rfl, rfl⟩ := hJ1
    have hown2 := hown
    refine SWP_seq ?_
    refine SWP_region ?_
    refine pc rfl rfl (fun c50 => ?_) (fun c50 => ?_)
    · skip
      refine SL_nil ?_
      refine nx ?_
      refine SWP_seq ?_
      refine SWP_ct rfl ?_
      refine SWP_skip ?_
      refine nx ?_
      refine SWP_seq ?_
      refine SWP_block ?_
      refine SWP_seq ?_
      refine SWP_region ?_
      obtain ⟨n, hn⟩ : ∃ n, (lstR r i)[k]? = some n := ⟨_, List.getElem?_eq_getElem (by omega)⟩
      obtain ⟨ad, e1, _, hat⟩ := RL.atI (show RL _ intE 1 (.slice (saR r i) _ (scR r i)) _ from hLi) hn
      rw [e1]
      refine ia (es := 1) rfl rfl rfl (Nat.mul_one _) rfl rfl (by omega) rfl ?_
      rw [← e1]
      refine ldA (v := .int .i64 _) rfl (by assumption) rfl rfl ?_
      refine pI rfl rfl ?_
      refine SL_nil ?_
      refine nx ?_
      refine SWP_region ?_
      first | refine pL rfl rfl ?_ | refine pu rfl rfl ?_
      first | refine pI rfl rfl ?_ | refine pu rfl rfl ?_
      first | refine pI rfl rfl ?_ | refine pu rfl rfl ?_
      first | refine pw rfl rfl (w64 (by omega) (by omega)) ?_ | refine pu rfl rfl ?_
      refine pI rfl rfl ?_
      refine pA rfl rfl ?_
      refine bs rfl rfl rfl rfl rfl (fun B59 => ?_)
      refine ap (e := 42) (size := 3) (bytes := 24) rfl rfl rfl rfl rfl rfl rfl hown (permX [_] σ1 _) rfl (Rd.of_cells (.head _)) rfl rfl (b_room hsm (by omega) hLl _) rfl rfl (fun v60 σ60 hown60 => ?_)
      refine SL_weak (List.Sublist.append_left (List.sublist_cons_self _ _) _) ?_
      have hown9 : OwnS 42 3 v60 ((prefB w r i ++ ((lstR r i).take (k + 1)).map (mkB w ((i : Int) + 1))).flatMap Ball.enc) σ60 := by
        rw [map_snocI hn, ← List.append_assoc, List.flatMap_append]
        exact hown60
      first | refine pL rfl rfl ?_ | refine pu rfl rfl ?_
      refine SL_nil ?_
      refine nb ?_
      refine nx ?_
      refine SWP_region ?_
      first | refine pw rfl rfl (w64 (by omega) (by omega)) ?_ | refine pu rfl rfl ?_
      refine pI rfl rfl ?_
      refine SL_nil ?_
      refine nx ?_
      refine ⟨by repeat (first | exact Under.upds rfl (Under.hav _ _ _) | exact Under.hav _ _ _ | refine Under.upd rfl ?_ | refine Under.upds rfl ?_ | refine Under.hav2 rfl ?_), ?_, ?_⟩
      · exact ⟨k + 1, _, σ60, rfl, by omega, hown9, rfl, rfl⟩
      · simp only [L_vals, List.map, List.getD]; show (lstR r i).length - (k + 1) < (lstR r i).length - k; omega
    refine SL_nil ?_
    refine nx ?_
    refine SWP_seq ?_
    refine SWP_cf rfl ?_
    refine SWP_exit ?_
    refine ne ?_
    refine ne ?_
    refine be rfl ?_
    refine nb ?_
    refine nx ?_
    refine SWP_region ?_
    first | refine pw rfl rfl (w64 (by omega) (by omega)) ?_ | refine pu rfl rfl ?_
    refine pI rfl rfl ?_
    refine SL_nil ?_
    refine nx ?_
    refine ⟨by repeat (first | exact Under.upds rfl (Under.hav _ _ _) | exact Under.hav _ _ _ | refine Under.upd rfl ?_ | refine Under.upds rfl ?_ | refine Under.hav2 rfl ?_), ?_, ?_⟩
    · refine ⟨i + 1, _, _, rfl, by omega, ?_, rfl, rfl⟩
      rw [prefB_succ, ← List.take_of_length_le (l := lstR r i) (i := k) (by omega)]
      exact hown2
    · simp only [L_vals, List.map, List.getD]; show 3 - (i + 1) < 3 - i; omega
  refine SL_nil ?_
  refine nx ?_
  refine SWP_seq ?_
  refine SWP_cf rfl ?_
  refine SWP_exit ?_
  refine ne ?_
  refine ne ?_
  refine be rfl ?_
  refine nx ?_
  refine SWP_seq ?_
  refine SWP_region ?_
  first | refine pL rfl rfl ?_ | refine pu rfl rfl ?_
  first | refine pL rfl rfl ?_ | refine pu rfl rfl ?_
  refine pI rfl rfl ?_
  refine SL_nil ?_
  refine nx ?_
  refine SWP_ret ?_
  refine fin [_, _] ⟨rfl, rfl, trivial⟩ ?_
  have e : outE g w r = 0 := (if_neg (by assumption)).trans ((if_neg (by omega)).trans (Classical.not_not.1 (by assumption)))
  have o : outB g w r = prefB w r 3 := by unfold outB; rw [if_neg (by rw [e]; decide)]
  rw [e, o]
  have e3 : i = 3 := by omega
  rw [e3] at hown
  exact ⟨_, _, _, rfl, .refl _, hown⟩

end Go.Proofs.Ytnpnleapnbdllaa

