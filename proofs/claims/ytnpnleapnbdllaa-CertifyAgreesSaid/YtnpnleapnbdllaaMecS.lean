/- mechanical.Result; lists that are the same. -/
import Derived.Test.YtnpnleapnbdllaaMecR
import Derived.Test.YtnpnleapnbdllaaMatD
namespace Go.Proofs.Ytnpnleapnbdllaa
open Eng

theorem permX3 {α : Type} (a b c d : List α) : (a ++ (b ++ (c ++ d))).Perm (c ++ (a ++ (b ++ d))) := by
  have := permX (a ++ b) c d
  rw [List.append_assoc, List.append_assoc] at this
  exact this
structure OutIs (x : Res) (a b c : List Int) : Prop where
  mn : x.main = a
  bn : x.bonus = b
  xn : x.extra = c
  fc : x.factor = 0
  sr : x.serial = ⟨#[]⟩
noncomputable def mechE (g : Game) (l : List Ball) : Int := if gameErr g ≠ 0 then gameErr g else ballsErr g l
def rawO (l : List Ball) : List Int × List Int × List Int := (numsD 1 l, numsD 2 l, numsD 3 l)
def srtO (l : List Ball) : List Int × List Int × List Int := ((numsD 1 l).mergeSort leI, (numsD 2 l).mergeSort leI, (numsD 3 l).mergeSort leI)
noncomputable def mechO (g : Game) (l : List Ball) : List Int × List Int × List Int := if mechE g l ≠ 0 then ([], [], []) else if g.kind = 1 then srtO l else rawO l
def zeroR : Res := ⟨none, 0, [], none, 0, [], none, 0, [], 0, ⟨#[]⟩⟩
theorem zeroR_in (m : Mem) : zeroR.In m := ⟨RL.nil _ _, RL.nil _ _, RL.nil _ _⟩
theorem zeroR_out : OutIs zeroR [] [] [] := ⟨rfl, rfl, rfl, rfl, rfl⟩
/-- A result whose lists the running code owns. -/
def OwnR (r : Value) (σ : Sig) (e : Int) (o : List Int × List Int × List Int) : Prop :=
  ∃ v1 v2 v3 τ0 σ1 σ2 σ3 τ, σ.Perm (τ0 ++ (σ1 ++ (σ2 ++ (σ3 ++ τ)))) ∧ OwnS 3 1 v1 (o.1.flatMap intE) σ1 ∧ OwnS 3 1 v2 (o.2.1.flatMap intE) σ2 ∧ OwnS 3 1 v3 (o.2.2.flatMap intE) σ3 ∧ r = .tuple #[.agg #[v1, v2, v3, .int .i64 0, .string ⟨#[]⟩], .int .i64 e]
theorem OwnR.zero (σ : Sig) (e : Int) : OwnR (.tuple #[.agg #[.slice none 0 0, .slice none 0 0, .slice none 0 0, .int .i64 0, .string ⟨#[]⟩], .int .i64 e]) σ e ([], [], []) :=
  ⟨_, _, _, σ, [], [], [], [], by simp, .nil, .nil, .nil, rfl⟩
def ResOf (r : Value) (m : Mem) (e : Int) (o : List Int × List Int × List Int) : Prop := ∃ x : Res, r = .tuple #[x.val, .int .i64 e] ∧ x.In m ∧ OutIs x o.1 o.2.1 o.2.2
theorem OwnR.let {r : Value} {σ : Sig} {e : Int} {o : List Int × List Int × List Int} (h : OwnR r σ e o) {g : Gh} {W : World} {m : Mem} (hC : Conc g W m σ) : ∃ m', Conc g W m' [] ∧ Le m m' ∧ ResOf r m' e o := by
  obtain ⟨v1, v2, v3, τ0, σ1, σ2, σ3, τ, hp, h1, h2, h3, rfl⟩ := h
  obtain ⟨m1, l1, c1, r1⟩ := h1.freezeL (by omega) intE_len ((hC.perm hp).sublist (List.sublist_append_right _ _))
  obtain ⟨m2, l2, c2, r2⟩ := h2.freezeL (by omega) intE_len c1
  obtain ⟨m3, l3, c3, r3⟩ := h3.freezeL (by omega) intE_len c2
  obtain ⟨a1, k1, rfl⟩ := r1.len
  obtain ⟨a2, k2, rfl⟩ := r2.len
  obtain ⟨a3, k3, rfl⟩ := r3.len
  exact ⟨m3, c3.sublist (List.nil_sublist _), l1.trans (l2.trans l3), ⟨a1, k1, o.1, a2, k2, o.2.1, a3, k3, o.2.2, 0, ⟨#[]⟩⟩, rfl, ⟨r1.mono (l2.trans l3), r2.mono l3, r3⟩, ⟨rfl, rfl, rfl, rfl, rfl⟩⟩
theorem nums_room (d : Int) (l : List Ball) (i : Nat) (hl : l.length ≤ 4000000) : (((numsD d (l.take i)).flatMap intE).length + 1 * 1) * 8 ≤ 140737488355328 * 1 := by
  rw [flatMap_len intE_len]
  have h1 := cntD_le d (l.take i)
  unfold cntD at h1
  rw [List.length_take] at h1
  omega

theorem intsR {m : Mem} {v w : Value} {a b : List Int} (h : RL m intE 1 v a) (h' : RL m intE 1 w b) : PureCall Try.prog 13 [v, w] m (.bool (decide (a = b))) := by
  refine CallsS.pure ?_
  have hsm := h.small
  obtain ⟨pa, qc, rfl⟩ := h.len
  obtain ⟨pb, qd, rfl⟩ := h'.len
  refine enter Try.func13 Try.ntmps13 rfl rfl ?_
  refine SWP_seq ?_
  refine SWP_region ?_
  refine pB rfl rfl ?_
  refine SL_nil ?_
  refine nx ?_
  refine SWP_seq ?_
  refine SWP_seq ?_
  refine SWP_region ?_
  first | refine pL rfl rfl ?_ | refine pu rfl rfl ?_
  refine pu rfl rfl ?_
  first | refine pL rfl rfl ?_ | refine pu rfl rfl ?_
  refine pu rfl rfl ?_
  refine pc rfl rfl (fun c10 => ?_) (fun c10 => ?_)
  · skip
    refine SL_nil ?_
    refine nx ?_
    refine SWP_ct rfl ?_
    refine SWP_seq ?_
    refine SWP_region ?_
    refine pB rfl rfl ?_
    refine SL_nil ?_
    refine nx ?_
    refine SWP_ret ?_
    refine nr ?_
    refine fin [_] ⟨rfl, trivial⟩ ?_
    exact congrArg Value.bool (decide_eq_false fun e => by subst e; omega).symm
  refine SL_nil ?_
  refine nx ?_
  refine SWP_cf rfl ?_
  refine SWP_skip ?_
  refine nx ?_
  refine SWP_seq ?_
  refine SWP_seq ?_
  refine SWP_region ?_
  refine pI rfl rfl ?_
  refine SL_nil ?_
  refine nx ?_
  refine SWP_block ?_
  refine SWP_loop [4, 5, 11, 12, 13, 14, 15, 16, 17, 18, 19, 20, 21, 22, 23, 24, 25] [5]
      (fun vs σ' m' => ∃ (i : Nat), vs = [.int .i64 (i : Nat)] ∧ i ≤ a.length ∧ (∀ j, j < i → a[j]? = b[j]?) ∧ σ' = [] ∧ m = m')
      (fun vs => a.length - nOf (vs.getD 0 undef)) rfl ?_ ?_
  · exact ⟨0, rfl, by omega, fun j hj => (by omega), rfl, rfl⟩
  intro u0 vs0 σ0 m0 hJ0 _
  obtain ⟨i, rfl, hi, hsame, rfl, rfl⟩ := hJ0
  refine SWP_seq ?_
  refine SWP_seq ?_
  refine SWP_region ?_
  first | refine pI rfl rfl ?_ | refine pu rfl rfl ?_
  first | refine pL rfl rfl ?_ | refine pu rfl rfl ?_
  refine pu rfl rfl ?_
  refine pc rfl rfl (fun c14 => ?_) (fun c14 => ?_)
  · skip
    refine SL_nil ?_
    refine nx ?_
    refine SWP_ct rfl ?_
    refine SWP_skip ?_
    refine nx ?_
    refine SWP_seq ?_
    refine SWP_block ?_
    refine SWP_seq ?_
    obtain ⟨x, hx⟩ : ∃ x, a[i]? = some x := ⟨_, List.getElem?_eq_getElem (by omega)⟩
    obtain ⟨y, hy⟩ : ∃ y, b[i]? = some y := ⟨_, List.getElem?_eq_getElem (by omega)⟩
    obtain ⟨ad, e1, _, hat⟩ := h.atI hx
    cases e1
    obtain ⟨ad', e2, _, hat'⟩ := h'.atI hy
    cases e2
    refine SWP_draws (by kernel_rfl) (by kernel_rfl) ?_
    first | refine pL rfl rfl ?_ | refine pu rfl rfl ?_
    first | refine pI rfl rfl ?_ | refine pu rfl rfl ?_
    first | refine ia (es := 1) rfl rfl rfl (Nat.mul_one _) rfl rfl (by omega) rfl ?_ | refine iai (es := 1) rfl rfl rfl (Nat.mul_one _) rfl rfl (by omega) (by omega) rfl ?_
    refine ldA (v := .int .i64 _) rfl hat rfl rfl ?_
    first | refine pL rfl rfl ?_ | refine pu rfl rfl ?_
    first | refine pI rfl rfl ?_ | refine pu rfl rfl ?_
    first | refine ia (es := 1) rfl rfl rfl (Nat.mul_one _) rfl rfl (by omega) rfl ?_ | refine iai (es := 1) rfl rfl rfl (Nat.mul_one _) rfl rfl (by omega) (by omega) rfl ?_
    refine ldA (v := .int .i64 _) rfl hat' rfl rfl ?_
    refine pc rfl rfl (fun c25 => ?_) (fun c25 => ?_)
    · skip
      refine SL_nil ?_
      refine nx ?_
      refine SWP_ct rfl ?_
      refine SWP_seq ?_
      refine SWP_region ?_
      refine pB rfl rfl ?_
      refine SL_nil ?_
      refine nx ?_
      refine SWP_ret ?_
      refine br ?_
      refine nr ?_
      refine nr ?_
      refine br ?_
      refine nr ?_
      refine fin [_] ⟨rfl, trivial⟩ ?_
      exact congrArg Value.bool (decide_eq_false fun e => by subst e; rw [hx] at hy; cases hy; omega).symm
    refine SL_nil ?_
    refine nx ?_
    refine SWP_cf rfl ?_
    refine SWP_skip ?_
    refine nb ?_
    refine nx ?_
    refine SWP_region ?_
    first | refine pI rfl rfl ?_ | refine pu rfl rfl ?_
    first | refine pw rfl rfl (w64 (by omega) (by omega)) ?_ | refine pu rfl rfl ?_
    refine pI rfl rfl ?_
    refine SL_nil ?_
    refine nx ?_
    refine ⟨by repeat (first | exact Under.upds rfl (Under.hav _ _ _) | exact Under.hav _ _ _ | refine Under.upd rfl ?_), ?_, ?_⟩
    · refine ⟨i + 1, rfl, by omega, fun j hj => ?_, rfl, rfl⟩
      by_cases e : j = i
      · subst e
        rw [hx, hy, show x = y by omega]
      · exact hsame j (by omega)
    · simp only [L_vals, List.map, List.getD]; show a.length - (i + 1) < a.length - i; omega
  refine SL_nil ?_
  refine nx ?_
  refine SWP_cf rfl ?_
  refine SWP_exit ?_
  refine ne ?_
  refine ne ?_
  refine be rfl ?_
  refine nx ?_
  refine SWP_seq ?_
  refine SWP_region ?_
  refine pB rfl rfl ?_
  refine SL_nil ?_
  refine nx ?_
  refine SWP_ret ?_
  refine fin [_] ⟨rfl, trivial⟩ ?_
  exact congrArg Value.bool (decide_eq_true (eq_of_get (by omega) fun j hj => hsame j (by omega))).symm

def sameR (a b : Res) : Prop := a.main = b.main ∧ a.bonus = b.bonus ∧ a.extra = b.extra ∧ a.factor = b.factor ∧ a.serial = b.serial
instance (a b : Res) : Decidable (sameR a b) := by unfold sameR; infer_instance
theorem OutIs.same {x y : Res} {a b c : List Int} (h : OutIs x a b c) (h' : OutIs y a b c) : sameR x y := ⟨h.mn.trans h'.mn.symm, h.bn.trans h'.bn.symm, h.xn.trans h'.xn.symm, h.fc.trans h'.fc.symm, h.sr.trans h'.sr.symm⟩


set_option maxRecDepth 100000 in
theorem resultI {m : Mem} {g : Game} {v : Value} {l : List Ball} (hin : g.In m) (h : RL m Ball.enc 3 v l) (hl : l.length ≤ 4000000) : CallsS Try.prog 16 [g.val, v].toArray [] m fun r σ' m' => σ' = [] ∧ ResOf r m' (mechE g l) (mechO g l) := by
  refine CallsS.ghost (R' := fun r σ' m' => OwnR r σ' (mechE g l) (mechO g l)) ?_ ?h2
  case h2 =>
    intro r σ' m' hR g0 W hC
    obtain ⟨m2, h1, h2, h3⟩ := hR.let hC
    exact ⟨[], m2, h1, h2, rfl, h3⟩
  obtain ⟨pa, pcap, rfl⟩ := h.len
  dsimp only [Game.val]
  refine enter Try.func16 Try.ntmps16 rfl rfl ?_
  refine SWP_seq ?_
  refine SWP_region ?_
  refine bx (v := .agg _) rfl rfl (fun B2 => ?_)
  refine al rfl rfl (fun B4 => ?_)
  refine pI rfl rfl ?_
  refine SL_nil ?_
  refine nx ?_
  refine SWP_seq ?_
  refine SWP_seq ?_
  refine SWP_region ?_
  refine lw (v := .agg _) B2 0 rfl rfl rfl rfl ?_
  refine SL_call rfl rfl cb30 (CallsS.frame0 (checkI hin)) rfl (fun v1_1 σ1_1 m1_1 hl1_1 hR1_1 => ?_)
  obtain ⟨σc, rfl, rfl, hm1_1, s, rfl⟩ := hR1_1
  have hn1_1 := hm1_1.symm
  subst hn1_1
  refine pu rfl rfl ?_
  first | refine pI rfl rfl ?_ | refine pu rfl rfl ?_
  first | refine pS rfl rfl ?_ | refine pu rfl rfl ?_
  first | refine pI rfl rfl ?_ | refine pu rfl rfl ?_
  first | refine pS rfl rfl ?_ | refine pu rfl rfl ?_
  refine SL_nil ?_
  refine nx ?_
  refine SWP_seq ?_
  refine SWP_region ?_
  first | refine pI rfl rfl ?_ | refine pu rfl rfl ?_
  refine pc rfl rfl (fun c18 => ?_) (fun c18 => ?_)
  · skip
    refine SL_nil ?_
    refine nx ?_
    refine SWP_ct rfl ?_
    refine SWP_seq ?_
    refine SWP_region ?_
    refine pA rfl rfl ?_
    first | refine pI rfl rfl ?_ | refine pu rfl rfl ?_
    refine sw (v := .agg _) B4 0 rfl rfl rfl rfl rfl rfl rfl ?_
    first | refine pI rfl rfl ?_ | refine pu rfl rfl ?_
    refine SL_nil ?_
    refine nx ?_
    refine SWP_ret ?_
    refine nr ?_
    refine fin [_, _] ⟨⟨_, _, rfl, Rd.of_cells (MemO.mem (B := B4)), rfl⟩, rfl, trivial⟩ ?_
    have e : mechE g l = gameErr g := if_pos (by assumption)
    have o : mechO g l = ([], [], []) := by unfold mechO; rw [e]; exact if_pos (by assumption)
    rw [e, o]
    exact OwnR.zero _ _
  refine SL_nil ?_
  refine nx ?_
  refine SWP_cf rfl ?_
  refine SWP_skip ?_
  refine nx ?_
  refine SWP_seq ?_
  refine SWP_seq ?_
  refine SWP_region ?_
  refine lw (v := .agg _) B2 0 rfl rfl rfl rfl ?_
  first | refine pL rfl rfl ?_ | refine pu rfl rfl ?_
  refine SL_pcall rfl rfl cb31 (checkB h hl) rfl ?_
  first | refine pI rfl rfl ?_ | refine pu rfl rfl ?_
  refine SL_nil ?_
  refine nx ?_
  refine SWP_seq ?_
  refine SWP_region ?_
  first | refine pI rfl rfl ?_ | refine pu rfl rfl ?_
  refine pc rfl rfl (fun c25 => ?_) (fun c25 => ?_)
  · skip
    refine SL_nil ?_
    refine nx ?_
    refine SWP_ct rfl ?_
    refine SWP_seq ?_
    refine SWP_region ?_
    refine pA rfl rfl ?_
    first | refine pI rfl rfl ?_ | refine pu rfl rfl ?_
    refine sw (v := .agg _) B4 0 rfl rfl rfl rfl rfl rfl rfl ?_
    first | refine pI rfl rfl ?_ | refine pu rfl rfl ?_
    refine SL_nil ?_
    refine nx ?_
    refine SWP_ret ?_
    refine nr ?_
    refine fin [_, _] ⟨⟨_, _, rfl, Rd.of_cells (MemO.mem (B := B4)), rfl⟩, rfl, trivial⟩ ?_
    have e : mechE g l = ballsErr g l := if_neg (by assumption)
    have o : mechO g l = ([], [], []) := by unfold mechO; rw [e]; exact if_pos (by assumption)
    rw [e, o]
    exact OwnR.zero _ _
  refine SL_nil ?_
  refine nx ?_
  refine SWP_cf rfl ?_
  refine SWP_skip ?_
  refine nx ?_
  refine SWP_seq ?_
  refine SWP_region ?_
  refine al rfl rfl (fun B9 => ?_)
  refine SL_nil ?_
  refine nx ?_
  refine SWP_seq ?_
  refine SWP_seq ?_
  refine SWP_region ?_
  first | refine pL rfl rfl ?_ | refine pu rfl rfl ?_
  refine pu rfl rfl ?_
  refine pI rfl rfl ?_
  refine SL_nil ?_
  refine nx ?_
  refine SWP_block ?_
  refine SWP_loop [11, 30, 31, 32, 33, 34, 35, 36, 37, 38, 39, 40, 41, 42, 43, 44, 45, 46, 47, 48, 49, 50, 51, 52, 53, 54, 55, 56, 57, 58, 59, 60, 61, 62, 63] [30]
      (fun vs σ' m' => ∃ (i : Nat) (v1 v2 v3 : Value) (σ1 σ2 σ3 : Sig), vs = [.int .i64 (i : Nat)] ∧ i ≤ l.length ∧ OwnS 3 1 v1 ((numsD 1 (l.take i)).flatMap intE) σ1 ∧ OwnS 3 1 v2 ((numsD 2 (l.take i)).flatMap intE) σ2 ∧ OwnS 3 1 v3 ((numsD 3 (l.take i)).flatMap intE) σ3 ∧ σ' = (B9, Cells 30 [v1, v2, v3, .int .i64 0, .string ⟨#[]⟩]) :: (σ1 ++ (σ2 ++ (σ3 ++ [(B4, Cells 30 zeroR.enc), (B2, Cells 25 g.enc)]))) ∧ m = m')
      (fun vs => l.length - nOf (vs.getD 0 undef)) rfl ?_ ?_
  · exact ⟨0, _, _, _, [], [], [], rfl, by omega, .nil, .nil, .nil, rfl, rfl⟩
  intro u0 vs0 σ0 m0 hJ0 _
  obtain ⟨i, v1, v2, v3, σ1, σ2, σ3, rfl, hi, hown1, hown2, hown3, rfl, rfl⟩ := hJ0
  obtain ⟨a1, k1, rfl⟩ := hown1.lenL (by omega) intE_len
  obtain ⟨a2, k2, rfl⟩ := hown2.lenL (by omega) intE_len
  obtain ⟨a3, k3, rfl⟩ := hown3.lenL (by omega) intE_len
  refine SWP_seq ?_
  refine SWP_region ?_
  refine pc rfl rfl (fun c31 => ?_) (fun c31 => ?_)
  · skip
    refine SL_nil ?_
    refine nx ?_
    refine SWP_seq ?_
    refine SWP_ct rfl ?_
    refine SWP_skip ?_
    refine nx ?_
    refine SWP_seq ?_
    refine SWP_block ?_
    refine SWP_seq ?_
    obtain ⟨b, hb⟩ : ∃ b, l[i]? = some b := ⟨_, List.getElem?_eq_getElem (by omega)⟩
    obtain ⟨ad, e1, _, hat⟩ := h.atA Ball.enc_len hb
    rw [e1]
    refine SWP_region ?_
    first | refine ia (es := 3) rfl rfl rfl rfl rfl rfl (by omega) rfl ?_ | refine iai (es := 3) rfl rfl rfl rfl rfl rfl (by omega) (by omega) rfl ?_
    refine ldA (v := .agg _) rfl (by assumption) rfl rfl ?_
    refine al rfl rfl (fun B11 => ?_)
    refine sw (v := .agg _) B11 0 rfl rfl rfl rfl rfl rfl rfl ?_
    refine SL_nil ?_
    refine nx ?_
    refine SWP_seq ?_
    rw [← e1]
    refine SWP_region ?_
    refine pu rfl rfl ?_
    refine lw (v := .int .i64 _) B11 1 rfl rfl rfl rfl ?_
    refine SL_nil ?_
    refine nx ?_
    refine SWP_block ?_
    refine SWP_seq ?_
    refine SWP_region ?_
    refine pc rfl rfl (fun c37 => ?_) (fun c37 => ?_)
    · skip
      refine pB rfl rfl ?_
      refine SL_nil ?_
      refine nx ?_
      refine SWP_ct rfl ?_
      refine SWP_region ?_
      refine pu rfl rfl ?_
      refine lw (v := .slice _ _ _) B9 0 rfl rfl rfl rfl ?_
      refine pu rfl rfl ?_
      refine lw (v := .int .i64 _) B11 2 rfl rfl rfl rfl ?_
      refine bs rfl rfl rfl rfl rfl (fun B42 => ?_)
      refine ap (e := 3) (size := 1) (bytes := 8) rfl rfl rfl rfl rfl rfl rfl hown1 (permX [_, _, _] σ1 _) rfl (Rd.of_cells (.head _)) rfl rfl (nums_room 1 l i hl) rfl rfl (fun w σw howw => ?_)
      have hown9 : OwnS 3 1 w ((numsD 1 (l.take i) ++ [b.num]).flatMap intE) σw := by
        rw [List.flatMap_append]; exact howw
      obtain ⟨aw, kw, rfl⟩ := hown9.lenL (by omega) intE_len
      refine SL_weak (List.Sublist.append_left (.cons _ (.cons _ (.refl _))) _) ?_
      refine SL_perm List.perm_middle ?_
      refine pu rfl rfl ?_
      refine sw (v := .slice _ _ _) B9 0 rfl rfl rfl rfl rfl rfl rfl ?_
      refine SL_nil ?_
      refine nb ?_
      refine nb ?_
      refine nx ?_
      refine SWP_region ?_
      first | refine pw rfl rfl (w64 (by omega) (by omega)) ?_ | refine pu rfl rfl ?_
      refine pI rfl rfl ?_
      refine SL_nil ?_
      refine nx ?_
      refine ⟨by repeat (first | exact Under.upds rfl (Under.hav _ _ _) | exact Under.hav _ _ _ | refine Under.upd rfl ?_), ?_, ?_⟩
      · refine ⟨i + 1, _, _, _, _, _, _, rfl, by omega, ?_, ?_, ?_, rfl, rfl⟩
        all_goals
          rw [take_snocA hb, numsD_snoc]
          first
            | (rw [if_pos (by omega)]; assumption)
            | (rw [if_neg (by omega)]; assumption)
      · simp only [L_vals, List.map, List.getD]; show l.length - (i + 1) < l.length - i; omega
    refine pB rfl rfl ?_
    refine SL_nil ?_
    refine nx ?_
    refine SWP_cf rfl ?_
    refine SWP_seq ?_
    refine SWP_region ?_
    refine pc rfl rfl (fun c46 => ?_) (fun c46 => ?_)
    · skip
      refine pB rfl rfl ?_
      refine SL_nil ?_
      refine nx ?_
      refine SWP_ct rfl ?_
      refine SWP_region ?_
      refine pu rfl rfl ?_
      refine lw (v := .slice _ _ _) B9 1 rfl rfl rfl rfl ?_
      refine pu rfl rfl ?_
      refine lw (v := .int .i64 _) B11 2 rfl rfl rfl rfl ?_
      refine bs rfl rfl rfl rfl rfl (fun B51 => ?_)
      refine ap (e := 3) (size := 1) (bytes := 8) rfl rfl rfl rfl rfl rfl rfl hown2 (permX ([_, _, _] ++ σ1) σ2 _) rfl (Rd.of_cells (.head _)) rfl rfl (nums_room 2 l i hl) rfl rfl (fun w σw howw => ?_)
      have hown9 : OwnS 3 1 w ((numsD 2 (l.take i) ++ [b.num]).flatMap intE) σw := by
        rw [List.flatMap_append]; exact howw
      obtain ⟨aw, kw, rfl⟩ := hown9.lenL (by omega) intE_len
      refine SL_weak (List.Sublist.append_left (.cons _ (.cons _ (.refl _))) _) ?_
      refine SL_perm (permX σw ([_] ++ σ1) _) ?_
      refine pu rfl rfl ?_
      refine sw (v := .slice _ _ _) B9 1 rfl rfl rfl rfl rfl rfl rfl ?_
      refine SL_nil ?_
      refine nb ?_
      refine nb ?_
      refine nx ?_
      refine SWP_region ?_
      first | refine pw rfl rfl (w64 (by omega) (by omega)) ?_ | refine pu rfl rfl ?_
      refine pI rfl rfl ?_
      refine SL_nil ?_
      refine nx ?_
      refine ⟨by repeat (first | exact Under.upds rfl (Under.hav _ _ _) | exact Under.hav _ _ _ | refine Under.upd rfl ?_), ?_, ?_⟩
      · refine ⟨i + 1, _, _, _, _, _, _, rfl, by omega, ?_, ?_, ?_, rfl, rfl⟩
        all_goals
          rw [take_snocA hb, numsD_snoc]
          first
            | (rw [if_pos (by omega)]; assumption)
            | (rw [if_neg (by omega)]; assumption)
      · simp only [L_vals, List.map, List.getD]; show l.length - (i + 1) < l.length - i; omega
    refine pB rfl rfl ?_
    refine SL_nil ?_
    refine nx ?_
    refine SWP_cf rfl ?_
    refine SWP_seq ?_
    refine SWP_region ?_
    refine pc rfl rfl (fun c55 => ?_) (fun c55 => ?_)
    · skip
      refine pB rfl rfl ?_
      refine SL_nil ?_
      refine nx ?_
      refine SWP_ct rfl ?_
      refine SWP_region ?_
      refine pu rfl rfl ?_
      refine lw (v := .slice _ _ _) B9 2 rfl rfl rfl rfl ?_
      refine pu rfl rfl ?_
      refine lw (v := .int .i64 _) B11 2 rfl rfl rfl rfl ?_
      refine bs rfl rfl rfl rfl rfl (fun B60 => ?_)
      refine ap (e := 3) (size := 1) (bytes := 8) rfl rfl rfl rfl rfl rfl rfl hown3 (permX3 ([_, _, _] ++ σ1) σ2 σ3 _) rfl (Rd.of_cells (.head _)) rfl rfl (nums_room 3 l i hl) rfl rfl (fun w σw howw => ?_)
      have hown9 : OwnS 3 1 w ((numsD 3 (l.take i) ++ [b.num]).flatMap intE) σw := by
        rw [List.flatMap_append]; exact howw
      obtain ⟨aw, kw, rfl⟩ := hown9.lenL (by omega) intE_len
      refine SL_weak (List.Sublist.append_left (.cons _ (.cons _ (.refl _))) _) ?_
      refine SL_perm (permX3 ([_] ++ σ1) σ2 σw _).symm ?_
      refine pu rfl rfl ?_
      refine sw (v := .slice _ _ _) B9 2 rfl rfl rfl rfl rfl rfl rfl ?_
      refine SL_nil ?_
      refine nb ?_
      refine nb ?_
      refine nx ?_
      refine SWP_region ?_
      first | refine pw rfl rfl (w64 (by omega) (by omega)) ?_ | refine pu rfl rfl ?_
      refine pI rfl rfl ?_
      refine SL_nil ?_
      refine nx ?_
      refine ⟨by repeat (first | exact Under.upds rfl (Under.hav _ _ _) | exact Under.hav _ _ _ | refine Under.upd rfl ?_), ?_, ?_⟩
      · refine ⟨i + 1, _, _, _, _, _, _, rfl, by omega, ?_, ?_, ?_, rfl, rfl⟩
        all_goals
          rw [take_snocA hb, numsD_snoc]
          first
            | (rw [if_pos (by omega)]; assumption)
            | (rw [if_neg (by omega)]; assumption)
      · simp only [L_vals, List.map, List.getD]; show l.length - (i + 1) < l.length - i; omega
    refine pB rfl rfl ?_
    refine SL_nil ?_
    refine nx ?_
    refine SWP_cf rfl ?_
    refine SWP_skip ?_
    refine nb ?_
    refine nb ?_
    refine nx ?_
    refine SWP_weak (List.sublist_cons_self _ _) ?_
    refine SWP_region ?_
    first | refine pw rfl rfl (w64 (by omega) (by omega)) ?_ | refine pu rfl rfl ?_
    refine pI rfl rfl ?_
    refine SL_nil ?_
    refine nx ?_
    refine ⟨by repeat (first | exact Under.upds rfl (Under.hav _ _ _) | exact Under.hav _ _ _ | refine Under.upd rfl ?_), ?_, ?_⟩
    · refine ⟨i + 1, _, _, _, _, _, _, rfl, by omega, ?_, ?_, ?_, rfl, rfl⟩
      all_goals
        rw [take_snocA hb, numsD_snoc]
        first
          | (rw [if_pos (by omega)]; assumption)
          | (rw [if_neg (by omega)]; assumption)
    · simp only [L_vals, List.map, List.getD]; show l.length - (i + 1) < l.length - i; omega
  refine SL_nil ?_
  refine nx ?_
  refine SWP_seq ?_
  refine SWP_cf rfl ?_
  refine SWP_exit ?_
  refine ne ?_
  refine ne ?_
  refine be rfl ?_
  refine nx ?_
  refine SWP_seq ?_
  refine SWP_seq ?_
  refine SWP_region ?_
  refine pu rfl rfl ?_
  refine lw (v := .int .i64 _) B2 1 rfl rfl rfl rfl ?_
  refine pc rfl rfl (fun c66 => ?_) (fun c66 => ?_)
  · skip
    refine SL_nil ?_
    refine nx ?_
    refine SWP_ct rfl ?_
    refine SWP_seq ?_
    have hsz : ∀ k : Nat, (numsD k (l.take i)).length < 4611686018427387904 := fun k => by have h1 := cntD_le k (l.take i); unfold cntD at h1; rw [List.length_take] at h1; omega
    refine SWP_region ?_
    refine pu rfl rfl ?_
    refine lw (v := .slice _ _ _) B9 0 rfl rfl rfl rfl ?_
    refine SL_call rfl rfl cb32 (CallsS.perm1 (sortI hown1 (hsz 1)) (permX [_] σ1 _)) rfl (fun v20_2 σ20_2 m20_2 hl20_2 hR20_2 => ?_)
    obtain ⟨hm20_2, σs1, rfl, hs1⟩ := hR20_2
    have hn20_2 := hm20_2.symm
    subst hn20_2
    refine SL_perm (List.perm_middle) ?_
    refine SL_nil ?_
    refine nx ?_
    refine SWP_seq ?_
    refine SWP_region ?_
    refine pu rfl rfl ?_
    refine lw (v := .slice _ _ _) B9 1 rfl rfl rfl rfl ?_
    refine SL_call rfl rfl cb32 (CallsS.perm1 (sortI hown2 (hsz 2)) (permX ([_] ++ σs1) σ2 _)) rfl (fun v21_2 σ21_2 m21_2 hl21_2 hR21_2 => ?_)
    obtain ⟨hm21_2, σs2, rfl, hs2⟩ := hR21_2
    have hn21_2 := hm21_2.symm
    subst hn21_2
    refine SL_perm (permX σs2 ([_] ++ σs1) _) ?_
    refine SL_nil ?_
    refine nx ?_
    refine SWP_region ?_
    refine pu rfl rfl ?_
    refine lw (v := .slice _ _ _) B9 2 rfl rfl rfl rfl ?_
    refine SL_call rfl rfl cb32 (CallsS.perm1 (sortI hown3 (hsz 3)) (permX3 ([_] ++ σs1) σs2 σ3 _)) rfl (fun v22_2 σ22_2 m22_2 hl22_2 hR22_2 => ?_)
    obtain ⟨hm22_2, σs3, rfl, hs3⟩ := hR22_2
    have hn22_2 := hm22_2.symm
    subst hn22_2
    refine SL_perm ((permX3 ([_] ++ σs1) σs2 σs3 _).symm) ?_
    refine SL_nil ?_
    refine nx ?_
    refine SWP_seq ?_
    refine SWP_region ?_
    refine lw (v := .agg _) B9 0 rfl rfl rfl rfl ?_
    refine sw (v := .agg _) B4 0 rfl rfl rfl rfl rfl rfl rfl ?_
    refine pI rfl rfl ?_
    refine SL_nil ?_
    refine nx ?_
    refine SWP_ret ?_
    refine fin [_, _] ⟨⟨_, _, rfl, Rd.of_cells (MemO.mem (B := B4)), rfl⟩, rfl, trivial⟩ ?_
    have e : mechE g l = 0 := (if_neg (by assumption)).trans (Classical.not_not.1 (by assumption))
    have el : l.take i = l := List.take_of_length_le (by omega)
    rw [el] at hs1 hs2 hs3
    have o : mechO g l = srtO l := by unfold mechO; rw [if_neg (by rw [e]; decide), if_pos (by assumption)]
    rw [e, o, el]
    exact ⟨_, _, _, [_], σs1, σs2, σs3, _, .refl _, hs1, hs2, hs3, rfl⟩
  refine SL_nil ?_
  refine nx ?_
  refine SWP_cf rfl ?_
  refine SWP_skip ?_
  refine nx ?_
  refine SWP_seq ?_
  refine SWP_region ?_
  refine lw (v := .agg _) B9 0 rfl rfl rfl rfl ?_
  refine sw (v := .agg _) B4 0 rfl rfl rfl rfl rfl rfl rfl ?_
  refine pI rfl rfl ?_
  refine SL_nil ?_
  refine nx ?_
  refine SWP_ret ?_
  refine fin [_, _] ⟨⟨_, _, rfl, Rd.of_cells (MemO.mem (B := B4)), rfl⟩, rfl, trivial⟩ ?_
  have e : mechE g l = 0 := (if_neg (by assumption)).trans (Classical.not_not.1 (by assumption))
  have el : l.take i = l := List.take_of_length_le (by omega)
  rw [el] at hown1 hown2 hown3
  have o : mechO g l = rawO l := by unfold mechO; rw [if_neg (by rw [e]; decide), if_neg (by assumption)]
  rw [e, o, el]
  exact ⟨_, _, _, [_], σ1, σ2, σ3, _, .refl _, hown1, hown2, hown3, rfl⟩

end Go.Proofs.Ytnpnleapnbdllaa

