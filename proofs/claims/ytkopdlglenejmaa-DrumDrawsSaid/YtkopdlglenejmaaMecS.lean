/- mechanical.Result; lists that are the same. -/
import Derived.Test.YtkopdlglenejmaaGamL
import Derived.Test.YtkopdlglenejmaaMatD
namespace Go.Proofs.Ytkopdlglenejmaa
open Eng

theorem permX3 {α : Type} (a b c d : List α) : (a ++ (b ++ (c ++ d))).Perm (c ++ (a ++ (b ++ d))) := by
  have := permX (a ++ b) c d
  rw [List.append_assoc, List.append_assoc] at this
  exact this
structure OutIs (x : Res) (a b c : List Int) : Prop where
  mn : x.main = a
  bn : x.bonus = b
  xn : x.extra = c
  fc : x.factor = 0
  sr : x.serial = ⟨#[]⟩



def zeroR : Res := ⟨none, 0, [], none, 0, [], none, 0, [], 0, ⟨#[]⟩⟩
theorem zeroR_in (m : Mem) : zeroR.In m := ⟨RL.nil _ _, RL.nil _ _, RL.nil _ _⟩
theorem zeroR_out : OutIs zeroR [] [] [] := ⟨rfl, rfl, rfl, rfl, rfl⟩
/-- A result whose lists the running code owns. -/
def OwnR (r : Value) (σ : Sig) (e : Int) (o : List Int × List Int × List Int) : Prop :=
  ∃ v1 v2 v3 τ0 σ1 σ2 σ3 τ, σ.Perm (τ0 ++ (σ1 ++ (σ2 ++ (σ3 ++ τ)))) ∧ OwnS 3 1 v1 (o.1.flatMap intE) σ1 ∧ OwnS 3 1 v2 (o.2.1.flatMap intE) σ2 ∧ OwnS 3 1 v3 (o.2.2.flatMap intE) σ3 ∧ r = .tuple #[.agg #[v1, v2, v3, .int .i64 0, .string ⟨#[]⟩], .int .i64 e]
theorem OwnR.zero (σ : Sig) (e : Int) : OwnR (.tuple #[.agg #[.slice none 0 0, .slice none 0 0, .slice none 0 0, .int .i64 0, .string ⟨#[]⟩], .int .i64 e]) σ e ([], [], []) :=
  ⟨_, _, _, σ, [], [], [], [], by simp, .nil, .nil, .nil, rfl⟩
def ResOf (r : Value) (m : Mem) (e : Int) (o : List Int × List Int × List Int) : Prop := ∃ x : Res, r = .tuple #[x.val, .int .i64 e] ∧ x.In m ∧ OutIs x o.1 o.2.1 o.2.2
theorem OwnR.let {r : Value} {σ : Sig} {e : Int} {o : List Int × List Int × List Int} (h : OwnR r σ e o) {g : Gh} {W : World} {m : Mem} (hC : Conc g W m σ) : ∃ m', Conc g W m' [] ∧ Le m m' ∧ ResOf r m' e o := by
  obtain ⟨v1, v2, v3, τ0, σ1, σ2, σ3, τ, hp, h1, h2, h3, rfl⟩ := h
  obtain ⟨m1, l1, c1, r1⟩ := h1.freezeL (by omega) intE_len ((hC.perm hp).sublist (List.sublist_append_right _ _))
  obtain ⟨m2, l2, c2, r2⟩ := h2.freezeL (by omega) intE_len c1
  obtain ⟨m3, l3, c3, r3⟩ := h3.freezeL (by omega) intE_len c2
  obtain ⟨a1, k1, rfl⟩ := r1.len
  obtain ⟨a2, k2, rfl⟩ := r2.len
  obtain ⟨a3, k3, rfl⟩ := r3.len
  exact ⟨m3, c3.sublist (List.nil_sublist _), l1.trans (l2.trans l3), ⟨a1, k1, o.1, a2, k2, o.2.1, a3, k3, o.2.2, 0, ⟨#[]⟩⟩, rfl, ⟨r1.mono (l2.trans l3), r2.mono l3, r3⟩, ⟨rfl, rfl, rfl, rfl, rfl⟩⟩



theorem intsR {m : Mem} {v w : Value} {a b : List Int} (h : RL m intE 1 v a) (h' : RL m intE 1 w b) : PureCall Try.prog 18 [v, w] m (.bool (decide (a = b))) := by
  refine CallsS.pure ?_
  have hsm := h.small
  obtain ⟨pa, qc, rfl⟩ := h.len
  obtain ⟨pb, qd, rfl⟩ := h'.len
  refine enter Try.func18 Try.ntmps18 rfl rfl ?_
  refine SWP_seq ?_
  refine SWP_region ?_
  refine pB rfl rfl ?_
  refine SL_nil ?_
  refine nx ?_
  refine SWP_seq ?_
  refine SWP_seq ?_
  refine SWP_region ?_
  first | refine pL rfl rfl ?_ | refine pu rfl rfl ?_
  refine pu rfl rfl ?_
  first | refine pL rfl rfl ?_ | refine pu rfl rfl ?_
  refine pu rfl rfl ?_
  refine pc rfl rfl (fun c10 => ?_) (fun c10 => ?_)
  · skip
    refine SL_nil ?_
    refine nx ?_
    refine SWP_ct rfl ?_
    refine SWP_seq ?_
    refine SWP_region ?_
    refine pB rfl rfl ?_
    refine SL_nil ?_
    refine nx ?_
    refine SWP_ret ?_
    refine nr ?_
    refine fin [_] ⟨rfl, trivial⟩ ?_
    exact congrArg Value.bool (decide_eq_false fun e => by subst e; omega).symm
  refine SL_nil ?_
  refine nx ?_
  refine SWP_cf rfl ?_
  refine SWP_skip ?_
  refine nx ?_
  refine SWP_seq ?_
  refine SWP_seq ?_
  refine SWP_region ?_
  refine pI rfl rfl ?_
  refine SL_nil ?_
  refine nx ?_
  refine SWP_block ?_
  refine SWP_loop [4, 5, 11, 12, 13, 14, 15, 16, 17, 18, 19, 20, 21, 22, 23, 24, 25] [5]
      (fun vs σ' m' => ∃ (i : Nat), vs = [.int .i64 (i : Nat)] ∧ i ≤ a.length ∧ (∀ j, j < i → a[j]? = b[j]?) ∧ σ' = [] ∧ m = m')
      (fun vs => a.length - nOf (vs.getD 0 undef)) rfl ?_ ?_
  · exact ⟨0, rfl, by omega, fun j hj => (by omega), rfl, rfl⟩
  intro u0 vs0 σ0 m0 hJ0 _
  obtain ⟨i, rfl, hi, hsame, rfl, rfl⟩ := hJ0
  refine SWP_seq ?_
  refine SWP_seq ?_
  refine SWP_region ?_
  first | refine pI rfl rfl ?_ | refine pu rfl rfl ?_
  first | refine pL rfl rfl ?_ | refine pu rfl rfl ?_
  refine pu rfl rfl ?_
  refine pc rfl rfl (fun c14 => ?_) (fun c14 => ?_)
  · skip
    refine SL_nil ?_
    refine nx ?_
    refine SWP_ct rfl ?_
    refine SWP_skip ?_
    refine nx ?_
    refine SWP_seq ?_
    refine SWP_block ?_
    refine SWP_seq ?_
    obtain ⟨x, hx⟩ : ∃ x, a[i]? = some x := ⟨_, List.getElem?_eq_getElem (by omega)⟩
    obtain ⟨y, hy⟩ : ∃ y, b[i]? = some y := ⟨_, List.getElem?_eq_getElem (by omega)⟩
    obtain ⟨ad, e1, _, hat⟩ := h.atI hx
    cases e1
    obtain ⟨ad', e2, _, hat'⟩ := h'.atI hy
    cases e2
    refine SWP_draws (by kernel_rfl) (by kernel_rfl) ?_
    first | refine pL rfl rfl ?_ | refine pu rfl rfl ?_
    first | refine pI rfl rfl ?_ | refine pu rfl rfl ?_
    first | refine ia (es := 1) rfl rfl rfl (Nat.mul_one _) rfl rfl (by omega) rfl ?_ | refine iai (es := 1) rfl rfl rfl (Nat.mul_one _) rfl rfl (by omega) (by omega) rfl ?_
    refine ldA (v := .int .i64 _) rfl hat rfl rfl ?_
    first | refine pL rfl rfl ?_ | refine pu rfl rfl ?_
    first | refine pI rfl rfl ?_ | refine pu rfl rfl ?_
    first | refine ia (es := 1) rfl rfl rfl (Nat.mul_one _) rfl rfl (by omega) rfl ?_ | refine iai (es := 1) rfl rfl rfl (Nat.mul_one _) rfl rfl (by omega) (by omega) rfl ?_
    refine ldA (v := .int .i64 _) rfl hat' rfl rfl ?_
    refine pc rfl rfl (fun c25 => ?_) (fun c25 => ?_)
    · skip
      refine SL_nil ?_
      refine nx ?_
      refine SWP_ct rfl ?_
      refine SWP_seq ?_
      refine SWP_region ?_
      refine pB rfl rfl ?_
      refine SL_nil ?_
      refine nx ?_
      refine SWP_ret ?_
      refine br ?_
      refine nr ?_
      refine nr ?_
      refine br ?_
      refine nr ?_
      refine fin [_] ⟨rfl, trivial⟩ ?_
      exact congrArg Value.bool (decide_eq_false fun e => by subst e; rw [hx] at hy; cases hy; omega).symm
    refine SL_nil ?_
    refine nx ?_
    refine SWP_cf rfl ?_
    refine SWP_skip ?_
    refine nb ?_
    refine nx ?_
    refine SWP_region ?_
    first | refine pI rfl rfl ?_ | refine pu rfl rfl ?_
    first | refine pw rfl rfl (w64 (by omega) (by omega)) ?_ | refine pu rfl rfl ?_
    refine pI rfl rfl ?_
    refine SL_nil ?_
    refine nx ?_
    refine ⟨by repeat (first | exact Under.upds rfl (Under.hav _ _ _) | exact Under.hav _ _ _ | refine Under.upd rfl ?_), ?_, ?_⟩
    · refine ⟨i + 1, rfl, by omega, fun j hj => ?_, rfl, rfl⟩
      by_cases e : j = i
      · subst e
        rw [hx, hy, show x = y by omega]
      · exact hsame j (by omega)
    · simp only [L_vals, List.map, List.getD]; show a.length - (i + 1) < a.length - i; omega
  refine SL_nil ?_
  refine nx ?_
  refine SWP_cf rfl ?_
  refine SWP_exit ?_
  refine ne ?_
  refine ne ?_
  refine be rfl ?_
  refine nx ?_
  refine SWP_seq ?_
  refine SWP_region ?_
  refine pB rfl rfl ?_
  refine SL_nil ?_
  refine nx ?_
  refine SWP_ret ?_
  refine fin [_] ⟨rfl, trivial⟩ ?_
  exact congrArg Value.bool (decide_eq_true (eq_of_get (by omega) fun j hj => hsame j (by omega))).symm

def sameR (a b : Res) : Prop := a.main = b.main ∧ a.bonus = b.bonus ∧ a.extra = b.extra ∧ a.factor = b.factor ∧ a.serial = b.serial
instance (a b : Res) : Decidable (sameR a b) := by unfold sameR; infer_instance
theorem OutIs.same {x y : Res} {a b c : List Int} (h : OutIs x a b c) (h' : OutIs y a b c) : sameR x y := ⟨h.mn.trans h'.mn.symm, h.bn.trans h'.bn.symm, h.xn.trans h'.xn.symm, h.fc.trans h'.fc.symm, h.sr.trans h'.sr.symm⟩

set_option maxRecDepth 100000 in
theorem sameF {m : Mem} {a b : Res} (ha : a.In m) (hb : b.In m) : PureCall Try.prog 13 [a.val, b.val] m (.bool (decide (sameR a b))) := by
  refine CallsS.pure ?_
  dsimp only [Res.val]
  refine enter Try.func13 Try.ntmps13 rfl rfl ?_
  refine SWP_seq ?_
  refine SWP_region ?_
  refine bx (v := .agg _) rfl rfl (fun B2 => ?_)
  refine bx (v := .agg _) rfl rfl (fun B3 => ?_)
  refine pB rfl rfl ?_
  refine SL_nil ?_
  refine nx ?_
  refine SWP_seq ?_
  refine SWP_region ?_
  refine pu rfl rfl ?_
  refine lw (v := .slice _ _ _) B2 0 rfl rfl rfl rfl ?_
  refine pu rfl rfl ?_
  refine lw (v := .slice _ _ _) B3 0 rfl rfl rfl rfl ?_
  refine SL_pcall rfl rfl cb18 (intsR ha.mn hb.mn) rfl ?_
  refine psp 9 rfl (fun c9 => ?_) (fun c9 => ?_)
  · skip
    first | refine pB rfl rfl ?_ | refine pu rfl rfl ?_
    refine SL_yes rfl ?_
    refine pu rfl rfl ?_
    refine SL_yes rfl ?_
    refine lw (v := .slice _ _ _) B2 1 rfl rfl rfl rfl ?_
    refine SL_yes rfl ?_
    refine pu rfl rfl ?_
    refine SL_yes rfl ?_
    refine lw (v := .slice _ _ _) B3 1 rfl rfl rfl rfl ?_
    refine SL_yes rfl ?_
    refine SL_pcall rfl rfl cb18 (intsR ha.bn hb.bn) rfl ?_
    refine psp 15 rfl (fun c15 => ?_) (fun c15 => ?_)
    · skip
      refine pB rfl rfl ?_
      refine pB rfl rfl ?_
      refine SL_yes rfl ?_
      refine pu rfl rfl ?_
      refine SL_yes rfl ?_
      refine lw (v := .slice _ _ _) B2 2 rfl rfl rfl rfl ?_
      refine SL_yes rfl ?_
      refine pu rfl rfl ?_
      refine SL_yes rfl ?_
      refine lw (v := .slice _ _ _) B3 2 rfl rfl rfl rfl ?_
      refine SL_yes rfl ?_
      refine SL_pcall rfl rfl cb18 (intsR ha.xn hb.xn) rfl ?_
      refine psp 22 rfl (fun c22 => ?_) (fun c22 => ?_)
      · skip
        refine pB rfl rfl ?_
        refine pB rfl rfl ?_
        refine SL_yes rfl ?_
        refine pu rfl rfl ?_
        refine SL_yes rfl ?_
        refine lw (v := .int .i64 _) B2 3 rfl rfl rfl rfl ?_
        refine SL_yes rfl ?_
        refine pu rfl rfl ?_
        refine SL_yes rfl ?_
        refine lw (v := .int .i64 _) B3 3 rfl rfl rfl rfl ?_
        refine SL_yes rfl ?_
        refine pc rfl rfl (fun c29 => ?_) (fun c29 => ?_)
        · skip
          refine pB rfl rfl ?_
          refine pB rfl rfl ?_
          refine SL_yes rfl ?_
          refine pu rfl rfl ?_
          refine SL_yes rfl ?_
          refine lw (v := .string _) B2 4 rfl rfl rfl rfl ?_
          refine SL_yes rfl ?_
          refine pu rfl rfl ?_
          refine SL_yes rfl ?_
          refine lw (v := .string _) B3 4 rfl rfl rfl rfl ?_
          refine SL_yes rfl ?_
          refine pu rfl rfl ?_
          refine pB rfl rfl ?_
          refine pB rfl rfl ?_
          refine SL_nil ?_
          refine nx ?_
          refine SWP_ret ?_
          refine fin [_] ⟨rfl, trivial⟩ ?_
          refine congrArg Value.bool ?_
          unfold sameR
          first | exact (decide_eq_true ⟨by assumption, by assumption, by assumption, by assumption, by assumption⟩).symm | exact (decide_eq_false fun h => by first | exact absurd h.1 (by assumption) | exact absurd h.2.1 (by assumption) | exact absurd h.2.2.1 (by assumption) | exact absurd h.2.2.2.1 (by assumption) | exact absurd h.2.2.2.2 (by assumption)).symm | exact decide_eq_decide.2 ⟨fun h => ⟨by assumption, by assumption, by assumption, by assumption, h⟩, fun h => h.2.2.2.2⟩
        refine pB rfl rfl ?_
        refine pB rfl rfl ?_
        refine SL_no rfl rfl ?_
        refine SL_no rfl rfl ?_
        refine SL_no rfl rfl ?_
        refine SL_no rfl rfl ?_
        refine SL_no rfl rfl ?_
        refine pB rfl rfl ?_
        refine pB rfl rfl ?_
        refine SL_nil ?_
        refine nx ?_
        refine SWP_ret ?_
        refine fin [_] ⟨rfl, trivial⟩ ?_
        refine congrArg Value.bool ?_
        unfold sameR
        first | exact (decide_eq_true ⟨by assumption, by assumption, by assumption, by assumption, by assumption⟩).symm | exact (decide_eq_false fun h => by first | exact absurd h.1 (by assumption) | exact absurd h.2.1 (by assumption) | exact absurd h.2.2.1 (by assumption) | exact absurd h.2.2.2.1 (by assumption) | exact absurd h.2.2.2.2 (by assumption)).symm | exact decide_eq_decide.2 ⟨fun h => ⟨by assumption, by assumption, by assumption, by assumption, h⟩, fun h => h.2.2.2.2⟩
      refine pB rfl rfl ?_
      refine pB rfl rfl ?_
      refine SL_no rfl rfl ?_
      refine SL_no rfl rfl ?_
      refine SL_no rfl rfl ?_
      refine SL_no rfl rfl ?_
      refine SL_no rfl rfl ?_
      refine pB rfl rfl ?_
      refine pB rfl rfl ?_
      refine SL_no rfl rfl ?_
      refine SL_no rfl rfl ?_
      refine SL_no rfl rfl ?_
      refine SL_no rfl rfl ?_
      refine SL_no rfl rfl ?_
      refine pB rfl rfl ?_
      refine pB rfl rfl ?_
      refine SL_nil ?_
      refine nx ?_
      refine SWP_ret ?_
      refine fin [_] ⟨rfl, trivial⟩ ?_
      refine congrArg Value.bool ?_
      unfold sameR
      first | exact (decide_eq_true ⟨by assumption, by assumption, by assumption, by assumption, by assumption⟩).symm | exact (decide_eq_false fun h => by first | exact absurd h.1 (by assumption) | exact absurd h.2.1 (by assumption) | exact absurd h.2.2.1 (by assumption) | exact absurd h.2.2.2.1 (by assumption) | exact absurd h.2.2.2.2 (by assumption)).symm | exact decide_eq_decide.2 ⟨fun h => ⟨by assumption, by assumption, by assumption, by assumption, h⟩, fun h => h.2.2.2.2⟩
    refine pB rfl rfl ?_
    refine pB rfl rfl ?_
    refine SL_no rfl rfl ?_
    refine SL_no rfl rfl ?_
    refine SL_no rfl rfl ?_
    refine SL_no rfl rfl ?_
    refine SL_no rfl rfl ?_
    refine pB rfl rfl ?_
    refine pB rfl rfl ?_
    refine SL_no rfl rfl ?_
    refine SL_no rfl rfl ?_
    refine SL_no rfl rfl ?_
    refine SL_no rfl rfl ?_
    refine SL_no rfl rfl ?_
    refine pB rfl rfl ?_
    refine pB rfl rfl ?_
    refine SL_no rfl rfl ?_
    refine SL_no rfl rfl ?_
    refine SL_no rfl rfl ?_
    refine SL_no rfl rfl ?_
    refine SL_no rfl rfl ?_
    refine pB rfl rfl ?_
    refine pB rfl rfl ?_
    refine SL_nil ?_
    refine nx ?_
    refine SWP_ret ?_
    refine fin [_] ⟨rfl, trivial⟩ ?_
    refine congrArg Value.bool ?_
    unfold sameR
    first | exact (decide_eq_true ⟨by assumption, by assumption, by assumption, by assumption, by assumption⟩).symm | exact (decide_eq_false fun h => by first | exact absurd h.1 (by assumption) | exact absurd h.2.1 (by assumption) | exact absurd h.2.2.1 (by assumption) | exact absurd h.2.2.2.1 (by assumption) | exact absurd h.2.2.2.2 (by assumption)).symm | exact decide_eq_decide.2 ⟨fun h => ⟨by assumption, by assumption, by assumption, by assumption, h⟩, fun h => h.2.2.2.2⟩
  first | refine pB rfl rfl ?_ | refine pu rfl rfl ?_
  refine SL_no rfl rfl ?_
  refine SL_no rfl rfl ?_
  refine SL_no rfl rfl ?_
  refine SL_no rfl rfl ?_
  refine SL_no rfl rfl ?_
  refine pB rfl rfl ?_
  refine pB rfl rfl ?_
  refine SL_no rfl rfl ?_
  refine SL_no rfl rfl ?_
  refine SL_no rfl rfl ?_
  refine SL_no rfl rfl ?_
  refine SL_no rfl rfl ?_
  refine pB rfl rfl ?_
  refine pB rfl rfl ?_
  refine SL_no rfl rfl ?_
  refine SL_no rfl rfl ?_
  refine SL_no rfl rfl ?_
  refine SL_no rfl rfl ?_
  refine SL_no rfl rfl ?_
  refine pB rfl rfl ?_
  refine pB rfl rfl ?_
  refine SL_no rfl rfl ?_
  refine SL_no rfl rfl ?_
  refine SL_no rfl rfl ?_
  refine SL_no rfl rfl ?_
  refine SL_no rfl rfl ?_
  refine pB rfl rfl ?_
  refine pB rfl rfl ?_
  refine SL_nil ?_
  refine nx ?_
  refine SWP_ret ?_
  refine fin [_] ⟨rfl, trivial⟩ ?_
  refine congrArg Value.bool ?_
  unfold sameR
  first | exact (decide_eq_true ⟨by assumption, by assumption, by assumption, by assumption, by assumption⟩).symm | exact (decide_eq_false fun h => by first | exact absurd h.1 (by assumption) | exact absurd h.2.1 (by assumption) | exact absurd h.2.2.1 (by assumption) | exact absurd h.2.2.2.1 (by assumption) | exact absurd h.2.2.2.2 (by assumption)).symm | exact decide_eq_decide.2 ⟨fun h => ⟨by assumption, by assumption, by assumption, by assumption, h⟩, fun h => h.2.2.2.2⟩


end Go.Proofs.Ytkopdlglenejmaa

