/- lotteryref12.Check: the same error as rulecheck.Check. -/
import Derived.Test.YtkopdlglenejmaaGamS
namespace Go.Proofs.Ytkopdlglenejmaa
open Eng

def sE (s : ByteArray) : List Value := [.string s]
theorem sE_len (s : ByteArray) : (sE s).length = 1 := rfl
def fieldsL : List ByteArray := [⟨#[112, 114, 105, 99, 101]⟩, ⟨#[109, 97, 105, 110]⟩, ⟨#[111, 102]⟩, ⟨#[98, 111, 110, 117, 115]⟩, ⟨#[98, 111, 110, 117, 115, 111, 102]⟩, ⟨#[101, 120, 116, 114, 97]⟩, ⟨#[100, 114, 97, 119, 115]⟩, ⟨#[115, 121, 115, 116, 101, 109]⟩, ⟨#[100, 97, 121, 115]⟩, ⟨#[97, 116]⟩, ⟨#[99, 108, 111, 115, 101]⟩, ⟨#[99, 97, 110, 99, 101, 108]⟩, ⟨#[101, 120, 112, 105, 114, 121]⟩, ⟨#[112, 111, 111, 108]⟩, ⟨#[114, 101, 115, 101, 114, 118, 101]⟩, ⟨#[114, 111, 117, 110, 100]⟩, ⟨#[99, 97, 112]⟩, ⟨#[114, 111, 108, 108, 115]⟩]
def inRg (g : Game) (j : Nat) : Prop := (lowG g).getD j 0 ≤ (numG g).getD j 0 ∧ (numG g).getD j 0 ≤ (highG g).getD j 0
theorem inRg_iff {g : Game} (hk : g.kind = 1 ∨ g.kind = 2) : (∀ j, j < 18 → inRg g j) ↔ MxOk g ∧ TmOk g := by
  constructor
  · intro h
    have h0 := h 0 (by omega); have h1 := h 1 (by omega); have h2 := h 2 (by omega); have h3 := h 3 (by omega); have h4 := h 4 (by omega); have h5 := h 5 (by omega)
    have h6 := h 6 (by omega); have h7 := h 7 (by omega); have h8 := h 8 (by omega); have h9 := h 9 (by omega); have h10 := h 10 (by omega); have h11 := h 11 (by omega)
    have h12 := h 12 (by omega); have h13 := h 13 (by omega); have h14 := h 14 (by omega); have h15 := h 15 (by omega); have h16 := h 16 (by omega); have h17 := h 17 (by omega)
    simp only [inRg, lowG, lowL, highG, highL, numG, List.getD_cons_zero, List.getD_cons_succ, IntKind.wrap_i64] at h0 h1 h2 h3 h4 h5 h6 h7 h8 h9 h10 h11 h12 h13 h14 h15 h16 h17
    rcases hk with hk | hk
    · simp only [hk, show ¬ ((1 : Int) = 2) by omega, if_false] at h2 h3 h5 h7
      by_cases hb : g.bonus = 0
      · rw [if_pos hb] at h4
        exact ⟨⟨h0, h1, by omega, by omega, by omega, by omega, by omega, by omega, by omega, by omega, by omega, by omega, by omega, by omega, by omega, by omega⟩, ⟨h8, h9, h10, h11, h12, h13, h14, h15, h16, h17⟩⟩
      · rw [if_neg hb] at h4
        exact ⟨⟨h0, h1, by omega, by omega, by omega, by omega, by omega, by omega, by omega, by omega, by omega, by omega, by omega, by omega, by omega, by omega⟩, ⟨h8, h9, h10, h11, h12, h13, h14, h15, h16, h17⟩⟩
    · simp only [hk, if_true] at h2 h3 h5 h7
      by_cases hb : g.bonus = 0
      · rw [if_pos hb] at h4
        exact ⟨⟨h0, h1, by omega, by omega, by omega, by omega, by omega, by omega, by omega, by omega, by omega, by omega, by omega, by omega, by omega, by omega⟩, ⟨h8, h9, h10, h11, h12, h13, h14, h15, h16, h17⟩⟩
      · rw [if_neg hb] at h4
        exact ⟨⟨h0, h1, by omega, by omega, by omega, by omega, by omega, by omega, by omega, by omega, by omega, by omega, by omega, by omega, by omega, by omega⟩, ⟨h8, h9, h10, h11, h12, h13, h14, h15, h16, h17⟩⟩
  · rintro ⟨⟨a1, a2, a3, a4, a5, a6, a7, a8, a9, a10, a11, a12, a13, a14, a15, a16⟩, ⟨b1, b2, b3, b4, b5, b6, b7, b8, b9, b10⟩⟩ j hj
    have key : ∀ (x : List Int × List Int × List Int), x = (lowG g, numG g, highG g) → x.1.getD j 0 ≤ x.2.1.getD j 0 ∧ x.2.1.getD j 0 ≤ x.2.2.getD j 0 := by
      intro x hx
      subst hx
      simp only [lowG, lowL, highG, highL, numG, IntKind.wrap_i64]
      rcases hk with hk | hk
      · simp only [hk, show ¬ ((1 : Int) = 2) by omega, if_false]
        by_cases hb : g.bonus = 0
        · rw [if_pos hb]
          match j, hj with
          | 0, _ | 1, _ | 2, _ | 3, _ | 4, _ | 5, _ | 6, _ | 7, _ | 8, _ | 9, _ | 10, _ | 11, _ | 12, _ | 13, _ | 14, _ | 15, _ | 16, _ | 17, _ => simp only [List.getD_cons_zero, List.getD_cons_succ]; omega
          | _ + 18, h => exact absurd h (by omega)
        · rw [if_neg hb]
          match j, hj with
          | 0, _ | 1, _ | 2, _ | 3, _ | 4, _ | 5, _ | 6, _ | 7, _ | 8, _ | 9, _ | 10, _ | 11, _ | 12, _ | 13, _ | 14, _ | 15, _ | 16, _ | 17, _ => simp only [List.getD_cons_zero, List.getD_cons_succ]; omega
          | _ + 18, h => exact absurd h (by omega)
      · simp only [hk, if_true]
        by_cases hb : g.bonus = 0
        · rw [if_pos hb]
          match j, hj with
          | 0, _ | 1, _ | 2, _ | 3, _ | 4, _ | 5, _ | 6, _ | 7, _ | 8, _ | 9, _ | 10, _ | 11, _ | 12, _ | 13, _ | 14, _ | 15, _ | 16, _ | 17, _ => simp only [List.getD_cons_zero, List.getD_cons_succ]; omega
          | _ + 18, h => exact absurd h (by omega)
        · rw [if_neg hb]
          match j, hj with
          | 0, _ | 1, _ | 2, _ | 3, _ | 4, _ | 5, _ | 6, _ | 7, _ | 8, _ | 9, _ | 10, _ | 11, _ | 12, _ | 13, _ | 14, _ | 15, _ | 16, _ | 17, _ => simp only [List.getD_cons_zero, List.getD_cons_succ]; omega
          | _ + 18, h => exact absurd h (by omega)
    exact key _ rfl
theorem at18 {l : List Int} {i : Nat} (hl : l.length = 18) (hi : i < 18) : l[i]? = some (l.getD i 0) := by
  rw [List.getD_eq_getElem?_getD, List.getElem?_eq_getElem (by omega)]; rfl

set_option maxRecDepth 100000 in
theorem fieldsR {m : Mem} : CallsS Try.prog 39 ([] : List Value).toArray [] m fun r σ' m' => σ' = [] ∧ RL m' sE 1 r fieldsL := by
  refine CallsS.ghost (R' := fun r σ' m' => RL m' sE 1 r fieldsL) ?_ ?h2
  case h2 =>
    rintro r σ' m' hr g0 W hC
    exact ⟨_, m', hC.sublist (List.nil_sublist _), Le.refl _, rfl, hr⟩
  refine enter Try.func39 Try.ntmps39 rfl rfl ?_
  refine SWP_seq ?_
  refine SWP_region ?_
  refine pL rfl rfl ?_
  refine SL_nil ?_
  refine nx ?_
  refine SWP_seq ?_
  refine SWP_region ?_
  refine bs (cs := fieldsL.flatMap sE) rfl rfl rfl (by kernel_rfl) rfl (fun B1 => ?_)
  refine SL_freeze (fun m9 hl9 hat9 => ?_)
  first | refine pL rfl rfl ?_ | refine pu rfl rfl ?_
  refine SL_nil ?_
  refine nx ?_
  refine SWP_ret ?_
  refine fin [_] ⟨rfl, trivial⟩ ?_
  exact RL.of_at sE_len fieldsL rfl rfl hat9

set_option maxRecDepth 100000 in
theorem checkR {m : Mem} {g : Game} (hin : g.In m) : CallsS Try.prog 16 [g.val].toArray [] m fun r σ' m' => σ' = [] ∧ m' = m ∧ ∃ s, r = .tuple #[.int .i64 (gameErr g), .string s] := by
  refine CallsS.forget (R := fun r => ∃ s, r = .tuple #[.int .i64 (gameErr g), .string s]) ?_
  dsimp only [Game.val]
  refine enter Try.func16 Try.ntmps16 rfl rfl ?_
  refine SWP_seq ?_
  refine SWP_region ?_
  refine bx (v := .agg _) rfl rfl (fun B1 => ?_)
  refine pI rfl rfl ?_
  refine pS rfl rfl ?_
  refine SL_nil ?_
  refine nx ?_
  refine SWP_seq ?_
  refine SWP_seq ?_
  refine SWP_region ?_
  refine pu rfl rfl ?_
  refine lw (v := .string _) B1 0 rfl rfl rfl rfl ?_
  refine SL_pcall rfl rfl cb34 (nameRef _) rfl ?_
  refine bsp 9 rfl (fun b9 => ?_) (fun b9 => ?_)
  · skip
    refine pB rfl rfl ?_
    refine SL_nil ?_
    refine nx ?_
    refine SWP_cf rfl ?_
    refine SWP_skip ?_
    refine nx ?_
    refine SWP_seq ?_
    refine SWP_seq ?_
    refine SWP_region ?_
    refine pu rfl rfl ?_
    refine lw (v := .int .i64 _) B1 1 rfl rfl rfl rfl ?_
    refine pc rfl rfl (fun c13 => ?_) (fun c13 => ?_)
    · skip
      refine pB rfl rfl ?_
      refine SL_yes rfl ?_
      refine pu rfl rfl ?_
      refine SL_yes rfl ?_
      refine lw (v := .int .i64 _) B1 1 rfl rfl rfl rfl ?_
      refine SL_yes rfl ?_
      refine pc rfl rfl (fun c17 => ?_) (fun c17 => ?_)
      · skip
        refine pB rfl rfl ?_
        refine SL_nil ?_
        refine nx ?_
        refine SWP_ct rfl ?_
        refine SWP_seq ?_
        refine SWP_region ?_
        refine pI rfl rfl ?_
        refine pS rfl rfl ?_
        refine SL_nil ?_
        refine nx ?_
        refine SWP_ret ?_
        refine nr ?_
        refine fin [_, _] ⟨rfl, rfl, trivial⟩ ?_
        refine ⟨_, show _ = Value.tuple #[.int .i64 (gameErr g), .string _] by rw [show gameErr g = 7 by unfold gameErr; rw [if_neg (by rw [b9]; exact Bool.noConfusion), if_pos (by omega)]]; rfl⟩
      refine pB rfl rfl ?_
      refine SL_nil ?_
      refine nx ?_
      refine SWP_cf rfl ?_
      refine SWP_skip ?_
      refine nx ?_
      refine SWP_seq ?_
      refine SWP_region ?_
      refine lw (v := .agg _) B1 0 rfl rfl rfl rfl ?_
      refine SL_call rfl rfl cb35 (CallsS.frame0 (numbersR g)) rfl (fun v5_1 σ5_1 m5_1 hl5_1 hR5_1 => ?_)
      obtain ⟨σn, rfl, rfl, hnum⟩ := hR5_1
      obtain ⟨na, nc, rfl⟩ := hnum.len
      first | refine pL rfl rfl ?_ | refine pu rfl rfl ?_
      refine SL_nil ?_
      refine nx ?_
      refine SWP_seq ?_
      refine SWP_seq ?_
      refine SWP_region ?_
      refine pI rfl rfl ?_
      refine SL_nil ?_
      refine nx ?_
      refine SWP_block ?_
      refine SWP_loop [2, 3, 5, 21, 22, 23, 24, 25, 26, 27, 28, 29, 30, 31, 32, 33, 34, 35, 36, 37, 38, 39, 40, 41, 42, 43, 44, 45, 46] [5]
          (fun vs σ' m' => ∃ (i : Nat), vs = [.int .i64 (i : Nat)] ∧ i ≤ 18 ∧ (∀ j, j < i → inRg g j) ∧ σ' = [(B1, Cells 25 g.enc)] ∧ Le m5_1 m')
          (fun vs => 18 - nOf (vs.getD 0 undef)) rfl ?_ ?_
      · exact ⟨0, rfl, by omega, fun j hj => (by omega), rfl, Le.refl _⟩
      intro u0 vs0 σ0 m0 hJ0 _
      obtain ⟨i, rfl, hi, hall, rfl, hl0⟩ := hJ0
      have hle := hl5_1.trans hl0
      dsimp only [Game.enc]
      refine SWP_seq ?_
      refine SWP_seq ?_
      refine SWP_region ?_
      first | refine pI rfl rfl ?_ | refine pu rfl rfl ?_
      first | refine pL rfl rfl ?_ | refine pu rfl rfl ?_
      refine pu rfl rfl ?_
      refine pc rfl rfl (fun c24 => ?_) (fun c24 => ?_)
      · skip
        refine SL_nil ?_
        refine nx ?_
        refine SWP_ct rfl ?_
        refine SWP_skip ?_
        refine nx ?_
        refine SWP_seq ?_
        refine SWP_block ?_
        refine SWP_seq ?_
        have hi18 : i < 18 := by have : (numG g).length = 18 := rfl; omega
        have hln : (numG g).length = 18 := rfl
        have hnum9 := at18 (l := numG g) rfl hi18
        obtain ⟨ad1, e1, _, hat1⟩ := (hnum.mono hl0).atI hnum9
        cases e1
        refine SWP_drawn [(B1, Cells 25 g.enc)] [0, 1, 2, 3, 4, 6, 9, 11, 5, 7, 8, 10, 12, 13, 14, 15] (by kernel_rfl) (by kernel_rfl) (Sub.refl _) ?_
        first | refine pL rfl rfl ?_ | refine pu rfl rfl ?_
        first | refine pI rfl rfl ?_ | refine pu rfl rfl ?_
        first | refine ia (es := 1) rfl rfl rfl (Nat.mul_one _) rfl rfl (by omega) rfl ?_ | refine iai (es := 1) rfl rfl rfl (Nat.mul_one _) rfl rfl (by omega) (by omega) rfl ?_
        refine ldA (v := .int .i64 _) rfl (by assumption) rfl rfl ?_
        refine lw (v := .agg _) B1 0 rfl rfl rfl rfl ?_
        first | refine pI rfl rfl ?_ | refine pu rfl rfl ?_
        refine lw (v := .agg _) B1 0 rfl rfl rfl rfl ?_
        first | refine pI rfl rfl ?_ | refine pu rfl rfl ?_
        refine SL_call rfl rfl cb37 (CallsS.frame0 (lowestR g)) rfl (fun v9_5 σ9_5 m9_5 hl9_5 hR9_5 => ?_)
        obtain ⟨σl, rfl, rfl, hlow⟩ := hR9_5
        obtain ⟨la, lc, elw⟩ := hlow.len
        subst elw
        have hll : (lowG g).length = 18 := rfl
        have hlow9 := at18 (l := lowG g) rfl hi18
        obtain ⟨ad2, e2, _, hat2⟩ := hlow.atI hlow9
        cases e2
        first | refine ia (es := 1) rfl rfl rfl (Nat.mul_one _) rfl rfl (by omega) rfl ?_ | refine iai (es := 1) rfl rfl rfl (Nat.mul_one _) rfl rfl (by omega) (by omega) rfl ?_
        refine ldA (v := .int .i64 _) rfl (by assumption) rfl rfl ?_
        refine SL_call rfl rfl cb38 (CallsS.frame0 (highestR g)) rfl (fun v9_10 σ9_10 m9_10 hl9_10 hR9_10 => ?_)
        obtain ⟨σh, rfl, rfl, hhigh⟩ := hR9_10
        obtain ⟨ha, hc, ehh⟩ := hhigh.len
        subst ehh
        have hlh : (highG g).length = 18 := rfl
        have hhigh9 := at18 (l := highG g) rfl hi18
        obtain ⟨ad3, e3, _, hat3⟩ := hhigh.atI hhigh9
        cases e3
        first | refine ia (es := 1) rfl rfl rfl (Nat.mul_one _) rfl rfl (by omega) rfl ?_ | refine iai (es := 1) rfl rfl rfl (Nat.mul_one _) rfl rfl (by omega) (by omega) rfl ?_
        refine ldA (v := .int .i64 _) rfl (by assumption) rfl rfl ?_
        refine SL_pcall rfl rfl cb36 (inR _ _ _) rfl ?_
        refine psp 41 rfl (fun c41 => ?_) (fun c41 => ?_)
        · skip
          refine pB rfl rfl ?_
          refine SL_nil ?_
          refine nx ?_
          refine SWP_cf rfl ?_
          refine SWP_skip ?_
          refine nb ?_
          refine nx ?_
          refine SWP_region ?_
          first | refine pI rfl rfl ?_ | refine pu rfl rfl ?_
          first | refine pw rfl rfl (w64 (by omega) (by omega)) ?_ | refine pu rfl rfl ?_
          refine pI rfl rfl ?_
          refine SL_nil ?_
          refine nx ?_
          refine ⟨by repeat (first | exact Under.upds rfl (Under.hav _ _ _) | exact Under.hav _ _ _ | refine Under.upd rfl ?_), ?_, ?_⟩
          · refine ⟨i + 1, rfl, by omega, fun j hj => ?_, rfl, hl0.trans (hl9_5.trans hl9_10)⟩
            by_cases e : j = i
            · subst e; exact c41
            · exact hall j (by omega)
          · simp only [L_vals, List.map, List.getD]; show 18 - (i + 1) < 18 - i; omega
        refine pB rfl rfl ?_
        refine SL_nil ?_
        refine nx ?_
        refine SWP_ct rfl ?_
        refine SWP_seq ?_
        refine SWP_drawn [(B1, Cells 25 g.enc)] [1, 0, 2, 3, 4, 5] (by kernel_rfl) (by kernel_rfl) (Sub.refl _) ?_
        first | refine pI rfl rfl ?_ | refine pu rfl rfl ?_
        refine SL_call rfl rfl cb39 (CallsS.frame0 fieldsR) rfl (fun v10_0 σ10_0 m10_0 hl10_0 hR10_0 => ?_)
        obtain ⟨σf, rfl, rfl, hfl⟩ := hR10_0
        obtain ⟨fa, fc, eff⟩ := hfl.len
        subst eff
        have hlf : fieldsL.length = 18 := rfl
        obtain ⟨fs, hfs⟩ : ∃ fs, fieldsL[i]? = some fs := ⟨_, List.getElem?_eq_getElem (by show i < 18; omega)⟩
        obtain ⟨ad4, e4, _, hat4⟩ := hfl.atA sE_len hfs
        cases e4
        rw [Nat.mul_one] at hat4
        first | refine ia (es := 1) rfl rfl rfl (Nat.mul_one _) rfl rfl (by omega) rfl ?_ | refine iai (es := 1) rfl rfl rfl (Nat.mul_one _) rfl rfl (by omega) (by omega) rfl ?_
        refine ldA (v := .string _) rfl (by assumption) rfl rfl ?_
        refine pI rfl rfl ?_
        refine pS rfl rfl ?_
        refine SL_nil ?_
        refine nx ?_
        refine SWP_ret ?_
        refine br ?_
        refine nr ?_
        refine nr ?_
        refine br ?_
        refine nr ?_
        refine fin [_, _] ⟨rfl, rfl, trivial⟩ ?_
        refine ⟨_, show _ = Value.tuple #[.int .i64 (gameErr g), .string _] by rw [show gameErr g = 2 by unfold gameErr; rw [if_neg (by rw [b9]; exact Bool.noConfusion), if_neg (by omega), okE_f (fun h => c41 ((inRg_iff (g := g) (by omega)).2 h i hi18))]]; rfl⟩
      refine SL_nil ?_
      refine nx ?_
      refine SWP_cf rfl ?_
      refine SWP_exit ?_
      refine ne ?_
      refine ne ?_
      refine be rfl ?_
      refine nx ?_
      refine SWP_seq ?_
      have hok := (inRg_iff (g := g) (by omega)).1 (fun j hj => hall j (by have : (numG g).length = 18 := rfl; omega))
      refine SWP_region ?_
      refine pu rfl rfl ?_
      refine lw (v := .slice _ _ _) B1 20 rfl rfl rfl rfl ?_
      refine SL_pcall rfl rfl cb40 (addonsR (hin.mono hle).ads (hin.mono hle).each) rfl ?_
      first | refine pI rfl rfl ?_ | refine pu rfl rfl ?_
      refine SL_nil ?_
      refine nx ?_
      refine SWP_seq ?_
      refine SWP_seq ?_
      refine SWP_region ?_
      first | refine pI rfl rfl ?_ | refine pu rfl rfl ?_
      refine pc rfl rfl (fun c51 => ?_) (fun c51 => ?_)
      · skip
        refine SL_nil ?_
        refine nx ?_
        refine SWP_ct rfl ?_
        refine SWP_seq ?_
        refine SWP_region ?_
        first | refine pI rfl rfl ?_ | refine pu rfl rfl ?_
        first | refine pI rfl rfl ?_ | refine pu rfl rfl ?_
        refine pS rfl rfl ?_
        refine SL_nil ?_
        refine nx ?_
        refine SWP_ret ?_
        refine nr ?_
        refine fin [_, _] ⟨rfl, rfl, trivial⟩ ?_
        refine ⟨_, show _ = Value.tuple #[.int .i64 (gameErr g), .string _] by rw [show gameErr g = addonsErr g.addons by unfold gameErr; rw [if_neg (by rw [b9]; exact Bool.noConfusion), if_neg (by omega), okE_t hok, if_pos c51]]; rfl⟩
      refine SL_nil ?_
      refine nx ?_
      refine SWP_cf rfl ?_
      refine SWP_skip ?_
      refine nx ?_
      refine SWP_seq ?_
      refine SWP_region ?_
      refine lw (v := .agg _) B1 0 rfl rfl rfl rfl ?_
      refine SL_pcall rfl rfl cb41 (tiersR (hin.mono hle) (by omega) (by have := hok.1.h2; omega) (by have := hok.1.h6; have := hok.1.h7; omega) (by have := hok.1.h11; have := hok.1.h12; omega)) rfl ?_
      first | refine pI rfl rfl ?_ | refine pu rfl rfl ?_
      refine SL_nil ?_
      refine nx ?_
      refine SWP_seq ?_
      refine SWP_seq ?_
      refine SWP_region ?_
      first | refine pI rfl rfl ?_ | refine pu rfl rfl ?_
      refine pc rfl rfl (fun c56 => ?_) (fun c56 => ?_)
      · skip
        refine SL_nil ?_
        refine nx ?_
        refine SWP_ct rfl ?_
        refine SWP_seq ?_
        refine SWP_region ?_
        first | refine pI rfl rfl ?_ | refine pu rfl rfl ?_
        first | refine pI rfl rfl ?_ | refine pu rfl rfl ?_
        refine pS rfl rfl ?_
        refine SL_nil ?_
        refine nx ?_
        refine SWP_ret ?_
        refine nr ?_
        refine fin [_, _] ⟨rfl, rfl, trivial⟩ ?_
        refine ⟨_, show _ = Value.tuple #[.int .i64 (gameErr g), .string _] by rw [show gameErr g = tiersErr g by unfold gameErr; rw [if_neg (by rw [b9]; exact Bool.noConfusion), if_neg (by omega), okE_t hok, if_neg c51]]; rfl⟩
      refine SL_nil ?_
      refine nx ?_
      refine SWP_cf rfl ?_
      refine SWP_skip ?_
      refine nx ?_
      refine SWP_seq ?_
      refine SWP_region ?_
      refine pI rfl rfl ?_
      refine pS rfl rfl ?_
      refine SL_nil ?_
      refine nx ?_
      refine SWP_ret ?_
      refine fin [_, _] ⟨rfl, rfl, trivial⟩ ?_
      refine ⟨_, show _ = Value.tuple #[.int .i64 (gameErr g), .string _] by rw [show gameErr g = 0 by unfold gameErr; rw [if_neg (by rw [b9]; exact Bool.noConfusion), if_neg (by omega), okE_t hok, if_neg c51]; omega]; rfl⟩
    refine pB rfl rfl ?_
    refine SL_no rfl rfl ?_
    refine SL_no rfl rfl ?_
    refine SL_no rfl rfl ?_
    refine pB rfl rfl ?_
    refine SL_nil ?_
    refine nx ?_
    refine SWP_cf rfl ?_
    refine SWP_skip ?_
    refine nx ?_
    refine SWP_seq ?_
    refine SWP_region ?_
    refine lw (v := .agg _) B1 0 rfl rfl rfl rfl ?_
    refine SL_call rfl rfl cb35 (CallsS.frame0 (numbersR g)) rfl (fun v5_1 σ5_1 m5_1 hl5_1 hR5_1 => ?_)
    obtain ⟨σn, rfl, rfl, hnum⟩ := hR5_1
    obtain ⟨na, nc, rfl⟩ := hnum.len
    first | refine pL rfl rfl ?_ | refine pu rfl rfl ?_
    refine SL_nil ?_
    refine nx ?_
    refine SWP_seq ?_
    refine SWP_seq ?_
    refine SWP_region ?_
    refine pI rfl rfl ?_
    refine SL_nil ?_
    refine nx ?_
    refine SWP_block ?_
    refine SWP_loop [2, 3, 5, 21, 22, 23, 24, 25, 26, 27, 28, 29, 30, 31, 32, 33, 34, 35, 36, 37, 38, 39, 40, 41, 42, 43, 44, 45, 46] [5]
        (fun vs σ' m' => ∃ (i : Nat), vs = [.int .i64 (i : Nat)] ∧ i ≤ 18 ∧ (∀ j, j < i → inRg g j) ∧ σ' = [(B1, Cells 25 g.enc)] ∧ Le m5_1 m')
        (fun vs => 18 - nOf (vs.getD 0 undef)) rfl ?_ ?_
    · exact ⟨0, rfl, by omega, fun j hj => (by omega), rfl, Le.refl _⟩
    intro u0 vs0 σ0 m0 hJ0 _
    obtain ⟨i, rfl, hi, hall, rfl, hl0⟩ := hJ0
    have hle := hl5_1.trans hl0
    dsimp only [Game.enc]
    refine SWP_seq ?_
    refine SWP_seq ?_
    refine SWP_region ?_
    first | refine pI rfl rfl ?_ | refine pu rfl rfl ?_
    first | refine pL rfl rfl ?_ | refine pu rfl rfl ?_
    refine pu rfl rfl ?_
    refine pc rfl rfl (fun c24 => ?_) (fun c24 => ?_)
    · skip
      refine SL_nil ?_
      refine nx ?_
      refine SWP_ct rfl ?_
      refine SWP_skip ?_
      refine nx ?_
      refine SWP_seq ?_
      refine SWP_block ?_
      refine SWP_seq ?_
      have hi18 : i < 18 := by have : (numG g).length = 18 := rfl; omega
      have hln : (numG g).length = 18 := rfl
      have hnum9 := at18 (l := numG g) rfl hi18
      obtain ⟨ad1, e1, _, hat1⟩ := (hnum.mono hl0).atI hnum9
      cases e1
      refine SWP_drawn [(B1, Cells 25 g.enc)] [0, 1, 2, 3, 4, 6, 9, 11, 5, 7, 8, 10, 12, 13, 14, 15] (by kernel_rfl) (by kernel_rfl) (Sub.refl _) ?_
      first | refine pL rfl rfl ?_ | refine pu rfl rfl ?_
      first | refine pI rfl rfl ?_ | refine pu rfl rfl ?_
      first | refine ia (es := 1) rfl rfl rfl (Nat.mul_one _) rfl rfl (by omega) rfl ?_ | refine iai (es := 1) rfl rfl rfl (Nat.mul_one _) rfl rfl (by omega) (by omega) rfl ?_
      refine ldA (v := .int .i64 _) rfl (by assumption) rfl rfl ?_
      refine lw (v := .agg _) B1 0 rfl rfl rfl rfl ?_
      first | refine pI rfl rfl ?_ | refine pu rfl rfl ?_
      refine lw (v := .agg _) B1 0 rfl rfl rfl rfl ?_
      first | refine pI rfl rfl ?_ | refine pu rfl rfl ?_
      refine SL_call rfl rfl cb37 (CallsS.frame0 (lowestR g)) rfl (fun v9_5 σ9_5 m9_5 hl9_5 hR9_5 => ?_)
      obtain ⟨σl, rfl, rfl, hlow⟩ := hR9_5
      obtain ⟨la, lc, elw⟩ := hlow.len
      subst elw
      have hll : (lowG g).length = 18 := rfl
      have hlow9 := at18 (l := lowG g) rfl hi18
      obtain ⟨ad2, e2, _, hat2⟩ := hlow.atI hlow9
      cases e2
      first | refine ia (es := 1) rfl rfl rfl (Nat.mul_one _) rfl rfl (by omega) rfl ?_ | refine iai (es := 1) rfl rfl rfl (Nat.mul_one _) rfl rfl (by omega) (by omega) rfl ?_
      refine ldA (v := .int .i64 _) rfl (by assumption) rfl rfl ?_
      refine SL_call rfl rfl cb38 (CallsS.frame0 (highestR g)) rfl (fun v9_10 σ9_10 m9_10 hl9_10 hR9_10 => ?_)
      obtain ⟨σh, rfl, rfl, hhigh⟩ := hR9_10
      obtain ⟨ha, hc, ehh⟩ := hhigh.len
      subst ehh
      have hlh : (highG g).length = 18 := rfl
      have hhigh9 := at18 (l := highG g) rfl hi18
      obtain ⟨ad3, e3, _, hat3⟩ := hhigh.atI hhigh9
      cases e3
      first | refine ia (es := 1) rfl rfl rfl (Nat.mul_one _) rfl rfl (by omega) rfl ?_ | refine iai (es := 1) rfl rfl rfl (Nat.mul_one _) rfl rfl (by omega) (by omega) rfl ?_
      refine ldA (v := .int .i64 _) rfl (by assumption) rfl rfl ?_
      refine SL_pcall rfl rfl cb36 (inR _ _ _) rfl ?_
      refine psp 41 rfl (fun c41 => ?_) (fun c41 => ?_)
      · skip
        refine pB rfl rfl ?_
        refine SL_nil ?_
        refine nx ?_
        refine SWP_cf rfl ?_
        refine SWP_skip ?_
        refine nb ?_
        refine nx ?_
        refine SWP_region ?_
        first | refine pI rfl rfl ?_ | refine pu rfl rfl ?_
        first | refine pw rfl rfl (w64 (by omega) (by omega)) ?_ | refine pu rfl rfl ?_
        refine pI rfl rfl ?_
        refine SL_nil ?_
        refine nx ?_
        refine ⟨by repeat (first | exact Under.upds rfl (Under.hav _ _ _) | exact Under.hav _ _ _ | refine Under.upd rfl ?_), ?_, ?_⟩
        · refine ⟨i + 1, rfl, by omega, fun j hj => ?_, rfl, hl0.trans (hl9_5.trans hl9_10)⟩
          by_cases e : j = i
          · subst e; exact c41
          · exact hall j (by omega)
        · simp only [L_vals, List.map, List.getD]; show 18 - (i + 1) < 18 - i; omega
      refine pB rfl rfl ?_
      refine SL_nil ?_
      refine nx ?_
      refine SWP_ct rfl ?_
      refine SWP_seq ?_
      refine SWP_drawn [(B1, Cells 25 g.enc)] [1, 0, 2, 3, 4, 5] (by kernel_rfl) (by kernel_rfl) (Sub.refl _) ?_
      first | refine pI rfl rfl ?_ | refine pu rfl rfl ?_
      refine SL_call rfl rfl cb39 (CallsS.frame0 fieldsR) rfl (fun v10_0 σ10_0 m10_0 hl10_0 hR10_0 => ?_)
      obtain ⟨σf, rfl, rfl, hfl⟩ := hR10_0
      obtain ⟨fa, fc, eff⟩ := hfl.len
      subst eff
      have hlf : fieldsL.length = 18 := rfl
      obtain ⟨fs, hfs⟩ : ∃ fs, fieldsL[i]? = some fs := ⟨_, List.getElem?_eq_getElem (by show i < 18; omega)⟩
      obtain ⟨ad4, e4, _, hat4⟩ := hfl.atA sE_len hfs
      cases e4
      rw [Nat.mul_one] at hat4
      first | refine ia (es := 1) rfl rfl rfl (Nat.mul_one _) rfl rfl (by omega) rfl ?_ | refine iai (es := 1) rfl rfl rfl (Nat.mul_one _) rfl rfl (by omega) (by omega) rfl ?_
      refine ldA (v := .string _) rfl (by assumption) rfl rfl ?_
      refine pI rfl rfl ?_
      refine pS rfl rfl ?_
      refine SL_nil ?_
      refine nx ?_
      refine SWP_ret ?_
      refine br ?_
      refine nr ?_
      refine nr ?_
      refine br ?_
      refine nr ?_
      refine fin [_, _] ⟨rfl, rfl, trivial⟩ ?_
      refine ⟨_, show _ = Value.tuple #[.int .i64 (gameErr g), .string _] by rw [show gameErr g = 2 by unfold gameErr; rw [if_neg (by rw [b9]; exact Bool.noConfusion), if_neg (by omega), okE_f (fun h => c41 ((inRg_iff (g := g) (by omega)).2 h i hi18))]]; rfl⟩
    refine SL_nil ?_
    refine nx ?_
    refine SWP_cf rfl ?_
    refine SWP_exit ?_
    refine ne ?_
    refine ne ?_
    refine be rfl ?_
    refine nx ?_
    refine SWP_seq ?_
    have hok := (inRg_iff (g := g) (by omega)).1 (fun j hj => hall j (by have : (numG g).length = 18 := rfl; omega))
    refine SWP_region ?_
    refine pu rfl rfl ?_
    refine lw (v := .slice _ _ _) B1 20 rfl rfl rfl rfl ?_
    refine SL_pcall rfl rfl cb40 (addonsR (hin.mono hle).ads (hin.mono hle).each) rfl ?_
    first | refine pI rfl rfl ?_ | refine pu rfl rfl ?_
    refine SL_nil ?_
    refine nx ?_
    refine SWP_seq ?_
    refine SWP_seq ?_
    refine SWP_region ?_
    first | refine pI rfl rfl ?_ | refine pu rfl rfl ?_
    refine pc rfl rfl (fun c51 => ?_) (fun c51 => ?_)
    · skip
      refine SL_nil ?_
      refine nx ?_
      refine SWP_ct rfl ?_
      refine SWP_seq ?_
      refine SWP_region ?_
      first | refine pI rfl rfl ?_ | refine pu rfl rfl ?_
      first | refine pI rfl rfl ?_ | refine pu rfl rfl ?_
      refine pS rfl rfl ?_
      refine SL_nil ?_
      refine nx ?_
      refine SWP_ret ?_
      refine nr ?_
      refine fin [_, _] ⟨rfl, rfl, trivial⟩ ?_
      refine ⟨_, show _ = Value.tuple #[.int .i64 (gameErr g), .string _] by rw [show gameErr g = addonsErr g.addons by unfold gameErr; rw [if_neg (by rw [b9]; exact Bool.noConfusion), if_neg (by omega), okE_t hok, if_pos c51]]; rfl⟩
    refine SL_nil ?_
    refine nx ?_
    refine SWP_cf rfl ?_
    refine SWP_skip ?_
    refine nx ?_
    refine SWP_seq ?_
    refine SWP_region ?_
    refine lw (v := .agg _) B1 0 rfl rfl rfl rfl ?_
    refine SL_pcall rfl rfl cb41 (tiersR (hin.mono hle) (by omega) (by have := hok.1.h2; omega) (by have := hok.1.h6; have := hok.1.h7; omega) (by have := hok.1.h11; have := hok.1.h12; omega)) rfl ?_
    first | refine pI rfl rfl ?_ | refine pu rfl rfl ?_
    refine SL_nil ?_
    refine nx ?_
    refine SWP_seq ?_
    refine SWP_seq ?_
    refine SWP_region ?_
    first | refine pI rfl rfl ?_ | refine pu rfl rfl ?_
    refine pc rfl rfl (fun c56 => ?_) (fun c56 => ?_)
    · skip
      refine SL_nil ?_
      refine nx ?_
      refine SWP_ct rfl ?_
      refine SWP_seq ?_
      refine SWP_region ?_
      first | refine pI rfl rfl ?_ | refine pu rfl rfl ?_
      first | refine pI rfl rfl ?_ | refine pu rfl rfl ?_
      refine pS rfl rfl ?_
      refine SL_nil ?_
      refine nx ?_
      refine SWP_ret ?_
      refine nr ?_
      refine fin [_, _] ⟨rfl, rfl, trivial⟩ ?_
      refine ⟨_, show _ = Value.tuple #[.int .i64 (gameErr g), .string _] by rw [show gameErr g = tiersErr g by unfold gameErr; rw [if_neg (by rw [b9]; exact Bool.noConfusion), if_neg (by omega), okE_t hok, if_neg c51]]; rfl⟩
    refine SL_nil ?_
    refine nx ?_
    refine SWP_cf rfl ?_
    refine SWP_skip ?_
    refine nx ?_
    refine SWP_seq ?_
    refine SWP_region ?_
    refine pI rfl rfl ?_
    refine pS rfl rfl ?_
    refine SL_nil ?_
    refine nx ?_
    refine SWP_ret ?_
    refine fin [_, _] ⟨rfl, rfl, trivial⟩ ?_
    refine ⟨_, show _ = Value.tuple #[.int .i64 (gameErr g), .string _] by rw [show gameErr g = 0 by unfold gameErr; rw [if_neg (by rw [b9]; exact Bool.noConfusion), if_neg (by omega), okE_t hok, if_neg c51]; omega]; rfl⟩
  refine pB rfl rfl ?_
  refine SL_nil ?_
  refine nx ?_
  refine SWP_ct rfl ?_
  refine SWP_seq ?_
  refine SWP_region ?_
  refine pI rfl rfl ?_
  refine pS rfl rfl ?_
  refine SL_nil ?_
  refine nx ?_
  refine SWP_ret ?_
  refine nr ?_
  refine fin [_, _] ⟨rfl, rfl, trivial⟩ ?_
  refine ⟨_, show _ = Value.tuple #[.int .i64 (gameErr g), .string _] by rw [show gameErr g = 4 by unfold gameErr; rw [if_pos b9]]; rfl⟩

end Go.Proofs.Ytkopdlglenejmaa

