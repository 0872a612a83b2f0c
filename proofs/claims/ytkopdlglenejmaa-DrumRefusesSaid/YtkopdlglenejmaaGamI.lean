/- rulecheck.Check: what it computes. -/
import Derived.Test.YtkopdlglenejmaaGamD
namespace Go.Proofs.Ytkopdlglenejmaa
open Eng

theorem withinI {m : Mem} (n lo hi : Int) : PureCall Try.prog 61 [.int .i64 n, .int .i64 lo, .int .i64 hi] m (.bool (decide (lo ≤ n ∧ n ≤ hi))) := by
  refine CallsS.pure ?_
  refine enter Try.func61 Try.ntmps61 rfl rfl ?_
  refine SWP_seq ?_
  refine SWP_region ?_
  refine pB rfl rfl ?_
  refine SL_nil ?_
  refine nx ?_
  refine SWP_seq ?_
  refine SWP_region ?_
  first | refine pI rfl rfl ?_ | refine pu rfl rfl ?_
  first | refine pI rfl rfl ?_ | refine pu rfl rfl ?_
  refine pc rfl rfl (fun c9 => ?_) (fun c9 => ?_)
  · skip
    refine pB rfl rfl ?_
    refine SL_yes rfl ?_
    first | refine pI rfl rfl ?_ | refine pu rfl rfl ?_
    refine SL_yes rfl ?_
    first | refine pI rfl rfl ?_ | refine pu rfl rfl ?_
    refine SL_yes rfl ?_
    refine pu rfl rfl ?_
    refine pB rfl rfl ?_
    refine pB rfl rfl ?_
    refine SL_nil ?_
    refine nx ?_
    refine SWP_ret ?_
    refine fin [_] ⟨rfl, trivial⟩ ?_
    first | exact congrArg Value.bool (decide_eq_decide.2 ⟨fun h => ⟨by omega, h⟩, fun h => h.2⟩) | exact (congrArg Value.bool (decide_eq_false (by omega))).symm | exact (congrArg Value.bool (decide_eq_true (by omega))).symm
  refine pB rfl rfl ?_
  refine SL_no rfl rfl ?_
  refine SL_no rfl rfl ?_
  refine SL_no rfl rfl ?_
  refine pB rfl rfl ?_
  refine pB rfl rfl ?_
  refine SL_nil ?_
  refine nx ?_
  refine SWP_ret ?_
  refine fin [_] ⟨rfl, trivial⟩ ?_
  first | exact congrArg Value.bool (decide_eq_decide.2 ⟨fun h => ⟨by omega, h⟩, fun h => h.2⟩) | exact (congrArg Value.bool (decide_eq_false (by omega))).symm | exact (congrArg Value.bool (decide_eq_true (by omega))).symm

theorem checkAllI {m : Mem} {v : Value} {l : List Int} (h : RL m intE 1 v l) (hl : l.length ≤ 1000) (lo hi : Int) : PureCall Try.prog 72 [v, .int .i64 lo, .int .i64 hi] m (.int .i64 (allErr lo hi l)) := by
  refine CallsS.pure ?_
  obtain ⟨pa, pcap, rfl⟩ := h.len
  refine enter Try.func72 Try.ntmps72 rfl rfl ?_
  refine SWP_seq ?_
  refine SWP_region ?_
  refine pI rfl rfl ?_
  refine SL_nil ?_
  refine nx ?_
  refine SWP_seq ?_
  refine SWP_seq ?_
  refine SWP_region ?_
  first | refine pL rfl rfl ?_ | refine pu rfl rfl ?_
  refine pu rfl rfl ?_
  refine pI rfl rfl ?_
  refine SL_nil ?_
  refine nx ?_
  refine SWP_block ?_
  refine SWP_loop [6, 8, 11, 12, 13, 14, 15, 16, 17, 18, 19, 20] [11]
      (fun vs σ' m' => ∃ (i : Nat), vs = [.int .i64 (i : Nat)] ∧ i ≤ l.length ∧ (∀ x ∈ l.take i, lo ≤ x ∧ x ≤ hi) ∧ σ' = [] ∧ m = m')
      (fun vs => l.length - nOf (vs.getD 0 undef)) rfl ?_ ?_
  · exact ⟨0, rfl, by omega, by simp, rfl, rfl⟩
  intro u0 vs0 σ0 m0 hJ0 _
  obtain ⟨i, rfl, hi, hall, rfl, rfl⟩ := hJ0
  refine SWP_seq ?_
  refine SWP_region ?_
  refine pc rfl rfl (fun c12 => ?_) (fun c12 => ?_)
  · skip
    refine SL_nil ?_
    refine nx ?_
    refine SWP_seq ?_
    refine SWP_ct rfl ?_
    refine SWP_skip ?_
    refine nx ?_
    refine SWP_seq ?_
    refine SWP_block ?_
    refine SWP_seq ?_
    obtain ⟨x, hx⟩ : ∃ x, l[i]? = some x := ⟨_, List.getElem?_eq_getElem (by omega)⟩
    obtain ⟨ad, rfl, _, hat⟩ := h.atI hx
    refine SWP_region ?_
    first | refine ia (es := 1) rfl rfl rfl (Nat.mul_one _) rfl rfl (by omega) rfl ?_ | refine iai (es := 1) rfl rfl rfl (Nat.mul_one _) rfl rfl (by omega) (by omega) rfl ?_
    refine ldA (v := .int .i64 _) rfl (by assumption) rfl rfl ?_
    refine pI rfl rfl ?_
    refine SL_nil ?_
    refine nx ?_
    refine SWP_seq ?_
    refine SWP_region ?_
    refine pI rfl rfl ?_
    first | refine pI rfl rfl ?_ | refine pu rfl rfl ?_
    first | refine pI rfl rfl ?_ | refine pu rfl rfl ?_
    refine SL_pcall rfl rfl cb61 (withinI _ _ _) rfl ?_
    refine psp 18 rfl (fun c18 => ?_) (fun c18 => ?_)
    · skip
      refine pB rfl rfl ?_
      refine SL_nil ?_
      refine nx ?_
      refine SWP_cf rfl ?_
      refine SWP_skip ?_
      refine nb ?_
      refine nx ?_
      refine SWP_region ?_
      first | refine pw rfl rfl (w64 (by omega) (by omega)) ?_ | refine pu rfl rfl ?_
      refine pI rfl rfl ?_
      refine SL_nil ?_
      refine nx ?_
      refine ⟨by repeat (first | exact Under.upds rfl (Under.hav _ _ _) | exact Under.hav _ _ _ | refine Under.upd rfl ?_), ?_, ?_⟩
      · refine ⟨i + 1, rfl, by omega, fun y hy => ?_, rfl, rfl⟩
        rw [take_snocA hx] at hy
        rcases List.mem_append.1 hy with hy | hy
        · exact hall y hy
        · rw [List.mem_singleton.1 hy]; omega
      · simp only [L_vals, List.map, List.getD]; show l.length - (i + 1) < l.length - i; omega
    refine pB rfl rfl ?_
    refine SL_nil ?_
    refine nx ?_
    refine SWP_ct rfl ?_
    refine SWP_seq ?_
    refine SWP_region ?_
    refine pI rfl rfl ?_
    refine SL_nil ?_
    refine nx ?_
    refine SWP_ret ?_
    refine br ?_
    refine nr ?_
    refine nr ?_
    refine br ?_
    refine nr ?_
    refine fin [_] ⟨rfl, trivial⟩ ?_
    refine congrArg (Value.int .i64) ?_
    unfold allErr
    rw [if_neg fun h => by have := h x (List.mem_of_getElem? hx); omega]
  refine SL_nil ?_
  refine nx ?_
  refine SWP_seq ?_
  refine SWP_cf rfl ?_
  refine SWP_exit ?_
  refine ne ?_
  refine ne ?_
  refine be rfl ?_
  refine nx ?_
  refine SWP_seq ?_
  refine SWP_region ?_
  refine pI rfl rfl ?_
  refine SL_nil ?_
  refine nx ?_
  refine SWP_ret ?_
  refine fin [_] ⟨rfl, trivial⟩ ?_
  refine congrArg (Value.int .i64) ?_
  have e : i = l.length := by omega
  rw [e, List.take_length] at hall
  unfold allErr
  rw [if_pos hall]

theorem badTermsI {m : Mem} (g : Game) : CallsS Try.prog 44 [g.val].toArray [] m fun r σ' m' => σ' = [] ∧ m' = m ∧ ∃ s, r = .string s ∧ (s = ByteArray.empty ↔ TmOk g) := by
  refine CallsS.ghost (R' := fun r σ' m' => m' = m ∧ ∃ s, r = .string s ∧ (s = ByteArray.empty ↔ TmOk g)) ?_ ?h2
  case h2 =>
    rintro r σ' m' ⟨rfl, hr⟩ g0 W hC
    exact ⟨_, m', hC.sublist (List.nil_sublist _), Le.refl _, rfl, rfl, hr⟩
  dsimp only [Game.val]
  refine enter Try.func44 Try.ntmps44 rfl rfl ?_
  refine SWP_seq ?_
  refine SWP_region ?_
  refine bx (v := .agg _) rfl rfl (fun B1 => ?_)
  refine pS rfl rfl ?_
  refine SL_nil ?_
  refine nx ?_
  refine SWP_seq ?_
  refine SWP_block ?_
  refine SWP_seq ?_
  refine SWP_region ?_
  refine pu rfl rfl ?_
  refine lw (v := .int .i64 _) B1 10 rfl rfl rfl rfl ?_
  refine SL_pcall rfl rfl cb61 (withinI _ _ _) rfl ?_
  refine psp 6 rfl (fun c6 => ?_) (fun c6 => ?_)
  · skip
    refine pB rfl rfl ?_
    refine pB rfl rfl ?_
    refine SL_nil ?_
    refine nx ?_
    refine SWP_cf rfl ?_
    refine SWP_seq ?_
    refine SWP_region ?_
    refine pu rfl rfl ?_
    refine lw (v := .int .i64 _) B1 11 rfl rfl rfl rfl ?_
    refine SL_pcall rfl rfl cb61 (withinI _ _ _) rfl ?_
    refine psp 11 rfl (fun c11 => ?_) (fun c11 => ?_)
    · skip
      refine pB rfl rfl ?_
      refine pB rfl rfl ?_
      refine SL_nil ?_
      refine nx ?_
      refine SWP_cf rfl ?_
      refine SWP_seq ?_
      refine SWP_region ?_
      refine pu rfl rfl ?_
      refine lw (v := .int .i64 _) B1 12 rfl rfl rfl rfl ?_
      refine SL_pcall rfl rfl cb61 (withinI _ _ _) rfl ?_
      refine psp 16 rfl (fun c16 => ?_) (fun c16 => ?_)
      · skip
        refine pB rfl rfl ?_
        refine pB rfl rfl ?_
        refine SL_nil ?_
        refine nx ?_
        refine SWP_cf rfl ?_
        refine SWP_seq ?_
        refine SWP_region ?_
        refine pu rfl rfl ?_
        refine lw (v := .int .i64 _) B1 13 rfl rfl rfl rfl ?_
        refine SL_pcall rfl rfl cb61 (withinI _ _ _) rfl ?_
        refine psp 21 rfl (fun c21 => ?_) (fun c21 => ?_)
        · skip
          refine pB rfl rfl ?_
          refine pB rfl rfl ?_
          refine SL_nil ?_
          refine nx ?_
          refine SWP_cf rfl ?_
          refine SWP_seq ?_
          refine SWP_region ?_
          refine pu rfl rfl ?_
          refine lw (v := .int .i64 _) B1 14 rfl rfl rfl rfl ?_
          refine SL_pcall rfl rfl cb61 (withinI _ _ _) rfl ?_
          refine psp 26 rfl (fun c26 => ?_) (fun c26 => ?_)
          · skip
            refine pB rfl rfl ?_
            refine pB rfl rfl ?_
            refine SL_nil ?_
            refine nx ?_
            refine SWP_cf rfl ?_
            refine SWP_seq ?_
            refine SWP_region ?_
            refine pu rfl rfl ?_
            refine lw (v := .int .i64 _) B1 15 rfl rfl rfl rfl ?_
            refine SL_pcall rfl rfl cb61 (withinI _ _ _) rfl ?_
            refine psp 31 rfl (fun c31 => ?_) (fun c31 => ?_)
            · skip
              refine pB rfl rfl ?_
              refine pB rfl rfl ?_
              refine SL_nil ?_
              refine nx ?_
              refine SWP_cf rfl ?_
              refine SWP_seq ?_
              refine SWP_region ?_
              refine pu rfl rfl ?_
              refine lw (v := .int .i64 _) B1 16 rfl rfl rfl rfl ?_
              refine SL_pcall rfl rfl cb61 (withinI _ _ _) rfl ?_
              refine psp 36 rfl (fun c36 => ?_) (fun c36 => ?_)
              · skip
                refine pB rfl rfl ?_
                refine pB rfl rfl ?_
                refine SL_nil ?_
                refine nx ?_
                refine SWP_cf rfl ?_
                refine SWP_seq ?_
                refine SWP_region ?_
                refine pu rfl rfl ?_
                refine lw (v := .int .i64 _) B1 17 rfl rfl rfl rfl ?_
                refine SL_pcall rfl rfl cb61 (withinI _ _ _) rfl ?_
                refine psp 41 rfl (fun c41 => ?_) (fun c41 => ?_)
                · skip
                  refine pB rfl rfl ?_
                  refine pB rfl rfl ?_
                  refine SL_nil ?_
                  refine nx ?_
                  refine SWP_cf rfl ?_
                  refine SWP_seq ?_
                  refine SWP_region ?_
                  refine pu rfl rfl ?_
                  refine lw (v := .int .i64 _) B1 18 rfl rfl rfl rfl ?_
                  refine SL_pcall rfl rfl cb61 (withinI _ _ _) rfl ?_
                  refine psp 46 rfl (fun c46 => ?_) (fun c46 => ?_)
                  · skip
                    refine pB rfl rfl ?_
                    refine pB rfl rfl ?_
                    refine SL_nil ?_
                    refine nx ?_
                    refine SWP_cf rfl ?_
                    refine SWP_seq ?_
                    refine SWP_region ?_
                    refine pu rfl rfl ?_
                    refine lw (v := .int .i64 _) B1 19 rfl rfl rfl rfl ?_
                    refine SL_pcall rfl rfl cb61 (withinI _ _ _) rfl ?_
                    refine psp 51 rfl (fun c51 => ?_) (fun c51 => ?_)
                    · skip
                      refine pB rfl rfl ?_
                      refine pB rfl rfl ?_
                      refine SL_nil ?_
                      refine nx ?_
                      refine SWP_cf rfl ?_
                      refine SWP_skip ?_
                      refine nb ?_
                      refine nx ?_
                      refine SWP_seq ?_
                      refine SWP_region ?_
                      refine pS rfl rfl ?_
                      refine SL_nil ?_
                      refine nx ?_
                      refine SWP_ret ?_
                      refine fin [_] ⟨rfl, trivial⟩ ?_
                      refine ⟨rfl, ?_⟩
                      refine ⟨_, rfl, ?_⟩
                      first
                        | exact fullS (by decide +kernel) (fun h => by have := h.h1; have := h.h2; have := h.h3; have := h.h4; have := h.h5; have := h.h6; have := h.h7; have := h.h8; have := h.h9; have := h.h10; omega)
                        | exact emptyS rfl ⟨by omega, by omega, by omega, by omega, by omega, by omega, by omega, by omega, by omega, by omega⟩
                    refine pB rfl rfl ?_
                    refine pB rfl rfl ?_
                    refine SL_nil ?_
                    refine nx ?_
                    refine SWP_ct rfl ?_
                    refine SWP_seq ?_
                    refine SWP_region ?_
                    refine pS rfl rfl ?_
                    refine SL_nil ?_
                    refine nx ?_
                    refine SWP_ret ?_
                    refine br ?_
                    refine nr ?_
                    refine fin [_] ⟨rfl, trivial⟩ ?_
                    refine ⟨rfl, ?_⟩
                    refine ⟨_, rfl, ?_⟩
                    first
                      | exact fullS (by decide +kernel) (fun h => by have := h.h1; have := h.h2; have := h.h3; have := h.h4; have := h.h5; have := h.h6; have := h.h7; have := h.h8; have := h.h9; have := h.h10; omega)
                      | exact emptyS rfl ⟨by omega, by omega, by omega, by omega, by omega, by omega, by omega, by omega, by omega, by omega⟩
                  refine pB rfl rfl ?_
                  refine pB rfl rfl ?_
                  refine SL_nil ?_
                  refine nx ?_
                  refine SWP_ct rfl ?_
                  refine SWP_seq ?_
                  refine SWP_region ?_
                  refine pS rfl rfl ?_
                  refine SL_nil ?_
                  refine nx ?_
                  refine SWP_ret ?_
                  refine br ?_
                  refine nr ?_
                  refine fin [_] ⟨rfl, trivial⟩ ?_
                  refine ⟨rfl, ?_⟩
                  refine ⟨_, rfl, ?_⟩
                  first
                    | exact fullS (by decide +kernel) (fun h => by have := h.h1; have := h.h2; have := h.h3; have := h.h4; have := h.h5; have := h.h6; have := h.h7; have := h.h8; have := h.h9; have := h.h10; omega)
                    | exact emptyS rfl ⟨by omega, by omega, by omega, by omega, by omega, by omega, by omega, by omega, by omega, by omega⟩
                refine pB rfl rfl ?_
                refine pB rfl rfl ?_
                refine SL_nil ?_
                refine nx ?_
                refine SWP_ct rfl ?_
                refine SWP_seq ?_
                refine SWP_region ?_
                refine pS rfl rfl ?_
                refine SL_nil ?_
                refine nx ?_
                refine SWP_ret ?_
                refine br ?_
                refine nr ?_
                refine fin [_] ⟨rfl, trivial⟩ ?_
                refine ⟨rfl, ?_⟩
                refine ⟨_, rfl, ?_⟩
                first
                  | exact fullS (by decide +kernel) (fun h => by have := h.h1; have := h.h2; have := h.h3; have := h.h4; have := h.h5; have := h.h6; have := h.h7; have := h.h8; have := h.h9; have := h.h10; omega)
                  | exact emptyS rfl ⟨by omega, by omega, by omega, by omega, by omega, by omega, by omega, by omega, by omega, by omega⟩
              refine pB rfl rfl ?_
              refine pB rfl rfl ?_
              refine SL_nil ?_
              refine nx ?_
              refine SWP_ct rfl ?_
              refine SWP_seq ?_
              refine SWP_region ?_
              refine pS rfl rfl ?_
              refine SL_nil ?_
              refine nx ?_
              refine SWP_ret ?_
              refine br ?_
              refine nr ?_
              refine fin [_] ⟨rfl, trivial⟩ ?_
              refine ⟨rfl, ?_⟩
              refine ⟨_, rfl, ?_⟩
              first
                | exact fullS (by decide +kernel) (fun h => by have := h.h1; have := h.h2; have := h.h3; have := h.h4; have := h.h5; have := h.h6; have := h.h7; have := h.h8; have := h.h9; have := h.h10; omega)
                | exact emptyS rfl ⟨by omega, by omega, by omega, by omega, by omega, by omega, by omega, by omega, by omega, by omega⟩
            refine pB rfl rfl ?_
            refine pB rfl rfl ?_
            refine SL_nil ?_
            refine nx ?_
            refine SWP_ct rfl ?_
            refine SWP_seq ?_
            refine SWP_region ?_
            refine pS rfl rfl ?_
            refine SL_nil ?_
            refine nx ?_
            refine SWP_ret ?_
            refine br ?_
            refine nr ?_
            refine fin [_] ⟨rfl, trivial⟩ ?_
            refine ⟨rfl, ?_⟩
            refine ⟨_, rfl, ?_⟩
            first
              | exact fullS (by decide +kernel) (fun h => by have := h.h1; have := h.h2; have := h.h3; have := h.h4; have := h.h5; have := h.h6; have := h.h7; have := h.h8; have := h.h9; have := h.h10; omega)
              | exact emptyS rfl ⟨by omega, by omega, by omega, by omega, by omega, by omega, by omega, by omega, by omega, by omega⟩
          refine pB rfl rfl ?_
          refine pB rfl rfl ?_
          refine SL_nil ?_
          refine nx ?_
          refine SWP_ct rfl ?_
          refine SWP_seq ?_
          refine SWP_region ?_
          refine pS rfl rfl ?_
          refine SL_nil ?_
          refine nx ?_
          refine SWP_ret ?_
          refine br ?_
          refine nr ?_
          refine fin [_] ⟨rfl, trivial⟩ ?_
          refine ⟨rfl, ?_⟩
          refine ⟨_, rfl, ?_⟩
          first
            | exact fullS (by decide +kernel) (fun h => by have := h.h1; have := h.h2; have := h.h3; have := h.h4; have := h.h5; have := h.h6; have := h.h7; have := h.h8; have := h.h9; have := h.h10; omega)
            | exact emptyS rfl ⟨by omega, by omega, by omega, by omega, by omega, by omega, by omega, by omega, by omega, by omega⟩
        refine pB rfl rfl ?_
        refine pB rfl rfl ?_
        refine SL_nil ?_
        refine nx ?_
        refine SWP_ct rfl ?_
        refine SWP_seq ?_
        refine SWP_region ?_
        refine pS rfl rfl ?_
        refine SL_nil ?_
        refine nx ?_
        refine SWP_ret ?_
        refine br ?_
        refine nr ?_
        refine fin [_] ⟨rfl, trivial⟩ ?_
        refine ⟨rfl, ?_⟩
        refine ⟨_, rfl, ?_⟩
        first
          | exact fullS (by decide +kernel) (fun h => by have := h.h1; have := h.h2; have := h.h3; have := h.h4; have := h.h5; have := h.h6; have := h.h7; have := h.h8; have := h.h9; have := h.h10; omega)
          | exact emptyS rfl ⟨by omega, by omega, by omega, by omega, by omega, by omega, by omega, by omega, by omega, by omega⟩
      refine pB rfl rfl ?_
      refine pB rfl rfl ?_
      refine SL_nil ?_
      refine nx ?_
      refine SWP_ct rfl ?_
      refine SWP_seq ?_
      refine SWP_region ?_
      refine pS rfl rfl ?_
      refine SL_nil ?_
      refine nx ?_
      refine SWP_ret ?_
      refine br ?_
      refine nr ?_
      refine fin [_] ⟨rfl, trivial⟩ ?_
      refine ⟨rfl, ?_⟩
      refine ⟨_, rfl, ?_⟩
      first
        | exact fullS (by decide +kernel) (fun h => by have := h.h1; have := h.h2; have := h.h3; have := h.h4; have := h.h5; have := h.h6; have := h.h7; have := h.h8; have := h.h9; have := h.h10; omega)
        | exact emptyS rfl ⟨by omega, by omega, by omega, by omega, by omega, by omega, by omega, by omega, by omega, by omega⟩
    refine pB rfl rfl ?_
    refine pB rfl rfl ?_
    refine SL_nil ?_
    refine nx ?_
    refine SWP_ct rfl ?_
    refine SWP_seq ?_
    refine SWP_region ?_
    refine pS rfl rfl ?_
    refine SL_nil ?_
    refine nx ?_
    refine SWP_ret ?_
    refine br ?_
    refine nr ?_
    refine fin [_] ⟨rfl, trivial⟩ ?_
    refine ⟨rfl, ?_⟩
    refine ⟨_, rfl, ?_⟩
    first
      | exact fullS (by decide +kernel) (fun h => by have := h.h1; have := h.h2; have := h.h3; have := h.h4; have := h.h5; have := h.h6; have := h.h7; have := h.h8; have := h.h9; have := h.h10; omega)
      | exact emptyS rfl ⟨by omega, by omega, by omega, by omega, by omega, by omega, by omega, by omega, by omega, by omega⟩
  refine pB rfl rfl ?_
  refine pB rfl rfl ?_
  refine SL_nil ?_
  refine nx ?_
  refine SWP_ct rfl ?_
  refine SWP_seq ?_
  refine SWP_region ?_
  refine pS rfl rfl ?_
  refine SL_nil ?_
  refine nx ?_
  refine SWP_ret ?_
  refine br ?_
  refine nr ?_
  refine fin [_] ⟨rfl, trivial⟩ ?_
  refine ⟨rfl, ?_⟩
  refine ⟨_, rfl, ?_⟩
  first
    | exact fullS (by decide +kernel) (fun h => by have := h.h1; have := h.h2; have := h.h3; have := h.h4; have := h.h5; have := h.h6; have := h.h7; have := h.h8; have := h.h9; have := h.h10; omega)
    | exact emptyS rfl ⟨by omega, by omega, by omega, by omega, by omega, by omega, by omega, by omega, by omega, by omega⟩

theorem badMatrixI {m : Mem} (g : Game) : CallsS Try.prog 43 [g.val].toArray [] m fun r σ' m' => σ' = [] ∧ m' = m ∧ ∃ s, r = .string s ∧ (s = ByteArray.empty ↔ MxOk g) := by
  refine CallsS.ghost (R' := fun r σ' m' => m' = m ∧ ∃ s, r = .string s ∧ (s = ByteArray.empty ↔ MxOk g)) ?_ ?h2
  case h2 =>
    rintro r σ' m' ⟨rfl, hr⟩ g0 W hC
    exact ⟨_, m', hC.sublist (List.nil_sublist _), Le.refl _, rfl, rfl, hr⟩
  dsimp only [Game.val]
  refine enter Try.func43 Try.ntmps43 rfl rfl ?_
  refine SWP_seq ?_
  refine SWP_region ?_
  refine bx (v := .agg _) rfl rfl (fun B1 => ?_)
  refine pS rfl rfl ?_
  refine SL_nil ?_
  refine nx ?_
  refine SWP_seq ?_
  refine SWP_region ?_
  refine pu rfl rfl ?_
  refine lw (v := .int .i64 _) B1 1 rfl rfl rfl rfl ?_
  refine pc rfl rfl (fun c13 => ?_) (fun c13 => ?_)
  · skip
    refine pB rfl rfl ?_
    refine SL_nil ?_
    refine nx ?_
    refine SWP_seq ?_
    refine SWP_region ?_
    refine pu rfl rfl ?_
    refine lw (v := .int .i64 _) B1 3 rfl rfl rfl rfl ?_
    refine pI rfl rfl ?_
    refine pI rfl rfl ?_
    refine pI rfl rfl ?_
    refine pI rfl rfl ?_
    refine SL_nil ?_
    refine nx ?_
    refine SWP_seq ?_
    refine SWP_region ?_
    refine pu rfl rfl ?_
    refine lw (v := .int .i64 _) B1 4 rfl rfl rfl rfl ?_
    refine pu rfl rfl ?_
    refine pI rfl rfl ?_
    refine SL_nil ?_
    refine nx ?_
    refine SWP_seq ?_
    refine SWP_seq ?_
    refine SWP_region ?_
    refine pB rfl rfl ?_
    refine SL_nil ?_
    refine nx ?_
    refine SWP_ct rfl ?_
    refine SWP_seq ?_
    refine SWP_region ?_
    refine pI rfl rfl ?_
    refine pI rfl rfl ?_
    refine pI rfl rfl ?_
    refine pI rfl rfl ?_
    refine SL_nil ?_
    refine nx ?_
    refine SWP_region ?_
    refine pu rfl rfl ?_
    refine lw (v := .int .i64 _) B1 3 rfl rfl rfl rfl ?_
    refine pI rfl rfl ?_
    refine SL_nil ?_
    refine nx ?_
    refine SWP_seq ?_
    refine SWP_region ?_
    refine pI rfl rfl ?_
    refine pI rfl rfl ?_
    refine SL_nil ?_
    refine nx ?_
    refine SWP_seq ?_
    refine SWP_seq ?_
    refine SWP_region ?_
    refine pu rfl rfl ?_
    refine lw (v := .int .i64 _) B1 5 rfl rfl rfl rfl ?_
    refine pc rfl rfl (fun c24 => ?_) (fun c24 => ?_)
    · skip
      refine SL_nil ?_
      refine nx ?_
      refine SWP_ct rfl ?_
      refine SWP_region ?_
      refine pu rfl rfl ?_
      refine lw (v := .int .i64 _) B1 5 rfl rfl rfl rfl ?_
      refine pI rfl rfl ?_
      refine pI rfl rfl ?_
      refine SL_nil ?_
      refine nx ?_
      refine SWP_seq ?_
      refine SWP_block ?_
      refine SWP_seq ?_
      refine SWP_region ?_
      refine pu rfl rfl ?_
      refine lw (v := .int .i64 _) B1 2 rfl rfl rfl rfl ?_
      refine SL_pcall rfl rfl cb61 (withinI _ _ _) rfl ?_
      refine psp 30 rfl (fun c30 => ?_) (fun c30 => ?_)
      · skip
        refine pB rfl rfl ?_
        refine pB rfl rfl ?_
        refine SL_nil ?_
        refine nx ?_
        refine SWP_cf rfl ?_
        refine SWP_seq ?_
        refine SWP_region ?_
        refine pu rfl rfl ?_
        refine lw (v := .int .i64 _) B1 3 rfl rfl rfl rfl ?_
        refine SL_pcall rfl rfl cb61 (withinI _ _ _) rfl ?_
        refine psp 35 rfl (fun c35 => ?_) (fun c35 => ?_)
        · skip
          refine pB rfl rfl ?_
          refine pB rfl rfl ?_
          refine SL_nil ?_
          refine nx ?_
          refine SWP_cf rfl ?_
          refine SWP_seq ?_
          refine SWP_region ?_
          refine pu rfl rfl ?_
          refine lw (v := .int .i64 _) B1 4 rfl rfl rfl rfl ?_
          refine pI rfl rfl ?_
          refine pI rfl rfl ?_
          refine SL_pcall rfl rfl cb61 (withinI _ _ _) rfl ?_
          refine psp 42 rfl (fun c42 => ?_) (fun c42 => ?_)
          · skip
            refine pB rfl rfl ?_
            refine pB rfl rfl ?_
            refine SL_nil ?_
            refine nx ?_
            refine SWP_cf rfl ?_
            refine SWP_seq ?_
            refine SWP_region ?_
            refine pu rfl rfl ?_
            refine lw (v := .int .i64 _) B1 5 rfl rfl rfl rfl ?_
            refine pI rfl rfl ?_
            refine SL_pcall rfl rfl cb61 (withinI _ _ _) rfl ?_
            refine psp 48 rfl (fun c48 => ?_) (fun c48 => ?_)
            · skip
              refine pB rfl rfl ?_
              refine pB rfl rfl ?_
              refine SL_nil ?_
              refine nx ?_
              refine SWP_cf rfl ?_
              refine SWP_seq ?_
              refine SWP_region ?_
              refine pu rfl rfl ?_
              refine lw (v := .int .i64 _) B1 6 rfl rfl rfl rfl ?_
              refine pI rfl rfl ?_
              refine pI rfl rfl ?_
              refine SL_pcall rfl rfl cb61 (withinI _ _ _) rfl ?_
              refine psp 55 rfl (fun c55 => ?_) (fun c55 => ?_)
              · skip
                refine pB rfl rfl ?_
                refine pB rfl rfl ?_
                refine SL_nil ?_
                refine nx ?_
                refine SWP_cf rfl ?_
                refine SWP_seq ?_
                refine SWP_seq ?_
                refine SWP_region ?_
                refine pu rfl rfl ?_
                refine lw (v := .int .i64 _) B1 7 rfl rfl rfl rfl ?_
                refine pI rfl rfl ?_
                refine SL_pcall rfl rfl cb61 (withinI _ _ _) rfl ?_
                refine psp 61 rfl (fun c61 => ?_) (fun c61 => ?_)
                · skip
                  refine pB rfl rfl ?_
                  refine pB rfl rfl ?_
                  refine SL_nil ?_
                  refine nx ?_
                  refine SWP_cf rfl ?_
                  refine SWP_region ?_
                  refine pB rfl rfl ?_
                  refine pB rfl rfl ?_
                  refine pB rfl rfl ?_
                  refine SL_no rfl rfl ?_
                  refine SL_no rfl rfl ?_
                  refine SL_no rfl rfl ?_
                  refine SL_no rfl rfl ?_
                  refine SL_no rfl rfl ?_
                  refine SL_no rfl rfl ?_
                  refine SL_no rfl rfl ?_
                  refine SL_no rfl rfl ?_
                  refine pB rfl rfl ?_
                  refine pB rfl rfl ?_
                  refine SL_nil ?_
                  refine nx ?_
                  refine SWP_cf rfl ?_
                  refine SWP_seq ?_
                  refine SWP_region ?_
                  refine pu rfl rfl ?_
                  refine lw (v := .int .i64 _) B1 8 rfl rfl rfl rfl ?_
                  refine SL_pcall rfl rfl cb61 (withinI _ _ _) rfl ?_
                  refine psp 78 rfl (fun c78 => ?_) (fun c78 => ?_)
                  · skip
                    refine pB rfl rfl ?_
                    refine pB rfl rfl ?_
                    refine SL_nil ?_
                    refine nx ?_
                    refine SWP_cf rfl ?_
                    refine SWP_seq ?_
                    refine SWP_region ?_
                    refine pu rfl rfl ?_
                    refine lw (v := .int .i64 _) B1 9 rfl rfl rfl rfl ?_
                    refine pu rfl rfl ?_
                    refine lw (v := .int .i64 _) B1 3 rfl rfl rfl rfl ?_
                    refine pI rfl rfl ?_
                    refine SL_pcall rfl rfl cb61 (withinI _ _ _) rfl ?_
                    refine psp 86 rfl (fun c86 => ?_) (fun c86 => ?_)
                    · skip
                      refine pB rfl rfl ?_
                      refine pB rfl rfl ?_
                      refine SL_nil ?_
                      refine nx ?_
                      refine SWP_cf rfl ?_
                      refine SWP_skip ?_
                      refine nb ?_
                      refine nx ?_
                      refine SWP_seq ?_
                      refine SWP_region ?_
                      refine pS rfl rfl ?_
                      refine SL_nil ?_
                      refine nx ?_
                      refine SWP_ret ?_
                      refine fin [_] ⟨rfl, trivial⟩ ?_
                      refine ⟨rfl, ?_⟩
                      refine ⟨_, rfl, ?_⟩
                      first
                        | exact fullS (by decide +kernel) (fun h => by have := h.h1; have := h.h2; have := h.h3; have := h.h4; have := h.h5; have := h.h6; have := h.h7; have := h.h8; have := h.h9; have := h.h10; have := h.h11; have := h.h12; have := h.h13; have := h.h14; have := h.h15; have := h.h16; omega)
                        | exact emptyS rfl ⟨by omega, by omega, by omega, by omega, by omega, by omega, by omega, by omega, by omega, by omega, by omega, by omega, by omega, by omega, by omega, by omega⟩
                    refine pB rfl rfl ?_
                    refine pB rfl rfl ?_
                    refine SL_nil ?_
                    refine nx ?_
                    refine SWP_ct rfl ?_
                    refine SWP_seq ?_
                    refine SWP_region ?_
                    refine pS rfl rfl ?_
                    refine SL_nil ?_
                    refine nx ?_
                    refine SWP_ret ?_
                    refine br ?_
                    refine nr ?_
                    refine fin [_] ⟨rfl, trivial⟩ ?_
                    refine ⟨rfl, ?_⟩
                    refine ⟨_, rfl, ?_⟩
                    first
                      | exact fullS (by decide +kernel) (fun h => by have := h.h1; have := h.h2; have := h.h3; have := h.h4; have := h.h5; have := h.h6; have := h.h7; have := h.h8; have := h.h9; have := h.h10; have := h.h11; have := h.h12; have := h.h13; have := h.h14; have := h.h15; have := h.h16; omega)
                      | exact emptyS rfl ⟨by omega, by omega, by omega, by omega, by omega, by omega, by omega, by omega, by omega, by omega, by omega, by omega, by omega, by omega, by omega, by omega⟩
                  refine pB rfl rfl ?_
                  refine pB rfl rfl ?_
                  refine SL_nil ?_
                  refine nx ?_
                  refine SWP_ct rfl ?_
                  refine SWP_seq ?_
                  refine SWP_region ?_
                  refine pS rfl rfl ?_
                  refine SL_nil ?_
                  refine nx ?_
                  refine SWP_ret ?_
                  refine br ?_
                  refine nr ?_
                  refine fin [_] ⟨rfl, trivial⟩ ?_
                  refine ⟨rfl, ?_⟩
                  refine ⟨_, rfl, ?_⟩
                  first
                    | exact fullS (by decide +kernel) (fun h => by have := h.h1; have := h.h2; have := h.h3; have := h.h4; have := h.h5; have := h.h6; have := h.h7; have := h.h8; have := h.h9; have := h.h10; have := h.h11; have := h.h12; have := h.h13; have := h.h14; have := h.h15; have := h.h16; omega)
                    | exact emptyS rfl ⟨by omega, by omega, by omega, by omega, by omega, by omega, by omega, by omega, by omega, by omega, by omega, by omega, by omega, by omega, by omega, by omega⟩
                refine pB rfl rfl ?_
                refine pB rfl rfl ?_
                refine SL_nil ?_
                refine nx ?_
                refine SWP_ct rfl ?_
                refine SWP_skip ?_
                refine nx ?_
                refine SWP_ct rfl ?_
                refine SWP_seq ?_
                refine SWP_region ?_
                refine pS rfl rfl ?_
                refine SL_nil ?_
                refine nx ?_
                refine SWP_ret ?_
                refine br ?_
                refine nr ?_
                refine fin [_] ⟨rfl, trivial⟩ ?_
                refine ⟨rfl, ?_⟩
                refine ⟨_, rfl, ?_⟩
                first
                  | exact fullS (by decide +kernel) (fun h => by have := h.h1; have := h.h2; have := h.h3; have := h.h4; have := h.h5; have := h.h6; have := h.h7; have := h.h8; have := h.h9; have := h.h10; have := h.h11; have := h.h12; have := h.h13; have := h.h14; have := h.h15; have := h.h16; omega)
                  | exact emptyS rfl ⟨by omega, by omega, by omega, by omega, by omega, by omega, by omega, by omega, by omega, by omega, by omega, by omega, by omega, by omega, by omega, by omega⟩
              refine pB rfl rfl ?_
              refine pB rfl rfl ?_
              refine SL_nil ?_
              refine nx ?_
              refine SWP_ct rfl ?_
              refine SWP_seq ?_
              refine SWP_region ?_
              refine pS rfl rfl ?_
              refine SL_nil ?_
              refine nx ?_
              refine SWP_ret ?_
              refine br ?_
              refine nr ?_
              refine fin [_] ⟨rfl, trivial⟩ ?_
              refine ⟨rfl, ?_⟩
              refine ⟨_, rfl, ?_⟩
              first
                | exact fullS (by decide +kernel) (fun h => by have := h.h1; have := h.h2; have := h.h3; have := h.h4; have := h.h5; have := h.h6; have := h.h7; have := h.h8; have := h.h9; have := h.h10; have := h.h11; have := h.h12; have := h.h13; have := h.h14; have := h.h15; have := h.h16; omega)
                | exact emptyS rfl ⟨by omega, by omega, by omega, by omega, by omega, by omega, by omega, by omega, by omega, by omega, by omega, by omega, by omega, by omega, by omega, by omega⟩
            refine pB rfl rfl ?_
            refine pB rfl rfl ?_
            refine SL_nil ?_
            refine nx ?_
            refine SWP_ct rfl ?_
            refine SWP_seq ?_
            refine SWP_region ?_
            refine pS rfl rfl ?_
            refine SL_nil ?_
            refine nx ?_
            refine SWP_ret ?_
            refine br ?_
            refine nr ?_
            refine fin [_] ⟨rfl, trivial⟩ ?_
            refine ⟨rfl, ?_⟩
            refine ⟨_, rfl, ?_⟩
            first
              | exact fullS (by decide +kernel) (fun h => by have := h.h1; have := h.h2; have := h.h3; have := h.h4; have := h.h5; have := h.h6; have := h.h7; have := h.h8; have := h.h9; have := h.h10; have := h.h11; have := h.h12; have := h.h13; have := h.h14; have := h.h15; have := h.h16; omega)
              | exact emptyS rfl ⟨by omega, by omega, by omega, by omega, by omega, by omega, by omega, by omega, by omega, by omega, by omega, by omega, by omega, by omega, by omega, by omega⟩
          refine pB rfl rfl ?_
          refine pB rfl rfl ?_
          refine SL_nil ?_
          refine nx ?_
          refine SWP_ct rfl ?_
          refine SWP_seq ?_
          refine SWP_region ?_
          refine pS rfl rfl ?_
          refine SL_nil ?_
          refine nx ?_
          refine SWP_ret ?_
          refine br ?_
          refine nr ?_
          refine fin [_] ⟨rfl, trivial⟩ ?_
          refine ⟨rfl, ?_⟩
          refine ⟨_, rfl, ?_⟩
          first
            | exact fullS (by decide +kernel) (fun h => by have := h.h1; have := h.h2; have := h.h3; have := h.h4; have := h.h5; have := h.h6; have := h.h7; have := h.h8; have := h.h9; have := h.h10; have := h.h11; have := h.h12; have := h.h13; have := h.h14; have := h.h15; have := h.h16; omega)
            | exact emptyS rfl ⟨by omega, by omega, by omega, by omega, by omega, by omega, by omega, by omega, by omega, by omega, by omega, by omega, by omega, by omega, by omega, by omega⟩
        refine pB rfl rfl ?_
        refine pB rfl rfl ?_
        refine SL_nil ?_
        refine nx ?_
        refine SWP_ct rfl ?_
        refine SWP_seq ?_
        refine SWP_region ?_
        refine pS rfl rfl ?_
        refine SL_nil ?_
        refine nx ?_
        refine SWP_ret ?_
        refine br ?_
        refine nr ?_
        refine fin [_] ⟨rfl, trivial⟩ ?_
        refine ⟨rfl, ?_⟩
        refine ⟨_, rfl, ?_⟩
        first
          | exact fullS (by decide +kernel) (fun h => by have := h.h1; have := h.h2; have := h.h3; have := h.h4; have := h.h5; have := h.h6; have := h.h7; have := h.h8; have := h.h9; have := h.h10; have := h.h11; have := h.h12; have := h.h13; have := h.h14; have := h.h15; have := h.h16; omega)
          | exact emptyS rfl ⟨by omega, by omega, by omega, by omega, by omega, by omega, by omega, by omega, by omega, by omega, by omega, by omega, by omega, by omega, by omega, by omega⟩
      refine pB rfl rfl ?_
      refine pB rfl rfl ?_
      refine SL_nil ?_
      refine nx ?_
      refine SWP_ct rfl ?_
      refine SWP_seq ?_
      refine SWP_region ?_
      refine pS rfl rfl ?_
      refine SL_nil ?_
      refine nx ?_
      refine SWP_ret ?_
      refine br ?_
      refine nr ?_
      refine fin [_] ⟨rfl, trivial⟩ ?_
      refine ⟨rfl, ?_⟩
      refine ⟨_, rfl, ?_⟩
      first
        | exact fullS (by decide +kernel) (fun h => by have := h.h1; have := h.h2; have := h.h3; have := h.h4; have := h.h5; have := h.h6; have := h.h7; have := h.h8; have := h.h9; have := h.h10; have := h.h11; have := h.h12; have := h.h13; have := h.h14; have := h.h15; have := h.h16; omega)
        | exact emptyS rfl ⟨by omega, by omega, by omega, by omega, by omega, by omega, by omega, by omega, by omega, by omega, by omega, by omega, by omega, by omega, by omega, by omega⟩
    refine SL_nil ?_
    refine nx ?_
    refine SWP_cf rfl ?_
    refine SWP_skip ?_
    refine nx ?_
    refine SWP_seq ?_
    refine SWP_block ?_
    refine SWP_seq ?_
    refine SWP_region ?_
    refine pu rfl rfl ?_
    refine lw (v := .int .i64 _) B1 2 rfl rfl rfl rfl ?_
    refine SL_pcall rfl rfl cb61 (withinI _ _ _) rfl ?_
    refine psp 30 rfl (fun c30 => ?_) (fun c30 => ?_)
    · skip
      refine pB rfl rfl ?_
      refine pB rfl rfl ?_
      refine SL_nil ?_
      refine nx ?_
      refine SWP_cf rfl ?_
      refine SWP_seq ?_
      refine SWP_region ?_
      refine pu rfl rfl ?_
      refine lw (v := .int .i64 _) B1 3 rfl rfl rfl rfl ?_
      refine SL_pcall rfl rfl cb61 (withinI _ _ _) rfl ?_
      refine psp 35 rfl (fun c35 => ?_) (fun c35 => ?_)
      · skip
        refine pB rfl rfl ?_
        refine pB rfl rfl ?_
        refine SL_nil ?_
        refine nx ?_
        refine SWP_cf rfl ?_
        refine SWP_seq ?_
        refine SWP_region ?_
        refine pu rfl rfl ?_
        refine lw (v := .int .i64 _) B1 4 rfl rfl rfl rfl ?_
        refine pI rfl rfl ?_
        refine pI rfl rfl ?_
        refine SL_pcall rfl rfl cb61 (withinI _ _ _) rfl ?_
        refine psp 42 rfl (fun c42 => ?_) (fun c42 => ?_)
        · skip
          refine pB rfl rfl ?_
          refine pB rfl rfl ?_
          refine SL_nil ?_
          refine nx ?_
          refine SWP_cf rfl ?_
          refine SWP_seq ?_
          refine SWP_region ?_
          refine pu rfl rfl ?_
          refine lw (v := .int .i64 _) B1 5 rfl rfl rfl rfl ?_
          refine pI rfl rfl ?_
          refine SL_pcall rfl rfl cb61 (withinI _ _ _) rfl ?_
          refine psp 48 rfl (fun c48 => ?_) (fun c48 => ?_)
          · skip
            refine pB rfl rfl ?_
            refine pB rfl rfl ?_
            refine SL_nil ?_
            refine nx ?_
            refine SWP_cf rfl ?_
            refine SWP_seq ?_
            refine SWP_region ?_
            refine pu rfl rfl ?_
            refine lw (v := .int .i64 _) B1 6 rfl rfl rfl rfl ?_
            refine pI rfl rfl ?_
            refine pI rfl rfl ?_
            refine SL_pcall rfl rfl cb61 (withinI _ _ _) rfl ?_
            refine psp 55 rfl (fun c55 => ?_) (fun c55 => ?_)
            · skip
              refine pB rfl rfl ?_
              refine pB rfl rfl ?_
              refine SL_nil ?_
              refine nx ?_
              refine SWP_cf rfl ?_
              refine SWP_seq ?_
              refine SWP_seq ?_
              refine SWP_region ?_
              refine pu rfl rfl ?_
              refine lw (v := .int .i64 _) B1 7 rfl rfl rfl rfl ?_
              refine pI rfl rfl ?_
              refine SL_pcall rfl rfl cb61 (withinI _ _ _) rfl ?_
              refine psp 61 rfl (fun c61 => ?_) (fun c61 => ?_)
              · skip
                refine pB rfl rfl ?_
                refine pB rfl rfl ?_
                refine SL_nil ?_
                refine nx ?_
                refine SWP_cf rfl ?_
                refine SWP_region ?_
                refine pB rfl rfl ?_
                refine pB rfl rfl ?_
                refine pB rfl rfl ?_
                refine SL_no rfl rfl ?_
                refine SL_no rfl rfl ?_
                refine SL_no rfl rfl ?_
                refine SL_no rfl rfl ?_
                refine SL_no rfl rfl ?_
                refine SL_no rfl rfl ?_
                refine SL_no rfl rfl ?_
                refine SL_no rfl rfl ?_
                refine pB rfl rfl ?_
                refine pB rfl rfl ?_
                refine SL_nil ?_
                refine nx ?_
                refine SWP_cf rfl ?_
                refine SWP_seq ?_
                refine SWP_region ?_
                refine pu rfl rfl ?_
                refine lw (v := .int .i64 _) B1 8 rfl rfl rfl rfl ?_
                refine SL_pcall rfl rfl cb61 (withinI _ _ _) rfl ?_
                refine psp 78 rfl (fun c78 => ?_) (fun c78 => ?_)
                · skip
                  refine pB rfl rfl ?_
                  refine pB rfl rfl ?_
                  refine SL_nil ?_
                  refine nx ?_
                  refine SWP_cf rfl ?_
                  refine SWP_seq ?_
                  refine SWP_region ?_
                  refine pu rfl rfl ?_
                  refine lw (v := .int .i64 _) B1 9 rfl rfl rfl rfl ?_
                  refine pu rfl rfl ?_
                  refine lw (v := .int .i64 _) B1 3 rfl rfl rfl rfl ?_
                  refine pI rfl rfl ?_
                  refine SL_pcall rfl rfl cb61 (withinI _ _ _) rfl ?_
                  refine psp 86 rfl (fun c86 => ?_) (fun c86 => ?_)
                  · skip
                    refine pB rfl rfl ?_
                    refine pB rfl rfl ?_
                    refine SL_nil ?_
                    refine nx ?_
                    refine SWP_cf rfl ?_
                    refine SWP_skip ?_
                    refine nb ?_
                    refine nx ?_
                    refine SWP_seq ?_
                    refine SWP_region ?_
                    refine pS rfl rfl ?_
                    refine SL_nil ?_
                    refine nx ?_
                    refine SWP_ret ?_
                    refine fin [_] ⟨rfl, trivial⟩ ?_
                    refine ⟨rfl, ?_⟩
                    refine ⟨_, rfl, ?_⟩
                    first
                      | exact fullS (by decide +kernel) (fun h => by have := h.h1; have := h.h2; have := h.h3; have := h.h4; have := h.h5; have := h.h6; have := h.h7; have := h.h8; have := h.h9; have := h.h10; have := h.h11; have := h.h12; have := h.h13; have := h.h14; have := h.h15; have := h.h16; omega)
                      | exact emptyS rfl ⟨by omega, by omega, by omega, by omega, by omega, by omega, by omega, by omega, by omega, by omega, by omega, by omega, by omega, by omega, by omega, by omega⟩
                  refine pB rfl rfl ?_
                  refine pB rfl rfl ?_
                  refine SL_nil ?_
                  refine nx ?_
                  refine SWP_ct rfl ?_
                  refine SWP_seq ?_
                  refine SWP_region ?_
                  refine pS rfl rfl ?_
                  refine SL_nil ?_
                  refine nx ?_
                  refine SWP_ret ?_
                  refine br ?_
                  refine nr ?_
                  refine fin [_] ⟨rfl, trivial⟩ ?_
                  refine ⟨rfl, ?_⟩
                  refine ⟨_, rfl, ?_⟩
                  first
                    | exact fullS (by decide +kernel) (fun h => by have := h.h1; have := h.h2; have := h.h3; have := h.h4; have := h.h5; have := h.h6; have := h.h7; have := h.h8; have := h.h9; have := h.h10; have := h.h11; have := h.h12; have := h.h13; have := h.h14; have := h.h15; have := h.h16; omega)
                    | exact emptyS rfl ⟨by omega, by omega, by omega, by omega, by omega, by omega, by omega, by omega, by omega, by omega, by omega, by omega, by omega, by omega, by omega, by omega⟩
                refine pB rfl rfl ?_
                refine pB rfl rfl ?_
                refine SL_nil ?_
                refine nx ?_
                refine SWP_ct rfl ?_
                refine SWP_seq ?_
                refine SWP_region ?_
                refine pS rfl rfl ?_
                refine SL_nil ?_
                refine nx ?_
                refine SWP_ret ?_
                refine br ?_
                refine nr ?_
                refine fin [_] ⟨rfl, trivial⟩ ?_
                refine ⟨rfl, ?_⟩
                refine ⟨_, rfl, ?_⟩
                first
                  | exact fullS (by decide +kernel) (fun h => by have := h.h1; have := h.h2; have := h.h3; have := h.h4; have := h.h5; have := h.h6; have := h.h7; have := h.h8; have := h.h9; have := h.h10; have := h.h11; have := h.h12; have := h.h13; have := h.h14; have := h.h15; have := h.h16; omega)
                  | exact emptyS rfl ⟨by omega, by omega, by omega, by omega, by omega, by omega, by omega, by omega, by omega, by omega, by omega, by omega, by omega, by omega, by omega, by omega⟩
              refine pB rfl rfl ?_
              refine pB rfl rfl ?_
              refine SL_nil ?_
              refine nx ?_
              refine SWP_ct rfl ?_
              refine SWP_skip ?_
              refine nx ?_
              refine SWP_ct rfl ?_
              refine SWP_seq ?_
              refine SWP_region ?_
              refine pS rfl rfl ?_
              refine SL_nil ?_
              refine nx ?_
              refine SWP_ret ?_
              refine br ?_
              refine nr ?_
              refine fin [_] ⟨rfl, trivial⟩ ?_
              refine ⟨rfl, ?_⟩
              refine ⟨_, rfl, ?_⟩
              first
                | exact fullS (by decide +kernel) (fun h => by have := h.h1; have := h.h2; have := h.h3; have := h.h4; have := h.h5; have := h.h6; have := h.h7; have := h.h8; have := h.h9; have := h.h10; have := h.h11; have := h.h12; have := h.h13; have := h.h14; have := h.h15; have := h.h16; omega)
                | exact emptyS rfl ⟨by omega, by omega, by omega, by omega, by omega, by omega, by omega, by omega, by omega, by omega, by omega, by omega, by omega, by omega, by omega, by omega⟩
            refine pB rfl rfl ?_
            refine pB rfl rfl ?_
            refine SL_nil ?_
            refine nx ?_
            refine SWP_ct rfl ?_
            refine SWP_seq ?_
            refine SWP_region ?_
            refine pS rfl rfl ?_
            refine SL_nil ?_
            refine nx ?_
            refine SWP_ret ?_
            refine br ?_
            refine nr ?_
            refine fin [_] ⟨rfl, trivial⟩ ?_
            refine ⟨rfl, ?_⟩
            refine ⟨_, rfl, ?_⟩
            first
              | exact fullS (by decide +kernel) (fun h => by have := h.h1; have := h.h2; have := h.h3; have := h.h4; have := h.h5; have := h.h6; have := h.h7; have := h.h8; have := h.h9; have := h.h10; have := h.h11; have := h.h12; have := h.h13; have := h.h14; have := h.h15; have := h.h16; omega)
              | exact emptyS rfl ⟨by omega, by omega, by omega, by omega, by omega, by omega, by omega, by omega, by omega, by omega, by omega, by omega, by omega, by omega, by omega, by omega⟩
          refine pB rfl rfl ?_
          refine pB rfl rfl ?_
          refine SL_nil ?_
          refine nx ?_
          refine SWP_ct rfl ?_
          refine SWP_seq ?_
          refine SWP_region ?_
          refine pS rfl rfl ?_
          refine SL_nil ?_
          refine nx ?_
          refine SWP_ret ?_
          refine br ?_
          refine nr ?_
          refine fin [_] ⟨rfl, trivial⟩ ?_
          refine ⟨rfl, ?_⟩
          refine ⟨_, rfl, ?_⟩
          first
            | exact fullS (by decide +kernel) (fun h => by have := h.h1; have := h.h2; have := h.h3; have := h.h4; have := h.h5; have := h.h6; have := h.h7; have := h.h8; have := h.h9; have := h.h10; have := h.h11; have := h.h12; have := h.h13; have := h.h14; have := h.h15; have := h.h16; omega)
            | exact emptyS rfl ⟨by omega, by omega, by omega, by omega, by omega, by omega, by omega, by omega, by omega, by omega, by omega, by omega, by omega, by omega, by omega, by omega⟩
        refine pB rfl rfl ?_
        refine pB rfl rfl ?_
        refine SL_nil ?_
        refine nx ?_
        refine SWP_ct rfl ?_
        refine SWP_seq ?_
        refine SWP_region ?_
        refine pS rfl rfl ?_
        refine SL_nil ?_
        refine nx ?_
        refine SWP_ret ?_
        refine br ?_
        refine nr ?_
        refine fin [_] ⟨rfl, trivial⟩ ?_
        refine ⟨rfl, ?_⟩
        refine ⟨_, rfl, ?_⟩
        first
          | exact fullS (by decide +kernel) (fun h => by have := h.h1; have := h.h2; have := h.h3; have := h.h4; have := h.h5; have := h.h6; have := h.h7; have := h.h8; have := h.h9; have := h.h10; have := h.h11; have := h.h12; have := h.h13; have := h.h14; have := h.h15; have := h.h16; omega)
          | exact emptyS rfl ⟨by omega, by omega, by omega, by omega, by omega, by omega, by omega, by omega, by omega, by omega, by omega, by omega, by omega, by omega, by omega, by omega⟩
      refine pB rfl rfl ?_
      refine pB rfl rfl ?_
      refine SL_nil ?_
      refine nx ?_
      refine SWP_ct rfl ?_
      refine SWP_seq ?_
      refine SWP_region ?_
      refine pS rfl rfl ?_
      refine SL_nil ?_
      refine nx ?_
      refine SWP_ret ?_
      refine br ?_
      refine nr ?_
      refine fin [_] ⟨rfl, trivial⟩ ?_
      refine ⟨rfl, ?_⟩
      refine ⟨_, rfl, ?_⟩
      first
        | exact fullS (by decide +kernel) (fun h => by have := h.h1; have := h.h2; have := h.h3; have := h.h4; have := h.h5; have := h.h6; have := h.h7; have := h.h8; have := h.h9; have := h.h10; have := h.h11; have := h.h12; have := h.h13; have := h.h14; have := h.h15; have := h.h16; omega)
        | exact emptyS rfl ⟨by omega, by omega, by omega, by omega, by omega, by omega, by omega, by omega, by omega, by omega, by omega, by omega, by omega, by omega, by omega, by omega⟩
    refine pB rfl rfl ?_
    refine pB rfl rfl ?_
    refine SL_nil ?_
    refine nx ?_
    refine SWP_ct rfl ?_
    refine SWP_seq ?_
    refine SWP_region ?_
    refine pS rfl rfl ?_
    refine SL_nil ?_
    refine nx ?_
    refine SWP_ret ?_
    refine br ?_
    refine nr ?_
    refine fin [_] ⟨rfl, trivial⟩ ?_
    refine ⟨rfl, ?_⟩
    refine ⟨_, rfl, ?_⟩
    first
      | exact fullS (by decide +kernel) (fun h => by have := h.h1; have := h.h2; have := h.h3; have := h.h4; have := h.h5; have := h.h6; have := h.h7; have := h.h8; have := h.h9; have := h.h10; have := h.h11; have := h.h12; have := h.h13; have := h.h14; have := h.h15; have := h.h16; omega)
      | exact emptyS rfl ⟨by omega, by omega, by omega, by omega, by omega, by omega, by omega, by omega, by omega, by omega, by omega, by omega, by omega, by omega, by omega, by omega⟩
  refine pB rfl rfl ?_
  refine SL_nil ?_
  refine nx ?_
  refine SWP_seq ?_
  refine SWP_region ?_
  refine pu rfl rfl ?_
  refine lw (v := .int .i64 _) B1 3 rfl rfl rfl rfl ?_
  refine pI rfl rfl ?_
  refine pI rfl rfl ?_
  refine pI rfl rfl ?_
  refine pI rfl rfl ?_
  refine SL_nil ?_
  refine nx ?_
  refine SWP_seq ?_
  refine SWP_region ?_
  refine pu rfl rfl ?_
  refine lw (v := .int .i64 _) B1 4 rfl rfl rfl rfl ?_
  refine pu rfl rfl ?_
  refine pI rfl rfl ?_
  refine SL_nil ?_
  refine nx ?_
  refine SWP_seq ?_
  refine SWP_seq ?_
  refine SWP_region ?_
  refine pB rfl rfl ?_
  refine SL_nil ?_
  refine nx ?_
  refine SWP_cf rfl ?_
  refine SWP_skip ?_
  refine nx ?_
  refine SWP_seq ?_
  refine SWP_region ?_
  refine pI rfl rfl ?_
  refine pI rfl rfl ?_
  refine SL_nil ?_
  refine nx ?_
  refine SWP_seq ?_
  refine SWP_seq ?_
  refine SWP_region ?_
  refine pu rfl rfl ?_
  refine lw (v := .int .i64 _) B1 5 rfl rfl rfl rfl ?_
  refine pc rfl rfl (fun c24 => ?_) (fun c24 => ?_)
  · skip
    refine SL_nil ?_
    refine nx ?_
    refine SWP_ct rfl ?_
    refine SWP_region ?_
    refine pu rfl rfl ?_
    refine lw (v := .int .i64 _) B1 5 rfl rfl rfl rfl ?_
    refine pI rfl rfl ?_
    refine pI rfl rfl ?_
    refine SL_nil ?_
    refine nx ?_
    refine SWP_seq ?_
    refine SWP_block ?_
    refine SWP_seq ?_
    refine SWP_region ?_
    refine pu rfl rfl ?_
    refine lw (v := .int .i64 _) B1 2 rfl rfl rfl rfl ?_
    refine SL_pcall rfl rfl cb61 (withinI _ _ _) rfl ?_
    refine psp 30 rfl (fun c30 => ?_) (fun c30 => ?_)
    · skip
      refine pB rfl rfl ?_
      refine pB rfl rfl ?_
      refine SL_nil ?_
      refine nx ?_
      refine SWP_cf rfl ?_
      refine SWP_seq ?_
      refine SWP_region ?_
      refine pu rfl rfl ?_
      refine lw (v := .int .i64 _) B1 3 rfl rfl rfl rfl ?_
      refine SL_pcall rfl rfl cb61 (withinI _ _ _) rfl ?_
      refine psp 35 rfl (fun c35 => ?_) (fun c35 => ?_)
      · skip
        refine pB rfl rfl ?_
        refine pB rfl rfl ?_
        refine SL_nil ?_
        refine nx ?_
        refine SWP_cf rfl ?_
        refine SWP_seq ?_
        refine SWP_region ?_
        refine pu rfl rfl ?_
        refine lw (v := .int .i64 _) B1 4 rfl rfl rfl rfl ?_
        refine pI rfl rfl ?_
        refine pI rfl rfl ?_
        refine SL_pcall rfl rfl cb61 (withinI _ _ _) rfl ?_
        refine psp 42 rfl (fun c42 => ?_) (fun c42 => ?_)
        · skip
          refine pB rfl rfl ?_
          refine pB rfl rfl ?_
          refine SL_nil ?_
          refine nx ?_
          refine SWP_cf rfl ?_
          refine SWP_seq ?_
          refine SWP_region ?_
          refine pu rfl rfl ?_
          refine lw (v := .int .i64 _) B1 5 rfl rfl rfl rfl ?_
          refine pI rfl rfl ?_
          refine SL_pcall rfl rfl cb61 (withinI _ _ _) rfl ?_
          refine psp 48 rfl (fun c48 => ?_) (fun c48 => ?_)
          · skip
            refine pB rfl rfl ?_
            refine pB rfl rfl ?_
            refine SL_nil ?_
            refine nx ?_
            refine SWP_cf rfl ?_
            refine SWP_seq ?_
            refine SWP_region ?_
            refine pu rfl rfl ?_
            refine lw (v := .int .i64 _) B1 6 rfl rfl rfl rfl ?_
            refine pI rfl rfl ?_
            refine pI rfl rfl ?_
            refine SL_pcall rfl rfl cb61 (withinI _ _ _) rfl ?_
            refine psp 55 rfl (fun c55 => ?_) (fun c55 => ?_)
            · skip
              refine pB rfl rfl ?_
              refine pB rfl rfl ?_
              refine SL_nil ?_
              refine nx ?_
              refine SWP_cf rfl ?_
              refine SWP_seq ?_
              refine SWP_seq ?_
              refine SWP_region ?_
              refine pu rfl rfl ?_
              refine lw (v := .int .i64 _) B1 7 rfl rfl rfl rfl ?_
              refine pI rfl rfl ?_
              refine SL_pcall rfl rfl cb61 (withinI _ _ _) rfl ?_
              refine psp 61 rfl (fun c61 => ?_) (fun c61 => ?_)
              · skip
                refine pB rfl rfl ?_
                refine pB rfl rfl ?_
                refine SL_nil ?_
                refine nx ?_
                refine SWP_cf rfl ?_
                refine SWP_region ?_
                refine pB rfl rfl ?_
                refine pB rfl rfl ?_
                refine pB rfl rfl ?_
                refine SL_yes rfl ?_
                refine pu rfl rfl ?_
                refine SL_yes rfl ?_
                refine lw (v := .int .i64 _) B1 3 rfl rfl rfl rfl ?_
                refine SL_yes rfl ?_
                refine pu rfl rfl ?_
                refine SL_yes rfl ?_
                refine lw (v := .int .i64 _) B1 7 rfl rfl rfl rfl ?_
                refine SL_yes rfl ?_
                first | refine pw rfl rfl (w64 (by omega) (by omega)) ?_ | refine pu rfl rfl ?_
                refine SL_yes rfl ?_
                refine pu rfl rfl ?_
                refine SL_yes rfl ?_
                refine lw (v := .int .i64 _) B1 4 rfl rfl rfl rfl ?_
                refine SL_yes rfl ?_
                refine pc rfl rfl (fun c73 => ?_) (fun c73 => ?_)
                · skip
                  refine pB rfl rfl ?_
                  refine pB rfl rfl ?_
                  refine SL_nil ?_
                  refine nx ?_
                  refine SWP_ct rfl ?_
                  refine SWP_seq ?_
                  refine SWP_region ?_
                  refine pS rfl rfl ?_
                  refine SL_nil ?_
                  refine nx ?_
                  refine SWP_ret ?_
                  refine br ?_
                  refine nr ?_
                  refine fin [_] ⟨rfl, trivial⟩ ?_
                  refine ⟨rfl, ?_⟩
                  refine ⟨_, rfl, ?_⟩
                  first
                    | exact fullS (by decide +kernel) (fun h => by have := h.h1; have := h.h2; have := h.h3; have := h.h4; have := h.h5; have := h.h6; have := h.h7; have := h.h8; have := h.h9; have := h.h10; have := h.h11; have := h.h12; have := h.h13; have := h.h14; have := h.h15; have := h.h16; omega)
                    | exact emptyS rfl ⟨by omega, by omega, by omega, by omega, by omega, by omega, by omega, by omega, by omega, by omega, by omega, by omega, by omega, by omega, by omega, by omega⟩
                refine pB rfl rfl ?_
                refine pB rfl rfl ?_
                refine SL_nil ?_
                refine nx ?_
                refine SWP_cf rfl ?_
                refine SWP_seq ?_
                refine SWP_region ?_
                refine pu rfl rfl ?_
                refine lw (v := .int .i64 _) B1 8 rfl rfl rfl rfl ?_
                refine SL_pcall rfl rfl cb61 (withinI _ _ _) rfl ?_
                refine psp 78 rfl (fun c78 => ?_) (fun c78 => ?_)
                · skip
                  refine pB rfl rfl ?_
                  refine pB rfl rfl ?_
                  refine SL_nil ?_
                  refine nx ?_
                  refine SWP_cf rfl ?_
                  refine SWP_seq ?_
                  refine SWP_region ?_
                  refine pu rfl rfl ?_
                  refine lw (v := .int .i64 _) B1 9 rfl rfl rfl rfl ?_
                  refine pu rfl rfl ?_
                  refine lw (v := .int .i64 _) B1 3 rfl rfl rfl rfl ?_
                  refine pI rfl rfl ?_
                  refine SL_pcall rfl rfl cb61 (withinI _ _ _) rfl ?_
                  refine psp 86 rfl (fun c86 => ?_) (fun c86 => ?_)
                  · skip
                    refine pB rfl rfl ?_
                    refine pB rfl rfl ?_
                    refine SL_nil ?_
                    refine nx ?_
                    refine SWP_cf rfl ?_
                    refine SWP_skip ?_
                    refine nb ?_
                    refine nx ?_
                    refine SWP_seq ?_
                    refine SWP_region ?_
                    refine pS rfl rfl ?_
                    refine SL_nil ?_
                    refine nx ?_
                    refine SWP_ret ?_
                    refine fin [_] ⟨rfl, trivial⟩ ?_
                    refine ⟨rfl, ?_⟩
                    refine ⟨_, rfl, ?_⟩
                    first
                      | exact fullS (by decide +kernel) (fun h => by have := h.h1; have := h.h2; have := h.h3; have := h.h4; have := h.h5; have := h.h6; have := h.h7; have := h.h8; have := h.h9; have := h.h10; have := h.h11; have := h.h12; have := h.h13; have := h.h14; have := h.h15; have := h.h16; omega)
                      | exact emptyS rfl ⟨by omega, by omega, by omega, by omega, by omega, by omega, by omega, by omega, by omega, by omega, by omega, by omega, by omega, by omega, by omega, by omega⟩
                  refine pB rfl rfl ?_
                  refine pB rfl rfl ?_
                  refine SL_nil ?_
                  refine nx ?_
                  refine SWP_ct rfl ?_
                  refine SWP_seq ?_
                  refine SWP_region ?_
                  refine pS rfl rfl ?_
                  refine SL_nil ?_
                  refine nx ?_
                  refine SWP_ret ?_
                  refine br ?_
                  refine nr ?_
                  refine fin [_] ⟨rfl, trivial⟩ ?_
                  refine ⟨rfl, ?_⟩
                  refine ⟨_, rfl, ?_⟩
                  first
                    | exact fullS (by decide +kernel) (fun h => by have := h.h1; have := h.h2; have := h.h3; have := h.h4; have := h.h5; have := h.h6; have := h.h7; have := h.h8; have := h.h9; have := h.h10; have := h.h11; have := h.h12; have := h.h13; have := h.h14; have := h.h15; have := h.h16; omega)
                    | exact emptyS rfl ⟨by omega, by omega, by omega, by omega, by omega, by omega, by omega, by omega, by omega, by omega, by omega, by omega, by omega, by omega, by omega, by omega⟩
                refine pB rfl rfl ?_
                refine pB rfl rfl ?_
                refine SL_nil ?_
                refine nx ?_
                refine SWP_ct rfl ?_
                refine SWP_seq ?_
                refine SWP_region ?_
                refine pS rfl rfl ?_
                refine SL_nil ?_
                refine nx ?_
                refine SWP_ret ?_
                refine br ?_
                refine nr ?_
                refine fin [_] ⟨rfl, trivial⟩ ?_
                refine ⟨rfl, ?_⟩
                refine ⟨_, rfl, ?_⟩
                first
                  | exact fullS (by decide +kernel) (fun h => by have := h.h1; have := h.h2; have := h.h3; have := h.h4; have := h.h5; have := h.h6; have := h.h7; have := h.h8; have := h.h9; have := h.h10; have := h.h11; have := h.h12; have := h.h13; have := h.h14; have := h.h15; have := h.h16; omega)
                  | exact emptyS rfl ⟨by omega, by omega, by omega, by omega, by omega, by omega, by omega, by omega, by omega, by omega, by omega, by omega, by omega, by omega, by omega, by omega⟩
              refine pB rfl rfl ?_
              refine pB rfl rfl ?_
              refine SL_nil ?_
              refine nx ?_
              refine SWP_ct rfl ?_
              refine SWP_skip ?_
              refine nx ?_
              refine SWP_ct rfl ?_
              refine SWP_seq ?_
              refine SWP_region ?_
              refine pS rfl rfl ?_
              refine SL_nil ?_
              refine nx ?_
              refine SWP_ret ?_
              refine br ?_
              refine nr ?_
              refine fin [_] ⟨rfl, trivial⟩ ?_
              refine ⟨rfl, ?_⟩
              refine ⟨_, rfl, ?_⟩
              first
                | exact fullS (by decide +kernel) (fun h => by have := h.h1; have := h.h2; have := h.h3; have := h.h4; have := h.h5; have := h.h6; have := h.h7; have := h.h8; have := h.h9; have := h.h10; have := h.h11; have := h.h12; have := h.h13; have := h.h14; have := h.h15; have := h.h16; omega)
                | exact emptyS rfl ⟨by omega, by omega, by omega, by omega, by omega, by omega, by omega, by omega, by omega, by omega, by omega, by omega, by omega, by omega, by omega, by omega⟩
            refine pB rfl rfl ?_
            refine pB rfl rfl ?_
            refine SL_nil ?_
            refine nx ?_
            refine SWP_ct rfl ?_
            refine SWP_seq ?_
            refine SWP_region ?_
            refine pS rfl rfl ?_
            refine SL_nil ?_
            refine nx ?_
            refine SWP_ret ?_
            refine br ?_
            refine nr ?_
            refine fin [_] ⟨rfl, trivial⟩ ?_
            refine ⟨rfl, ?_⟩
            refine ⟨_, rfl, ?_⟩
            first
              | exact fullS (by decide +kernel) (fun h => by have := h.h1; have := h.h2; have := h.h3; have := h.h4; have := h.h5; have := h.h6; have := h.h7; have := h.h8; have := h.h9; have := h.h10; have := h.h11; have := h.h12; have := h.h13; have := h.h14; have := h.h15; have := h.h16; omega)
              | exact emptyS rfl ⟨by omega, by omega, by omega, by omega, by omega, by omega, by omega, by omega, by omega, by omega, by omega, by omega, by omega, by omega, by omega, by omega⟩
          refine pB rfl rfl ?_
          refine pB rfl rfl ?_
          refine SL_nil ?_
          refine nx ?_
          refine SWP_ct rfl ?_
          refine SWP_seq ?_
          refine SWP_region ?_
          refine pS rfl rfl ?_
          refine SL_nil ?_
          refine nx ?_
          refine SWP_ret ?_
          refine br ?_
          refine nr ?_
          refine fin [_] ⟨rfl, trivial⟩ ?_
          refine ⟨rfl, ?_⟩
          refine ⟨_, rfl, ?_⟩
          first
            | exact fullS (by decide +kernel) (fun h => by have := h.h1; have := h.h2; have := h.h3; have := h.h4; have := h.h5; have := h.h6; have := h.h7; have := h.h8; have := h.h9; have := h.h10; have := h.h11; have := h.h12; have := h.h13; have := h.h14; have := h.h15; have := h.h16; omega)
            | exact emptyS rfl ⟨by omega, by omega, by omega, by omega, by omega, by omega, by omega, by omega, by omega, by omega, by omega, by omega, by omega, by omega, by omega, by omega⟩
        refine pB rfl rfl ?_
        refine pB rfl rfl ?_
        refine SL_nil ?_
        refine nx ?_
        refine SWP_ct rfl ?_
        refine SWP_seq ?_
        refine SWP_region ?_
        refine pS rfl rfl ?_
        refine SL_nil ?_
        refine nx ?_
        refine SWP_ret ?_
        refine br ?_
        refine nr ?_
        refine fin [_] ⟨rfl, trivial⟩ ?_
        refine ⟨rfl, ?_⟩
        refine ⟨_, rfl, ?_⟩
        first
          | exact fullS (by decide +kernel) (fun h => by have := h.h1; have := h.h2; have := h.h3; have := h.h4; have := h.h5; have := h.h6; have := h.h7; have := h.h8; have := h.h9; have := h.h10; have := h.h11; have := h.h12; have := h.h13; have := h.h14; have := h.h15; have := h.h16; omega)
          | exact emptyS rfl ⟨by omega, by omega, by omega, by omega, by omega, by omega, by omega, by omega, by omega, by omega, by omega, by omega, by omega, by omega, by omega, by omega⟩
      refine pB rfl rfl ?_
      refine pB rfl rfl ?_
      refine SL_nil ?_
      refine nx ?_
      refine SWP_ct rfl ?_
      refine SWP_seq ?_
      refine SWP_region ?_
      refine pS rfl rfl ?_
      refine SL_nil ?_
      refine nx ?_
      refine SWP_ret ?_
      refine br ?_
      refine nr ?_
      refine fin [_] ⟨rfl, trivial⟩ ?_
      refine ⟨rfl, ?_⟩
      refine ⟨_, rfl, ?_⟩
      first
        | exact fullS (by decide +kernel) (fun h => by have := h.h1; have := h.h2; have := h.h3; have := h.h4; have := h.h5; have := h.h6; have := h.h7; have := h.h8; have := h.h9; have := h.h10; have := h.h11; have := h.h12; have := h.h13; have := h.h14; have := h.h15; have := h.h16; omega)
        | exact emptyS rfl ⟨by omega, by omega, by omega, by omega, by omega, by omega, by omega, by omega, by omega, by omega, by omega, by omega, by omega, by omega, by omega, by omega⟩
    refine pB rfl rfl ?_
    refine pB rfl rfl ?_
    refine SL_nil ?_
    refine nx ?_
    refine SWP_ct rfl ?_
    refine SWP_seq ?_
    refine SWP_region ?_
    refine pS rfl rfl ?_
    refine SL_nil ?_
    refine nx ?_
    refine SWP_ret ?_
    refine br ?_
    refine nr ?_
    refine fin [_] ⟨rfl, trivial⟩ ?_
    refine ⟨rfl, ?_⟩
    refine ⟨_, rfl, ?_⟩
    first
      | exact fullS (by decide +kernel) (fun h => by have := h.h1; have := h.h2; have := h.h3; have := h.h4; have := h.h5; have := h.h6; have := h.h7; have := h.h8; have := h.h9; have := h.h10; have := h.h11; have := h.h12; have := h.h13; have := h.h14; have := h.h15; have := h.h16; omega)
      | exact emptyS rfl ⟨by omega, by omega, by omega, by omega, by omega, by omega, by omega, by omega, by omega, by omega, by omega, by omega, by omega, by omega, by omega, by omega⟩
  refine SL_nil ?_
  refine nx ?_
  refine SWP_cf rfl ?_
  refine SWP_skip ?_
  refine nx ?_
  refine SWP_seq ?_
  refine SWP_block ?_
  refine SWP_seq ?_
  refine SWP_region ?_
  refine pu rfl rfl ?_
  refine lw (v := .int .i64 _) B1 2 rfl rfl rfl rfl ?_
  refine SL_pcall rfl rfl cb61 (withinI _ _ _) rfl ?_
  refine psp 30 rfl (fun c30 => ?_) (fun c30 => ?_)
  · skip
    refine pB rfl rfl ?_
    refine pB rfl rfl ?_
    refine SL_nil ?_
    refine nx ?_
    refine SWP_cf rfl ?_
    refine SWP_seq ?_
    refine SWP_region ?_
    refine pu rfl rfl ?_
    refine lw (v := .int .i64 _) B1 3 rfl rfl rfl rfl ?_
    refine SL_pcall rfl rfl cb61 (withinI _ _ _) rfl ?_
    refine psp 35 rfl (fun c35 => ?_) (fun c35 => ?_)
    · skip
      refine pB rfl rfl ?_
      refine pB rfl rfl ?_
      refine SL_nil ?_
      refine nx ?_
      refine SWP_cf rfl ?_
      refine SWP_seq ?_
      refine SWP_region ?_
      refine pu rfl rfl ?_
      refine lw (v := .int .i64 _) B1 4 rfl rfl rfl rfl ?_
      refine pI rfl rfl ?_
      refine pI rfl rfl ?_
      refine SL_pcall rfl rfl cb61 (withinI _ _ _) rfl ?_
      refine psp 42 rfl (fun c42 => ?_) (fun c42 => ?_)
      · skip
        refine pB rfl rfl ?_
        refine pB rfl rfl ?_
        refine SL_nil ?_
        refine nx ?_
        refine SWP_cf rfl ?_
        refine SWP_seq ?_
        refine SWP_region ?_
        refine pu rfl rfl ?_
        refine lw (v := .int .i64 _) B1 5 rfl rfl rfl rfl ?_
        refine pI rfl rfl ?_
        refine SL_pcall rfl rfl cb61 (withinI _ _ _) rfl ?_
        refine psp 48 rfl (fun c48 => ?_) (fun c48 => ?_)
        · skip
          refine pB rfl rfl ?_
          refine pB rfl rfl ?_
          refine SL_nil ?_
          refine nx ?_
          refine SWP_cf rfl ?_
          refine SWP_seq ?_
          refine SWP_region ?_
          refine pu rfl rfl ?_
          refine lw (v := .int .i64 _) B1 6 rfl rfl rfl rfl ?_
          refine pI rfl rfl ?_
          refine pI rfl rfl ?_
          refine SL_pcall rfl rfl cb61 (withinI _ _ _) rfl ?_
          refine psp 55 rfl (fun c55 => ?_) (fun c55 => ?_)
          · skip
            refine pB rfl rfl ?_
            refine pB rfl rfl ?_
            refine SL_nil ?_
            refine nx ?_
            refine SWP_cf rfl ?_
            refine SWP_seq ?_
            refine SWP_seq ?_
            refine SWP_region ?_
            refine pu rfl rfl ?_
            refine lw (v := .int .i64 _) B1 7 rfl rfl rfl rfl ?_
            refine pI rfl rfl ?_
            refine SL_pcall rfl rfl cb61 (withinI _ _ _) rfl ?_
            refine psp 61 rfl (fun c61 => ?_) (fun c61 => ?_)
            · skip
              refine pB rfl rfl ?_
              refine pB rfl rfl ?_
              refine SL_nil ?_
              refine nx ?_
              refine SWP_cf rfl ?_
              refine SWP_region ?_
              refine pB rfl rfl ?_
              refine pB rfl rfl ?_
              refine pB rfl rfl ?_
              refine SL_yes rfl ?_
              refine pu rfl rfl ?_
              refine SL_yes rfl ?_
              refine lw (v := .int .i64 _) B1 3 rfl rfl rfl rfl ?_
              refine SL_yes rfl ?_
              refine pu rfl rfl ?_
              refine SL_yes rfl ?_
              refine lw (v := .int .i64 _) B1 7 rfl rfl rfl rfl ?_
              refine SL_yes rfl ?_
              first | refine pw rfl rfl (w64 (by omega) (by omega)) ?_ | refine pu rfl rfl ?_
              refine SL_yes rfl ?_
              refine pu rfl rfl ?_
              refine SL_yes rfl ?_
              refine lw (v := .int .i64 _) B1 4 rfl rfl rfl rfl ?_
              refine SL_yes rfl ?_
              refine pc rfl rfl (fun c73 => ?_) (fun c73 => ?_)
              · skip
                refine pB rfl rfl ?_
                refine pB rfl rfl ?_
                refine SL_nil ?_
                refine nx ?_
                refine SWP_ct rfl ?_
                refine SWP_seq ?_
                refine SWP_region ?_
                refine pS rfl rfl ?_
                refine SL_nil ?_
                refine nx ?_
                refine SWP_ret ?_
                refine br ?_
                refine nr ?_
                refine fin [_] ⟨rfl, trivial⟩ ?_
                refine ⟨rfl, ?_⟩
                refine ⟨_, rfl, ?_⟩
                first
                  | exact fullS (by decide +kernel) (fun h => by have := h.h1; have := h.h2; have := h.h3; have := h.h4; have := h.h5; have := h.h6; have := h.h7; have := h.h8; have := h.h9; have := h.h10; have := h.h11; have := h.h12; have := h.h13; have := h.h14; have := h.h15; have := h.h16; omega)
                  | exact emptyS rfl ⟨by omega, by omega, by omega, by omega, by omega, by omega, by omega, by omega, by omega, by omega, by omega, by omega, by omega, by omega, by omega, by omega⟩
              refine pB rfl rfl ?_
              refine pB rfl rfl ?_
              refine SL_nil ?_
              refine nx ?_
              refine SWP_cf rfl ?_
              refine SWP_seq ?_
              refine SWP_region ?_
              refine pu rfl rfl ?_
              refine lw (v := .int .i64 _) B1 8 rfl rfl rfl rfl ?_
              refine SL_pcall rfl rfl cb61 (withinI _ _ _) rfl ?_
              refine psp 78 rfl (fun c78 => ?_) (fun c78 => ?_)
              · skip
                refine pB rfl rfl ?_
                refine pB rfl rfl ?_
                refine SL_nil ?_
                refine nx ?_
                refine SWP_cf rfl ?_
                refine SWP_seq ?_
                refine SWP_region ?_
                refine pu rfl rfl ?_
                refine lw (v := .int .i64 _) B1 9 rfl rfl rfl rfl ?_
                refine pu rfl rfl ?_
                refine lw (v := .int .i64 _) B1 3 rfl rfl rfl rfl ?_
                refine pI rfl rfl ?_
                refine SL_pcall rfl rfl cb61 (withinI _ _ _) rfl ?_
                refine psp 86 rfl (fun c86 => ?_) (fun c86 => ?_)
                · skip
                  refine pB rfl rfl ?_
                  refine pB rfl rfl ?_
                  refine SL_nil ?_
                  refine nx ?_
                  refine SWP_cf rfl ?_
                  refine SWP_skip ?_
                  refine nb ?_
                  refine nx ?_
                  refine SWP_seq ?_
                  refine SWP_region ?_
                  refine pS rfl rfl ?_
                  refine SL_nil ?_
                  refine nx ?_
                  refine SWP_ret ?_
                  refine fin [_] ⟨rfl, trivial⟩ ?_
                  refine ⟨rfl, ?_⟩
                  refine ⟨_, rfl, ?_⟩
                  first
                    | exact fullS (by decide +kernel) (fun h => by have := h.h1; have := h.h2; have := h.h3; have := h.h4; have := h.h5; have := h.h6; have := h.h7; have := h.h8; have := h.h9; have := h.h10; have := h.h11; have := h.h12; have := h.h13; have := h.h14; have := h.h15; have := h.h16; omega)
                    | exact emptyS rfl ⟨by omega, by omega, by omega, by omega, by omega, by omega, by omega, by omega, by omega, by omega, by omega, by omega, by omega, by omega, by omega, by omega⟩
                refine pB rfl rfl ?_
                refine pB rfl rfl ?_
                refine SL_nil ?_
                refine nx ?_
                refine SWP_ct rfl ?_
                refine SWP_seq ?_
                refine SWP_region ?_
                refine pS rfl rfl ?_
                refine SL_nil ?_
                refine nx ?_
                refine SWP_ret ?_
                refine br ?_
                refine nr ?_
                refine fin [_] ⟨rfl, trivial⟩ ?_
                refine ⟨rfl, ?_⟩
                refine ⟨_, rfl, ?_⟩
                first
                  | exact fullS (by decide +kernel) (fun h => by have := h.h1; have := h.h2; have := h.h3; have := h.h4; have := h.h5; have := h.h6; have := h.h7; have := h.h8; have := h.h9; have := h.h10; have := h.h11; have := h.h12; have := h.h13; have := h.h14; have := h.h15; have := h.h16; omega)
                  | exact emptyS rfl ⟨by omega, by omega, by omega, by omega, by omega, by omega, by omega, by omega, by omega, by omega, by omega, by omega, by omega, by omega, by omega, by omega⟩
              refine pB rfl rfl ?_
              refine pB rfl rfl ?_
              refine SL_nil ?_
              refine nx ?_
              refine SWP_ct rfl ?_
              refine SWP_seq ?_
              refine SWP_region ?_
              refine pS rfl rfl ?_
              refine SL_nil ?_
              refine nx ?_
              refine SWP_ret ?_
              refine br ?_
              refine nr ?_
              refine fin [_] ⟨rfl, trivial⟩ ?_
              refine ⟨rfl, ?_⟩
              refine ⟨_, rfl, ?_⟩
              first
                | exact fullS (by decide +kernel) (fun h => by have := h.h1; have := h.h2; have := h.h3; have := h.h4; have := h.h5; have := h.h6; have := h.h7; have := h.h8; have := h.h9; have := h.h10; have := h.h11; have := h.h12; have := h.h13; have := h.h14; have := h.h15; have := h.h16; omega)
                | exact emptyS rfl ⟨by omega, by omega, by omega, by omega, by omega, by omega, by omega, by omega, by omega, by omega, by omega, by omega, by omega, by omega, by omega, by omega⟩
            refine pB rfl rfl ?_
            refine pB rfl rfl ?_
            refine SL_nil ?_
            refine nx ?_
            refine SWP_ct rfl ?_
            refine SWP_skip ?_
            refine nx ?_
            refine SWP_ct rfl ?_
            refine SWP_seq ?_
            refine SWP_region ?_
            refine pS rfl rfl ?_
            refine SL_nil ?_
            refine nx ?_
            refine SWP_ret ?_
            refine br ?_
            refine nr ?_
            refine fin [_] ⟨rfl, trivial⟩ ?_
            refine ⟨rfl, ?_⟩
            refine ⟨_, rfl, ?_⟩
            first
              | exact fullS (by decide +kernel) (fun h => by have := h.h1; have := h.h2; have := h.h3; have := h.h4; have := h.h5; have := h.h6; have := h.h7; have := h.h8; have := h.h9; have := h.h10; have := h.h11; have := h.h12; have := h.h13; have := h.h14; have := h.h15; have := h.h16; omega)
              | exact emptyS rfl ⟨by omega, by omega, by omega, by omega, by omega, by omega, by omega, by omega, by omega, by omega, by omega, by omega, by omega, by omega, by omega, by omega⟩
          refine pB rfl rfl ?_
          refine pB rfl rfl ?_
          refine SL_nil ?_
          refine nx ?_
          refine SWP_ct rfl ?_
          refine SWP_seq ?_
          refine SWP_region ?_
          refine pS rfl rfl ?_
          refine SL_nil ?_
          refine nx ?_
          refine SWP_ret ?_
          refine br ?_
          refine nr ?_
          refine fin [_] ⟨rfl, trivial⟩ ?_
          refine ⟨rfl, ?_⟩
          refine ⟨_, rfl, ?_⟩
          first
            | exact fullS (by decide +kernel) (fun h => by have := h.h1; have := h.h2; have := h.h3; have := h.h4; have := h.h5; have := h.h6; have := h.h7; have := h.h8; have := h.h9; have := h.h10; have := h.h11; have := h.h12; have := h.h13; have := h.h14; have := h.h15; have := h.h16; omega)
            | exact emptyS rfl ⟨by omega, by omega, by omega, by omega, by omega, by omega, by omega, by omega, by omega, by omega, by omega, by omega, by omega, by omega, by omega, by omega⟩
        refine pB rfl rfl ?_
        refine pB rfl rfl ?_
        refine SL_nil ?_
        refine nx ?_
        refine SWP_ct rfl ?_
        refine SWP_seq ?_
        refine SWP_region ?_
        refine pS rfl rfl ?_
        refine SL_nil ?_
        refine nx ?_
        refine SWP_ret ?_
        refine br ?_
        refine nr ?_
        refine fin [_] ⟨rfl, trivial⟩ ?_
        refine ⟨rfl, ?_⟩
        refine ⟨_, rfl, ?_⟩
        first
          | exact fullS (by decide +kernel) (fun h => by have := h.h1; have := h.h2; have := h.h3; have := h.h4; have := h.h5; have := h.h6; have := h.h7; have := h.h8; have := h.h9; have := h.h10; have := h.h11; have := h.h12; have := h.h13; have := h.h14; have := h.h15; have := h.h16; omega)
          | exact emptyS rfl ⟨by omega, by omega, by omega, by omega, by omega, by omega, by omega, by omega, by omega, by omega, by omega, by omega, by omega, by omega, by omega, by omega⟩
      refine pB rfl rfl ?_
      refine pB rfl rfl ?_
      refine SL_nil ?_
      refine nx ?_
      refine SWP_ct rfl ?_
      refine SWP_seq ?_
      refine SWP_region ?_
      refine pS rfl rfl ?_
      refine SL_nil ?_
      refine nx ?_
      refine SWP_ret ?_
      refine br ?_
      refine nr ?_
      refine fin [_] ⟨rfl, trivial⟩ ?_
      refine ⟨rfl, ?_⟩
      refine ⟨_, rfl, ?_⟩
      first
        | exact fullS (by decide +kernel) (fun h => by have := h.h1; have := h.h2; have := h.h3; have := h.h4; have := h.h5; have := h.h6; have := h.h7; have := h.h8; have := h.h9; have := h.h10; have := h.h11; have := h.h12; have := h.h13; have := h.h14; have := h.h15; have := h.h16; omega)
        | exact emptyS rfl ⟨by omega, by omega, by omega, by omega, by omega, by omega, by omega, by omega, by omega, by omega, by omega, by omega, by omega, by omega, by omega, by omega⟩
    refine pB rfl rfl ?_
    refine pB rfl rfl ?_
    refine SL_nil ?_
    refine nx ?_
    refine SWP_ct rfl ?_
    refine SWP_seq ?_
    refine SWP_region ?_
    refine pS rfl rfl ?_
    refine SL_nil ?_
    refine nx ?_
    refine SWP_ret ?_
    refine br ?_
    refine nr ?_
    refine fin [_] ⟨rfl, trivial⟩ ?_
    refine ⟨rfl, ?_⟩
    refine ⟨_, rfl, ?_⟩
    first
      | exact fullS (by decide +kernel) (fun h => by have := h.h1; have := h.h2; have := h.h3; have := h.h4; have := h.h5; have := h.h6; have := h.h7; have := h.h8; have := h.h9; have := h.h10; have := h.h11; have := h.h12; have := h.h13; have := h.h14; have := h.h15; have := h.h16; omega)
      | exact emptyS rfl ⟨by omega, by omega, by omega, by omega, by omega, by omega, by omega, by omega, by omega, by omega, by omega, by omega, by omega, by omega, by omega, by omega⟩
  refine pB rfl rfl ?_
  refine pB rfl rfl ?_
  refine SL_nil ?_
  refine nx ?_
  refine SWP_ct rfl ?_
  refine SWP_seq ?_
  refine SWP_region ?_
  refine pS rfl rfl ?_
  refine SL_nil ?_
  refine nx ?_
  refine SWP_ret ?_
  refine br ?_
  refine nr ?_
  refine fin [_] ⟨rfl, trivial⟩ ?_
  refine ⟨rfl, ?_⟩
  refine ⟨_, rfl, ?_⟩
  first
    | exact fullS (by decide +kernel) (fun h => by have := h.h1; have := h.h2; have := h.h3; have := h.h4; have := h.h5; have := h.h6; have := h.h7; have := h.h8; have := h.h9; have := h.h10; have := h.h11; have := h.h12; have := h.h13; have := h.h14; have := h.h15; have := h.h16; omega)
    | exact emptyS rfl ⟨by omega, by omega, by omega, by omega, by omega, by omega, by omega, by omega, by omega, by omega, by omega, by omega, by omega, by omega, by omega, by omega⟩

end Go.Proofs.Ytkopdlglenejmaa

