/- What the claim rests on, part 4: models of the functions in plain Lean and walks through their code; printed by programs. -/
import Derived.Test.YtifjhpaoejageaaGreatDoorProg
import Derived.KernelRfl
import Derived.Below
import Derived.Laws.IdiomStrings
import Derived.Test.YtifjhpaoejageaaGreatDoorKSlipPrints3
set_option linter.unusedVariables false
set_option linter.unusedSimpArgs false
namespace Go.Proofs.YtifjhpaoejageaaGreatDoor
open Eng
theorem natL_at0 {N x : Int} (h0 : 0 ≤ N) (h : (natL N)[0]? = some x) : valL ((natL N).take 1) = x ∧ 0 ≤ x ∧ x < 4294967296 := by
  unfold natL at h ⊢
  split at h
  · simp at h
  · rename_i h1
    rw [if_neg h1]
    split at h
    · rename_i h2
      rw [if_pos h2]
      simp only [List.getElem?_cons_zero, Option.some.injEq] at h
      subst h
      exact ⟨by show N + 4294967296 * 0 = N; omega, by omega, by omega⟩
    · rename_i h2
      rw [if_neg h2]
      simp only [List.getElem?_cons_zero, Option.some.injEq] at h
      subst h
      exact ⟨by show N % 4294967296 + 4294967296 * 0 = _; omega, by omega, by omega⟩
theorem natL_at1 {N x : Int} (h0 : 0 ≤ N) (hN : N < 18446744073709551616) (h : (natL N)[1]? = some x) : valL ((natL N).take 1) = N % 4294967296 ∧ valL ((natL N).take 2) = N % 4294967296 + 4294967296 * x ∧ 0 ≤ x ∧ x < 4294967296 := by
  unfold natL at h ⊢
  split at h
  · simp at h
  · rename_i h1
    rw [if_neg h1]
    split at h
    · simp at h
    · rename_i h2
      rw [if_neg h2]
      simp only [List.getElem?_cons_succ, List.getElem?_cons_zero, Option.some.injEq] at h
      subst h
      exact ⟨by show N % 4294967296 + 4294967296 * 0 = _; omega, by show N % 4294967296 + 4294967296 * (N / 4294967296 + 4294967296 * 0) = _; omega, by omega, by omega⟩
def mulS (B : Int) : List Int → Int → List Int
  | [], c => [c]
  | a :: l, c => (a * B + c) % 4294967296 :: mulS B l ((a * B + c) / 4294967296)
theorem mul_rng {a B : Int} (h1 : 0 ≤ a ∧ a < 4294967296) (h2 : 0 ≤ B ∧ B < 4294967296) : 0 ≤ a * B ∧ a * B ≤ 18446744065119617025 := by
  refine ⟨Int.mul_nonneg h1.1 h2.1, ?_⟩
  calc a * B ≤ 4294967295 * B := Int.mul_le_mul_of_nonneg_right (by omega) h2.1
    _ ≤ 4294967295 * 4294967295 := Int.mul_le_mul_of_nonneg_left (by omega) (by decide)
    _ = 18446744065119617025 := by decide
theorem mulS_ok {B : Int} (hB : 0 ≤ B ∧ B < 4294967296) : ∀ {l : List Int} {c : Int}, okL l → 0 ≤ c ∧ c < 4294967296 → okL (mulS B l c) ∧ valL (mulS B l c) = valL l * B + c ∧ (mulS B l c).length = l.length + 1
  | [], c, _, hc => ⟨okL_cons.2 ⟨hc, (fun _ h => by cases h)⟩, (by show c + 4294967296 * 0 = 0 * B + c; omega), rfl⟩
  | a :: l, c, h, hc => by
    have ha := (okL_cons.1 h).1
    obtain ⟨p0, p1⟩ := mul_rng ha hB
    obtain ⟨h1, h2, h3⟩ := mulS_ok hB (okL_cons.1 h).2 (c := (a * B + c) / 4294967296) (by omega)
    refine ⟨okL_cons.2 ⟨by omega, h1⟩, ?_, by show (mulS B l _).length + 1 = _; rw [h3]; rfl⟩
    show (a * B + c) % 4294967296 + 4294967296 * valL (mulS B l ((a * B + c) / 4294967296)) = (a + 4294967296 * valL l) * B + c
    rw [h2, Int.add_mul, Int.mul_assoc]
    omega
theorem mulS_at {B c : Int} {l : List Int} {i : Nat} {x : Int} (h : l[i]? = some x) : mulS B (l.drop i) c = (x * B + c) % 4294967296 :: mulS B (l.drop (i + 1)) ((x * B + c) / 4294967296) := by
  obtain ⟨h1, h2⟩ := List.getElem?_eq_some_iff.1 h
  rw [List.drop_eq_getElem_cons h1, h2]; rfl
theorem set_at {D Z : List Int} {c v : Int} {i : Nat} (h : D.length = i) : (D ++ c :: Z).set i v = D ++ v :: Z := by
  rw [List.set_append, if_neg (by omega), show i - D.length = 0 by omega]; rfl
theorem set_at1 {D Z : List Int} {c d v : Int} {i : Nat} (h : D.length = i) : (D ++ c :: d :: Z).set (i + 1) v = D ++ c :: v :: Z := by
  rw [List.set_append, if_neg (by omega), show i + 1 - D.length = 1 by omega]; rfl
theorem get_at {D Z : List Int} {c : Int} {i : Nat} (h : D.length = i) : (D ++ c :: Z)[i]? = some c := by
  rw [List.getElem?_append_right (by omega), show i - D.length = 0 by omega]; rfl
theorem get_at1 {D Z : List Int} {c d : Int} {i : Nat} (h : D.length = i) : (D ++ c :: d :: Z)[i + 1]? = some d := by
  rw [List.getElem?_append_right (by omega), show i + 1 - D.length = 1 by omega]; rfl
theorem repV_flat (n : Nat) : (List.replicate n (0 : Int)).flatMap u32E = List.replicate n (.int .u32 0) := by
  induction n with
  | zero => rfl
  | succ n ih => rw [List.replicate_succ, List.flatMap_cons, ih]; rfl
theorem natL_one {D : Int} (h : 1 ≤ D) (h' : D < 4294967296) : natL D = [D] := by
  unfold natL; rw [if_neg (by omega), if_pos h']
set_option maxRecDepth 100000 in
theorem uintI {m : Mem} {a : Option Addr} {c : Nat} {N : Int} (h0 : 0 ≤ N) (h1 : N < 18446744073709551616) (h : RL m u32E 1 (.slice a (natL N).length c) (natL N)) : PureCall Tryz.prog 106 [.agg #[.slice a (natL N).length c]] m (.tuple #[.int .u64 N, .bool true]) := by
  refine CallsS.pure ?_
  have hln := natL_len N
  refine enter Tryz.func106 Tryz.ntmps106 rfl rfl ?_
  refine SWP_seq (SWP_region ?_)
  refine bx (v := .agg _) rfl rfl (fun B1 => ?_)
  refine pI rfl rfl ?_
  refine pB rfl rfl ?_
  refine SL_nil (nx (SWP_seq (SWP_seq (SWP_region ?_))))
  refine lw (v := .agg _) B1 0 rfl rfl rfl rfl ?_
  refine SL_pcall rfl rfl cb133 (validI h (by omega) (tidy_natL h0)) rfl ?_
  refine pB rfl rfl ?_
  refine pB rfl rfl ?_
  refine SL_yes rfl ?_
  refine pu rfl rfl ?_
  refine SL_yes rfl ?_
  refine lw (v := .slice _ _ _) B1 0 rfl rfl rfl rfl ?_
  refine SL_yes rfl ?_
  refine pu rfl rfl ?_
  refine SL_yes rfl ?_
  refine pn rfl rfl (by omega) ?_
  refine pB rfl rfl ?_
  refine SL_nil (nx (SWP_cf rfl (SWP_skip (nx (SWP_seq (SWP_region ?_))))))
  refine pI rfl rfl ?_
  refine SL_nil (nx (SWP_seq (SWP_seq (SWP_region ?_))))
  refine pu rfl rfl ?_
  refine lw (v := .slice _ _ _) B1 0 rfl rfl rfl rfl ?_
  refine pu rfl rfl ?_
  refine pI rfl rfl ?_
  refine SL_nil (nx (SWP_block ?_))
  refine SWP_loop [4, 5, 6, 19, 20, 21, 22, 23, 24, 25, 26, 27, 28, 29, 30, 31] [4, 19]
      (fun vs σ' m' => ∃ (i : Nat), vs = [.int .u64 (valL ((natL N).take i)), .int .i64 (i : Nat)] ∧ i ≤ (natL N).length ∧ σ' = [(B1, Cells 112 [.slice a (natL N).length c])] ∧ m = m')
      (fun vs => (natL N).length - nOf (vs.getD 1 undef)) rfl ?_ ?_
  · exact ⟨0, rfl, by omega, rfl, rfl⟩
  intro u0 vs0 σ0 m0 hJ0 _
  obtain ⟨i, rfl, hi, rfl, rfl⟩ := hJ0
  refine SWP_seq (SWP_region ?_)
  refine pc rfl rfl (fun c20 => ?_) (fun c20 => ?_)
  · skip
    refine SL_nil (nx (SWP_seq (SWP_ct rfl (SWP_skip (nx (SWP_seq (SWP_block (SWP_seq (SWP_region ?_)))))))))
    first | refine pI rfl rfl ?_ | refine pu rfl rfl ?_
    obtain ⟨x, hx⟩ : ∃ z, (natL N)[i]? = some z := ⟨_, List.getElem?_eq_getElem (by omega)⟩
    obtain ⟨adx, ex, _, hatx⟩ := h.atV hx
    cases ex
    refine ia (es := 1) rfl rfl rfl (Nat.mul_one _) rfl rfl (by omega) rfl ?_
    refine ldA (v := .int .u32 _) rfl hatx rfl rfl ?_
    have hxr := okL_at (okL_natL h0 h1) hx
    first | refine pI rfl rfl ?_ | refine pu rfl rfl ?_
    first | refine pI rfl rfl ?_ | refine pu rfl rfl ?_
    refine SL_nil (nx (SWP_region ?_))
    first | refine pI rfl rfl ?_ | refine pu rfl rfl ?_
    first | refine pI rfl rfl ?_ | refine pu rfl rfl ?_
    refine pw rfl rfl (by rw [wrapU]; omega) ?_
    first | refine pI rfl rfl ?_ | refine pu rfl rfl ?_
    refine pw rfl rfl (w64 (by omega) (by omega)) ?_
    have hi2 : i = 0 ∨ i = 1 := by omega
    have hstep : ∃ y : Int, IntKind.u64.wrap (x * 2 ^ (min (32 * (i : Int)).toNat IntKind.u64.bits)) = y ∧ bits .or .u64 (valL ((natL N).take i)) y = valL ((natL N).take (i + 1)) := by
      rcases hi2 with rfl | rfl
      · obtain ⟨q1, q2, q3⟩ := natL_at0 h0 hx
        refine ⟨x, by show IntKind.u64.wrap (x * 1) = x; rw [wrapU]; omega, ?_⟩
        rw [q1]
        show bits .or .u64 0 x = x
        have := or_hi (y := x) (x := 0) (by omega) (by omega) (by omega) (by decide) (by decide)
        rw [this]; omega
      · obtain ⟨q0, q1, q2, q3⟩ := natL_at1 h0 h1 hx
        refine ⟨x * 4294967296, by show IntKind.u64.wrap (x * 4294967296) = _; rw [wrapU]; omega, ?_⟩
        rw [q0, q1, or_lo (by omega) (by omega) (by omega) (by omega) (by omega)]; omega
    obtain ⟨y, hy1, hy2⟩ := hstep
    refine pshl rfl rfl (by omega) hy1 rfl ?_
    refine pu (v := .int .u64 (bits .or .u64 (valL ((natL N).take i)) y)) rfl rfl ?_
    rw [hy2]
    first | refine pI rfl rfl ?_ | refine pu rfl rfl ?_
    refine SL_nil (nb (nx (SWP_region ?_)))
    first | refine pw rfl rfl (w64 (by omega) (by omega)) ?_ | refine pu rfl rfl ?_
    refine pI rfl rfl ?_
    refine SL_nil (nx ?_)
    refine ⟨by repeat (first | exact Under.upds rfl (Under.hav _ _ _) | exact Under.hav _ _ _ | refine Under.upd rfl ?_), ?_, ?_⟩
    · exact ⟨i + 1, rfl, by omega, rfl, rfl⟩
    · simp only [L_vals, List.map, List.getD]; show (natL N).length - (i + 1) < (natL N).length - i; omega
  refine SL_nil (nx (SWP_seq (SWP_cf rfl (SWP_exit (ne (ne (be rfl (nx (SWP_seq (SWP_region ?_))))))))))
  first | refine pI rfl rfl ?_ | refine pu rfl rfl ?_
  first | refine pI rfl rfl ?_ | refine pu rfl rfl ?_
  refine pB rfl rfl ?_
  refine SL_nil (nx (SWP_ret ?_))
  refine fin [_, _] ⟨rfl, rfl, trivial⟩ ?_
  have e : valL ((natL N).take i) = N := by rw [List.take_of_length_le (by omega), valL_natL]
  rw [e]
  rfl
set_option maxRecDepth 100000 in
theorem mulI {m : Mem} {a b : Option Addr} {c d : Nat} {l : List Int} {B N : Int} (h : RL m u32E 1 (.slice a l.length c) l) (h' : RL m u32E 1 (.slice b ([B] : List Int).length d) [B]) (hok : okL l) (hll : l.length ≤ 2) (ht : tidyL l) (hB : 1 ≤ B ∧ B < 4294967296) (hN : valL l * B = N) (hN2 : N < 18446744073709551616) :
    CallsS Tryz.prog 104 [.agg #[.slice a l.length c], .agg #[.slice b ([B] : List Int).length d]].toArray [] m fun r σ' m' => σ' = [] ∧ ∃ a' c', r = .tuple #[.agg #[.slice a' (natL N).length c'], .int .i64 0] ∧ RL m' u32E 1 (.slice a' (natL N).length c') (natL N) := by
  refine CallsS.ghost (R' := fun r σ' m' => ∃ a' c', r = .tuple #[.agg #[.slice a' (natL N).length c'], .int .i64 0] ∧ RL m' u32E 1 (.slice a' (natL N).length c') (natL N)) ?_ ?h2
  case h2 =>
    rintro r σ' m' hr g0 W hC
    exact ⟨_, m', hC.sublist (List.nil_sublist _), Le.refl _, rfl, hr⟩
  have hokB : okL [B] := okL_cons.2 ⟨by omega, fun _ h => by cases h⟩
  have e1 : ([B] : List Int).length = 1 := rfl
  obtain ⟨adB, eB, _, hatB⟩ := h'.atV (show ([B] : List Int)[0]? = some B from rfl)
  cases eB
  refine enter Tryz.func104 Tryz.ntmps104 rfl rfl ?_
  refine SWP_seq (SWP_region ?_)
  refine bx (v := .agg _) rfl rfl (fun B2 => ?_)
  refine bx (v := .agg _) rfl rfl (fun B3 => ?_)
  refine al rfl rfl (fun B4 => ?_)
  refine pI rfl rfl ?_
  refine SL_nil (nx (SWP_seq (SWP_seq (SWP_region ?_))))
  refine lw (v := .agg _) B2 0 rfl rfl rfl rfl ?_
  refine SL_pcall rfl rfl cb133 (validI h (by omega) ht) rfl ?_
  refine pB rfl rfl ?_
  refine pB rfl rfl ?_
  refine SL_yes rfl ?_
  refine lw (v := .agg _) B3 0 rfl rfl rfl rfl ?_
  refine SL_yes rfl ?_
  refine SL_pcall rfl rfl cb133 (validI h' (show 1 ≤ 64 by decide) (.inr (show B ≠ 0 by omega))) rfl ?_
  refine SL_yes rfl ?_
  refine pB rfl rfl ?_
  refine pB rfl rfl ?_
  refine SL_nil (nx (SWP_cf rfl (SWP_skip (nx (SWP_seq (SWP_region ?_))))))
  refine pu rfl rfl ?_
  refine lw (v := .slice _ _ _) B2 0 rfl rfl rfl rfl ?_
  refine pu rfl rfl ?_
  refine pu rfl rfl ?_
  refine lw (v := .slice _ _ _) B3 0 rfl rfl rfl rfl ?_
  refine pu rfl rfl ?_
  refine pw rfl rfl (w64 (by rw [e1]; omega) (by rw [e1]; omega)) ?_
  refine mkn (c := l.length + 1) (z := .int .u32 0) rfl rfl rfl rfl (by show Value.int .i64 ((l.length : Int) + ((([B] : List Int).length : Nat) : Int)) = _; rw [e1]; rfl) (by show Value.int .i64 ((l.length : Int) + ((([B] : List Int).length : Nat) : Int)) = _; rw [e1]; rfl) (by show 4 * (l.length + 1) ≤ 281474976710656; omega) (by unfold maxLen; omega) rfl (fun B29 σ29 hown29 => ?_)
  rw [← repV_flat] at hown29
  first | refine pL rfl rfl ?_ | refine pu rfl rfl ?_
  refine SL_nil (nx (SWP_seq (SWP_seq (SWP_region ?_))))
  refine pu rfl rfl ?_
  refine lw (v := .slice _ _ _) B2 0 rfl rfl rfl rfl ?_
  refine pu rfl rfl ?_
  refine pI rfl rfl ?_
  refine SL_nil (nx (SWP_block ?_))
  refine SWP_loop [7, 8, 9, 10, 11, 12, 33, 34, 35, 36, 37, 38, 39, 40, 41, 42, 43, 44, 45, 46, 47, 48, 49, 50, 51, 52, 53, 54, 55, 56, 57, 58, 59, 60, 61, 62, 63, 64, 65, 66, 67, 68, 69, 70, 71, 72, 73, 74, 75, 76, 77, 78, 79, 80, 81, 82, 83, 84, 85, 86, 87, 88, 89] [33]
      (fun vs σ' m' => ∃ (i : Nat) (D0 : List Int) (cc : Int) (σp : Sig), vs = [.int .i64 (i : Nat)] ∧ i ≤ l.length ∧ D0.length = i ∧ D0 ++ mulS B (l.drop i) cc = mulS B l 0 ∧ (0 ≤ cc ∧ cc < 4294967296) ∧ OwnS 156 1 (.slice (some ⟨B29, 0, none⟩) (l.length + 1) (l.length + 1)) ((D0 ++ cc :: List.replicate (l.length - i) 0).flatMap u32E) σp ∧ σ' = σp ++ [(B4, Cells 112 [.slice none 0 0]), (B3, Cells 112 [.slice (some adB) ([B] : List Int).length d]), (B2, Cells 112 [.slice a l.length c])] ∧ m = m')
      (fun vs => l.length - nOf (vs.getD 0 undef)) rfl ?_ ?_
  · exact ⟨0, [], 0, σ29, rfl, by omega, rfl, rfl, by decide, hown29, rfl, rfl⟩
  intro u0 vs0 σ0 m0 hJ0 _
  obtain ⟨i, D0, cc, σp, rfl, hi, hD0, hD, hcc, hown, rfl, rfl⟩ := hJ0
  refine SWP_seq (SWP_region ?_)
  refine pc rfl rfl (fun c34 => ?_) (fun c34 => ?_)
  · skip
    refine SL_nil (nx (SWP_seq (SWP_ct rfl (SWP_skip (nx (SWP_seq (SWP_block (SWP_seq ?_))))))))
    rw [show l.length - i = (l.length - (i + 1)) + 1 by omega, List.replicate_succ] at hown
    refine SWP_region ?_
    first | refine pI rfl rfl ?_ | refine pu rfl rfl ?_
    obtain ⟨x, hx⟩ : ∃ z, l[i]? = some z := ⟨_, List.getElem?_eq_getElem (by omega)⟩
    obtain ⟨adx, ex, _, hatx⟩ := h.atV hx
    have hxr := okL_at hok hx
    refine ia (es := 1) (ad := adx) rfl rfl rfl (Nat.mul_one _) (by show Value.slice a _ _ = _; rw [ex]) rfl (by omega) rfl ?_
    refine ldA (v := .int .u32 _) rfl hatx rfl rfl ?_
    first | refine pI rfl rfl ?_ | refine pu rfl rfl ?_
    first | refine pI rfl rfl ?_ | refine pu rfl rfl ?_
    refine SL_nil (nx (SWP_seq (SWP_region ?_)))
    first | refine pL rfl rfl ?_ | refine pu rfl rfl ?_
    first | refine pI rfl rfl ?_ | refine pu rfl rfl ?_
    first | refine pI rfl rfl ?_ | refine pu rfl rfl ?_
    refine pu rfl rfl ?_
    refine lw (v := .slice _ _ _) B3 0 rfl rfl rfl rfl ?_
    refine pu rfl rfl ?_
    refine pw rfl rfl (w64 (by rw [e1]; omega) (by rw [e1]; omega)) ?_
    refine pw rfl rfl (w64 (by rw [e1]; omega) (by rw [e1]; omega)) ?_
    first | refine pI rfl rfl ?_ | refine pu rfl rfl ?_
    refine pu rfl rfl ?_
    refine lw (v := .slice _ _ _) B3 0 rfl rfl rfl rfl ?_
    refine pu rfl rfl ?_
    refine pw rfl rfl (w64 (by rw [e1]; omega) (by rw [e1]; omega)) ?_
    refine pw rfl rfl (w64 (by rw [e1]; omega) (by rw [e1]; omega)) ?_
    refine slhm (size := 1) (a := some ⟨B29, 0, none⟩) rfl rfl rfl rfl rfl rfl rfl (by omega) (by rw [e1]; omega) (by rw [e1]; omega) (by rw [e1]; omega) rfl ?_
    rw [show sliced (some ⟨B29, 0, none⟩) ((i : Nat) : Int).toNat ((i : Int) + ((([B] : List Int).length : Nat) : Int) + 1).toNat ((i : Int) + ((([B] : List Int).length : Nat) : Int) + 1).toNat 1 = .slice (some ((⟨B29, 0, none⟩ : Addr).add i)) 2 2 by rw [e1, Int.toNat_natCast, show ((i : Int) + ((1 : Nat) : Int) + 1).toNat = i + 2 by omega]; unfold sliced; rw [if_neg (by omega), Nat.mul_one, show i + 2 - i = 2 by omega]; rfl]
    first | refine pL rfl rfl ?_ | refine pu rfl rfl ?_
    refine SL_nil (nx (SWP_seq ?_))
    obtain ⟨p0, p1⟩ := mul_rng hxr (show 0 ≤ B ∧ B < 4294967296 by omega)
    refine SWP_region ?_
    refine pI rfl rfl ?_
    refine SL_nil (nx (SWP_seq (SWP_seq (SWP_region ?_))))
    refine pu rfl rfl ?_
    refine lw (v := .slice _ _ _) B3 0 rfl rfl rfl rfl ?_
    refine pu rfl rfl ?_
    refine pI rfl rfl ?_
    refine SL_nil (nx (SWP_block ?_))
    refine SWP_loop [10, 11, 12, 56, 57, 58, 59, 60, 61, 62, 63, 64, 65, 66, 67, 68, 69, 70, 71, 72, 73, 74, 75, 76, 77, 78, 79, 80, 81] [10, 56]
        (fun vs σ' m' => ∃ (j : Nat) (w : Int) (σq : Sig), vs = [.int .u64 w, .int .i64 (j : Nat)] ∧ j ≤ 1 ∧ ((j = 0 ∧ w = 0 ∧ OwnS 156 1 (.slice (some ⟨B29, 0, none⟩) (l.length + 1) (l.length + 1)) ((D0 ++ cc :: 0 :: List.replicate (l.length - (i + 1)) 0).flatMap u32E) σq) ∨ (j = 1 ∧ w = (x * B + cc) / 4294967296 ∧ OwnS 156 1 (.slice (some ⟨B29, 0, none⟩) (l.length + 1) (l.length + 1)) ((D0 ++ (x * B + cc) % 4294967296 :: 0 :: List.replicate (l.length - (i + 1)) 0).flatMap u32E) σq)) ∧ σ' = σq ++ [(B4, Cells 112 [.slice none 0 0]), (B3, Cells 112 [.slice (some adB) ([B] : List Int).length d]), (B2, Cells 112 [.slice a l.length c])] ∧ m = m')
        (fun vs => 1 - nOf (vs.getD 1 undef)) rfl ?_ ?_
    · exact ⟨0, 0, σp, rfl, by omega, .inl ⟨rfl, rfl, hown⟩, rfl, rfl⟩
    intro u1 vs1 σ1 m1 hJ1 _
    clear hown σp
    obtain ⟨j, w, σq, rfl, hj, hdj, rfl, rfl⟩ := hJ1
    refine SWP_seq (SWP_region ?_)
    refine pc rfl rfl (fun c57 => ?_) (fun c57 => ?_)
    · skip
      refine SL_nil (nx (SWP_seq (SWP_ct rfl (SWP_skip (nx (SWP_seq (SWP_block (SWP_seq ?_))))))))
      have hj0 : j = 0 := by rw [e1] at c57; omega
      subst hj0
      obtain ⟨rfl, hown⟩ : w = 0 ∧ OwnS 156 1 (.slice (some ⟨B29, 0, none⟩) (l.length + 1) (l.length + 1)) ((D0 ++ cc :: 0 :: List.replicate (l.length - (i + 1)) 0).flatMap u32E) σq := by
        rcases hdj with ⟨_, hw, ho⟩ | ⟨hj, _, _⟩
        · exact ⟨hw, ho⟩
        · omega
      obtain ⟨ad0, e0, _, _, hrd⟩ := hown.atN (by omega) u32E_len (get_at hD0)
      cases e0
      refine SWP_region ?_
      first | refine pI rfl rfl ?_ | refine pu rfl rfl ?_
      refine ia (es := 1) (ad := adB) (len := ([B] : List Int).length) rfl rfl rfl (Nat.mul_one _) rfl rfl (show 0 < 1 by decide) rfl ?_
      refine ldA (v := .int .u32 B) rfl hatB rfl rfl ?_
      first | refine pI rfl rfl ?_ | refine pu rfl rfl ?_
      first | refine pI rfl rfl ?_ | refine pu rfl rfl ?_
      refine SL_nil (nx (SWP_seq (SWP_region ?_)))
      first | refine pI rfl rfl ?_ | refine pu rfl rfl ?_
      first | refine pI rfl rfl ?_ | refine pu rfl rfl ?_
      refine pw rfl rfl (by rw [wrapU]; omega) ?_
      first | refine pI rfl rfl ?_ | refine pu rfl rfl ?_
      refine pw rfl rfl (by rw [wrapU]; omega) ?_
      refine pw rfl rfl (by rw [wrapU]; omega) ?_
      first | refine pL rfl rfl ?_ | refine pu rfl rfl ?_
      first | refine pI rfl rfl ?_ | refine pu rfl rfl ?_
      refine ia (es := 1) rfl rfl rfl (Nat.mul_one _) rfl rfl (by omega) rfl ?_
      refine ldO (off := 0) (hrd _ _ (fun q hq => by simp [hq])) rfl (by rw [Nat.mul_one]) rfl rfl ?_
      refine pw rfl rfl (by rw [wrapU]; omega) ?_
      refine pw rfl rfl (by rw [wrapU]; omega) ?_
      refine pw rfl rfl (by rw [wrapU]; omega) ?_
      rw [show (0 : Int) + (x * B + cc) = x * B + cc by omega]
      first | refine pI rfl rfl ?_ | refine pu rfl rfl ?_
      refine SL_nil (nx (SWP_seq (SWP_region ?_)))
      first | refine pL rfl rfl ?_ | refine pu rfl rfl ?_
      first | refine pI rfl rfl ?_ | refine pu rfl rfl ?_
      first | refine pI rfl rfl ?_ | refine pu rfl rfl ?_
      refine pu (v := .int .u32 (IntKind.u32.wrap (x * B + cc))) rfl rfl ?_
      rw [wrapV]
      refine ia (es := 1) rfl rfl rfl (Nat.mul_one _) rfl rfl (by omega) rfl ?_
      refine stL (σe := σq) (τ := [(B4, Cells 112 [.slice none 0 0]), (B3, Cells 112 [.slice (some adB) ([B] : List Int).length d]), (B2, Cells 112 [.slice a l.length c])]) (k := i) (b := cc) (b' := (x * B + cc) % 4294967296) (off := 0) u32E_len rfl hown (.refl _) (get_at hD0) rfl (by rw [Nat.mul_one]) rfl rfl (by show 0 + 1 ≤ 1; omega) rfl rfl (fun σp2 hown2 => ?_)
      rw [set_at hD0] at hown2
      refine SL_nil (nx (SWP_region ?_))
      first | refine pI rfl rfl ?_ | refine pu rfl rfl ?_
      refine pshr rfl rfl (by decide) (fdiv32 (by omega)) rfl ?_
      first | refine pI rfl rfl ?_ | refine pu rfl rfl ?_
      refine SL_nil (nb (nx (SWP_region ?_)))
      first | refine pw rfl rfl (w64 (by omega) (by omega)) ?_ | refine pu rfl rfl ?_
      refine pI rfl rfl ?_
      refine SL_nil (nx ?_)
      refine ⟨by repeat (first | exact Under.upds rfl (Under.hav _ _ _) | exact Under.hav _ _ _ | refine Under.upd rfl ?_ | refine Under.upds rfl ?_ | refine Under.hav2 rfl ?_), ?_, ?_⟩
      · exact ⟨1, _, σp2, rfl, by omega, .inr ⟨rfl, rfl, hown2⟩, rfl, rfl⟩
      · simp only [L_vals, List.map, List.getD]; show 1 - (0 + 1) < 1 - 0; omega
    refine SL_nil (nx (SWP_seq (SWP_cf rfl (SWP_exit (ne (ne (be rfl (nx ?_))))))))
    skip
    obtain ⟨rfl, hq2⟩ : w = (x * B + cc) / 4294967296 ∧ OwnS 156 1 (.slice (some ⟨B29, 0, none⟩) (l.length + 1) (l.length + 1)) ((D0 ++ (x * B + cc) % 4294967296 :: 0 :: List.replicate (l.length - (i + 1)) 0).flatMap u32E) σq := by
      rcases hdj with ⟨hj, _, _⟩ | ⟨_, hw, ho⟩
      · rw [e1] at c57; omega
      · exact ⟨hw, ho⟩
    refine SWP_region ?_
    first | refine pL rfl rfl ?_ | refine pu rfl rfl ?_
    refine pu rfl rfl ?_
    refine lw (v := .slice _ _ _) B3 0 rfl rfl rfl rfl ?_
    refine pu rfl rfl ?_
    first | refine pI rfl rfl ?_ | refine pu rfl rfl ?_
    refine pw rfl rfl (by rw [wrapV]; omega) ?_
    refine ia (es := 1) (k := ([B] : List Int).length) rfl rfl rfl (Nat.mul_one _) rfl rfl (by rw [e1]; omega) rfl ?_
    refine stL (σe := σq) (τ := [(B4, Cells 112 [.slice none 0 0]), (B3, Cells 112 [.slice (some adB) ([B] : List Int).length d]), (B2, Cells 112 [.slice a l.length c])]) (k := i + 1) (b := 0) (b' := (x * B + cc) / 4294967296) (off := 0) u32E_len rfl hq2 (.refl _) (get_at1 hD0) rfl (by rw [e1, add_add, add_zero', Nat.mul_one]) rfl rfl (by show 0 + 1 ≤ 1; omega) rfl rfl (fun σp3 hown3 => ?_)
    rw [set_at1 hD0] at hown3
    refine SL_nil (nb (nx (SWP_region ?_)))
    first | refine pw rfl rfl (w64 (by omega) (by omega)) ?_ | refine pu rfl rfl ?_
    refine pI rfl rfl ?_
    refine SL_nil (nx ?_)
    refine ⟨by repeat (first | exact Under.upds rfl (Under.hav _ _ _) | exact Under.hav _ _ _ | refine Under.upd rfl ?_ | refine Under.upds rfl ?_ | refine Under.hav2 rfl ?_), ?_, ?_⟩
    · refine ⟨i + 1, D0 ++ [(x * B + cc) % 4294967296], (x * B + cc) / 4294967296, σp3, rfl, by omega, by rw [List.length_append, hD0]; rfl, ?_, by omega, ?_, rfl, rfl⟩
      · rw [← hD, mulS_at hx, List.append_assoc]; rfl
      · rw [List.append_assoc]; exact hown3
    · simp only [L_vals, List.map, List.getD]; show l.length - (i + 1) < l.length - i; omega
  refine SL_nil (nx (SWP_seq (SWP_cf rfl (SWP_exit (ne (ne (be rfl (nx (SWP_seq (SWP_region ?_))))))))))
  obtain rfl : i = l.length := by omega
  have hM : D0 ++ [cc] = mulS B l 0 := by rw [← hD, List.drop_length]; rfl
  rw [Nat.sub_self] at hown
  have hown9 : OwnS 156 1 (.slice (some ⟨B29, 0, none⟩) (l.length + 1) (l.length + 1)) ((mulS B l 0).flatMap u32E) σp := by rw [← hM]; exact hown
  obtain ⟨m1, m2, m3⟩ := mulS_ok (B := B) (by omega) hok (c := 0) (by decide)
  have hTP := trim_nat m1 (show valL (mulS B l 0) = N by rw [m2]; omega) hN2
  refine SL_freezeL (by omega) u32E_len hown9 (fun m9 hl9 hRP => ?_)
  rw [show l.length + 1 = (mulS B l 0).length from m3.symm] at hRP
  rw [show l.length + 1 = (mulS B l 0).length from m3.symm]
  obtain ⟨a9, c9, hwf⟩ := trimV_form hRP
  have hw := trim_RL hRP
  rw [hTP] at hwf hw
  rw [hwf] at hw
  refine pu rfl rfl ?_
  refine SL_pcall rfl rfl cb134 (boundI hRP (by rw [hTP]; have := natL_len N; omega)) rfl ?_
  rw [hwf]
  first | refine pA rfl rfl ?_ | refine pu rfl rfl ?_
  first | refine pI rfl rfl ?_ | refine pu rfl rfl ?_
  refine sw (v := .agg _) B4 0 rfl rfl rfl rfl rfl rfl rfl ?_
  first | refine pI rfl rfl ?_ | refine pu rfl rfl ?_
  refine SL_nil (nx (SWP_ret ?_))
  refine fin [_, _] ⟨⟨_, _, rfl, Rd.of_cells (MemO.mem (B := B4)), rfl⟩, rfl, trivial⟩ ?_
  exact ⟨a9, c9, rfl, hw⟩
end Go.Proofs.YtifjhpaoejageaaGreatDoor
namespace Go.Proofs.YtifjhpaoejageaaGreatDoor
open Eng
set_option maxRecDepth 100000 in
theorem divModI {m : Mem} {a b : Option Addr} {c d : Nat} {l : List Int} {D A : Int} (h : RL m u32E 1 (.slice a l.length c) l) (h' : RL m u32E 1 (.slice b ([D] : List Int).length d) [D]) (hok : okL l) (hll : l.length ≤ 2) (ht : tidyL l) (hD : 1 ≤ D ∧ D < 4294967296) (hA : valL l = A) (hA2 : A < 18446744073709551616) (hge : D ≤ A) :
    CallsS Tryz.prog 105 [.agg #[.slice a l.length c], .agg #[.slice b ([D] : List Int).length d]].toArray [] m fun r σ' m' => σ' = [] ∧ ∃ a' c' w, r = .tuple #[.agg #[.slice a' (natL (A / D)).length c'], .agg #[w], .int .i64 0] ∧ RL m' u32E 1 (.slice a' (natL (A / D)).length c') (natL (A / D)) := by
  refine CallsS.ghost (R' := fun r σ' m' => ∃ a' c' w, r = .tuple #[.agg #[.slice a' (natL (A / D)).length c'], .agg #[w], .int .i64 0] ∧ RL m' u32E 1 (.slice a' (natL (A / D)).length c') (natL (A / D))) ?_ ?h2
  case h2 =>
    rintro r σ' m' hr g0 W hC
    exact ⟨_, m', hC.sublist (List.nil_sublist _), Le.refl _, rfl, hr⟩
  have e1 : ([D] : List Int).length = 1 := rfl
  obtain ⟨adD, eD, _, hatD⟩ := h'.atV (show ([D] : List Int)[0]? = some D from rfl)
  cases eD
  obtain ⟨d1, d2, d3, d4⟩ := divS_ok hD.1 hD.2 hok
  have hquo : valL (divS D l).1 = A / D := by
    have h5 : valL (divS D l).1 * D + (divS D l).2 = A := d3.trans hA
    rw [← h5, Int.add_comm, Int.add_mul_ediv_right _ _ (by omega), Int.ediv_eq_zero_of_lt d2.1 d2.2]; omega
  have hquo2 : A / D < 18446744073709551616 := Int.ediv_lt_of_lt_mul (by omega) (by
    have h6 := Int.mul_le_mul_of_nonneg_left hD.1 (show (0 : Int) ≤ 18446744073709551616 by decide)
    omega)
  refine enter Tryz.func105 Tryz.ntmps105 rfl rfl ?_
  refine SWP_seq (SWP_region ?_)
  refine bx (v := .agg _) rfl rfl (fun B2 => ?_)
  refine bx (v := .agg _) rfl rfl (fun B3 => ?_)
  refine al rfl rfl (fun B4 => ?_)
  refine al rfl rfl (fun B5 => ?_)
  refine pI rfl rfl ?_
  refine SL_nil (nx (SWP_seq (SWP_seq (SWP_region ?_))))
  refine lw (v := .agg _) B2 0 rfl rfl rfl rfl ?_
  refine SL_pcall rfl rfl cb133 (validI h (by omega) ht) rfl ?_
  refine pB rfl rfl ?_
  refine pB rfl rfl ?_
  refine SL_yes rfl ?_
  refine lw (v := .agg _) B3 0 rfl rfl rfl rfl ?_
  refine SL_yes rfl ?_
  refine SL_pcall rfl rfl cb133 (validI h' (show 1 ≤ 64 by decide) (.inr (show D ≠ 0 by omega))) rfl ?_
  refine SL_yes rfl ?_
  refine pB rfl rfl ?_
  refine pB rfl rfl ?_
  refine SL_nil (nx (SWP_cf rfl (SWP_skip (nx (SWP_seq (SWP_seq (SWP_region ?_)))))))
  refine pu rfl rfl ?_
  refine lw (v := .slice _ _ _) B3 0 rfl rfl rfl rfl ?_
  refine pu rfl rfl ?_
  refine pn rfl rfl (by rw [e1]; decide) ?_
  refine SL_nil (nx (SWP_cf rfl (SWP_skip (nx (SWP_seq (SWP_seq (SWP_region ?_)))))))
  refine pu rfl rfl ?_
  refine lw (v := .slice _ _ _) B2 0 rfl rfl rfl rfl ?_
  refine pu rfl rfl ?_
  refine lw (v := .slice _ _ _) B3 0 rfl rfl rfl rfl ?_
  refine SL_call rfl rfl cb135 (CallsS.forget (cmpI h h' hok ht hD (by omega))) rfl (fun v5_4 σ5_4 m5_4 hl5_4 hR5_4 => ?_)
  obtain ⟨rfl, hm5_4, z, rfl, hz⟩ := hR5_4
  have hn5_4 := hm5_4.symm
  subst hn5_4
  refine pn rfl rfl (hz) ?_
  refine SL_nil (nx (SWP_cf rfl (SWP_skip (nx (SWP_seq (SWP_seq (SWP_region ?_)))))))
  refine pu rfl rfl ?_
  refine lw (v := .slice _ _ _) B3 0 rfl rfl rfl rfl ?_
  refine pu rfl rfl ?_
  refine pt rfl rfl (by rw [e1]; rfl) ?_
  refine SL_nil (nx (SWP_ct rfl (SWP_seq (SWP_region ?_))))
  refine pu rfl rfl ?_
  refine lw (v := .slice _ _ _) B2 0 rfl rfl rfl rfl ?_
  refine apR (e := 156) (size := 1) (bytes := 4) rfl rfl rfl rfl rfl rfl rfl .nil (.refl _) rfl h (all_u32E _) (by simp; omega) rfl rfl (fun v42 σ42 hown42 => ?_)
  rw [List.nil_append] at hown42
  obtain ⟨a42, c42, e42⟩ := hown42.lenL (by omega) u32E_len
  subst e42
  first | refine pL rfl rfl ?_ | refine pu rfl rfl ?_
  refine SL_nil (nx (SWP_seq (SWP_region ?_)))
  first | refine pL rfl rfl ?_ | refine pu rfl rfl ?_
  refine pu rfl rfl ?_
  refine lw (v := .slice _ _ _) B3 0 rfl rfl rfl rfl ?_
  refine ia (es := 1) (ad := adD) (len := ([D] : List Int).length) (k := 0) rfl rfl rfl rfl rfl rfl (show 0 < 1 by decide) rfl ?_
  refine ldA (v := .int .u32 D) rfl hatD rfl rfl ?_
  refine SL_call rfl rfl cb137 (CallsS.subF _ (divSI hok hD (by omega) hown42) (.refl _)) rfl (fun v9_5 σ9_5 m9_5 hl9_5 hR9_5 => ?_)
  obtain ⟨σz, rfl, rfl, hq, hm9_5⟩ := hR9_5
  have hn9_5 := hm9_5.symm
  subst hn9_5
  first | refine pI rfl rfl ?_ | refine pu rfl rfl ?_
  refine SL_nil (nx (SWP_seq (SWP_region ?_)))
  rw [← d4] at hq
  rw [show l.length = (divS D l).1.length from d4.symm]
  refine SL_freezeL (by omega) u32E_len hq (fun m9 hl9 hRP => ?_)
  have hTP := trim_nat d1 hquo hquo2
  obtain ⟨a9, c9, hwf⟩ := trimV_form hRP
  have hw := trim_RL hRP
  rw [hTP] at hwf hw
  rw [hwf] at hw
  refine pu rfl rfl ?_
  refine SL_pcall rfl rfl cb132 (trimI hRP) rfl ?_
  rw [hwf]
  first | refine pI rfl rfl ?_ | refine pu rfl rfl ?_
  refine pw rfl rfl (by rw [wrapU]; omega) ?_
  refine SL_call rfl rfl cb103 (CallsS.frame0 (ofI d2.1 (by omega))) rfl (fun v10_4 σ10_4 m10_4 hl10_4 hR10_4 => ?_)
  obtain ⟨σo, rfl, rfl, ao, co, rfl, ho⟩ := hR10_4
  refine sw (v := .agg _) B4 0 rfl rfl rfl rfl rfl rfl rfl ?_
  refine sw (v := .agg _) B5 0 rfl rfl rfl rfl rfl rfl rfl ?_
  refine pI rfl rfl ?_
  refine SL_nil (nx (SWP_ret (nr ?_)))
  refine fin [_, _, _] ⟨⟨_, _, rfl, Rd.of_cells (MemO.mem (B := B4)), rfl⟩, ⟨_, _, rfl, Rd.of_cells (MemO.mem (B := B5)), rfl⟩, rfl, trivial⟩ ?_
  exact ⟨a9, c9, _, rfl, hw.mono hl10_4⟩
def ch : Nat → Nat → Nat
  | _, 0 => 1
  | 0, _ + 1 => 0
  | n + 1, k + 1 => ch n k + ch n (k + 1)
theorem ch_zero (n : Nat) : ch n 0 = 1 := by cases n <;> rfl
theorem ch_mul : ∀ n k : Nat, (k + 1) * ch (n + 1) (k + 1) = (n + 1) * ch n k
  | 0, 0 => rfl
  | 0, k + 1 => by
    show (k + 2) * (ch 0 (k + 1) + ch 0 (k + 2)) = 1 * ch 0 (k + 1)
    show (k + 2) * (0 + 0) = 1 * 0
    omega
  | n + 1, 0 => by
    have h := ch_mul n 0
    have h' : 1 * ch (n + 1) 1 = (n + 1) * ch n 0 := h
    rw [ch_zero] at h'
    show 1 * (ch (n + 1) 0 + ch (n + 1) 1) = (n + 2) * ch (n + 1) 0
    rw [ch_zero]
    generalize ch (n + 1) 1 = z at *
    omega
  | n + 1, k + 1 => by
    have h1 := ch_mul n (k + 1)
    have h2 := ch_mul n k
    have e : ch (n + 1) (k + 1) = ch n k + ch n (k + 1) := rfl
    show (k + 2) * (ch (n + 1) (k + 1) + ch (n + 1) (k + 2)) = (n + 2) * ch (n + 1) (k + 1)
    rw [Nat.mul_add, h1, Nat.succ_mul (k + 1), h2]
    rw [show (n + 2) * ch (n + 1) (k + 1) = (n + 1) * ch (n + 1) (k + 1) + ch (n + 1) (k + 1) from Nat.succ_mul _ _]
    have h3 : (n + 1) * ch (n + 1) (k + 1) = (n + 1) * ch n k + (n + 1) * ch n (k + 1) := by rw [e, Nat.mul_add]
    omega
theorem ch_next (n k : Nat) (h : k ≤ n) : (k + 1) * ch n (k + 1) = (n - k) * ch n k := by
  have h1 := ch_mul n k
  have e : ch (n + 1) (k + 1) = ch n k + ch n (k + 1) := rfl
  rw [e, Nat.mul_add] at h1
  have h2 : (n + 1) * ch n k = (n - k) * ch n k + (k + 1) * ch n k := by rw [← Nat.add_mul]; congr 1; omega
  omega
theorem ch_mono (n k : Nat) : ch n k ≤ ch (n + 1) k := by
  cases k with
  | zero => rw [ch_zero, ch_zero]; exact Nat.le_refl _
  | succ k => show ch n (k + 1) ≤ ch n k + ch n (k + 1); omega
theorem ch_le {n N : Nat} (k : Nat) (h : n ≤ N) : ch n k ≤ ch N k := by
  induction h with
  | refl => exact Nat.le_refl _
  | step _ ih => exact Nat.le_trans ih (ch_mono _ _)
theorem row80 (c : Nat → Nat) (h0 : c 0 = 1) (h : ∀ k, k ≤ 80 → (k + 1) * c (k + 1) = (80 - k) * c k) : (∀ k, k ≤ 10 → c k ≤ 1646492110120) ∧ ∀ k, k ≤ 4 → c k ≤ 1581580 := by
  have b1 : c 1 = 80 := by
    have a := h 0 (by decide)
    have a' : 1 * c 1 = 80 * c 0 := a
    rw [h0] at a'
    clear h
    generalize c 1 = z at a' ⊢
    omega
  have b2 : c 2 = 3160 := by
    have a := h 1 (by decide)
    have a' : 2 * c 2 = 79 * c 1 := a
    rw [b1] at a'
    clear h
    generalize c 2 = z at a' ⊢
    omega
  have b3 : c 3 = 82160 := by
    have a := h 2 (by decide)
    have a' : 3 * c 3 = 78 * c 2 := a
    rw [b2] at a'
    clear h
    generalize c 3 = z at a' ⊢
    omega
  have b4 : c 4 = 1581580 := by
    have a := h 3 (by decide)
    have a' : 4 * c 4 = 77 * c 3 := a
    rw [b3] at a'
    clear h
    generalize c 4 = z at a' ⊢
    omega
  have b5 : c 5 = 24040016 := by
    have a := h 4 (by decide)
    have a' : 5 * c 5 = 76 * c 4 := a
    rw [b4] at a'
    clear h
    generalize c 5 = z at a' ⊢
    omega
  have b6 : c 6 = 300500200 := by
    have a := h 5 (by decide)
    have a' : 6 * c 6 = 75 * c 5 := a
    rw [b5] at a'
    clear h
    generalize c 6 = z at a' ⊢
    omega
  have b7 : c 7 = 3176716400 := by
    have a := h 6 (by decide)
    have a' : 7 * c 7 = 74 * c 6 := a
    rw [b6] at a'
    clear h
    generalize c 7 = z at a' ⊢
    omega
  have b8 : c 8 = 28987537150 := by
    have a := h 7 (by decide)
    have a' : 8 * c 8 = 73 * c 7 := a
    rw [b7] at a'
    clear h
    generalize c 8 = z at a' ⊢
    omega
  have b9 : c 9 = 231900297200 := by
    have a := h 8 (by decide)
    have a' : 9 * c 9 = 72 * c 8 := a
    rw [b8] at a'
    clear h
    generalize c 9 = z at a' ⊢
    omega
  have b10 : c 10 = 1646492110120 := by
    have a := h 9 (by decide)
    have a' : 10 * c 10 = 71 * c 9 := a
    rw [b9] at a'
    clear h
    generalize c 10 = z at a' ⊢
    omega
  clear h
  refine ⟨fun k hk => ?_, fun k hk => ?_⟩
  · have : k = 0 ∨ k = 1 ∨ k = 2 ∨ k = 3 ∨ k = 4 ∨ k = 5 ∨ k = 6 ∨ k = 7 ∨ k = 8 ∨ k = 9 ∨ k = 10 := by omega
    rcases this with rfl | rfl | rfl | rfl | rfl | rfl | rfl | rfl | rfl | rfl | rfl
    · rw [h0]; decide
    · rw [b1]; decide
    · rw [b2]; decide
    · rw [b3]; decide
    · rw [b4]; decide
    · rw [b5]; decide
    · rw [b6]; decide
    · rw [b7]; decide
    · rw [b8]; decide
    · rw [b9]; decide
    · rw [b10]; decide
  · have : k = 0 ∨ k = 1 ∨ k = 2 ∨ k = 3 ∨ k = 4 := by omega
    rcases this with rfl | rfl | rfl | rfl | rfl
    · rw [h0]; decide
    · rw [b1]; decide
    · rw [b2]; decide
    · rw [b3]; decide
    · rw [b4]; decide
theorem ch_bound {n k : Nat} (hn : n ≤ 80) (hk : k ≤ 10) : ch n k ≤ 1646492110120 :=
  Nat.le_trans (ch_le k hn) ((row80 (ch 80) (ch_zero 80) fun k h => ch_next 80 k h).1 k hk)
theorem ch_bound4 {n k : Nat} (hn : n ≤ 80) (hk : k ≤ 4) : ch n k ≤ 1581580 :=
  Nat.le_trans (ch_le k hn) ((row80 (ch 80) (ch_zero 80) fun k h => ch_next 80 k h).2 k hk)
theorem ch_pos : ∀ {n k : Nat}, k ≤ n → 1 ≤ ch n k
  | n, 0, _ => by rw [ch_zero]; exact Nat.le_refl _
  | 0, k + 1, h => by omega
  | n + 1, k + 1, h => by
    have := ch_pos (n := n) (k := k) (by omega)
    show 1 ≤ ch n k + ch n (k + 1); omega
theorem knownI {m : Mem} (n : Int) (h : 0 ≤ n ∧ n ≤ 80) : PureCall Tryz.prog 102 [.int .i64 n] m (.bool true) := by
  refine CallsS.pure ?_
  refine enter Tryz.func102 Tryz.ntmps102 rfl rfl ?_
  refine SWP_seq (SWP_region ?_)
  refine pB rfl rfl ?_
  refine SL_nil (nx (SWP_seq (SWP_region ?_)))
  first | refine pI rfl rfl ?_ | refine pu rfl rfl ?_
  refine pt rfl rfl (h.1) ?_
  refine pB rfl rfl ?_
  refine SL_yes rfl ?_
  first | refine pI rfl rfl ?_ | refine pu rfl rfl ?_
  refine SL_yes rfl ?_
  refine pt rfl rfl (h.2) ?_
  refine pB rfl rfl ?_
  refine pB rfl rfl ?_
  refine SL_nil (nx (SWP_ret ?_))
  refine fin [_] ⟨rfl, trivial⟩ ?_
  rfl
set_option maxRecDepth 100000 in
theorem chooseI {m : Mem} {n k : Nat} (hn : n ≤ 80) (hk : k ≤ 10) (hkn : k ≤ n) : CallsS Tryz.prog 72 [.int .i64 (n : Nat), .int .i64 (k : Nat)].toArray [] m fun r σ' m' => σ' = [] ∧ ∃ a c, r = .tuple #[.agg #[.slice a (natL ((ch n k : Nat) : Int)).length c], .int .i64 0] ∧ RL m' u32E 1 (.slice a (natL ((ch n k : Nat) : Int)).length c) (natL ((ch n k : Nat) : Int)) := by
  refine CallsS.ghost (R' := fun r σ' m' => ∃ a c, r = .tuple #[.agg #[.slice a (natL ((ch n k : Nat) : Int)).length c], .int .i64 0] ∧ RL m' u32E 1 (.slice a (natL ((ch n k : Nat) : Int)).length c) (natL ((ch n k : Nat) : Int))) ?_ ?h2
  case h2 =>
    rintro r σ' m' hr g0 W hC
    exact ⟨_, m', hC.sublist (List.nil_sublist _), Le.refl _, rfl, hr⟩
  refine enter Tryz.func72 Tryz.ntmps72 rfl rfl ?_
  refine SWP_seq (SWP_region ?_)
  refine al rfl rfl (fun B4 => ?_)
  refine pI rfl rfl ?_
  refine SL_nil (nx (SWP_seq (SWP_seq (SWP_region ?_))))
  first | refine pI rfl rfl ?_ | refine pu rfl rfl ?_
  refine SL_pcall rfl rfl cb102 (knownI _ (by omega)) rfl ?_
  refine pB rfl rfl ?_
  refine SL_nil (nx (SWP_cf rfl (SWP_skip (nx (SWP_seq (SWP_seq (SWP_region ?_)))))))
  first | refine pI rfl rfl ?_ | refine pu rfl rfl ?_
  refine pn rfl rfl (by omega) ?_
  refine pB rfl rfl ?_
  refine SL_yes rfl ?_
  first | refine pI rfl rfl ?_ | refine pu rfl rfl ?_
  refine SL_yes rfl ?_
  first | refine pI rfl rfl ?_ | refine pu rfl rfl ?_
  refine SL_yes rfl ?_
  refine pn rfl rfl (by omega) ?_
  refine pB rfl rfl ?_
  refine SL_nil (nx (SWP_cf rfl (SWP_skip (nx (SWP_seq (SWP_region ?_))))))
  refine SL_call rfl rfl cb103 (CallsS.frame0 (ofI (N := 1) (by decide) (by decide))) rfl (fun v5_0 σ5_0 m5_0 hl5_0 hR5_0 => ?_)
  obtain ⟨σo, rfl, rfl, ao, co, rfl, ho⟩ := hR5_0
  refine al rfl rfl (fun B6 => ?_)
  refine swE B6 0 [.slice ao (natL 1).length co] (v := .agg #[.slice ao (natL 1).length co]) rfl rfl rfl rfl rfl rfl rfl rfl ?_
  refine SL_nil (nx (SWP_seq (SWP_seq (SWP_region ?_))))
  first | refine pI rfl rfl ?_ | refine pu rfl rfl ?_
  refine SL_nil (nx (SWP_block ?_))
  refine SWP_loop [5, 7, 8, 9, 23, 24, 25, 26, 27, 28, 29, 30, 31, 32, 33, 34, 35, 36, 37, 38, 39, 40, 41, 42, 43, 44, 45, 46, 47, 48, 49, 50, 51, 52, 53, 54, 55, 56] [7]
      (fun vs σ' m' => ∃ (i : Nat) (a6 : Option Addr) (c6 : Nat), vs = [.int .i64 ((i : Int) + 1)] ∧ i ≤ k ∧ RL m' u32E 1 (.slice a6 (natL ((ch (n - k + i) i : Nat) : Int)).length c6) (natL ((ch (n - k + i) i : Nat) : Int)) ∧ σ' = [(B6, Cells 112 [.slice a6 (natL ((ch (n - k + i) i : Nat) : Int)).length c6]), (B4, Cells 112 [.slice none 0 0])] ∧ Le m m')
      (fun vs => k + 1 - nOf (vs.getD 0 undef)) rfl ?_ ?_
  · refine ⟨0, ao, co, rfl, by omega, ?_, ?_, hl5_0⟩
    · rw [ch_zero]; exact ho
    · rw [ch_zero]; rfl
  intro u0 vs0 σ0 m0 hJ0 _
  obtain ⟨i, a6, c6, rfl, hi, h6, rfl, hle⟩ := hJ0
  refine SWP_seq (SWP_seq (SWP_region ?_))
  first | refine pI rfl rfl ?_ | refine pu rfl rfl ?_
  first | refine pI rfl rfl ?_ | refine pu rfl rfl ?_
  refine pc rfl rfl (fun c25 => ?_) (fun c25 => ?_)
  · skip
    refine SL_nil (nx (SWP_ct rfl (SWP_skip (nx (SWP_seq (SWP_block ?_))))))
    have hb1 := ch_bound (n := n - k + i) (k := i) (by omega) (by omega)
    have hb2 := ch_bound (n := n - k + (i + 1)) (k := i + 1) (by omega) (by omega)
    have hp1 := ch_pos (n := n - k + i) (k := i) (by omega)
    have hcm : (i + 1) * ch (n - k + (i + 1)) (i + 1) = (n - k + (i + 1)) * ch (n - k + i) i := ch_mul (n - k + i) i
    have hP2 : (((n - k + (i + 1)) * ch (n - k + i) i : Nat) : Int) < 18446744073709551616 := by
      rw [← hcm]
      have : (i + 1) * ch (n - k + (i + 1)) (i + 1) ≤ 10 * 1646492110120 := Nat.mul_le_mul (by omega) hb2
      omega
    have hPge : i + 1 ≤ (n - k + (i + 1)) * ch (n - k + i) i := by
      rw [← hcm]
      exact Nat.le_mul_of_pos_right _ (ch_pos (by omega))
    have hquo : (((n - k + (i + 1)) * ch (n - k + i) i : Nat) : Int) / (((i + 1) : Nat) : Int) = ((ch (n - k + (i + 1)) (i + 1) : Nat) : Int) := by
      rw [← hcm, Int.natCast_mul]
      exact Int.mul_ediv_cancel_left _ (by omega)
    refine SWP_merge1 [8, 9, 28, 29, 30, 31, 32, 33, 34, 35, 36, 37, 38, 39] [8, 9]
        (fun vs σ' m' => ∃ (B8 : Nat) (a8 : Option Addr) (c8 : Nat), vs = [.pointer (some ⟨B8, 0, none⟩), .int .i64 0] ∧ σ' = (B8, Cells 112 [.slice a8 (natL (((n - k + (i + 1)) * ch (n - k + i) i : Nat) : Int)).length c8]) :: [(B6, Cells 112 [.slice a6 (natL ((ch (n - k + i) i : Nat) : Int)).length c6]), (B4, Cells 112 [.slice none 0 0])] ∧ RL m' u32E 1 (.slice a8 (natL (((n - k + (i + 1)) * ch (n - k + i) i : Nat) : Int)).length c8) (natL (((n - k + (i + 1)) * ch (n - k + i) i : Nat) : Int)) ∧ Le m0 m')
        rfl ?_ ?_
    · skip
      refine SWP_tree [(B6, Cells 112 [.slice a6 (natL ((ch (n - k + i) i : Nat) : Int)).length c6]), (B4, Cells 112 [.slice none 0 0])] 15 (.one 0 (.one 1 (.one 2 (.one 3 (.one 4 (.one 5 (.one 6 (.fork (.alt 7 (.fork (.alt 8 (.one 9 (.one 10 (.one 11 (.one 12 (.one 13 (.one 14 (.fin))))))) (.alt 12 (.one 8 (.one 9 (.one 10 (.one 11 (.one 13 (.one 14 (.fin))))))) (.none)))) (.alt 12 (.one 7 (.one 8 (.one 9 (.one 10 (.one 11 (.one 13 (.one 14 (.fin)))))))) (.none))))))))))) (by kernel_rfl) (by kernel_rfl) (by repeat (first | exact Sub.refl _ | exact Sub.nil _ | refine Sub.cons2 _ ?_ | refine Sub.cons _ ?_ | refine Sub.left _ ?_)) ?_
      refine T1 rfl ?_
      refine lw (v := .agg _) B6 0 rfl rfl rfl rfl ?_
      refine SL_nil ?_
      refine T1 rfl ?_
      first | refine pI rfl rfl ?_ | refine pu rfl rfl ?_
      refine SL_nil ?_
      refine T1 rfl ?_
      first | refine pI rfl rfl ?_ | refine pu rfl rfl ?_
      refine SL_nil ?_
      refine T1 rfl ?_
      refine pw rfl rfl (w64 (by omega) (by omega)) ?_
      refine SL_nil ?_
      refine T1 rfl ?_
      first | refine pI rfl rfl ?_ | refine pu rfl rfl ?_
      refine SL_nil ?_
      refine T1 rfl ?_
      refine pw rfl rfl (w64 (by omega) (by omega)) ?_
      rw [show (n : Int) - (k : Int) + ((i : Int) + 1) = ((n - k + (i + 1) : Nat) : Int) by omega]
      refine SL_nil ?_
      refine T1 rfl ?_
      refine pw rfl rfl (by rw [wrapU]; omega) ?_
      refine SL_nil ?_
      refine TF ?_
      refine TA rfl ?_ ?_
      · skip
        refine SL_call rfl rfl cb103 (CallsS.frame0 (ofI (N := (((n - k + (i + 1)) : Nat) : Int)) (by omega) (by omega))) rfl (fun v9_7 σ9_7 m9_7 hl9_7 hR9_7 => ?_)
        obtain ⟨σo, rfl, rfl, ao, co, rfl, ho⟩ := hR9_7
        rw [natL_one (D := (((n - k + (i + 1)) : Nat) : Int)) (by omega) (by omega)] at ho
        rw [natL_one (D := (((n - k + (i + 1)) : Nat) : Int)) (by omega) (by omega)]
        refine SL_nil ?_
        refine TF ?_
        refine TA rfl ?_ ?_
        · skip
          refine SL_call rfl rfl cb104 (CallsS.frame0 (mulI (N := (((n - k + (i + 1)) * ch (n - k + i) i : Nat) : Int)) (h6.mono hl9_7) ho (okL_natL (by omega) (by omega)) (natL_len _) (tidy_natL (by omega)) (by omega) (by rw [valL_natL, Int.mul_comm, Int.natCast_mul]) hP2)) rfl (fun v9_8 σ9_8 m9_8 hl9_8 hR9_8 => ?_)
          obtain ⟨σp, rfl, rfl, a8, c8, rfl, h8⟩ := hR9_8
          refine SL_nil ?_
          refine T1 rfl ?_
          refine pu rfl rfl ?_
          refine SL_nil ?_
          refine T1 rfl ?_
          first | refine pA rfl rfl ?_ | refine pu rfl rfl ?_
          refine SL_nil ?_
          refine T1 rfl ?_
          first | refine pI rfl rfl ?_ | refine pu rfl rfl ?_
          refine SL_nil ?_
          refine T1 rfl ?_
          refine al rfl rfl (fun B8 => ?_)
          refine SL_nil ?_
          refine T1 rfl ?_
          refine swE B8 0 [.slice a8 (natL (((n - k + (i + 1)) * ch (n - k + i) i : Nat) : Int)).length c8] (v := .agg #[.slice a8 (natL (((n - k + (i + 1)) * ch (n - k + i) i : Nat) : Int)).length c8]) rfl rfl rfl rfl rfl rfl rfl rfl ?_
          refine SL_nil ?_
          refine T1 rfl ?_
          first | refine pI rfl rfl ?_ | refine pu rfl rfl ?_
          refine SL_nil (nx ?_)
          refine ⟨by repeat (first | with_reducible exact Under.refl _ _ | exact Under.upds rfl (Under.hav _ _ _) | exact Under.hav _ _ _ | refine Under.upd rfl ?_ | refine Under.upds rfl ?_ | refine Under.hav2 rfl ?_), ?_⟩
          exact ⟨B8, a8, c8, rfl, rfl, h8, hl9_7.trans hl9_8⟩
        refine TA rfl ?_ ?_
        · skip
          refine al rfl rfl (fun B8 => ?_)
          refine SL_nil ?_
          refine T1 rfl ?_
          refine SL_call rfl rfl cb104 (CallsS.frame0 (mulI (N := (((n - k + (i + 1)) * ch (n - k + i) i : Nat) : Int)) (h6.mono hl9_7) ho (okL_natL (by omega) (by omega)) (natL_len _) (tidy_natL (by omega)) (by omega) (by rw [valL_natL, Int.mul_comm, Int.natCast_mul]) hP2)) rfl (fun v9_8 σ9_8 m9_8 hl9_8 hR9_8 => ?_)
          obtain ⟨σp, rfl, rfl, a8, c8, rfl, h8⟩ := hR9_8
          refine SL_nil ?_
          refine T1 rfl ?_
          refine pu rfl rfl ?_
          refine SL_nil ?_
          refine T1 rfl ?_
          first | refine pA rfl rfl ?_ | refine pu rfl rfl ?_
          refine SL_nil ?_
          refine T1 rfl ?_
          first | refine pI rfl rfl ?_ | refine pu rfl rfl ?_
          refine SL_nil ?_
          refine T1 rfl ?_
          refine swE B8 0 [.slice a8 (natL (((n - k + (i + 1)) * ch (n - k + i) i : Nat) : Int)).length c8] (v := .agg #[.slice a8 (natL (((n - k + (i + 1)) * ch (n - k + i) i : Nat) : Int)).length c8]) rfl rfl rfl rfl rfl rfl rfl rfl ?_
          refine SL_nil ?_
          refine T1 rfl ?_
          first | refine pI rfl rfl ?_ | refine pu rfl rfl ?_
          refine SL_nil (nx ?_)
          refine ⟨by repeat (first | with_reducible exact Under.refl _ _ | exact Under.upds rfl (Under.hav _ _ _) | exact Under.hav _ _ _ | refine Under.upd rfl ?_ | refine Under.upds rfl ?_ | refine Under.hav2 rfl ?_), ?_⟩
          exact ⟨B8, a8, c8, rfl, rfl, h8, hl9_7.trans hl9_8⟩
        exact True.intro
      refine TA rfl ?_ ?_
      · skip
        refine al rfl rfl (fun B8 => ?_)
        refine SL_nil ?_
        refine T1 rfl ?_
        refine SL_call rfl rfl cb103 (CallsS.frame0 (ofI (N := (((n - k + (i + 1)) : Nat) : Int)) (by omega) (by omega))) rfl (fun v9_7 σ9_7 m9_7 hl9_7 hR9_7 => ?_)
        obtain ⟨σo, rfl, rfl, ao, co, rfl, ho⟩ := hR9_7
        rw [natL_one (D := (((n - k + (i + 1)) : Nat) : Int)) (by omega) (by omega)] at ho
        rw [natL_one (D := (((n - k + (i + 1)) : Nat) : Int)) (by omega) (by omega)]
        refine SL_nil ?_
        refine T1 rfl ?_
        refine SL_call rfl rfl cb104 (CallsS.frame0 (mulI (N := (((n - k + (i + 1)) * ch (n - k + i) i : Nat) : Int)) (h6.mono hl9_7) ho (okL_natL (by omega) (by omega)) (natL_len _) (tidy_natL (by omega)) (by omega) (by rw [valL_natL, Int.mul_comm, Int.natCast_mul]) hP2)) rfl (fun v9_8 σ9_8 m9_8 hl9_8 hR9_8 => ?_)
        obtain ⟨σp, rfl, rfl, a8, c8, rfl, h8⟩ := hR9_8
        refine SL_nil ?_
        refine T1 rfl ?_
        refine pu rfl rfl ?_
        refine SL_nil ?_
        refine T1 rfl ?_
        first | refine pA rfl rfl ?_ | refine pu rfl rfl ?_
        refine SL_nil ?_
        refine T1 rfl ?_
        first | refine pI rfl rfl ?_ | refine pu rfl rfl ?_
        refine SL_nil ?_
        refine T1 rfl ?_
        refine swE B8 0 [.slice a8 (natL (((n - k + (i + 1)) * ch (n - k + i) i : Nat) : Int)).length c8] (v := .agg #[.slice a8 (natL (((n - k + (i + 1)) * ch (n - k + i) i : Nat) : Int)).length c8]) rfl rfl rfl rfl rfl rfl rfl rfl ?_
        refine SL_nil ?_
        refine T1 rfl ?_
        first | refine pI rfl rfl ?_ | refine pu rfl rfl ?_
        refine SL_nil (nx ?_)
        refine ⟨by repeat (first | with_reducible exact Under.refl _ _ | exact Under.upds rfl (Under.hav _ _ _) | exact Under.hav _ _ _ | refine Under.upd rfl ?_ | refine Under.upds rfl ?_ | refine Under.hav2 rfl ?_), ?_⟩
        exact ⟨B8, a8, c8, rfl, rfl, h8, hl9_7.trans hl9_8⟩
      exact True.intro
    intro uM0 vM0 σM0 mM0 hM0 _
    obtain ⟨B8, a8, c8, rfl, rfl, h8, hle2⟩ := hM0
    refine SWP_seq (SWP_seq (SWP_region ?_))
    first | refine pI rfl rfl ?_ | refine pu rfl rfl ?_
    refine pn rfl rfl (fun hh => hh rfl) ?_
    refine SL_nil (nx (SWP_cf rfl (SWP_skip (nx (SWP_seq ?_)))))
    refine SWP_tree [(B8, Cells 112 [.slice a8 (natL (((n - k + (i + 1)) * ch (n - k + i) i : Nat) : Int)).length c8]), (B4, Cells 112 [.slice none 0 0])] 11 (.one 0 (.one 1 (.one 2 (.one 3 (.one 4 (.one 5 (.one 6 (.one 7 (.one 8 (.one 9 (.one 10 (.fin)))))))))))) (by kernel_rfl) (by kernel_rfl) (by repeat (first | exact Sub.refl _ | exact Sub.nil _ | refine Sub.cons2 _ ?_ | refine Sub.cons _ ?_ | refine Sub.left _ ?_)) ?_
    refine T1 rfl ?_
    refine lw (v := .agg _) B8 0 rfl rfl rfl rfl ?_
    refine SL_nil ?_
    refine T1 rfl ?_
    first | refine pI rfl rfl ?_ | refine pu rfl rfl ?_
    refine SL_nil ?_
    refine T1 rfl ?_
    refine pw rfl rfl (by rw [wrapU]; omega) ?_
    rw [show (i : Int) + 1 = ((i + 1 : Nat) : Int) by omega]
    refine SL_nil ?_
    refine T1 rfl ?_
    refine SL_call rfl rfl cb103 (CallsS.frame0 (ofI (N := (((i + 1) : Nat) : Int)) (by omega) (by omega))) rfl (fun v12_3 σ12_3 m12_3 hl12_3 hR12_3 => ?_)
    obtain ⟨σo, rfl, rfl, ao, co, rfl, ho⟩ := hR12_3
    rw [natL_one (D := (((i + 1) : Nat) : Int)) (by omega) (by omega)] at ho
    rw [natL_one (D := (((i + 1) : Nat) : Int)) (by omega) (by omega)]
    refine SL_nil ?_
    refine T1 rfl ?_
    refine SL_call rfl rfl cb105 (CallsS.frame0 (divModI (A := (((n - k + (i + 1)) * ch (n - k + i) i : Nat) : Int)) (D := (((i + 1) : Nat) : Int)) (h8.mono hl12_3) ho (okL_natL (by omega) hP2) (natL_len _) (tidy_natL (by omega)) (by omega) (valL_natL _) hP2 (by omega))) rfl (fun v12_4 σ12_4 m12_4 hl12_4 hR12_4 => ?_)
    obtain ⟨σp, rfl, rfl, a9, c9, w9, rfl, h9⟩ := hR12_4
    rw [hquo] at h9
    rw [hquo]
    refine SL_nil ?_
    refine T1 rfl ?_
    refine pu rfl rfl ?_
    refine SL_nil ?_
    refine T1 rfl ?_
    first | refine pA rfl rfl ?_ | refine pu rfl rfl ?_
    refine SL_nil ?_
    refine T1 rfl ?_
    first | refine pA rfl rfl ?_ | refine pu rfl rfl ?_
    refine SL_nil ?_
    refine T1 rfl ?_
    first | refine pI rfl rfl ?_ | refine pu rfl rfl ?_
    refine SL_nil ?_
    refine T1 rfl ?_
    refine swE B6 0 [.slice a9 (natL ((ch (n - k + (i + 1)) (i + 1) : Nat) : Int)).length c9] (v := .agg #[.slice a9 (natL ((ch (n - k + (i + 1)) (i + 1) : Nat) : Int)).length c9]) rfl rfl rfl rfl rfl rfl rfl rfl ?_
    refine SL_nil ?_
    refine T1 rfl ?_
    first | refine pI rfl rfl ?_ | refine pu rfl rfl ?_
    refine SL_nil (nx (SWP_seq (SWP_region ?_)))
    first | refine pI rfl rfl ?_ | refine pu rfl rfl ?_
    refine pn rfl rfl (fun hh => hh rfl) ?_
    refine SL_nil (nx (SWP_cf rfl (SWP_skip (nb (nx ?_)))))
    refine SWP_weak (List.sublist_cons_self _ _) ?_
    refine SWP_region ?_
    first | refine pI rfl rfl ?_ | refine pu rfl rfl ?_
    first | refine pw rfl rfl (w64 (by omega) (by omega)) ?_ | refine pu rfl rfl ?_
    refine pI rfl rfl ?_
    refine SL_nil (nx ?_)
    refine ⟨by repeat (first | exact Under.upds rfl (Under.hav _ _ _) | exact Under.hav _ _ _ | refine Under.upd rfl ?_ | refine Under.upds rfl ?_ | refine Under.hav2 rfl ?_), ?_, ?_⟩
    · exact ⟨i + 1, a9, c9, rfl, by omega, h9, rfl, (hle.trans hle2).trans (hl12_3.trans hl12_4)⟩
    · simp only [L_vals, List.map, List.getD]; show k + 1 - ((i : Int) + 1 + 1).toNat < k + 1 - ((i : Int) + 1).toNat; omega
  refine SL_nil (nx (SWP_cf rfl (SWP_exit (ne (ne (be rfl (nx (SWP_seq ?_))))))))
  obtain rfl : i = k := by omega
  rw [show n - i + i = n by omega] at h6
  rw [show n - i + i = n by omega]
  refine SWP_region ?_
  refine lw (v := .agg _) B6 0 rfl rfl rfl rfl ?_
  refine sw (v := .agg _) B4 0 rfl rfl rfl rfl rfl rfl rfl ?_
  first | refine pI rfl rfl ?_ | refine pu rfl rfl ?_
  refine SL_nil (nx (SWP_ret ?_))
  refine fin [_, _] ⟨⟨_, _, rfl, Rd.of_cells (MemO.mem (B := B4)), rfl⟩, rfl, trivial⟩ ?_
  exact ⟨a6, c6, rfl, h6⟩
set_option maxRecDepth 100000 in
theorem narrowI {m : Mem} {a : Option Addr} {c : Nat} {N : Int} (h0 : 0 ≤ N) (h1 : N ≤ 9223372036854775807) (h : RL m u32E 1 (.slice a (natL N).length c) (natL N)) : PureCall Tryz.prog 73 [.agg #[.slice a (natL N).length c]] m (.tuple #[.int .i64 N, .int .i64 0]) := by
  refine CallsS.pure ?_
  refine enter Tryz.func73 Tryz.ntmps73 rfl rfl ?_
  refine SWP_seq (SWP_region ?_)
  refine bx (v := .agg _) rfl rfl (fun B1 => ?_)
  refine pI rfl rfl ?_
  refine pI rfl rfl ?_
  refine SL_nil (nx (SWP_seq (SWP_region ?_)))
  refine lw (v := .agg _) B1 0 rfl rfl rfl rfl ?_
  refine SL_pcall rfl rfl cb106 (uintI h0 (by omega) h) rfl ?_
  refine pu rfl rfl ?_
  first | refine pI rfl rfl ?_ | refine pu rfl rfl ?_
  refine pu (v := .bool true) rfl rfl ?_
  first | refine pI rfl rfl ?_ | refine pu rfl rfl ?_
  first | refine pB rfl rfl ?_ | refine pu rfl rfl ?_
  refine SL_nil (nx (SWP_seq (SWP_seq (SWP_region ?_))))
  first | refine pB rfl rfl ?_ | refine pu rfl rfl ?_
  refine pB rfl rfl ?_
  refine pB rfl rfl ?_
  refine SL_yes rfl ?_
  first | refine pI rfl rfl ?_ | refine pu rfl rfl ?_
  refine SL_yes rfl ?_
  refine pn rfl rfl (by omega) ?_
  refine pB rfl rfl ?_
  refine SL_nil (nx (SWP_cf rfl (SWP_skip (nx (SWP_seq (SWP_region ?_))))))
  first | refine pI rfl rfl ?_ | refine pu rfl rfl ?_
  refine pw rfl rfl (w64 (by omega) (by omega)) ?_
  first | refine pI rfl rfl ?_ | refine pu rfl rfl ?_
  refine pI rfl rfl ?_
  refine SL_nil (nx (SWP_ret ?_))
  refine fin [_, _] ⟨rfl, rfl, trivial⟩ ?_
  rfl
set_option maxRecDepth 100000 in
theorem countI {m : Mem} {n k : Nat} (hn : n ≤ 80) (hk : k ≤ 10) (hkn : k ≤ n) : PureCall Tryz.prog 39 [.int .i64 (n : Nat), .int .i64 (k : Nat)] m (.tuple #[.int .i64 ((ch n k : Nat) : Int), .int .i64 0]) := by
  refine CallsS.pure ?_
  have hb := ch_bound hn hk
  refine enter Tryz.func39 Tryz.ntmps39 rfl rfl ?_
  refine SWP_seq (SWP_region ?_)
  refine pI rfl rfl ?_
  refine pI rfl rfl ?_
  refine SL_nil (nx (SWP_seq (SWP_region ?_)))
  first | refine pI rfl rfl ?_ | refine pu rfl rfl ?_
  first | refine pI rfl rfl ?_ | refine pu rfl rfl ?_
  refine SL_call rfl rfl cb72 (chooseI hn hk hkn) rfl (fun v1_2 σ1_2 m1_2 hl1_2 hR1_2 => ?_)
  obtain ⟨rfl, a8, c8, rfl, h8⟩ := hR1_2
  refine pu rfl rfl ?_
  first | refine pA rfl rfl ?_ | refine pu rfl rfl ?_
  first | refine pI rfl rfl ?_ | refine pu rfl rfl ?_
  refine al rfl rfl (fun B6 => ?_)
  refine swE B6 0 [.slice a8 (natL ((ch n k : Nat) : Int)).length c8] (v := .agg #[.slice a8 (natL ((ch n k : Nat) : Int)).length c8]) rfl rfl rfl rfl rfl rfl rfl rfl ?_
  first | refine pI rfl rfl ?_ | refine pu rfl rfl ?_
  refine SL_nil (nx (SWP_seq (SWP_seq (SWP_region ?_))))
  first | refine pI rfl rfl ?_ | refine pu rfl rfl ?_
  refine pn rfl rfl (fun hh => hh rfl) ?_
  refine SL_nil (nx (SWP_cf rfl (SWP_skip (nx (SWP_seq (SWP_region ?_))))))
  refine lw (v := .agg _) B6 0 rfl rfl rfl rfl ?_
  refine SL_pcall rfl rfl cb73 (narrowI (by omega) (by omega) h8) rfl ?_
  first | refine pI rfl rfl ?_ | refine pu rfl rfl ?_
  first | refine pI rfl rfl ?_ | refine pu rfl rfl ?_
  first | refine pI rfl rfl ?_ | refine pu rfl rfl ?_
  first | refine pI rfl rfl ?_ | refine pu rfl rfl ?_
  refine SL_nil (nx (SWP_ret ?_))
  refine fin [_, _] ⟨rfl, rfl, trivial⟩ ?_
  rfl
end Go.Proofs.YtifjhpaoejageaaGreatDoor
namespace Go.Proofs.YtifjhpaoejageaaGreatDoor
open Eng
theorem pureOf {P : Program} {F : FuncId} {args : List Value} {m : Mem} {v : Value} (h : ∀ w, Calls P F args.toArray w fun e w' => e = .returned v ∧ w' = w) : PureCall P F args m v :=
  fun σ g W hC => (h W).mono fun e W' ⟨he, hw⟩ => ⟨v, σ, m, he, by rw [hw]; exact hC, Le.refl m, rfl, rfl, rfl⟩
theorem mul64I {m : Mem} (x y : Nat) (hx : x < 18446744073709551616) (hy : y < 18446744073709551616) (hxy : x * y < 18446744073709551616) : PureCall Tryz.prog 74 [.int .u64 (x : Nat), .int .u64 (y : Nat)] m (.tuple #[.int .u64 0, .int .u64 ((x * y : Nat) : Int)]) := by
  have h := pureOf (m := m) (fun w => Tryz.bits_Mul64 x y hx hy w)
  rw [Nat.div_eq_of_lt hxy, Nat.mod_eq_of_lt hxy] at h
  exact h
theorem magI {m : Mem} {n : Int} (h0 : 0 ≤ n) (h1 : n ≤ 9223372036854775807) : PureCall Tryz.prog 75 [.int .i64 n] m (.int .u64 n) := by
  refine CallsS.pure ?_
  refine enter Tryz.func75 Tryz.ntmps75 rfl rfl ?_
  refine SWP_seq (SWP_region ?_)
  refine pI rfl rfl ?_
  refine SL_nil (nx (SWP_seq (SWP_seq (SWP_region ?_))))
  first | refine pI rfl rfl ?_ | refine pu rfl rfl ?_
  refine pn rfl rfl (by omega) ?_
  refine SL_nil (nx (SWP_cf rfl (SWP_skip (nx (SWP_seq (SWP_region ?_))))))
  first | refine pI rfl rfl ?_ | refine pu rfl rfl ?_
  refine pw rfl rfl (by rw [wrapU]; omega) ?_
  first | refine pI rfl rfl ?_ | refine pu rfl rfl ?_
  refine SL_nil (nx (SWP_ret ?_))
  refine fin [_] ⟨rfl, trivial⟩ ?_
  rfl
theorem mulNI {m : Mem} (a b : Nat) (h : a * b ≤ 9223372036854775807) (ha : a ≤ 9223372036854775807) (hb : b ≤ 9223372036854775807) : PureCall Tryz.prog 40 [.int .i64 (a : Nat), .int .i64 (b : Nat)] m (.tuple #[.int .i64 ((a * b : Nat) : Int), .int .i64 0]) := by
  refine CallsS.pure ?_
  generalize hp : a * b = p at h ⊢
  refine enter Tryz.func40 Tryz.ntmps40 rfl rfl ?_
  refine SWP_seq (SWP_region ?_)
  refine pI rfl rfl ?_
  refine pI rfl rfl ?_
  refine SL_nil (nx (SWP_seq (SWP_region ?_)))
  first | refine pI rfl rfl ?_ | refine pu rfl rfl ?_
  refine SL_pcall rfl rfl cb75 (magI (by omega) (by omega)) rfl ?_
  first | refine pI rfl rfl ?_ | refine pu rfl rfl ?_
  refine SL_pcall rfl rfl cb75 (magI (by omega) (by omega)) rfl ?_
  refine SL_pcall rfl rfl cb74 (mul64I a b (by omega) (by omega) (by omega)) rfl ?_
  rw [hp]
  refine pu rfl rfl ?_
  first | refine pI rfl rfl ?_ | refine pu rfl rfl ?_
  first | refine pI rfl rfl ?_ | refine pu rfl rfl ?_
  first | refine pI rfl rfl ?_ | refine pu rfl rfl ?_
  first | refine pI rfl rfl ?_ | refine pu rfl rfl ?_
  refine SL_nil (nx (SWP_seq (SWP_seq (SWP_region ?_))))
  first | refine pI rfl rfl ?_ | refine pu rfl rfl ?_
  refine pn rfl rfl (fun hh => hh rfl) ?_
  refine SL_nil (nx (SWP_cf rfl (SWP_skip (nx (SWP_seq (SWP_seq (SWP_region ?_)))))))
  first | refine pI rfl rfl ?_ | refine pu rfl rfl ?_
  refine pn rfl rfl (by omega) ?_
  first | refine pI rfl rfl ?_ | refine pu rfl rfl ?_
  refine pn rfl rfl (by omega) ?_
  refine pu (v := .bool true) rfl rfl ?_
  refine SL_nil (nx (SWP_ct rfl (SWP_seq (SWP_seq (SWP_region ?_)))))
  first | refine pI rfl rfl ?_ | refine pu rfl rfl ?_
  refine pn rfl rfl (by omega) ?_
  refine SL_nil (nx (SWP_cf rfl (SWP_skip (nx (SWP_seq (SWP_region ?_))))))
  first | refine pI rfl rfl ?_ | refine pu rfl rfl ?_
  refine pw rfl rfl (w64 (by omega) (by omega)) ?_
  first | refine pI rfl rfl ?_ | refine pu rfl rfl ?_
  refine pI rfl rfl ?_
  refine SL_nil (nx (SWP_ret (nr ?_)))
  refine fin [_, _] ⟨rfl, rfl, trivial⟩ ?_
  rfl
theorem powI {m : Mem} (a n : Nat) (ha : a ≤ 10) (hn : n ≤ 10) (ha1 : 1 ≤ a) : PureCall Tryz.prog 38 [.int .i64 (a : Nat), .int .i64 (n : Nat)] m (.tuple #[.int .i64 ((a ^ n : Nat) : Int), .int .i64 0]) := by
  refine CallsS.pure ?_
  have hpow : ∀ i, i ≤ 10 → a ^ i ≤ 10000000000 := fun i hi => Nat.le_trans (Nat.pow_le_pow_left ha i) (Nat.le_trans (Nat.pow_le_pow_right (by decide) hi) (by decide))
  refine enter Tryz.func38 Tryz.ntmps38 rfl rfl ?_
  refine SWP_seq (SWP_region ?_)
  refine pI rfl rfl ?_
  refine pI rfl rfl ?_
  refine SL_nil (nx (SWP_seq (SWP_seq (SWP_region ?_))))
  first | refine pI rfl rfl ?_ | refine pu rfl rfl ?_
  refine pn rfl rfl (by omega) ?_
  refine pB rfl rfl ?_
  refine SL_yes rfl ?_
  first | refine pI rfl rfl ?_ | refine pu rfl rfl ?_
  refine SL_yes rfl ?_
  refine pn rfl rfl (by omega) ?_
  refine pB rfl rfl ?_
  refine SL_nil (nx (SWP_cf rfl (SWP_skip (nx (SWP_seq (SWP_region ?_))))))
  refine pI rfl rfl ?_
  refine SL_nil (nx (SWP_seq (SWP_seq (SWP_region ?_))))
  first | refine pI rfl rfl ?_ | refine pu rfl rfl ?_
  refine pI rfl rfl ?_
  refine SL_nil (nx (SWP_block ?_))
  refine SWP_loop [4, 5, 6, 7, 8, 16, 17, 18, 19, 20, 21, 22, 23, 24, 25, 26, 27, 28] [6, 16]
      (fun vs σ' m' => ∃ (i : Nat), vs = [.int .i64 ((a ^ i : Nat) : Int), .int .i64 (i : Nat)] ∧ i ≤ n ∧ σ' = [] ∧ m = m')
      (fun vs => n - nOf (vs.getD 1 undef)) rfl ?_ ?_
  · exact ⟨0, rfl, by omega, rfl, rfl⟩
  intro u0 vs0 σ0 m0 hJ0 _
  obtain ⟨i, rfl, hi, rfl, rfl⟩ := hJ0
  refine SWP_seq (SWP_region ?_)
  refine pc rfl rfl (fun c17 => ?_) (fun c17 => ?_)
  · skip
    refine SL_nil (nx (SWP_seq (SWP_ct rfl (SWP_skip (nx (SWP_seq (SWP_block (SWP_seq (SWP_region ?_)))))))))
    first | refine pI rfl rfl ?_ | refine pu rfl rfl ?_
    first | refine pI rfl rfl ?_ | refine pu rfl rfl ?_
    refine SL_pcall rfl rfl cb40 (mulNI (a ^ i) a (by show a ^ (i + 1) ≤ _; exact Nat.le_trans (hpow (i + 1) (by omega)) (by decide)) (by have := hpow i (by omega); omega) (by omega)) rfl ?_
    rw [← Nat.pow_succ]
    refine pu rfl rfl ?_
    first | refine pI rfl rfl ?_ | refine pu rfl rfl ?_
    first | refine pI rfl rfl ?_ | refine pu rfl rfl ?_
    first | refine pI rfl rfl ?_ | refine pu rfl rfl ?_
    first | refine pI rfl rfl ?_ | refine pu rfl rfl ?_
    refine SL_nil (nx (SWP_seq (SWP_seq (SWP_region ?_))))
    first | refine pI rfl rfl ?_ | refine pu rfl rfl ?_
    refine pn rfl rfl (fun hh => hh rfl) ?_
    refine SL_nil (nx (SWP_cf rfl (SWP_skip (nx (SWP_region ?_)))))
    first | refine pI rfl rfl ?_ | refine pu rfl rfl ?_
    first | refine pI rfl rfl ?_ | refine pu rfl rfl ?_
    refine SL_nil (nb (nx (SWP_region ?_)))
    first | refine pw rfl rfl (w64 (by omega) (by omega)) ?_ | refine pu rfl rfl ?_
    refine pI rfl rfl ?_
    refine SL_nil (nx ?_)
    refine ⟨by repeat (first | exact Under.upds rfl (Under.hav _ _ _) | exact Under.hav _ _ _ | refine Under.upd rfl ?_), ?_, ?_⟩
    · exact ⟨i + 1, rfl, by omega, rfl, rfl⟩
    · simp only [L_vals, List.map, List.getD]; show n - (i + 1) < n - i; omega
  refine SL_nil (nx (SWP_seq (SWP_cf rfl (SWP_exit (ne (ne (be rfl (nx (SWP_seq (SWP_region ?_))))))))))
  first | refine pI rfl rfl ?_ | refine pu rfl rfl ?_
  first | refine pI rfl rfl ?_ | refine pu rfl rfl ?_
  refine pI rfl rfl ?_
  refine SL_nil (nx (SWP_ret ?_))
  refine fin [_, _] ⟨rfl, rfl, trivial⟩ ?_
  obtain rfl : i = n := by omega
  rfl
theorem countZ {m : Mem} {n k : Int} (hn : 0 ≤ n ∧ n ≤ 80) (hk : 0 ≤ k ∧ k ≤ 10) (hkn : k ≤ n) : PureCall Tryz.prog 39 [.int .i64 n, .int .i64 k] m (.tuple #[.int .i64 ((ch n.toNat k.toNat : Nat) : Int), .int .i64 0]) := by
  obtain ⟨a, rfl⟩ := Int.eq_ofNat_of_zero_le hn.1
  obtain ⟨b, rfl⟩ := Int.eq_ofNat_of_zero_le hk.1
  rw [Int.toNat_natCast, Int.toNat_natCast]
  exact countI (by omega) (by omega) (by omega)
theorem powZ {m : Mem} {n k : Int} (hn : 1 ≤ n ∧ n ≤ 10) (hk : 0 ≤ k ∧ k ≤ 10) : ∃ z : Int, PureCall Tryz.prog 38 [.int .i64 n, .int .i64 k] m (.tuple #[.int .i64 z, .int .i64 0]) := by
  obtain ⟨a, rfl⟩ := Int.eq_ofNat_of_zero_le (show 0 ≤ n by omega)
  obtain ⟨b, rfl⟩ := Int.eq_ofNat_of_zero_le hk.1
  exact ⟨_, powI a b (by omega) (by omega) (by omega)⟩
set_option maxRecDepth 100000 in
theorem countG {m : Mem} {g : Game} (hin : g.In m) : CallsS Tryz.prog 19 [g.val].toArray [] m fun r σ' m' => σ' = [] ∧ m' = m ∧ ∃ z : Int, r = .tuple #[.int .i64 z, .int .i64 (gameErr g)] := by
  refine CallsS.forget (R := fun r => ∃ z : Int, r = .tuple #[.int .i64 z, .int .i64 (gameErr g)]) ?_
  dsimp only [Game.val]
  refine enter Tryz.func19 Tryz.ntmps19 rfl rfl ?_
  refine SWP_seq (SWP_region ?_)
  refine bx (v := .agg _) rfl rfl (fun B1 => ?_)
  refine pI rfl rfl ?_
  refine pI rfl rfl ?_
  refine SL_nil (nx (SWP_seq (SWP_seq (SWP_region ?_))))
  refine lw (v := .agg _) B1 0 rfl rfl rfl rfl ?_
  refine SL_call rfl rfl cb37 (CallsS.frame0 (checkI hin)) rfl (fun v1_1 σ1_1 m1_1 hl1_1 hR1_1 => ?_)
  obtain ⟨σc, rfl, rfl, hm1_1, s0, rfl⟩ := hR1_1
  have hn1_1 := hm1_1.symm
  subst hn1_1
  refine pu rfl rfl ?_
  first | refine pI rfl rfl ?_ | refine pu rfl rfl ?_
  first | refine pS rfl rfl ?_ | refine pu rfl rfl ?_
  first | refine pI rfl rfl ?_ | refine pu rfl rfl ?_
  first | refine pS rfl rfl ?_ | refine pu rfl rfl ?_
  refine SL_nil (nx (SWP_seq (SWP_region ?_)))
  first | refine pI rfl rfl ?_ | refine pu rfl rfl ?_
  refine pc rfl rfl (fun c15 => ?_) (fun c15 => ?_)
  · skip
    refine SL_nil (nx (SWP_ct rfl (SWP_seq (SWP_region ?_))))
    first | refine pI rfl rfl ?_ | refine pu rfl rfl ?_
    refine pI rfl rfl ?_
    first | refine pI rfl rfl ?_ | refine pu rfl rfl ?_
    refine SL_nil (nx (SWP_ret (nr ?_)))
    refine fin [_, _] ⟨rfl, rfl, trivial⟩ ?_
    exact ⟨0, rfl⟩
  refine SL_nil (nx (SWP_cf rfl (SWP_skip (nx (SWP_seq (SWP_seq ?_))))))
  have hz : gameErr g = 0 := Classical.not_not.1 (by assumption)
  have hg := gameOk hz
  have q2 := hg.mx.h2
  have q3 := hg.mx.h3
  have q4 := hg.mx.h4
  have q5 := hg.mx.h5
  have q7 := hg.mx.h7
  have q8 := hg.mx.h8
  have q9 := hg.mx.h9
  refine SWP_region ?_
  refine pu rfl rfl ?_
  refine lw (v := .int .i64 _) B1 1 rfl rfl rfl rfl ?_
  refine pc rfl rfl (fun c19 => ?_) (fun c19 => ?_)
  · skip
    refine SL_nil (nx (SWP_ct rfl (SWP_seq ?_)))
    obtain ⟨z, hpz⟩ := powZ (m := m) (n := g.of) (k := g.main) (by omega) (by omega)
    refine SWP_region ?_
    refine pu rfl rfl ?_
    refine lw (v := .int .i64 _) B1 4 rfl rfl rfl rfl ?_
    refine pu rfl rfl ?_
    refine lw (v := .int .i64 _) B1 3 rfl rfl rfl rfl ?_
    refine SL_pcall rfl rfl cb38 (hpz) rfl ?_
    first | refine pI rfl rfl ?_ | refine pu rfl rfl ?_
    first | refine pI rfl rfl ?_ | refine pu rfl rfl ?_
    first | refine pI rfl rfl ?_ | refine pu rfl rfl ?_
    first | refine pI rfl rfl ?_ | refine pu rfl rfl ?_
    refine SL_nil (nx (SWP_ret (nr ?_)))
    refine fin [_, _] ⟨rfl, rfl, trivial⟩ ?_
    exact ⟨z, by rw [hz]; rfl⟩
  refine SL_nil (nx (SWP_cf rfl (SWP_skip (nx (SWP_seq (SWP_region ?_))))))
  refine pu rfl rfl ?_
  refine lw (v := .int .i64 _) B1 4 rfl rfl rfl rfl ?_
  refine pu rfl rfl ?_
  refine lw (v := .int .i64 _) B1 3 rfl rfl rfl rfl ?_
  refine SL_pcall rfl rfl cb39 (countZ (by omega) (by omega) (by omega)) rfl ?_
  refine pu rfl rfl ?_
  first | refine pI rfl rfl ?_ | refine pu rfl rfl ?_
  first | refine pI rfl rfl ?_ | refine pu rfl rfl ?_
  first | refine pI rfl rfl ?_ | refine pu rfl rfl ?_
  first | refine pI rfl rfl ?_ | refine pu rfl rfl ?_
  refine SL_nil (nx (SWP_seq (SWP_seq (SWP_region ?_))))
  first | refine pI rfl rfl ?_ | refine pu rfl rfl ?_
  refine pn rfl rfl (fun hh => hh rfl) ?_
  refine SL_nil (nx (SWP_cf rfl (SWP_skip (nx (SWP_seq (SWP_region ?_))))))
  refine pu rfl rfl ?_
  refine lw (v := .int .i64 _) B1 6 rfl rfl rfl rfl ?_
  refine pu rfl rfl ?_
  refine lw (v := .int .i64 _) B1 5 rfl rfl rfl rfl ?_
  refine SL_pcall rfl rfl cb39 (countZ (by omega) (by omega) (by omega)) rfl ?_
  refine pu rfl rfl ?_
  first | refine pI rfl rfl ?_ | refine pu rfl rfl ?_
  first | refine pI rfl rfl ?_ | refine pu rfl rfl ?_
  first | refine pI rfl rfl ?_ | refine pu rfl rfl ?_
  first | refine pI rfl rfl ?_ | refine pu rfl rfl ?_
  refine SL_nil (nx (SWP_seq (SWP_seq (SWP_region ?_))))
  first | refine pI rfl rfl ?_ | refine pu rfl rfl ?_
  refine pn rfl rfl (fun hh => hh rfl) ?_
  refine SL_nil (nx (SWP_cf rfl (SWP_skip (nx (SWP_seq ?_)))))
  have b1 := ch_bound (n := g.of.toNat) (k := g.main.toNat) (by omega) (by omega)
  have b2 := ch_bound4 (n := g.bonusOf.toNat) (k := g.bonus.toNat) (by omega) (by omega)
  have hmm : ch g.of.toNat g.main.toNat * ch g.bonusOf.toNat g.bonus.toNat ≤ 9223372036854775807 := Nat.le_trans (Nat.mul_le_mul b1 b2) (by decide)
  refine SWP_region ?_
  first | refine pI rfl rfl ?_ | refine pu rfl rfl ?_
  first | refine pI rfl rfl ?_ | refine pu rfl rfl ?_
  refine SL_pcall rfl rfl cb40 (mulNI _ _ hmm (by omega) (by omega)) rfl ?_
  first | refine pI rfl rfl ?_ | refine pu rfl rfl ?_
  first | refine pI rfl rfl ?_ | refine pu rfl rfl ?_
  first | refine pI rfl rfl ?_ | refine pu rfl rfl ?_
  first | refine pI rfl rfl ?_ | refine pu rfl rfl ?_
  refine SL_nil (nx (SWP_ret ?_))
  refine fin [_, _] ⟨rfl, rfl, trivial⟩ ?_
  exact ⟨_, by rw [hz]; rfl⟩
end Go.Proofs.YtifjhpaoejageaaGreatDoor
namespace Go.Proofs.YtifjhpaoejageaaGreatDoor
open Eng
noncomputable def sysG (g : Game) : Int := if gameErr g ≠ 0 then gameErr g else if g.kind ≠ 1 then 7 else 0
noncomputable def sysErr (g : Game) (l : Line) : Int :=
  if sysG g ≠ 0 then sysG g
  else if ¬ ((g.main < l.main.length ∧ (l.main.length : Int) ≤ g.system) ∧ (l.bonus.length : Int) = g.bonus) then 3
  else if ¬ (allIn 1 g.of l.main ∧ allIn 1 g.bonusOf l.bonus) then 2
  else if ¬ (l.main.Nodup ∧ l.bonus.Nodup) then 6
  else 0
theorem sysG_ok {g : Game} (h : sysG g = 0) : gameErr g = 0 ∧ g.kind = 1 := by
  unfold sysG at h
  by_cases h1 : gameErr g ≠ 0
  · rw [if_pos h1] at h; exact absurd h h1
  rw [if_neg h1] at h
  by_cases h2 : g.kind ≠ 1
  · rw [if_pos h2] at h; exact absurd h (by decide)
  exact ⟨Classical.not_not.1 h1, Classical.not_not.1 h2⟩
structure SysOk (g : Game) (l : Line) : Prop where
  g0 : sysG g = 0
  ml : g.main < l.main.length ∧ (l.main.length : Int) ≤ g.system
  bl : (l.bonus.length : Int) = g.bonus
  mi : allIn 1 g.of l.main
  bi : allIn 1 g.bonusOf l.bonus
  mn : l.main.Nodup
  bn : l.bonus.Nodup
theorem sysOk {g : Game} {l : Line} (h : sysErr g l = 0) : SysOk g l := by
  unfold sysErr at h
  by_cases h1 : sysG g ≠ 0
  · rw [if_pos h1] at h; exact absurd h h1
  rw [if_neg h1] at h
  by_cases h2 : ¬ ((g.main < l.main.length ∧ (l.main.length : Int) ≤ g.system) ∧ (l.bonus.length : Int) = g.bonus)
  · rw [if_pos h2] at h; exact absurd h (by decide)
  rw [if_neg h2] at h
  by_cases h3 : ¬ (allIn 1 g.of l.main ∧ allIn 1 g.bonusOf l.bonus)
  · rw [if_pos h3] at h; exact absurd h (by decide)
  rw [if_neg h3] at h
  by_cases h4 : ¬ (l.main.Nodup ∧ l.bonus.Nodup)
  · rw [if_pos h4] at h; exact absurd h (by decide)
  have h2' := Classical.not_not.1 h2
  have h3' := Classical.not_not.1 h3
  have h4' := Classical.not_not.1 h4
  exact ⟨Classical.not_not.1 h1, h2'.1, h2'.2, h3'.1, h3'.2, h4'.1, h4'.2⟩
def seenC (s : List Int) : List Value := (List.range 81).map fun (k : Nat) => .bool (decide ((k : Int) ∈ s))
theorem seenC_len (s : List Int) : (seenC s).length = 81 := by simp [seenC]
theorem seenC_at (s : List Int) {k : Nat} (h : k < 81) : (seenC s)[k]? = some (.bool (decide ((k : Int) ∈ s))) := by unfold seenC; rw [List.getElem?_map, List.getElem?_range h]; rfl
theorem seenC_set {s : List Int} {x : Int} (h0 : 0 ≤ x) (h1 : x ≤ 80) : (seenC s).set x.toNat (.bool true) = seenC (s ++ [x]) := by
  apply List.ext_getElem?
  intro k
  rw [List.getElem?_set]
  by_cases hk : k < 81
  · rw [seenC_at _ hk, seenC_at _ hk, seenC_len]
    by_cases e : x.toNat = k
    · rw [if_pos e, if_pos (by omega)]
      have : (k : Int) = x := by omega
      simp [this]
    · rw [if_neg e]
      have : ¬ (k : Int) = x := by omega
      simp [this]
  · have h2 := seenC_len (s ++ [x])
    have h3 := seenC_len s
    rw [List.getElem?_eq_none (l := seenC (s ++ [x])) (by omega)]
    rw [h3, if_neg (by omega : ¬ x.toNat = k), List.getElem?_eq_none (by omega)]
theorem row_one (e : Nat) (v : Value) : ∀ o, Cells e [v] o → Row e 1 1 [v] o := fun o ho => by
  subst ho
  exact ⟨#[v], rfl, rfl, by decide, by simp, rfl⟩
theorem insideS {m : Mem} {v : Value} {l : List Int} (h : RL m intE 1 v l) (hi : Int) : PureCall Tryz.prog 141 [v, .int .i64 hi] m (.bool (decide (allIn 1 hi l))) := by
  refine CallsS.pure ?_
  have hsm := h.small
  obtain ⟨pa, pcap, rfl⟩ := h.len
  refine enter Tryz.func141 Tryz.ntmps141 rfl rfl ?_
  refine SWP_seq (SWP_region ?_)
  refine pB rfl rfl ?_
  refine SL_nil (nx (SWP_seq (SWP_seq (SWP_region ?_))))
  first | refine pL rfl rfl ?_ | refine pu rfl rfl ?_
  refine pu rfl rfl ?_
  refine pI rfl rfl ?_
  refine SL_nil (nx (SWP_block ?_))
  refine SWP_loop [4, 6, 9, 10, 11, 12, 13, 14, 15, 16, 17, 18, 19, 20] [9]
      (fun vs σ' m' => ∃ (i : Nat), vs = [.int .i64 (i : Nat)] ∧ i ≤ l.length ∧ allIn 1 hi (l.take i) ∧ σ' = [] ∧ m = m')
      (fun vs => l.length - nOf (vs.getD 0 undef)) rfl ?_ ?_
  · exact ⟨0, rfl, by omega, fun x h => (by cases h), rfl, rfl⟩
  intro u0 vs0 σ0 m0 hJ0 _
  obtain ⟨i, rfl, hi, hall, rfl, rfl⟩ := hJ0
  refine SWP_seq (SWP_region ?_)
  refine pc rfl rfl (fun c10 => ?_) (fun c10 => ?_)
  · skip
    refine SL_nil (nx (SWP_seq (SWP_ct rfl (SWP_skip (nx (SWP_seq (SWP_block (SWP_seq ?_))))))))
    obtain ⟨x, hx⟩ : ∃ x, l[i]? = some x := ⟨_, List.getElem?_eq_getElem (by omega)⟩
    obtain ⟨ad, e0, _, hat⟩ := h.atI hx
    cases e0
    refine SWP_region ?_
    first | refine ia (es := 1) rfl rfl rfl (Nat.mul_one _) rfl rfl (by omega) rfl ?_ | refine iai (es := 1) rfl rfl rfl (Nat.mul_one _) rfl rfl (by omega) (by omega) rfl ?_
    refine ldA (v := .int .i64 _) rfl (by assumption) rfl rfl ?_
    refine pI rfl rfl ?_
    refine SL_nil (nx (SWP_seq (SWP_region ?_)))
    refine pI rfl rfl ?_
    refine pc rfl rfl (fun c14 => ?_) (fun c14 => ?_)
    · skip
      refine pB rfl rfl ?_
      refine SL_no rfl rfl ?_
      refine SL_no rfl rfl ?_
      refine SL_no rfl rfl ?_
      refine pB rfl rfl ?_
      refine SL_nil (nx (SWP_ct rfl (SWP_seq (SWP_region ?_))))
      refine pB rfl rfl ?_
      refine SL_nil (nx (SWP_ret (br (nr (nr (br (nr ?_)))))))
      refine fin [_] ⟨rfl, trivial⟩ ?_
      first | exact congrArg Value.bool (decide_eq_false fun h => by have := h x (List.mem_of_getElem? hx); omega).symm | (refine congrArg Value.bool (decide_eq_true ?_).symm; rw [List.take_of_length_le (by omega)] at hall; exact hall)
    refine pB rfl rfl ?_
    refine SL_yes rfl ?_
    refine pI rfl rfl ?_
    refine SL_yes rfl ?_
    first | refine pI rfl rfl ?_ | refine pu rfl rfl ?_
    refine SL_yes rfl ?_
    refine pc rfl rfl (fun c18 => ?_) (fun c18 => ?_)
    · skip
      refine pB rfl rfl ?_
      refine SL_nil (nx (SWP_ct rfl (SWP_seq (SWP_region ?_))))
      refine pB rfl rfl ?_
      refine SL_nil (nx (SWP_ret (br (nr (nr (br (nr ?_)))))))
      refine fin [_] ⟨rfl, trivial⟩ ?_
      first | exact congrArg Value.bool (decide_eq_false fun h => by have := h x (List.mem_of_getElem? hx); omega).symm | (refine congrArg Value.bool (decide_eq_true ?_).symm; rw [List.take_of_length_le (by omega)] at hall; exact hall)
    refine pB rfl rfl ?_
    refine SL_nil (nx (SWP_cf rfl (SWP_skip (nb (nx (SWP_region ?_))))))
    first | refine pw rfl rfl (w64 (by omega) (by omega)) ?_ | refine pu rfl rfl ?_
    refine pI rfl rfl ?_
    refine SL_nil (nx ?_)
    refine ⟨by repeat (first | exact Under.upds rfl (Under.hav _ _ _) | exact Under.hav _ _ _ | refine Under.upd rfl ?_), ?_, ?_⟩
    · exact ⟨i + 1, rfl, by omega, allIn_snoc hx hall (by omega), rfl, rfl⟩
    · simp only [L_vals, List.map, List.getD]; show l.length - (i + 1) < l.length - i; omega
  refine SL_nil (nx (SWP_seq (SWP_cf rfl (SWP_exit (ne (ne (be rfl (nx (SWP_seq (SWP_region ?_))))))))))
  refine pB rfl rfl ?_
  refine SL_nil (nx (SWP_ret ?_))
  refine fin [_] ⟨rfl, trivial⟩ ?_
  first | exact congrArg Value.bool (decide_eq_false fun h => by have := h x (List.mem_of_getElem? hx); omega).symm | (refine congrArg Value.bool (decide_eq_true ?_).symm; rw [List.take_of_length_le (by omega)] at hall; exact hall)
theorem inS {m : Mem} {v : Value} {l : List Int} (h : RL m intE 1 v l) (hi : Int) : PureCall Tryz.prog 121 [v, .int .i64 hi] m (.bool (decide (allIn 1 hi l))) := by
  refine CallsS.pure ?_
  have hsm := h.small
  obtain ⟨pa, pcap, rfl⟩ := h.len
  refine enter Tryz.func121 Tryz.ntmps121 rfl rfl ?_
  refine SWP_seq (SWP_region ?_)
  refine pB rfl rfl ?_
  refine SL_nil (nx (SWP_seq (SWP_seq (SWP_region ?_))))
  refine pI rfl rfl ?_
  refine SL_nil (nx (SWP_block ?_))
  refine SWP_loop [4, 5, 6, 7, 8, 9, 10, 11, 12, 13, 14, 15, 16, 17, 18, 19, 20, 21, 22, 23, 24] [5]
      (fun vs σ' m' => ∃ (i : Nat), vs = [.int .i64 (i : Nat)] ∧ i ≤ l.length ∧ allIn 1 hi (l.take i) ∧ σ' = [] ∧ m = m')
      (fun vs => l.length - nOf (vs.getD 0 undef)) rfl ?_ ?_
  · exact ⟨0, rfl, by omega, fun x h => (by cases h), rfl, rfl⟩
  intro u0 vs0 σ0 m0 hJ0 _
  obtain ⟨i, rfl, hi, hall, rfl, rfl⟩ := hJ0
  refine SWP_seq (SWP_seq (SWP_region ?_))
  first | refine pI rfl rfl ?_ | refine pu rfl rfl ?_
  first | refine pL rfl rfl ?_ | refine pu rfl rfl ?_
  refine pu rfl rfl ?_
  refine pc rfl rfl (fun c9 => ?_) (fun c9 => ?_)
  · skip
    refine SL_nil (nx (SWP_ct rfl (SWP_skip (nx (SWP_seq (SWP_block (SWP_seq ?_)))))))
    obtain ⟨x, hx⟩ : ∃ x, l[i]? = some x := ⟨_, List.getElem?_eq_getElem (by omega)⟩
    obtain ⟨ad, e0, _, hat⟩ := h.atI hx
    cases e0
    refine SWP_region ?_
    first | refine pL rfl rfl ?_ | refine pu rfl rfl ?_
    first | refine pI rfl rfl ?_ | refine pu rfl rfl ?_
    first | refine ia (es := 1) rfl rfl rfl (Nat.mul_one _) rfl rfl (by omega) rfl ?_ | refine iai (es := 1) rfl rfl rfl (Nat.mul_one _) rfl rfl (by omega) (by omega) rfl ?_
    refine ldA (v := .int .i64 _) rfl (by assumption) rfl rfl ?_
    refine pc rfl rfl (fun c16 => ?_) (fun c16 => ?_)
    · skip
      refine pB rfl rfl ?_
      refine SL_no rfl rfl ?_
      refine SL_no rfl rfl ?_
      refine SL_no rfl rfl ?_
      refine SL_no rfl rfl ?_
      refine SL_no rfl rfl ?_
      refine SL_no rfl rfl ?_
      refine pB rfl rfl ?_
      refine SL_nil (nx (SWP_ct rfl (SWP_seq (SWP_region ?_))))
      refine pB rfl rfl ?_
      refine SL_nil (nx (SWP_ret (br (nr (nr (br (nr ?_)))))))
      refine fin [_] ⟨rfl, trivial⟩ ?_
      first | exact congrArg Value.bool (decide_eq_false fun h => by have := h x (List.mem_of_getElem? hx); omega).symm | (refine congrArg Value.bool (decide_eq_true ?_).symm; rw [List.take_of_length_le (by omega)] at hall; exact hall)
    refine pB rfl rfl ?_
    refine SL_yes rfl ?_
    first | refine pL rfl rfl ?_ | refine pu rfl rfl ?_
    refine SL_yes rfl ?_
    first | refine pI rfl rfl ?_ | refine pu rfl rfl ?_
    refine SL_yes rfl ?_
    first | refine ia (es := 1) rfl rfl rfl (Nat.mul_one _) rfl rfl (by omega) rfl ?_ | refine iai (es := 1) rfl rfl rfl (Nat.mul_one _) rfl rfl (by omega) (by omega) rfl ?_
    refine SL_yes rfl ?_
    refine ldA (v := .int .i64 _) rfl (by assumption) rfl rfl ?_
    refine SL_yes rfl ?_
    first | refine pI rfl rfl ?_ | refine pu rfl rfl ?_
    refine SL_yes rfl ?_
    refine pc rfl rfl (fun c23 => ?_) (fun c23 => ?_)
    · skip
      refine pB rfl rfl ?_
      refine SL_nil (nx (SWP_ct rfl (SWP_seq (SWP_region ?_))))
      refine pB rfl rfl ?_
      refine SL_nil (nx (SWP_ret (br (nr (nr (br (nr ?_)))))))
      refine fin [_] ⟨rfl, trivial⟩ ?_
      first | exact congrArg Value.bool (decide_eq_false fun h => by have := h x (List.mem_of_getElem? hx); omega).symm | (refine congrArg Value.bool (decide_eq_true ?_).symm; rw [List.take_of_length_le (by omega)] at hall; exact hall)
    refine pB rfl rfl ?_
    refine SL_nil (nx (SWP_cf rfl (SWP_skip (nb (nx (SWP_region ?_))))))
    first | refine pI rfl rfl ?_ | refine pu rfl rfl ?_
    first | refine pw rfl rfl (w64 (by omega) (by omega)) ?_ | refine pu rfl rfl ?_
    refine pI rfl rfl ?_
    refine SL_nil (nx ?_)
    refine ⟨by repeat (first | exact Under.upds rfl (Under.hav _ _ _) | exact Under.hav _ _ _ | refine Under.upd rfl ?_), ?_, ?_⟩
    · exact ⟨i + 1, rfl, by omega, allIn_snoc hx hall (by omega), rfl, rfl⟩
    · simp only [L_vals, List.map, List.getD]; show l.length - (i + 1) < l.length - i; omega
  refine SL_nil (nx (SWP_cf rfl (SWP_exit (ne (ne (be rfl (nx (SWP_seq (SWP_region ?_)))))))))
  refine pB rfl rfl ?_
  refine SL_nil (nx (SWP_ret ?_))
  refine fin [_] ⟨rfl, trivial⟩ ?_
  first | exact congrArg Value.bool (decide_eq_false fun h => by have := h x (List.mem_of_getElem? hx); omega).symm | (refine congrArg Value.bool (decide_eq_true ?_).symm; rw [List.take_of_length_le (by omega)] at hall; exact hall)
theorem repeatedS {m : Mem} {v : Value} {l : List Int} (h : RL m intE 1 v l) (hin : allIn 1 80 l) : PureCall Tryz.prog 142 [v] m (.bool (decide (¬ l.Nodup))) := by
  refine CallsS.pure ?_
  have hsm := h.small
  obtain ⟨pa, pcap, rfl⟩ := h.len
  refine enter Tryz.func142 Tryz.ntmps142 rfl rfl ?_
  refine SWP_seq (SWP_region ?_)
  refine pB rfl rfl ?_
  refine SL_nil (nx (SWP_seq (SWP_region ?_)))
  refine al rfl rfl (fun B3 => ?_)
  refine SL_nil (nx (SWP_seq (SWP_seq (SWP_region ?_))))
  first | refine pL rfl rfl ?_ | refine pu rfl rfl ?_
  refine pu rfl rfl ?_
  refine pI rfl rfl ?_
  refine SL_nil (nx (SWP_block ?_))
  refine SWP_loop [2, 5, 8, 9, 10, 11, 12, 13, 14, 15, 16, 17] [8]
      (fun vs σ' m' => ∃ (i : Nat), vs = [.int .i64 (i : Nat)] ∧ i ≤ l.length ∧ (l.take i).Nodup ∧ σ' = [(B3, Cells 174 (seenC (l.take i)))] ∧ m = m')
      (fun vs => l.length - nOf (vs.getD 0 undef)) rfl ?_ ?_
  · exact ⟨0, rfl, by omega, by simp, rfl, rfl⟩
  intro u0 vs0 σ0 m0 hJ0 _
  obtain ⟨i, rfl, hi, hnd, rfl, rfl⟩ := hJ0
  refine SWP_seq (SWP_region ?_)
  refine pc rfl rfl (fun c9 => ?_) (fun c9 => ?_)
  · skip
    refine SL_nil (nx (SWP_seq (SWP_ct rfl (SWP_skip (nx (SWP_seq (SWP_block (SWP_seq ?_))))))))
    obtain ⟨x, hx⟩ : ∃ x, l[i]? = some x := ⟨_, List.getElem?_eq_getElem (by omega)⟩
    obtain ⟨ad, e0, _, hat⟩ := h.atI hx
    cases e0
    have hxi := hin x (List.mem_of_getElem? hx)
    refine SWP_region ?_
    first | refine ia (es := 1) rfl rfl rfl (Nat.mul_one _) rfl rfl (by omega) rfl ?_ | refine iai (es := 1) rfl rfl rfl (Nat.mul_one _) rfl rfl (by omega) (by omega) rfl ?_
    refine ldA (v := .int .i64 _) rfl (by assumption) rfl rfl ?_
    refine pI rfl rfl ?_
    refine SL_nil (nx (SWP_seq (SWP_seq (SWP_region ?_))))
    refine pI rfl rfl ?_
    refine iari (es := 1) rfl rfl rfl (Nat.mul_one _) rfl rfl (by omega) (by omega) rfl ?_
    refine ld (p := ⟨B3, 0, none⟩) (off := x.toNat) (v := .bool (decide (x ∈ l.take i))) (Rd.of_cells (.head _)) rfl rfl (by show (seenC (l.take i))[x.toNat]? = _; rw [seenC_at _ (by omega), Int.toNat_of_nonneg (by omega)]) rfl ?_
    refine psp 14 rfl (fun c14 => ?_) (fun c14 => ?_)
    · skip
      refine SL_nil (nx (SWP_ct rfl (SWP_seq (SWP_region ?_))))
      refine pB rfl rfl ?_
      refine SL_nil (nx (SWP_ret (nr (br (nr (nr (br (nr ?_))))))))
      refine fin [_] ⟨rfl, trivial⟩ ?_
      exact congrArg Value.bool (decide_eq_true (not_nodup_take hx (by assumption))).symm
    refine SL_nil (nx (SWP_cf rfl (SWP_skip (nx (SWP_region ?_)))))
    refine pI rfl rfl ?_
    refine iari (es := 1) rfl rfl rfl (Nat.mul_one _) rfl rfl (by omega) (by omega) rfl ?_
    refine st1 (off := x.toNat) (σ₁ := []) rfl rfl rfl rfl rfl rfl rfl (by rw [seenC_len]; omega) rfl ?_
    refine SL_nil (nb (nx (SWP_region ?_)))
    first | refine pw rfl rfl (w64 (by omega) (by omega)) ?_ | refine pu rfl rfl ?_
    refine pI rfl rfl ?_
    refine SL_nil (nx ?_)
    refine ⟨by repeat (first | exact Under.upds rfl (Under.hav _ _ _) | exact Under.hav _ _ _ | refine Under.upd rfl ?_), ?_, ?_⟩
    · refine ⟨i + 1, rfl, by omega, (nodup_snoc hx).2 ⟨hnd, by assumption⟩, ?_, rfl⟩
      rw [take_snocA hx, ← seenC_set (by omega) (by omega)]; rfl
    · simp only [L_vals, List.map, List.getD]; show l.length - (i + 1) < l.length - i; omega
  refine SL_nil (nx (SWP_seq (SWP_cf rfl (SWP_exit (ne (ne (be rfl (nx (SWP_seq (SWP_region ?_))))))))))
  first | refine pB rfl rfl ?_ | refine pu rfl rfl ?_
  refine SL_nil (nx (SWP_ret ?_))
  refine fin [_] ⟨rfl, trivial⟩ ?_
  refine congrArg Value.bool (decide_eq_false ?_).symm
  rw [List.take_of_length_le (by omega)] at hnd
  exact Classical.not_not.2 hnd
theorem twiceS {m : Mem} {v : Value} {l : List Int} (h : RL m intE 1 v l) : PureCall Tryz.prog 122 [v] m (.bool (decide (¬ l.Nodup))) := by
  refine CallsS.pure ?_
  have hsm := h.small
  obtain ⟨pa, pcap, rfl⟩ := h.len
  refine enter Tryz.func122 Tryz.ntmps122 rfl rfl ?_
  refine SWP_seq (SWP_region ?_)
  refine pB rfl rfl ?_
  refine SL_nil (nx (SWP_seq (SWP_seq (SWP_region ?_))))
  refine pI rfl rfl ?_
  refine SL_nil (nx (SWP_block ?_))
  refine SWP_loop [2, 3, 4, 5, 6, 7, 8, 9, 10, 11, 12, 13, 14, 15, 16, 17, 18, 19, 20, 21, 22, 23, 24] [3]
      (fun vs σ' m' => ∃ (i : Nat), vs = [.int .i64 (i : Nat)] ∧ i ≤ l.length ∧ (l.take i).Nodup ∧ σ' = [] ∧ m = m')
      (fun vs => l.length - nOf (vs.getD 0 undef)) rfl ?_ ?_
  · exact ⟨0, rfl, by omega, by simp, rfl, rfl⟩
  intro u0 vs0 σ0 m0 hJ0 _
  obtain ⟨i, rfl, hi, hnd, rfl, rfl⟩ := hJ0
  refine SWP_seq (SWP_seq (SWP_region ?_))
  first | refine pI rfl rfl ?_ | refine pu rfl rfl ?_
  first | refine pL rfl rfl ?_ | refine pu rfl rfl ?_
  refine pu rfl rfl ?_
  refine pc rfl rfl (fun c8 => ?_) (fun c8 => ?_)
  · skip
    refine SL_nil (nx (SWP_ct rfl (SWP_skip (nx (SWP_seq (SWP_block (SWP_seq ?_)))))))
    obtain ⟨x, hx⟩ : ∃ x, l[i]? = some x := ⟨_, List.getElem?_eq_getElem (by omega)⟩
    obtain ⟨ad, e0, _, hat⟩ := h.atI hx
    cases e0
    refine SWP_region ?_
    refine pI rfl rfl ?_
    refine SL_nil (nx (SWP_block ?_))
    refine SWP_loop [2, 4, 11, 12, 13, 14, 15, 16, 17, 18, 19, 20, 21, 22, 23, 24] [4]
        (fun vs σ' m' => ∃ (k : Nat), vs = [.int .i64 (k : Nat)] ∧ k ≤ i ∧ x ∉ (l.take i).take k ∧ σ' = [] ∧ m = m')
        (fun vs => i - nOf (vs.getD 0 undef)) rfl ?_ ?_
    · exact ⟨0, rfl, by omega, by simp, rfl, rfl⟩
    intro u1 vs1 σ1 m1 hJ1 _
    obtain ⟨k, rfl, hk, hno, rfl, rfl⟩ := hJ1
    refine SWP_seq (SWP_seq (SWP_region ?_))
    first | refine pI rfl rfl ?_ | refine pu rfl rfl ?_
    first | refine pI rfl rfl ?_ | refine pu rfl rfl ?_
    refine pc rfl rfl (fun c13 => ?_) (fun c13 => ?_)
    · skip
      refine SL_nil (nx (SWP_ct rfl (SWP_skip (nx (SWP_seq (SWP_block (SWP_seq ?_)))))))
      obtain ⟨y, hy⟩ : ∃ y, l[k]? = some y := ⟨_, List.getElem?_eq_getElem (by omega)⟩
      have hy' : (l.take i)[k]? = some y := by rw [List.getElem?_take, if_pos (by omega)]; exact hy
      obtain ⟨ad2, e2, _, hat2⟩ := h.atI hy
      cases e2
      refine SWP_draws (by kernel_rfl) (by kernel_rfl) ?_
      first | refine pL rfl rfl ?_ | refine pu rfl rfl ?_
      first | refine pI rfl rfl ?_ | refine pu rfl rfl ?_
      first | refine ia (es := 1) rfl rfl rfl (Nat.mul_one _) rfl rfl (by omega) rfl ?_ | refine iai (es := 1) rfl rfl rfl (Nat.mul_one _) rfl rfl (by omega) (by omega) rfl ?_
      refine ldA (v := .int .i64 _) rfl (by assumption) rfl rfl ?_
      first | refine pL rfl rfl ?_ | refine pu rfl rfl ?_
      first | refine pI rfl rfl ?_ | refine pu rfl rfl ?_
      first | refine ia (es := 1) rfl rfl rfl (Nat.mul_one _) rfl rfl (by omega) rfl ?_ | refine iai (es := 1) rfl rfl rfl (Nat.mul_one _) rfl rfl (by omega) (by omega) rfl ?_
      refine ldA (v := .int .i64 _) rfl (by assumption) rfl rfl ?_
      refine pc rfl rfl (fun c24 => ?_) (fun c24 => ?_)
      · skip
        refine SL_nil (nx (SWP_ct rfl (SWP_seq (SWP_region ?_))))
        refine pB rfl rfl ?_
        refine SL_nil (nx (SWP_ret (br (nr (nr (br (br (nr (nr (br (nr ?_)))))))))))
        refine fin [_] ⟨rfl, trivial⟩ ?_
        exact congrArg Value.bool (decide_eq_true (not_nodup_take hx (by rw [← c24]; exact List.mem_of_getElem? hy'))).symm
      refine SL_nil (nx (SWP_cf rfl (SWP_skip (nb (nx (SWP_region ?_))))))
      first | refine pI rfl rfl ?_ | refine pu rfl rfl ?_
      first | refine pw rfl rfl (w64 (by omega) (by omega)) ?_ | refine pu rfl rfl ?_
      refine pI rfl rfl ?_
      refine SL_nil (nx ?_)
      refine ⟨by repeat (first | exact Under.upds rfl (Under.hav _ _ _) | exact Under.hav _ _ _ | refine Under.upd rfl ?_ | refine Under.upds rfl ?_ | refine Under.hav2 rfl ?_), ?_, ?_⟩
      · refine ⟨k + 1, rfl, by omega, fun hm => ?_, rfl, rfl⟩
        rw [take_snocA hy'] at hm
        rcases List.mem_append.1 hm with hm | hm
        · exact hno hm
        · rw [List.mem_singleton] at hm; exact c24 hm.symm
      · simp only [L_vals, List.map, List.getD]; show i - (k + 1) < i - k; omega
    refine SL_nil (nx (SWP_cf rfl (SWP_exit (ne (ne (be rfl (nb (nx (SWP_region ?_)))))))))
    first | refine pI rfl rfl ?_ | refine pu rfl rfl ?_
    first | refine pw rfl rfl (w64 (by omega) (by omega)) ?_ | refine pu rfl rfl ?_
    refine pI rfl rfl ?_
    refine SL_nil (nx ?_)
    refine ⟨by repeat (first | exact Under.upds rfl (Under.hav _ _ _) | exact Under.hav _ _ _ | refine Under.upd rfl ?_ | refine Under.upds rfl ?_ | refine Under.hav2 rfl ?_), ?_, ?_⟩
    · rw [show k = i by omega, List.take_take, Nat.min_self] at hno
      exact ⟨i + 1, rfl, by omega, (nodup_snoc hx).2 ⟨hnd, hno⟩, rfl, rfl⟩
    · simp only [L_vals, List.map, List.getD]; show l.length - (i + 1) < l.length - i; omega
  refine SL_nil (nx (SWP_cf rfl (SWP_exit (ne (ne (be rfl (nx (SWP_seq (SWP_region ?_)))))))))
  refine pB rfl rfl ?_
  refine SL_nil (nx (SWP_ret ?_))
  refine fin [_] ⟨rfl, trivial⟩ ?_
  refine congrArg Value.bool (decide_eq_false ?_).symm
  rw [List.take_of_length_le (by omega)] at hnd
  exact Classical.not_not.2 hnd
set_option maxRecDepth 100000 in
theorem validS {m : Mem} {g : Game} (hin : g.In m) : PureCall Tryz.prog 140 [g.val] m (.int .i64 (sysG g)) := by
  refine CallsS.pure ?_
  dsimp only [Game.val]
  refine enter Tryz.func140 Tryz.ntmps140 rfl rfl ?_
  refine SWP_seq (SWP_region ?_)
  refine bx (v := .agg _) rfl rfl (fun B1 => ?_)
  refine pI rfl rfl ?_
  refine SL_nil (nx (SWP_seq (SWP_seq (SWP_region ?_))))
  refine lw (v := .agg _) B1 0 rfl rfl rfl rfl ?_
  refine SL_call rfl rfl cb19 (CallsS.frame0 (countG hin)) rfl (fun v1_1 σ1_1 m1_1 hl1_1 hR1_1 => ?_)
  obtain ⟨σc, rfl, rfl, hm1_1, z0, rfl⟩ := hR1_1
  have hn1_1 := hm1_1.symm
  subst hn1_1
  refine pu rfl rfl ?_
  first | refine pI rfl rfl ?_ | refine pu rfl rfl ?_
  first | refine pI rfl rfl ?_ | refine pu rfl rfl ?_
  first | refine pI rfl rfl ?_ | refine pu rfl rfl ?_
  first | refine pI rfl rfl ?_ | refine pu rfl rfl ?_
  refine SL_nil (nx (SWP_seq (SWP_region ?_)))
  first | refine pI rfl rfl ?_ | refine pu rfl rfl ?_
  refine pc rfl rfl (fun c11 => ?_) (fun c11 => ?_)
  · skip
    refine SL_nil (nx (SWP_ct rfl (SWP_seq (SWP_region ?_))))
    first | refine pI rfl rfl ?_ | refine pu rfl rfl ?_
    first | refine pI rfl rfl ?_ | refine pu rfl rfl ?_
    refine SL_nil (nx (SWP_ret (nr ?_)))
    refine fin [_] ⟨rfl, trivial⟩ ?_
    refine congrArg (Value.int .i64) ?_
    exact (if_pos (by assumption)).symm
  refine SL_nil (nx (SWP_cf rfl (SWP_skip (nx (SWP_seq (SWP_seq ?_))))))
  have hz : gameErr g = 0 := Classical.not_not.1 (by assumption)
  refine SWP_region ?_
  refine pu rfl rfl ?_
  refine lw (v := .int .i64 _) B1 1 rfl rfl rfl rfl ?_
  refine pc rfl rfl (fun c15 => ?_) (fun c15 => ?_)
  · skip
    refine SL_nil (nx (SWP_ct rfl (SWP_seq (SWP_region ?_))))
    refine pI rfl rfl ?_
    refine SL_nil (nx (SWP_ret (nr ?_)))
    refine fin [_] ⟨rfl, trivial⟩ ?_
    refine congrArg (Value.int .i64) ?_
    exact ((if_neg (fun hh => hh hz)).trans (if_pos (by assumption))).symm
  refine SL_nil (nx (SWP_cf rfl (SWP_skip (nx (SWP_seq (SWP_region ?_))))))
  refine pI rfl rfl ?_
  refine SL_nil (nx (SWP_ret ?_))
  refine fin [_] ⟨rfl, trivial⟩ ?_
  refine congrArg (Value.int .i64) ?_
  exact ((if_neg (fun hh => hh hz)).trans (if_neg (by assumption))).symm
set_option maxRecDepth 100000 in
theorem gameS {m : Mem} {g : Game} (hin : g.In m) : PureCall Tryz.prog 120 [g.val] m (.int .i64 (sysG g)) := by
  refine CallsS.pure ?_
  dsimp only [Game.val]
  refine enter Tryz.func120 Tryz.ntmps120 rfl rfl ?_
  refine SWP_seq (SWP_region ?_)
  refine bx (v := .agg _) rfl rfl (fun B1 => ?_)
  refine pI rfl rfl ?_
  refine SL_nil (nx (SWP_seq (SWP_region ?_)))
  refine lw (v := .agg _) B1 0 rfl rfl rfl rfl ?_
  refine SL_call rfl rfl cb17 (CallsS.frame0 (checkR hin)) rfl (fun v1_1 σ1_1 m1_1 hl1_1 hR1_1 => ?_)
  obtain ⟨σc, rfl, rfl, hm1_1, s0, rfl⟩ := hR1_1
  have hn1_1 := hm1_1.symm
  subst hn1_1
  refine pu rfl rfl ?_
  first | refine pI rfl rfl ?_ | refine pu rfl rfl ?_
  first | refine pS rfl rfl ?_ | refine pu rfl rfl ?_
  first | refine pI rfl rfl ?_ | refine pu rfl rfl ?_
  first | refine pS rfl rfl ?_ | refine pu rfl rfl ?_
  refine SL_nil (nx (SWP_seq (SWP_seq (SWP_region ?_))))
  first | refine pI rfl rfl ?_ | refine pu rfl rfl ?_
  refine pc rfl rfl (fun c11 => ?_) (fun c11 => ?_)
  · skip
    refine pB rfl rfl ?_
    refine SL_yes rfl ?_
    refine pu rfl rfl ?_
    refine SL_yes rfl ?_
    refine lw (v := .int .i64 _) B1 1 rfl rfl rfl rfl ?_
    refine SL_yes rfl ?_
    refine pc rfl rfl (fun c15 => ?_) (fun c15 => ?_)
    · skip
      refine pB rfl rfl ?_
      refine SL_nil (nx (SWP_ct rfl (SWP_seq (SWP_region ?_))))
      refine pI rfl rfl ?_
      refine SL_nil (nx (SWP_ret (nr ?_)))
      refine fin [_] ⟨rfl, trivial⟩ ?_
      refine congrArg (Value.int .i64) ?_
      unfold sysG
      first
        | exact ((if_neg (by omega)).trans (if_pos (by assumption))).symm
        | exact (if_pos (by assumption)).symm
        | exact Eq.trans (b := 0) (by assumption) ((if_neg (by omega)).trans (if_neg (by assumption))).symm
    refine pB rfl rfl ?_
    refine SL_nil (nx (SWP_cf rfl (SWP_skip (nx (SWP_seq (SWP_region ?_))))))
    first | refine pI rfl rfl ?_ | refine pu rfl rfl ?_
    first | refine pI rfl rfl ?_ | refine pu rfl rfl ?_
    refine SL_nil (nx (SWP_ret ?_))
    refine fin [_] ⟨rfl, trivial⟩ ?_
    refine congrArg (Value.int .i64) ?_
    unfold sysG
    first
      | exact ((if_neg (by omega)).trans (if_pos (by assumption))).symm
      | exact (if_pos (by assumption)).symm
      | exact Eq.trans (b := 0) (by assumption) ((if_neg (by omega)).trans (if_neg (by assumption))).symm
  refine pB rfl rfl ?_
  refine SL_no rfl rfl ?_
  refine SL_no rfl rfl ?_
  refine SL_no rfl rfl ?_
  refine pB rfl rfl ?_
  refine SL_nil (nx (SWP_cf rfl (SWP_skip (nx (SWP_seq (SWP_region ?_))))))
  first | refine pI rfl rfl ?_ | refine pu rfl rfl ?_
  first | refine pI rfl rfl ?_ | refine pu rfl rfl ?_
  refine SL_nil (nx (SWP_ret ?_))
  refine fin [_] ⟨rfl, trivial⟩ ?_
  refine congrArg (Value.int .i64) ?_
  unfold sysG
  first
    | exact ((if_neg (by omega)).trans (if_pos (by assumption))).symm
    | exact (if_pos (by assumption)).symm
    | exact Eq.trans (b := 0) (by assumption) ((if_neg (by omega)).trans (if_neg (by assumption))).symm
set_option maxRecDepth 100000 in
theorem sysI {m : Mem} {g : Game} {l : Line} (hin : g.In m) (hl : l.In m) : PureCall Tryz.prog 109 [g.val, l.val] m (.int .i64 (sysErr g l)) := by
  refine CallsS.pure ?_
  dsimp only [Game.val, Line.val]
  refine enter Tryz.func109 Tryz.ntmps109 rfl rfl ?_
  refine SWP_seq (SWP_region ?_)
  refine bx (v := .agg _) rfl rfl (fun B2 => ?_)
  refine bx (v := .agg _) rfl rfl (fun B3 => ?_)
  refine pI rfl rfl ?_
  refine SL_nil (nx ?_)
  refine SWP_merge1 [4, 5, 6, 7, 8, 9, 10] []
      (fun vs σ' m' => vs = [] ∧ sysG g = 0 ∧ σ' = [(B3, Cells 50 l.enc), (B2, Cells 25 g.enc)] ∧ m = m')
      rfl ?_ ?_
  · skip
    refine SWP_seq (SWP_region ?_)
    refine lw (v := .agg _) B2 0 rfl rfl rfl rfl ?_
    refine SL_pcall rfl rfl cb140 (validS hin) rfl ?_
    first | refine pI rfl rfl ?_ | refine pu rfl rfl ?_
    refine SL_nil (nx (SWP_seq (SWP_region ?_)))
    first | refine pI rfl rfl ?_ | refine pu rfl rfl ?_
    refine pc rfl rfl (fun c9 => ?_) (fun c9 => ?_)
    · skip
      refine SL_nil (nx (SWP_ct rfl (SWP_seq (SWP_region ?_))))
      first | refine pI rfl rfl ?_ | refine pu rfl rfl ?_
      first | refine pI rfl rfl ?_ | refine pu rfl rfl ?_
      refine SL_nil (nx (SWP_ret (nr ?_)))
      refine fin [_] ⟨rfl, trivial⟩ ?_
      refine congrArg (Value.int .i64) ?_
      unfold sysErr
      first
        | exact (if_pos (by assumption)).symm
        | exact ((if_neg (fun hh => hh hs0)).trans (if_pos (by omega))).symm
        | exact ((if_neg (fun hh => hh hs0)).trans ((if_neg (fun hh => hh hm1)).trans (if_pos (fun hh => by first | exact absurd hh.1 (by assumption) | exact absurd hh.2 (by assumption))))).symm
        | exact ((if_neg (fun hh => hh hs0)).trans ((if_neg (fun hh => hh hm1)).trans ((if_neg (fun hh => hh hai)).trans (if_pos (fun hh => by first | exact absurd hh.1 (by assumption) | exact absurd hh.2 (by assumption)))))).symm
        | exact ((if_neg (fun hh => hh hs0)).trans ((if_neg (fun hh => hh hm1)).trans ((if_neg (fun hh => hh hai)).trans (if_neg (fun hh => hh ⟨Classical.not_not.1 (by assumption), Classical.not_not.1 (by assumption)⟩))))).symm
    refine SL_nil (nx (SWP_cf rfl (SWP_skip (nx ?_))))
    refine ⟨by repeat (first | with_reducible exact Under.refl _ _ | exact Under.upds rfl (Under.hav _ _ _) | exact Under.hav _ _ _ | refine Under.upd rfl ?_ | refine Under.upds rfl ?_ | refine Under.hav2 rfl ?_), ?_⟩
    exact ⟨rfl, by omega, rfl, rfl⟩
  intro uM0 vM0 σM0 mM0 hM0 _
  obtain ⟨rfl, hs0, rfl, rfl⟩ := hM0
  have hok := gameOk (sysG_ok hs0).1
  have hkk := (sysG_ok hs0).2
  have q2 := hok.mx.h2
  have q4 := hok.mx.h4 (by omega)
  have q5 := hok.mx.h5
  have q8 := hok.mx.h8
  have q9 := hok.mx.h9
  have hbo : g.bonusOf ≤ 80 := by omega
  dsimp only [Line.enc, Game.enc]
  refine SWP_merge1 [4, 11, 12, 13, 14, 15, 16, 17, 18, 19, 20, 21, 22, 23, 24, 25, 26, 27, 28, 29, 30, 31, 32, 33] []
      (fun vs σ' m' => vs = [] ∧ ((g.main < l.main.length ∧ (l.main.length : Int) ≤ g.system) ∧ (l.bonus.length : Int) = g.bonus) ∧ σ' = [(B3, Cells 50 l.enc), (B2, Cells 25 g.enc)] ∧ m = m')
      rfl ?_ ?_
  · skip
    refine SWP_seq (SWP_region ?_)
    refine pu rfl rfl ?_
    refine lw (v := .slice _ _ _) B3 0 rfl rfl rfl rfl ?_
    refine pu rfl rfl ?_
    refine pu rfl rfl ?_
    refine lw (v := .int .i64 _) B2 3 rfl rfl rfl rfl ?_
    refine pw rfl rfl (w64 (by omega) (by omega)) ?_
    refine pc rfl rfl (fun c17 => ?_) (fun c17 => ?_)
    · skip
      refine pB rfl rfl ?_
      refine SL_no rfl rfl ?_
      refine SL_no rfl rfl ?_
      refine SL_no rfl rfl ?_
      refine SL_no rfl rfl ?_
      refine SL_no rfl rfl ?_
      refine SL_no rfl rfl ?_
      refine pB rfl rfl ?_
      refine pB rfl rfl ?_
      refine SL_no rfl rfl ?_
      refine SL_no rfl rfl ?_
      refine SL_no rfl rfl ?_
      refine SL_no rfl rfl ?_
      refine SL_no rfl rfl ?_
      refine SL_no rfl rfl ?_
      refine pB rfl rfl ?_
      refine SL_nil (nx (SWP_ct rfl (SWP_seq (SWP_region ?_))))
      refine pI rfl rfl ?_
      refine SL_nil (nx (SWP_ret (nr ?_)))
      refine fin [_] ⟨rfl, trivial⟩ ?_
      refine congrArg (Value.int .i64) ?_
      unfold sysErr
      first
        | exact (if_pos (by assumption)).symm
        | exact ((if_neg (fun hh => hh hs0)).trans (if_pos (by omega))).symm
        | exact ((if_neg (fun hh => hh hs0)).trans ((if_neg (fun hh => hh hm1)).trans (if_pos (fun hh => by first | exact absurd hh.1 (by assumption) | exact absurd hh.2 (by assumption))))).symm
        | exact ((if_neg (fun hh => hh hs0)).trans ((if_neg (fun hh => hh hm1)).trans ((if_neg (fun hh => hh hai)).trans (if_pos (fun hh => by first | exact absurd hh.1 (by assumption) | exact absurd hh.2 (by assumption)))))).symm
        | exact ((if_neg (fun hh => hh hs0)).trans ((if_neg (fun hh => hh hm1)).trans ((if_neg (fun hh => hh hai)).trans (if_neg (fun hh => hh ⟨Classical.not_not.1 (by assumption), Classical.not_not.1 (by assumption)⟩))))).symm
    refine pB rfl rfl ?_
    refine SL_yes rfl ?_
    refine pu rfl rfl ?_
    refine SL_yes rfl ?_
    refine lw (v := .slice _ _ _) B3 0 rfl rfl rfl rfl ?_
    refine SL_yes rfl ?_
    refine pu rfl rfl ?_
    refine SL_yes rfl ?_
    refine pu rfl rfl ?_
    refine SL_yes rfl ?_
    refine lw (v := .int .i64 _) B2 9 rfl rfl rfl rfl ?_
    refine SL_yes rfl ?_
    refine pc rfl rfl (fun c24 => ?_) (fun c24 => ?_)
    · skip
      refine pB rfl rfl ?_
      refine pB rfl rfl ?_
      refine SL_no rfl rfl ?_
      refine SL_no rfl rfl ?_
      refine SL_no rfl rfl ?_
      refine SL_no rfl rfl ?_
      refine SL_no rfl rfl ?_
      refine SL_no rfl rfl ?_
      refine pB rfl rfl ?_
      refine SL_nil (nx (SWP_ct rfl (SWP_seq (SWP_region ?_))))
      refine pI rfl rfl ?_
      refine SL_nil (nx (SWP_ret (nr ?_)))
      refine fin [_] ⟨rfl, trivial⟩ ?_
      refine congrArg (Value.int .i64) ?_
      unfold sysErr
      first
        | exact (if_pos (by assumption)).symm
        | exact ((if_neg (fun hh => hh hs0)).trans (if_pos (by omega))).symm
        | exact ((if_neg (fun hh => hh hs0)).trans ((if_neg (fun hh => hh hm1)).trans (if_pos (fun hh => by first | exact absurd hh.1 (by assumption) | exact absurd hh.2 (by assumption))))).symm
        | exact ((if_neg (fun hh => hh hs0)).trans ((if_neg (fun hh => hh hm1)).trans ((if_neg (fun hh => hh hai)).trans (if_pos (fun hh => by first | exact absurd hh.1 (by assumption) | exact absurd hh.2 (by assumption)))))).symm
        | exact ((if_neg (fun hh => hh hs0)).trans ((if_neg (fun hh => hh hm1)).trans ((if_neg (fun hh => hh hai)).trans (if_neg (fun hh => hh ⟨Classical.not_not.1 (by assumption), Classical.not_not.1 (by assumption)⟩))))).symm
    refine pB rfl rfl ?_
    refine pB rfl rfl ?_
    refine SL_yes rfl ?_
    refine pu rfl rfl ?_
    refine SL_yes rfl ?_
    refine lw (v := .slice _ _ _) B3 1 rfl rfl rfl rfl ?_
    refine SL_yes rfl ?_
    refine pu rfl rfl ?_
    refine SL_yes rfl ?_
    refine pu rfl rfl ?_
    refine SL_yes rfl ?_
    refine lw (v := .int .i64 _) B2 5 rfl rfl rfl rfl ?_
    refine SL_yes rfl ?_
    refine pc rfl rfl (fun c32 => ?_) (fun c32 => ?_)
    · skip
      refine pB rfl rfl ?_
      refine SL_nil (nx (SWP_ct rfl (SWP_seq (SWP_region ?_))))
      refine pI rfl rfl ?_
      refine SL_nil (nx (SWP_ret (nr ?_)))
      refine fin [_] ⟨rfl, trivial⟩ ?_
      refine congrArg (Value.int .i64) ?_
      unfold sysErr
      first
        | exact (if_pos (by assumption)).symm
        | exact ((if_neg (fun hh => hh hs0)).trans (if_pos (by omega))).symm
        | exact ((if_neg (fun hh => hh hs0)).trans ((if_neg (fun hh => hh hm1)).trans (if_pos (fun hh => by first | exact absurd hh.1 (by assumption) | exact absurd hh.2 (by assumption))))).symm
        | exact ((if_neg (fun hh => hh hs0)).trans ((if_neg (fun hh => hh hm1)).trans ((if_neg (fun hh => hh hai)).trans (if_pos (fun hh => by first | exact absurd hh.1 (by assumption) | exact absurd hh.2 (by assumption)))))).symm
        | exact ((if_neg (fun hh => hh hs0)).trans ((if_neg (fun hh => hh hm1)).trans ((if_neg (fun hh => hh hai)).trans (if_neg (fun hh => hh ⟨Classical.not_not.1 (by assumption), Classical.not_not.1 (by assumption)⟩))))).symm
    refine pB rfl rfl ?_
    refine SL_nil (nx (SWP_cf rfl (SWP_skip (nx ?_))))
    refine ⟨by repeat (first | with_reducible exact Under.refl _ _ | exact Under.upds rfl (Under.hav _ _ _) | exact Under.hav _ _ _ | refine Under.upd rfl ?_ | refine Under.upds rfl ?_ | refine Under.hav2 rfl ?_), ?_⟩
    exact ⟨rfl, by omega, rfl, rfl⟩
  intro uM1 vM1 σM1 mM1 hM1 _
  obtain ⟨rfl, hm1, rfl, rfl⟩ := hM1
  dsimp only [Line.enc, Game.enc]
  refine SWP_merge1 [4, 34, 35, 36, 37, 38, 39, 40, 41, 42, 43, 44, 45, 46, 47] []
      (fun vs σ' m' => vs = [] ∧ (allIn 1 g.of l.main ∧ allIn 1 g.bonusOf l.bonus) ∧ σ' = [(B3, Cells 50 l.enc), (B2, Cells 25 g.enc)] ∧ m = m')
      rfl ?_ ?_
  · skip
    refine SWP_seq (SWP_region ?_)
    refine pu rfl rfl ?_
    refine lw (v := .slice _ _ _) B3 0 rfl rfl rfl rfl ?_
    refine pu rfl rfl ?_
    refine lw (v := .int .i64 _) B2 4 rfl rfl rfl rfl ?_
    refine SL_pcall rfl rfl cb141 (insideS hl.mn _) rfl ?_
    refine psp 38 rfl (fun c38 => ?_) (fun c38 => ?_)
    · skip
      refine pB rfl rfl ?_
      refine pB rfl rfl ?_
      refine SL_yes rfl ?_
      refine pu rfl rfl ?_
      refine SL_yes rfl ?_
      refine lw (v := .slice _ _ _) B3 1 rfl rfl rfl rfl ?_
      refine SL_yes rfl ?_
      refine pu rfl rfl ?_
      refine SL_yes rfl ?_
      refine lw (v := .int .i64 _) B2 6 rfl rfl rfl rfl ?_
      refine SL_yes rfl ?_
      refine SL_pcall rfl rfl cb141 (insideS hl.bn _) rfl ?_
      refine psp 45 rfl (fun c45 => ?_) (fun c45 => ?_)
      · skip
        refine SL_yes rfl ?_
        refine pB rfl rfl ?_
        refine pB rfl rfl ?_
        refine SL_nil (nx (SWP_cf rfl (SWP_skip (nx ?_))))
        refine ⟨by repeat (first | with_reducible exact Under.refl _ _ | exact Under.upds rfl (Under.hav _ _ _) | exact Under.hav _ _ _ | refine Under.upd rfl ?_ | refine Under.upds rfl ?_ | refine Under.hav2 rfl ?_), ?_⟩
        exact ⟨rfl, ⟨by assumption, by assumption⟩, rfl, rfl⟩
      refine SL_yes rfl ?_
      refine pB rfl rfl ?_
      refine pB rfl rfl ?_
      refine SL_nil (nx (SWP_ct rfl (SWP_seq (SWP_region ?_))))
      refine pI rfl rfl ?_
      refine SL_nil (nx (SWP_ret (nr ?_)))
      refine fin [_] ⟨rfl, trivial⟩ ?_
      refine congrArg (Value.int .i64) ?_
      unfold sysErr
      first
        | exact (if_pos (by assumption)).symm
        | exact ((if_neg (fun hh => hh hs0)).trans (if_pos (by omega))).symm
        | exact ((if_neg (fun hh => hh hs0)).trans ((if_neg (fun hh => hh hm1)).trans (if_pos (fun hh => by first | exact absurd hh.1 (by assumption) | exact absurd hh.2 (by assumption))))).symm
        | exact ((if_neg (fun hh => hh hs0)).trans ((if_neg (fun hh => hh hm1)).trans ((if_neg (fun hh => hh hai)).trans (if_pos (fun hh => by first | exact absurd hh.1 (by assumption) | exact absurd hh.2 (by assumption)))))).symm
        | exact ((if_neg (fun hh => hh hs0)).trans ((if_neg (fun hh => hh hm1)).trans ((if_neg (fun hh => hh hai)).trans (if_neg (fun hh => hh ⟨Classical.not_not.1 (by assumption), Classical.not_not.1 (by assumption)⟩))))).symm
    refine pB rfl rfl ?_
    refine pB rfl rfl ?_
    refine SL_no rfl rfl ?_
    refine SL_no rfl rfl ?_
    refine SL_no rfl rfl ?_
    refine SL_no rfl rfl ?_
    refine SL_no rfl rfl ?_
    refine SL_no rfl rfl ?_
    refine pB rfl rfl ?_
    refine SL_nil (nx (SWP_ct rfl (SWP_seq (SWP_region ?_))))
    refine pI rfl rfl ?_
    refine SL_nil (nx (SWP_ret (nr ?_)))
    refine fin [_] ⟨rfl, trivial⟩ ?_
    refine congrArg (Value.int .i64) ?_
    unfold sysErr
    first
      | exact (if_pos (by assumption)).symm
      | exact ((if_neg (fun hh => hh hs0)).trans (if_pos (by omega))).symm
      | exact ((if_neg (fun hh => hh hs0)).trans ((if_neg (fun hh => hh hm1)).trans (if_pos (fun hh => by first | exact absurd hh.1 (by assumption) | exact absurd hh.2 (by assumption))))).symm
      | exact ((if_neg (fun hh => hh hs0)).trans ((if_neg (fun hh => hh hm1)).trans ((if_neg (fun hh => hh hai)).trans (if_pos (fun hh => by first | exact absurd hh.1 (by assumption) | exact absurd hh.2 (by assumption)))))).symm
      | exact ((if_neg (fun hh => hh hs0)).trans ((if_neg (fun hh => hh hm1)).trans ((if_neg (fun hh => hh hai)).trans (if_neg (fun hh => hh ⟨Classical.not_not.1 (by assumption), Classical.not_not.1 (by assumption)⟩))))).symm
  intro uM2 vM2 σM2 mM2 hM2 _
  obtain ⟨rfl, hai, rfl, rfl⟩ := hM2
  dsimp only [Line.enc, Game.enc]
  refine SWP_seq (SWP_seq (SWP_region ?_))
  refine pu rfl rfl ?_
  refine lw (v := .slice _ _ _) B3 0 rfl rfl rfl rfl ?_
  refine SL_pcall rfl rfl cb142 (repeatedS hl.mn (fun y hy => ⟨(hai.1 y hy).1, by have := (hai.1 y hy).2; omega⟩)) rfl ?_
  refine psp 50 rfl (fun c50 => ?_) (fun c50 => ?_)
  · skip
    first | refine pB rfl rfl ?_ | refine pu rfl rfl ?_
    refine SL_no rfl rfl ?_
    refine SL_no rfl rfl ?_
    refine SL_no rfl rfl ?_
    refine pB rfl rfl ?_
    refine SL_nil (nx (SWP_ct rfl (SWP_seq (SWP_region ?_))))
    refine pI rfl rfl ?_
    refine SL_nil (nx (SWP_ret (nr ?_)))
    refine fin [_] ⟨rfl, trivial⟩ ?_
    refine congrArg (Value.int .i64) ?_
    unfold sysErr
    first
      | exact (if_pos (by assumption)).symm
      | exact ((if_neg (fun hh => hh hs0)).trans (if_pos (by omega))).symm
      | exact ((if_neg (fun hh => hh hs0)).trans ((if_neg (fun hh => hh hm1)).trans (if_pos (fun hh => by first | exact absurd hh.1 (by assumption) | exact absurd hh.2 (by assumption))))).symm
      | exact ((if_neg (fun hh => hh hs0)).trans ((if_neg (fun hh => hh hm1)).trans ((if_neg (fun hh => hh hai)).trans (if_pos (fun hh => by first | exact absurd hh.1 (by assumption) | exact absurd hh.2 (by assumption)))))).symm
      | exact ((if_neg (fun hh => hh hs0)).trans ((if_neg (fun hh => hh hm1)).trans ((if_neg (fun hh => hh hai)).trans (if_neg (fun hh => hh ⟨Classical.not_not.1 (by assumption), Classical.not_not.1 (by assumption)⟩))))).symm
  first | refine pB rfl rfl ?_ | refine pu rfl rfl ?_
  refine SL_yes rfl ?_
  refine pu rfl rfl ?_
  refine SL_yes rfl ?_
  refine lw (v := .slice _ _ _) B3 1 rfl rfl rfl rfl ?_
  refine SL_yes rfl ?_
  refine SL_pcall rfl rfl cb142 (repeatedS hl.bn (fun y hy => ⟨(hai.2 y hy).1, by have := (hai.2 y hy).2; omega⟩)) rfl ?_
  refine psp 54 rfl (fun c54 => ?_) (fun c54 => ?_)
  · skip
    refine pB rfl rfl ?_
    refine SL_nil (nx (SWP_ct rfl (SWP_seq (SWP_region ?_))))
    refine pI rfl rfl ?_
    refine SL_nil (nx (SWP_ret (nr ?_)))
    refine fin [_] ⟨rfl, trivial⟩ ?_
    refine congrArg (Value.int .i64) ?_
    unfold sysErr
    first
      | exact (if_pos (by assumption)).symm
      | exact ((if_neg (fun hh => hh hs0)).trans (if_pos (by omega))).symm
      | exact ((if_neg (fun hh => hh hs0)).trans ((if_neg (fun hh => hh hm1)).trans (if_pos (fun hh => by first | exact absurd hh.1 (by assumption) | exact absurd hh.2 (by assumption))))).symm
      | exact ((if_neg (fun hh => hh hs0)).trans ((if_neg (fun hh => hh hm1)).trans ((if_neg (fun hh => hh hai)).trans (if_pos (fun hh => by first | exact absurd hh.1 (by assumption) | exact absurd hh.2 (by assumption)))))).symm
      | exact ((if_neg (fun hh => hh hs0)).trans ((if_neg (fun hh => hh hm1)).trans ((if_neg (fun hh => hh hai)).trans (if_neg (fun hh => hh ⟨Classical.not_not.1 (by assumption), Classical.not_not.1 (by assumption)⟩))))).symm
  refine pB rfl rfl ?_
  refine SL_nil (nx (SWP_cf rfl (SWP_skip (nx (SWP_seq (SWP_region ?_))))))
  refine pI rfl rfl ?_
  refine SL_nil (nx (SWP_ret ?_))
  refine fin [_] ⟨rfl, trivial⟩ ?_
  refine congrArg (Value.int .i64) ?_
  unfold sysErr
  first
    | exact (if_pos (by assumption)).symm
    | exact ((if_neg (fun hh => hh hs0)).trans (if_pos (by omega))).symm
    | exact ((if_neg (fun hh => hh hs0)).trans ((if_neg (fun hh => hh hm1)).trans (if_pos (fun hh => by first | exact absurd hh.1 (by assumption) | exact absurd hh.2 (by assumption))))).symm
    | exact ((if_neg (fun hh => hh hs0)).trans ((if_neg (fun hh => hh hm1)).trans ((if_neg (fun hh => hh hai)).trans (if_pos (fun hh => by first | exact absurd hh.1 (by assumption) | exact absurd hh.2 (by assumption)))))).symm
    | exact ((if_neg (fun hh => hh hs0)).trans ((if_neg (fun hh => hh hm1)).trans ((if_neg (fun hh => hh hai)).trans (if_neg (fun hh => hh ⟨Classical.not_not.1 (by assumption), Classical.not_not.1 (by assumption)⟩))))).symm
set_option maxRecDepth 100000 in
theorem sysR {m : Mem} {g : Game} {l : Line} (hin : g.In m) (hl : l.In m) : PureCall Tryz.prog 90 [g.val, l.val] m (.int .i64 (sysErr g l)) := by
  refine CallsS.pure ?_
  dsimp only [Game.val, Line.val]
  refine enter Tryz.func90 Tryz.ntmps90 rfl rfl ?_
  refine SWP_seq (SWP_region ?_)
  refine bx (v := .agg _) rfl rfl (fun B2 => ?_)
  refine bx (v := .agg _) rfl rfl (fun B3 => ?_)
  refine pI rfl rfl ?_
  refine SL_nil (nx (SWP_seq (SWP_region ?_)))
  refine lw (v := .agg _) B2 0 rfl rfl rfl rfl ?_
  refine SL_pcall rfl rfl cb120 (gameS hin) rfl ?_
  first | refine pI rfl rfl ?_ | refine pu rfl rfl ?_
  refine SL_nil (nx ?_)
  refine SWP_merge1 [4, 8, 9, 10] []
      (fun vs σ' m' => vs = [] ∧ sysG g = 0 ∧ σ' = [(B3, Cells 50 l.enc), (B2, Cells 25 g.enc)] ∧ m = m')
      rfl ?_ ?_
  · skip
    refine SWP_seq (SWP_region ?_)
    first | refine pI rfl rfl ?_ | refine pu rfl rfl ?_
    refine pc rfl rfl (fun c9 => ?_) (fun c9 => ?_)
    · skip
      refine SL_nil (nx (SWP_ct rfl (SWP_seq (SWP_region ?_))))
      first | refine pI rfl rfl ?_ | refine pu rfl rfl ?_
      first | refine pI rfl rfl ?_ | refine pu rfl rfl ?_
      refine SL_nil (nx (SWP_ret (nr ?_)))
      refine fin [_] ⟨rfl, trivial⟩ ?_
      refine congrArg (Value.int .i64) ?_
      unfold sysErr
      first
        | exact (if_pos (by assumption)).symm
        | exact ((if_neg (fun hh => hh hs0)).trans (if_pos (by omega))).symm
        | exact ((if_neg (fun hh => hh hs0)).trans ((if_neg (fun hh => hh hm1)).trans (if_pos (fun hh => by first | exact absurd hh.1 (by assumption) | exact absurd hh.2 (by assumption))))).symm
        | exact ((if_neg (fun hh => hh hs0)).trans ((if_neg (fun hh => hh hm1)).trans ((if_neg (fun hh => hh hai)).trans (if_pos (fun hh => by first | exact absurd hh.1 (by assumption) | exact absurd hh.2 (by assumption)))))).symm
        | exact ((if_neg (fun hh => hh hs0)).trans ((if_neg (fun hh => hh hm1)).trans ((if_neg (fun hh => hh hai)).trans (if_neg (fun hh => hh ⟨Classical.not_not.1 (by assumption), Classical.not_not.1 (by assumption)⟩))))).symm
    refine SL_nil (nx (SWP_cf rfl (SWP_skip (nx ?_))))
    refine ⟨by repeat (first | with_reducible exact Under.refl _ _ | exact Under.upds rfl (Under.hav _ _ _) | exact Under.hav _ _ _ | refine Under.upd rfl ?_ | refine Under.upds rfl ?_ | refine Under.hav2 rfl ?_), ?_⟩
    exact ⟨rfl, by omega, rfl, rfl⟩
  intro uM0 vM0 σM0 mM0 hM0 _
  obtain ⟨rfl, hs0, rfl, rfl⟩ := hM0
  have hok := gameOk (sysG_ok hs0).1
  have hkk := (sysG_ok hs0).2
  have q2 := hok.mx.h2
  have q4 := hok.mx.h4 (by omega)
  have q5 := hok.mx.h5
  have q8 := hok.mx.h8
  have q9 := hok.mx.h9
  have hbo : g.bonusOf ≤ 80 := by omega
  dsimp only [Line.enc, Game.enc]
  refine SWP_merge1 [4, 11, 12, 13, 14, 15, 16, 17, 18, 19, 20, 21, 22, 23, 24, 25, 26, 27, 28, 29, 30, 31, 32] []
      (fun vs σ' m' => vs = [] ∧ ((g.main < l.main.length ∧ (l.main.length : Int) ≤ g.system) ∧ (l.bonus.length : Int) = g.bonus) ∧ σ' = [(B3, Cells 50 l.enc), (B2, Cells 25 g.enc)] ∧ m = m')
      rfl ?_ ?_
  · skip
    refine SWP_seq (SWP_region ?_)
    refine pu rfl rfl ?_
    refine lw (v := .slice _ _ _) B3 0 rfl rfl rfl rfl ?_
    refine pu rfl rfl ?_
    refine pu rfl rfl ?_
    refine lw (v := .int .i64 _) B2 3 rfl rfl rfl rfl ?_
    refine pc rfl rfl (fun c16 => ?_) (fun c16 => ?_)
    · skip
      refine pB rfl rfl ?_
      refine SL_no rfl rfl ?_
      refine SL_no rfl rfl ?_
      refine SL_no rfl rfl ?_
      refine SL_no rfl rfl ?_
      refine SL_no rfl rfl ?_
      refine SL_no rfl rfl ?_
      refine pB rfl rfl ?_
      refine pB rfl rfl ?_
      refine SL_no rfl rfl ?_
      refine SL_no rfl rfl ?_
      refine SL_no rfl rfl ?_
      refine SL_no rfl rfl ?_
      refine SL_no rfl rfl ?_
      refine SL_no rfl rfl ?_
      refine pB rfl rfl ?_
      refine SL_nil (nx (SWP_ct rfl (SWP_seq (SWP_region ?_))))
      refine pI rfl rfl ?_
      refine SL_nil (nx (SWP_ret (nr ?_)))
      refine fin [_] ⟨rfl, trivial⟩ ?_
      refine congrArg (Value.int .i64) ?_
      unfold sysErr
      first
        | exact (if_pos (by assumption)).symm
        | exact ((if_neg (fun hh => hh hs0)).trans (if_pos (by omega))).symm
        | exact ((if_neg (fun hh => hh hs0)).trans ((if_neg (fun hh => hh hm1)).trans (if_pos (fun hh => by first | exact absurd hh.1 (by assumption) | exact absurd hh.2 (by assumption))))).symm
        | exact ((if_neg (fun hh => hh hs0)).trans ((if_neg (fun hh => hh hm1)).trans ((if_neg (fun hh => hh hai)).trans (if_pos (fun hh => by first | exact absurd hh.1 (by assumption) | exact absurd hh.2 (by assumption)))))).symm
        | exact ((if_neg (fun hh => hh hs0)).trans ((if_neg (fun hh => hh hm1)).trans ((if_neg (fun hh => hh hai)).trans (if_neg (fun hh => hh ⟨Classical.not_not.1 (by assumption), Classical.not_not.1 (by assumption)⟩))))).symm
    refine pB rfl rfl ?_
    refine SL_yes rfl ?_
    refine pu rfl rfl ?_
    refine SL_yes rfl ?_
    refine lw (v := .slice _ _ _) B3 0 rfl rfl rfl rfl ?_
    refine SL_yes rfl ?_
    refine pu rfl rfl ?_
    refine SL_yes rfl ?_
    refine pu rfl rfl ?_
    refine SL_yes rfl ?_
    refine lw (v := .int .i64 _) B2 9 rfl rfl rfl rfl ?_
    refine SL_yes rfl ?_
    refine pc rfl rfl (fun c23 => ?_) (fun c23 => ?_)
    · skip
      refine pB rfl rfl ?_
      refine pB rfl rfl ?_
      refine SL_no rfl rfl ?_
      refine SL_no rfl rfl ?_
      refine SL_no rfl rfl ?_
      refine SL_no rfl rfl ?_
      refine SL_no rfl rfl ?_
      refine SL_no rfl rfl ?_
      refine pB rfl rfl ?_
      refine SL_nil (nx (SWP_ct rfl (SWP_seq (SWP_region ?_))))
      refine pI rfl rfl ?_
      refine SL_nil (nx (SWP_ret (nr ?_)))
      refine fin [_] ⟨rfl, trivial⟩ ?_
      refine congrArg (Value.int .i64) ?_
      unfold sysErr
      first
        | exact (if_pos (by assumption)).symm
        | exact ((if_neg (fun hh => hh hs0)).trans (if_pos (by omega))).symm
        | exact ((if_neg (fun hh => hh hs0)).trans ((if_neg (fun hh => hh hm1)).trans (if_pos (fun hh => by first | exact absurd hh.1 (by assumption) | exact absurd hh.2 (by assumption))))).symm
        | exact ((if_neg (fun hh => hh hs0)).trans ((if_neg (fun hh => hh hm1)).trans ((if_neg (fun hh => hh hai)).trans (if_pos (fun hh => by first | exact absurd hh.1 (by assumption) | exact absurd hh.2 (by assumption)))))).symm
        | exact ((if_neg (fun hh => hh hs0)).trans ((if_neg (fun hh => hh hm1)).trans ((if_neg (fun hh => hh hai)).trans (if_neg (fun hh => hh ⟨Classical.not_not.1 (by assumption), Classical.not_not.1 (by assumption)⟩))))).symm
    refine pB rfl rfl ?_
    refine pB rfl rfl ?_
    refine SL_yes rfl ?_
    refine pu rfl rfl ?_
    refine SL_yes rfl ?_
    refine lw (v := .slice _ _ _) B3 1 rfl rfl rfl rfl ?_
    refine SL_yes rfl ?_
    refine pu rfl rfl ?_
    refine SL_yes rfl ?_
    refine pu rfl rfl ?_
    refine SL_yes rfl ?_
    refine lw (v := .int .i64 _) B2 5 rfl rfl rfl rfl ?_
    refine SL_yes rfl ?_
    refine pc rfl rfl (fun c31 => ?_) (fun c31 => ?_)
    · skip
      refine pB rfl rfl ?_
      refine SL_nil (nx (SWP_ct rfl (SWP_seq (SWP_region ?_))))
      refine pI rfl rfl ?_
      refine SL_nil (nx (SWP_ret (nr ?_)))
      refine fin [_] ⟨rfl, trivial⟩ ?_
      refine congrArg (Value.int .i64) ?_
      unfold sysErr
      first
        | exact (if_pos (by assumption)).symm
        | exact ((if_neg (fun hh => hh hs0)).trans (if_pos (by omega))).symm
        | exact ((if_neg (fun hh => hh hs0)).trans ((if_neg (fun hh => hh hm1)).trans (if_pos (fun hh => by first | exact absurd hh.1 (by assumption) | exact absurd hh.2 (by assumption))))).symm
        | exact ((if_neg (fun hh => hh hs0)).trans ((if_neg (fun hh => hh hm1)).trans ((if_neg (fun hh => hh hai)).trans (if_pos (fun hh => by first | exact absurd hh.1 (by assumption) | exact absurd hh.2 (by assumption)))))).symm
        | exact ((if_neg (fun hh => hh hs0)).trans ((if_neg (fun hh => hh hm1)).trans ((if_neg (fun hh => hh hai)).trans (if_neg (fun hh => hh ⟨Classical.not_not.1 (by assumption), Classical.not_not.1 (by assumption)⟩))))).symm
    refine pB rfl rfl ?_
    refine SL_nil (nx (SWP_cf rfl (SWP_skip (nx ?_))))
    refine ⟨by repeat (first | with_reducible exact Under.refl _ _ | exact Under.upds rfl (Under.hav _ _ _) | exact Under.hav _ _ _ | refine Under.upd rfl ?_ | refine Under.upds rfl ?_ | refine Under.hav2 rfl ?_), ?_⟩
    exact ⟨rfl, by omega, rfl, rfl⟩
  intro uM1 vM1 σM1 mM1 hM1 _
  obtain ⟨rfl, hm1, rfl, rfl⟩ := hM1
  dsimp only [Line.enc, Game.enc]
  refine SWP_merge1 [4, 33, 34, 35, 36, 37, 38, 39, 40, 41, 42, 43, 44, 45, 46] []
      (fun vs σ' m' => vs = [] ∧ (allIn 1 g.of l.main ∧ allIn 1 g.bonusOf l.bonus) ∧ σ' = [(B3, Cells 50 l.enc), (B2, Cells 25 g.enc)] ∧ m = m')
      rfl ?_ ?_
  · skip
    refine SWP_seq (SWP_region ?_)
    refine pu rfl rfl ?_
    refine lw (v := .slice _ _ _) B3 0 rfl rfl rfl rfl ?_
    refine pu rfl rfl ?_
    refine lw (v := .int .i64 _) B2 4 rfl rfl rfl rfl ?_
    refine SL_pcall rfl rfl cb121 (inS hl.mn _) rfl ?_
    refine psp 37 rfl (fun c37 => ?_) (fun c37 => ?_)
    · skip
      refine pB rfl rfl ?_
      refine pB rfl rfl ?_
      refine SL_yes rfl ?_
      refine pu rfl rfl ?_
      refine SL_yes rfl ?_
      refine lw (v := .slice _ _ _) B3 1 rfl rfl rfl rfl ?_
      refine SL_yes rfl ?_
      refine pu rfl rfl ?_
      refine SL_yes rfl ?_
      refine lw (v := .int .i64 _) B2 6 rfl rfl rfl rfl ?_
      refine SL_yes rfl ?_
      refine SL_pcall rfl rfl cb121 (inS hl.bn _) rfl ?_
      refine psp 44 rfl (fun c44 => ?_) (fun c44 => ?_)
      · skip
        refine SL_yes rfl ?_
        refine pB rfl rfl ?_
        refine pB rfl rfl ?_
        refine SL_nil (nx (SWP_cf rfl (SWP_skip (nx ?_))))
        refine ⟨by repeat (first | with_reducible exact Under.refl _ _ | exact Under.upds rfl (Under.hav _ _ _) | exact Under.hav _ _ _ | refine Under.upd rfl ?_ | refine Under.upds rfl ?_ | refine Under.hav2 rfl ?_), ?_⟩
        exact ⟨rfl, ⟨by assumption, by assumption⟩, rfl, rfl⟩
      refine SL_yes rfl ?_
      refine pB rfl rfl ?_
      refine pB rfl rfl ?_
      refine SL_nil (nx (SWP_ct rfl (SWP_seq (SWP_region ?_))))
      refine pI rfl rfl ?_
      refine SL_nil (nx (SWP_ret (nr ?_)))
      refine fin [_] ⟨rfl, trivial⟩ ?_
      refine congrArg (Value.int .i64) ?_
      unfold sysErr
      first
        | exact (if_pos (by assumption)).symm
        | exact ((if_neg (fun hh => hh hs0)).trans (if_pos (by omega))).symm
        | exact ((if_neg (fun hh => hh hs0)).trans ((if_neg (fun hh => hh hm1)).trans (if_pos (fun hh => by first | exact absurd hh.1 (by assumption) | exact absurd hh.2 (by assumption))))).symm
        | exact ((if_neg (fun hh => hh hs0)).trans ((if_neg (fun hh => hh hm1)).trans ((if_neg (fun hh => hh hai)).trans (if_pos (fun hh => by first | exact absurd hh.1 (by assumption) | exact absurd hh.2 (by assumption)))))).symm
        | exact ((if_neg (fun hh => hh hs0)).trans ((if_neg (fun hh => hh hm1)).trans ((if_neg (fun hh => hh hai)).trans (if_neg (fun hh => hh ⟨Classical.not_not.1 (by assumption), Classical.not_not.1 (by assumption)⟩))))).symm
    refine pB rfl rfl ?_
    refine pB rfl rfl ?_
    refine SL_no rfl rfl ?_
    refine SL_no rfl rfl ?_
    refine SL_no rfl rfl ?_
    refine SL_no rfl rfl ?_
    refine SL_no rfl rfl ?_
    refine SL_no rfl rfl ?_
    refine pB rfl rfl ?_
    refine SL_nil (nx (SWP_ct rfl (SWP_seq (SWP_region ?_))))
    refine pI rfl rfl ?_
    refine SL_nil (nx (SWP_ret (nr ?_)))
    refine fin [_] ⟨rfl, trivial⟩ ?_
    refine congrArg (Value.int .i64) ?_
    unfold sysErr
    first
      | exact (if_pos (by assumption)).symm
      | exact ((if_neg (fun hh => hh hs0)).trans (if_pos (by omega))).symm
      | exact ((if_neg (fun hh => hh hs0)).trans ((if_neg (fun hh => hh hm1)).trans (if_pos (fun hh => by first | exact absurd hh.1 (by assumption) | exact absurd hh.2 (by assumption))))).symm
      | exact ((if_neg (fun hh => hh hs0)).trans ((if_neg (fun hh => hh hm1)).trans ((if_neg (fun hh => hh hai)).trans (if_pos (fun hh => by first | exact absurd hh.1 (by assumption) | exact absurd hh.2 (by assumption)))))).symm
      | exact ((if_neg (fun hh => hh hs0)).trans ((if_neg (fun hh => hh hm1)).trans ((if_neg (fun hh => hh hai)).trans (if_neg (fun hh => hh ⟨Classical.not_not.1 (by assumption), Classical.not_not.1 (by assumption)⟩))))).symm
  intro uM2 vM2 σM2 mM2 hM2 _
  obtain ⟨rfl, hai, rfl, rfl⟩ := hM2
  dsimp only [Line.enc, Game.enc]
  refine SWP_seq (SWP_seq (SWP_region ?_))
  refine pu rfl rfl ?_
  refine lw (v := .slice _ _ _) B3 0 rfl rfl rfl rfl ?_
  refine SL_pcall rfl rfl cb122 (twiceS hl.mn) rfl ?_
  refine psp 49 rfl (fun c49 => ?_) (fun c49 => ?_)
  · skip
    first | refine pB rfl rfl ?_ | refine pu rfl rfl ?_
    refine SL_no rfl rfl ?_
    refine SL_no rfl rfl ?_
    refine SL_no rfl rfl ?_
    refine pB rfl rfl ?_
    refine SL_nil (nx (SWP_ct rfl (SWP_seq (SWP_region ?_))))
    refine pI rfl rfl ?_
    refine SL_nil (nx (SWP_ret (nr ?_)))
    refine fin [_] ⟨rfl, trivial⟩ ?_
    refine congrArg (Value.int .i64) ?_
    unfold sysErr
    first
      | exact (if_pos (by assumption)).symm
      | exact ((if_neg (fun hh => hh hs0)).trans (if_pos (by omega))).symm
      | exact ((if_neg (fun hh => hh hs0)).trans ((if_neg (fun hh => hh hm1)).trans (if_pos (fun hh => by first | exact absurd hh.1 (by assumption) | exact absurd hh.2 (by assumption))))).symm
      | exact ((if_neg (fun hh => hh hs0)).trans ((if_neg (fun hh => hh hm1)).trans ((if_neg (fun hh => hh hai)).trans (if_pos (fun hh => by first | exact absurd hh.1 (by assumption) | exact absurd hh.2 (by assumption)))))).symm
      | exact ((if_neg (fun hh => hh hs0)).trans ((if_neg (fun hh => hh hm1)).trans ((if_neg (fun hh => hh hai)).trans (if_neg (fun hh => hh ⟨Classical.not_not.1 (by assumption), Classical.not_not.1 (by assumption)⟩))))).symm
  first | refine pB rfl rfl ?_ | refine pu rfl rfl ?_
  refine SL_yes rfl ?_
  refine pu rfl rfl ?_
  refine SL_yes rfl ?_
  refine lw (v := .slice _ _ _) B3 1 rfl rfl rfl rfl ?_
  refine SL_yes rfl ?_
  refine SL_pcall rfl rfl cb122 (twiceS hl.bn) rfl ?_
  refine psp 53 rfl (fun c53 => ?_) (fun c53 => ?_)
  · skip
    refine pB rfl rfl ?_
    refine SL_nil (nx (SWP_ct rfl (SWP_seq (SWP_region ?_))))
    refine pI rfl rfl ?_
    refine SL_nil (nx (SWP_ret (nr ?_)))
    refine fin [_] ⟨rfl, trivial⟩ ?_
    refine congrArg (Value.int .i64) ?_
    unfold sysErr
    first
      | exact (if_pos (by assumption)).symm
      | exact ((if_neg (fun hh => hh hs0)).trans (if_pos (by omega))).symm
      | exact ((if_neg (fun hh => hh hs0)).trans ((if_neg (fun hh => hh hm1)).trans (if_pos (fun hh => by first | exact absurd hh.1 (by assumption) | exact absurd hh.2 (by assumption))))).symm
      | exact ((if_neg (fun hh => hh hs0)).trans ((if_neg (fun hh => hh hm1)).trans ((if_neg (fun hh => hh hai)).trans (if_pos (fun hh => by first | exact absurd hh.1 (by assumption) | exact absurd hh.2 (by assumption)))))).symm
      | exact ((if_neg (fun hh => hh hs0)).trans ((if_neg (fun hh => hh hm1)).trans ((if_neg (fun hh => hh hai)).trans (if_neg (fun hh => hh ⟨Classical.not_not.1 (by assumption), Classical.not_not.1 (by assumption)⟩))))).symm
  refine pB rfl rfl ?_
  refine SL_nil (nx (SWP_cf rfl (SWP_skip (nx (SWP_seq (SWP_region ?_))))))
  refine pI rfl rfl ?_
  refine SL_nil (nx (SWP_ret ?_))
  refine fin [_] ⟨rfl, trivial⟩ ?_
  refine congrArg (Value.int .i64) ?_
  unfold sysErr
  first
    | exact (if_pos (by assumption)).symm
    | exact ((if_neg (fun hh => hh hs0)).trans (if_pos (by omega))).symm
    | exact ((if_neg (fun hh => hh hs0)).trans ((if_neg (fun hh => hh hm1)).trans (if_pos (fun hh => by first | exact absurd hh.1 (by assumption) | exact absurd hh.2 (by assumption))))).symm
    | exact ((if_neg (fun hh => hh hs0)).trans ((if_neg (fun hh => hh hm1)).trans ((if_neg (fun hh => hh hai)).trans (if_pos (fun hh => by first | exact absurd hh.1 (by assumption) | exact absurd hh.2 (by assumption)))))).symm
    | exact ((if_neg (fun hh => hh hs0)).trans ((if_neg (fun hh => hh hm1)).trans ((if_neg (fun hh => hh hai)).trans (if_neg (fun hh => hh ⟨Classical.not_not.1 (by assumption), Classical.not_not.1 (by assumption)⟩))))).symm
def rowP (i : Nat) : List Int := (List.range (i + 1)).map fun k => ((ch i k : Nat) : Int)
theorem rowP_len (i : Nat) : (rowP i).length = i + 1 := by simp [rowP]
theorem rowP_at {i k : Nat} (h : k ≤ i) : (rowP i)[k]? = some ((ch i k : Nat) : Int) := by unfold rowP; rw [List.getElem?_map, List.getElem?_range (by omega)]; rfl
theorem ch_self : ∀ n : Nat, ch n n = 1 ∧ ∀ k, n < k → ch n k = 0
  | 0 => ⟨rfl, fun k hk => by cases k with | zero => omega | succ k => rfl⟩
  | n + 1 => by
    have h := ch_self n
    refine ⟨?_, fun k hk => ?_⟩
    · show ch n n + ch n (n + 1) = 1
      rw [h.1, h.2 _ (by omega)]
    · cases k with
      | zero => omega
      | succ k =>
        show ch n k + ch n (k + 1) = 0
        rw [h.2 _ (by omega), h.2 _ (by omega)]
theorem rowP_top (i : Nat) : (rowP (i + 1)).take (i + 1) ++ [1] = rowP (i + 1) := by
  have h := take_snocA (rowP_at (i := i + 1) (k := i + 1) (Nat.le_refl _))
  rw [(ch_self (i + 1)).1] at h
  rw [show (((1 : Nat) : Int)) = 1 from rfl] at h
  rw [← h, List.take_of_length_le (by rw [rowP_len]; omega)]
theorem ch_small (i k : Nat) (hi : i ≤ 14) : ch i k ≤ 100000 := by
  have h : ∀ i, i ≤ 14 → ∀ k, ch i k ≤ 2 ^ i := by
    intro i
    induction i with
    | zero => intro _ k; cases k with | zero => decide | succ k => exact Nat.zero_le _
    | succ i ih =>
      intro hi k
      cases k with
      | zero => exact Nat.one_le_two_pow
      | succ k =>
        show ch i k + ch i (k + 1) ≤ 2 ^ (i + 1)
        have h1 := ih (by omega) k
        have h2 := ih (by omega) (k + 1)
        rw [Nat.pow_succ]; generalize 2 ^ i = z at *; omega
  exact Nat.le_trans (h i hi k) (Nat.le_trans (Nat.pow_le_pow_right (by decide) hi) (by decide))
set_option maxRecDepth 100000 in
theorem chooseR {m : Mem} {n k : Nat} (hn : n ≤ 14) (hk : k ≤ n) : PureCall Tryz.prog 123 [.int .i64 (n : Nat), .int .i64 (k : Nat)] m (.int .i64 ((ch n k : Nat) : Int)) := by
  refine CallsS.pure ?_
  refine enter Tryz.func123 Tryz.ntmps123 rfl rfl ?_
  refine SWP_seq (SWP_region ?_)
  refine pI rfl rfl ?_
  refine SL_nil (nx (SWP_seq (SWP_seq (SWP_region ?_))))
  first | refine pI rfl rfl ?_ | refine pu rfl rfl ?_
  refine pn rfl rfl (by omega) ?_
  refine pB rfl rfl ?_
  refine SL_yes rfl ?_
  first | refine pI rfl rfl ?_ | refine pu rfl rfl ?_
  refine SL_yes rfl ?_
  first | refine pI rfl rfl ?_ | refine pu rfl rfl ?_
  refine SL_yes rfl ?_
  refine pn rfl rfl (by omega) ?_
  refine pB rfl rfl ?_
  refine SL_nil (nx (SWP_cf rfl (SWP_skip (nx (SWP_seq (SWP_region ?_))))))
  refine bs rfl rfl rfl rfl rfl (fun B16 => ?_)
  refine SL_imp (row_one _ _) ?_
  refine SL_freezeL (e := 3) (en := intE) (size := 1) (L := [1]) (by omega) intE_len (.row B16 1 1 [.int .i64 1] rfl (by decide) (by decide)) (fun m9 hl9 hr9 => ?_)
  first | refine pL rfl rfl ?_ | refine pu rfl rfl ?_
  refine SL_nil (nx (SWP_seq (SWP_seq (SWP_region ?_))))
  refine pI rfl rfl ?_
  refine SL_nil (nx (SWP_block ?_))
  refine SWP_loop [5, 6, 7, 8, 17, 18, 19, 20, 21, 22, 23, 24, 25, 26, 27, 28, 29, 30, 31, 32, 33, 34, 35, 36, 37, 38, 39, 40, 41, 42, 43, 44] [5, 6]
      (fun vs σ' m' => ∃ (i : Nat) (a5 : Option Addr) (c5 : Nat), vs = [.slice a5 (rowP i).length c5, .int .i64 (i : Nat)] ∧ i ≤ n ∧ RL m' intE 1 (.slice a5 (rowP i).length c5) (rowP i) ∧ σ' = [] ∧ Le m m')
      (fun vs => n - nOf (vs.getD 1 undef)) rfl ?_ ?_
  · exact ⟨0, _, _, rfl, by omega, hr9, rfl, hl9⟩
  intro u0 vs0 σ0 m0 hJ0 _
  obtain ⟨i, a5, c5, rfl, hi, hr, rfl, hle⟩ := hJ0
  have hrl := rowP_len i
  refine SWP_seq (SWP_seq (SWP_region ?_))
  first | refine pI rfl rfl ?_ | refine pu rfl rfl ?_
  first | refine pI rfl rfl ?_ | refine pu rfl rfl ?_
  refine pc rfl rfl (fun c19 => ?_) (fun c19 => ?_)
  · skip
    refine SL_nil (nx (SWP_ct rfl (SWP_skip (nx (SWP_seq (SWP_block (SWP_seq (SWP_region ?_))))))))
    refine bs rfl rfl rfl rfl rfl (fun B22 => ?_)
    refine SL_imp (row_one _ _) ?_
    first | refine pL rfl rfl ?_ | refine pu rfl rfl ?_
    refine SL_nil (nx (SWP_seq (SWP_seq (SWP_region ?_))))
    refine pI rfl rfl ?_
    refine SL_nil (nx (SWP_block ?_))
    refine SWP_loop [7, 8, 23, 24, 25, 26, 27, 28, 29, 30, 31, 32, 33, 34, 35, 36, 37, 38, 39, 40, 41] [7, 8]
        (fun vs σ' m' => ∃ (j : Nat) (w7 : Value) (σ1 : Sig), vs = [w7, .int .i64 (j : Nat)] ∧ 1 ≤ j ∧ j ≤ i + 1 ∧ OwnS 3 1 w7 (((rowP (i + 1)).take j).flatMap intE) σ1 ∧ σ' = σ1 ∧ m0 = m')
        (fun vs => (i + 1) - nOf (vs.getD 1 undef)) rfl ?_ ?_
    · refine ⟨1, .slice (some ⟨B22, 0, none⟩) 1 1, _, rfl, by omega, by omega, ?_, rfl, rfl⟩
      have e1 : (((rowP (i + 1)).take 1).flatMap intE) = [.int .i64 1] := by unfold rowP; rw [List.range_succ_eq_map]; simp [ch_zero, intE]
      rw [e1]
      exact OwnS.row B22 1 1 [.int .i64 1] rfl (by decide) (by decide)
    intro u1 vs1 σ1 m1 hJ1 _
    obtain ⟨j, w7, σ1, rfl, hj1, hj, hown, rfl, rfl⟩ := hJ1
    refine SWP_seq (SWP_seq (SWP_region ?_))
    first | refine pI rfl rfl ?_ | refine pu rfl rfl ?_
    first | refine pL rfl rfl ?_ | refine pu rfl rfl ?_
    refine pu rfl rfl ?_
    refine pc rfl rfl (fun c26 => ?_) (fun c26 => ?_)
    · skip
      refine SL_nil (nx (SWP_ct rfl (SWP_skip (nx (SWP_seq (SWP_block ?_))))))
      have hpas : ch (i + 1) j = ch i (j - 1) + ch i j := by
        obtain ⟨j', rfl⟩ : ∃ j', j = j' + 1 := ⟨j - 1, by omega⟩
        rfl
      have hs1 := ch_small i (j - 1) (by omega)
      have hs2 := ch_small i j (by omega)
      obtain ⟨ad1, e1, _, hat1⟩ := hr.atI (rowP_at (i := i) (k := j - 1) (by omega))
      cases e1
      obtain ⟨ad2, e2, _, hat2⟩ := hr.atI (rowP_at (i := i) (k := j) (by omega))
      cases e2
      refine SWP_drawn [] [0, 1, 2, 3, 4, 5, 6, 7, 8, 9, 10, 11, 12, 13] (by kernel_rfl) (by kernel_rfl) (Sub.nil _) ?_
      first | refine pL rfl rfl ?_ | refine pu rfl rfl ?_
      first | refine pL rfl rfl ?_ | refine pu rfl rfl ?_
      first | refine pI rfl rfl ?_ | refine pu rfl rfl ?_
      refine pw rfl rfl (w64 (by omega) (by omega)) ?_
      rw [show (j : Int) - 1 = ((j - 1 : Nat) : Int) by omega]
      refine ia (es := 1) rfl rfl rfl (Nat.mul_one _) rfl rfl (by omega) rfl ?_
      refine ldA (v := .int .i64 _) rfl hat1 rfl rfl ?_
      first | refine pL rfl rfl ?_ | refine pu rfl rfl ?_
      first | refine pI rfl rfl ?_ | refine pu rfl rfl ?_
      refine ia (es := 1) rfl rfl rfl (Nat.mul_one _) rfl rfl (by omega) rfl ?_
      refine ldA (v := .int .i64 _) rfl hat2 rfl rfl ?_
      refine pw rfl rfl (w64 (by omega) (by omega)) ?_
      rw [show ((ch i (j - 1) : Nat) : Int) + ((ch i j : Nat) : Int) = ((ch (i + 1) j : Nat) : Int) by rw [hpas]; omega]
      refine bs rfl rfl rfl rfl rfl (fun B40 => ?_)
      refine ap (e := 3) (size := 1) (bytes := 8) rfl rfl rfl rfl rfl rfl rfl hown (List.perm_append_comm (l₁ := [_]) (l₂ := σ1)) rfl (Rd.of_cells (.head _)) rfl rfl (by rw [flatMap_len intE_len, List.length_take, rowP_len]; omega) rfl rfl (fun v41 σ41 hown41 => ?_)
      refine SL_weak (List.Sublist.append_left (List.nil_sublist _) _) ?_
      first | refine pL rfl rfl ?_ | refine pu rfl rfl ?_
      refine SL_nil (nb (nx (SWP_region ?_)))
      first | refine pI rfl rfl ?_ | refine pu rfl rfl ?_
      first | refine pw rfl rfl (w64 (by omega) (by omega)) ?_ | refine pu rfl rfl ?_
      refine pI rfl rfl ?_
      refine SL_nil (nx ?_)
      refine ⟨by repeat (first | exact Under.upds rfl (Under.hav _ _ _) | exact Under.hav _ _ _ | refine Under.upd rfl ?_ | refine Under.upds rfl ?_ | refine Under.hav2 rfl ?_), ?_, ?_⟩
      · refine ⟨j + 1, v41, σ41, rfl, by omega, by omega, ?_, by simp, rfl⟩
        rw [take_snocA (rowP_at (i := i + 1) (k := j) (by omega)), List.flatMap_append]; exact hown41
      · simp only [L_vals, List.map, List.getD]; show (i + 1) - (j + 1) < (i + 1) - j; omega
    refine SL_nil (nx (SWP_cf rfl (SWP_exit (ne (ne (be rfl (nx ?_)))))))
    obtain rfl : j = i + 1 := by omega
    refine SWP_region ?_
    first | refine pL rfl rfl ?_ | refine pu rfl rfl ?_
    refine bs rfl rfl rfl rfl rfl (fun B43 => ?_)
    refine ap (e := 3) (size := 1) (bytes := 8) rfl rfl rfl rfl rfl rfl rfl hown (List.perm_append_comm (l₁ := [_]) (l₂ := σ1)) rfl (Rd.of_cells (.head _)) rfl rfl (by rw [flatMap_len intE_len, List.length_take, rowP_len]; omega) rfl rfl (fun v44 σ44 hown44 => ?_)
    refine SL_weak (List.Sublist.append_left (List.nil_sublist _) _) ?_
    have hownE : OwnS 3 1 v44 ((rowP (i + 1)).flatMap intE) σ44 := by
      rw [← rowP_top, List.flatMap_append]; exact hown44
    refine SL_freezeL (by omega) intE_len hownE (fun m9 hl9 hb9 => ?_)
    refine pu rfl rfl ?_
    refine SL_nil (nb (nx (SWP_region ?_)))
    first | refine pI rfl rfl ?_ | refine pu rfl rfl ?_
    first | refine pw rfl rfl (w64 (by omega) (by omega)) ?_ | refine pu rfl rfl ?_
    refine pI rfl rfl ?_
    refine SL_nil (nx ?_)
    refine ⟨by repeat (first | exact Under.upds rfl (Under.hav _ _ _) | exact Under.hav _ _ _ | refine Under.upd rfl ?_ | refine Under.upds rfl ?_ | refine Under.hav2 rfl ?_), ?_, ?_⟩
    · obtain ⟨a6, c6, rfl⟩ := hb9.len
      exact ⟨i + 1, _, _, rfl, by omega, hb9, rfl, hle.trans hl9⟩
    · simp only [L_vals, List.map, List.getD]; show n - (i + 1) < n - i; omega
  refine SL_nil (nx (SWP_cf rfl (SWP_exit (ne (ne (be rfl (nx (SWP_seq ?_))))))))
  obtain rfl : i = n := by omega
  obtain ⟨adk, ek, _, hatk⟩ := hr.atI (rowP_at hk)
  cases ek
  refine SWP_region ?_
  first | refine pL rfl rfl ?_ | refine pu rfl rfl ?_
  first | refine pI rfl rfl ?_ | refine pu rfl rfl ?_
  refine ia (es := 1) rfl rfl rfl (Nat.mul_one _) rfl rfl (by omega) rfl ?_
  refine ldA (v := .int .i64 _) rfl hatk rfl rfl ?_
  first | refine pI rfl rfl ?_ | refine pu rfl rfl ?_
  refine SL_nil (nx (SWP_ret ?_))
  refine fin [_] ⟨rfl, trivial⟩ ?_
  rfl
end Go.Proofs.YtifjhpaoejageaaGreatDoor
namespace Go.Proofs.YtifjhpaoejageaaGreatDoor
open Eng
theorem getD_at {l : List Int} {i : Nat} {x : Int} (h : l[i]? = some x) : l.getD i 0 = x := by rw [List.getD_eq_getElem?_getD, h]; rfl
theorem pw_eq {X l : List Int} (h : X.Pairwise (fun a b => a ≤ b)) (hp : X.Perm l) : X = l.mergeSort leI := by
  rw [← mergeSort_of_perm_i hp]
  refine (List.mergeSort_of_pairwise ?_).symm
  exact h.imp fun {a b} hab => by simp only [leI, decide_eq_true_eq]; exact hab
theorem ins_perm {X A : List Int} {x : Int} {k : Nat} (hp : X.Perm A) : (X.take k ++ [x] ++ X.drop k).Perm (A ++ [x]) := by
  refine List.Perm.trans ?_ (hp.append_right [x])
  rw [List.append_assoc]
  refine (List.Perm.append_left (X.take k) List.perm_append_comm).trans ?_
  rw [← List.append_assoc, List.take_append_drop]
theorem ins_pw {X : List Int} {x : Int} {k : Nat} (h : X.Pairwise (fun a b => a ≤ b)) (hk : k ≤ X.length) (hi : ∀ j, k ≤ j → j < X.length → x < X.getD j 0) (hl : k = 0 ∨ X.getD (k - 1) 0 ≤ x) : (X.take k ++ [x] ++ X.drop k).Pairwise (fun a b => a ≤ b) := by
  have hg : ∀ a b, a < b → b < X.length → X.getD a 0 ≤ X.getD b 0 := fun a b hab hb => by
    have := (List.pairwise_iff_getElem.1 h) a b (by omega) hb hab
    rwa [List.getD_eq_getElem?_getD, List.getD_eq_getElem?_getD, List.getElem?_eq_getElem (by omega), List.getElem?_eq_getElem hb]
  have ht : ∀ a ∈ X.take k, a ≤ x := fun a ha => by
    obtain ⟨j, hj⟩ := List.getElem?_of_mem ha
    rw [List.getElem?_take] at hj
    split at hj
    · rename_i hjk
      have e : X.getD j 0 = a := getD_at hj
      rcases hl with rfl | hl
      · omega
      · by_cases hjj : j = k - 1
        · rw [← e, hjj]; exact hl
        · rw [← e]; exact Int.le_trans (hg j (k - 1) (by omega) (by omega)) hl
    · cases hj
  have hd : ∀ b ∈ X.drop k, x ≤ b := fun b hb => by
    obtain ⟨j, hj⟩ := List.getElem?_of_mem hb
    rw [List.getElem?_drop] at hj
    have e : X.getD (k + j) 0 = b := getD_at hj
    rw [← e]
    exact Int.le_of_lt (hi _ (by omega) (List.getElem?_eq_some_iff.1 hj).1)
  rw [List.append_assoc, List.pairwise_append]
  refine ⟨h.sublist (List.take_sublist _ _), ?_, fun a ha b hb => ?_⟩
  · rw [List.singleton_append, List.pairwise_cons]
    exact ⟨hd, h.sublist (List.drop_sublist _ _)⟩
  · rw [List.singleton_append] at hb
    rcases List.mem_cons.1 hb with rfl | hb
    · exact ht a ha
    · exact Int.le_trans (ht a ha) (hd b hb)
set_option maxRecDepth 100000 in
theorem sort13 {m : Mem} {v : Value} {l : List Int} (h : RL m intE 1 v l) (hl : l.length ≤ 100000) : CallsS Tryz.prog 124 [v].toArray [] m fun r σ' m' => σ' = [] ∧ RL m' intE 1 r (l.mergeSort leI) := by
  obtain ⟨pa, pc0, rfl, hpc⟩ := h.full
  refine enter Tryz.func124 Tryz.ntmps124 rfl rfl ?_
  refine SWP_seq (SWP_region ?_)
  refine pL rfl rfl ?_
  refine SL_nil (nx (SWP_seq (SWP_region ?_)))
  refine pL rfl rfl ?_
  refine SL_nil (nx (SWP_seq (SWP_seq (SWP_region ?_))))
  refine pI rfl rfl ?_
  refine SL_nil (nx (SWP_block ?_))
  refine SWP_loop [3, 4, 5, 6, 7, 8, 9, 10, 11, 12, 13, 14, 15, 16, 17, 18, 19, 20, 21, 22, 23, 24, 25, 26, 27, 28, 29, 30, 31, 32, 33, 34, 35, 36, 37, 38, 39, 40, 41, 42, 43, 44, 45, 46, 47, 48] [3, 4]
      (fun vs σ' m' => ∃ (i : Nat) (w3 : Value) (X : List Int), vs = [w3, .int .i64 (i : Nat)] ∧ i ≤ l.length ∧ X.Perm (l.take i) ∧ X.Pairwise (fun a b => a ≤ b) ∧ RL m' intE 1 w3 X ∧ σ' = [] ∧ Le m m')
      (fun vs => l.length - nOf (vs.getD 1 undef)) rfl ?_ ?_
  · exact ⟨0, _, [], rfl, by omega, by rw [List.take_zero], List.Pairwise.nil, RL.nil _ _, rfl, Le.refl _⟩
  intro u0 vs0 σ0 m0 hJ0 _
  obtain ⟨i, w3, X, rfl, hi, hX, hpw, hr, rfl, hle0⟩ := hJ0
  refine SWP_seq (SWP_seq (SWP_region ?_))
  first | refine pI rfl rfl ?_ | refine pu rfl rfl ?_
  first | refine pL rfl rfl ?_ | refine pu rfl rfl ?_
  refine pu rfl rfl ?_
  refine pc rfl rfl (fun c10 => ?_) (fun c10 => ?_)
  · skip
    refine SL_nil (nx (SWP_ct rfl (SWP_skip (nx (SWP_seq (SWP_block (SWP_seq ?_)))))))
    obtain ⟨x, hx⟩ : ∃ x, l[i]? = some x := ⟨_, List.getElem?_eq_getElem (by omega)⟩
    obtain ⟨adx, ex, _, hatx⟩ := h.atI hx
    cases ex
    have hXl := hX.length_eq
    rw [List.length_take] at hXl
    obtain ⟨xa, xc, rfl, hxc⟩ := hr.full
    refine SWP_region ?_
    first | refine pL rfl rfl ?_ | refine pu rfl rfl ?_
    refine pu rfl rfl ?_
    refine pI rfl rfl ?_
    refine SL_nil (nx ?_)
    refine SWP_merge1 [5, 15, 16, 17, 18, 19, 20, 21, 22, 23, 24, 25, 26, 27, 28, 29, 30] [5]
        (fun vs σ' m' => ∃ (k : Nat), vs = [.int .i64 (k : Nat)] ∧ k ≤ X.length ∧ (∀ j, k ≤ j → j < X.length → x < X.getD j 0) ∧ (k = 0 ∨ X.getD (k - 1) 0 ≤ x) ∧ σ' = [] ∧ m0 = m')
        rfl ?_ ?_
    · skip
      refine SWP_block ?_
      refine SWP_loop [5, 15, 16, 17, 18, 19, 20, 21, 22, 23, 24, 25, 26, 27, 28, 29, 30] [5]
          (fun vs σ' m' => ∃ (k : Nat), vs = [.int .i64 (k : Nat)] ∧ k ≤ X.length ∧ (∀ j, k ≤ j → j < X.length → x < X.getD j 0) ∧ σ' = [] ∧ m0 = m')
          (fun vs => nOf (vs.getD 0 undef)) rfl ?_ ?_
      · exact ⟨X.length, rfl, Nat.le_refl _, fun j h1 h2 => (by omega), rfl, rfl⟩
      intro u1 vs1 σ1 m1 hJ1 _
      obtain ⟨k, rfl, hk, hgt, rfl, rfl⟩ := hJ1
      refine SWP_seq (SWP_seq ?_)
      refine SWP_draws (by kernel_rfl) (by kernel_rfl) ?_
      first | refine pI rfl rfl ?_ | refine pu rfl rfl ?_
      refine pc rfl rfl (fun c16 => ?_) (fun c16 => ?_)
      · skip
        refine pB rfl rfl ?_
        refine SL_yes rfl ?_
        first | refine pL rfl rfl ?_ | refine pu rfl rfl ?_
        refine SL_yes rfl ?_
        first | refine pI rfl rfl ?_ | refine pu rfl rfl ?_
        refine SL_yes rfl ?_
        refine pw rfl rfl (w64 (by omega) (by omega)) ?_
        have h0k : 0 < k := by omega
        rw [show (k : Int) - 1 = ((k - 1 : Nat) : Int) by omega]
        obtain ⟨y, hy⟩ : ∃ y, X[k - 1]? = some y := ⟨_, List.getElem?_eq_getElem (by omega)⟩
        obtain ⟨ady, ey, _, haty⟩ := hr.atI hy
        cases ey
        have gy := getD_at hy
        refine SL_yes rfl ?_
        refine ia (es := 1) rfl rfl rfl (Nat.mul_one _) rfl rfl (by omega) rfl ?_
        refine SL_yes rfl ?_
        refine ldA (v := .int .i64 _) rfl haty rfl rfl ?_
        refine SL_yes rfl ?_
        first | refine pL rfl rfl ?_ | refine pu rfl rfl ?_
        refine SL_yes rfl ?_
        first | refine pI rfl rfl ?_ | refine pu rfl rfl ?_
        refine SL_yes rfl ?_
        refine ia (es := 1) rfl rfl rfl (Nat.mul_one _) rfl rfl (by omega) rfl ?_
        refine SL_yes rfl ?_
        refine ldA (v := .int .i64 _) rfl (hatx.mono hle0) rfl rfl ?_
        refine SL_yes rfl ?_
        refine pc rfl rfl (fun c27 => ?_) (fun c27 => ?_)
        · skip
          refine pB rfl rfl ?_
          refine SL_nil (nx (SWP_ct rfl (SWP_skip (nx (SWP_block (SWP_region ?_))))))
          first | refine pI rfl rfl ?_ | refine pu rfl rfl ?_
          refine pw rfl rfl (w64 (by omega) (by omega)) ?_
          rw [show (k : Int) - 1 = ((k - 1 : Nat) : Int) by omega]
          first | refine pI rfl rfl ?_ | refine pu rfl rfl ?_
          refine SL_nil (nb (nx ?_))
          refine ⟨by repeat (first | exact Under.upds rfl (Under.hav _ _ _) | exact Under.hav _ _ _ | refine Under.upd rfl ?_ | refine Under.upds rfl ?_ | refine Under.hav2 rfl ?_), ?_, ?_⟩
          · refine ⟨k - 1, rfl, by omega, fun j h1 h2 => ?_, rfl, rfl⟩
            by_cases e : j = k - 1
            · rw [e, gy]; omega
            · exact hgt j (by omega) h2
          · simp only [L_vals, List.map, List.getD]; show k - 1 < k; omega
        refine pB rfl rfl ?_
        refine SL_nil (nx (SWP_cf rfl (SWP_exit (ne (ne (be rfl (nx ?_)))))))
        refine ⟨by repeat (first | with_reducible exact Under.refl _ _ | exact Under.upds rfl (Under.hav _ _ _) | exact Under.hav _ _ _ | refine Under.upd rfl ?_ | refine Under.upds rfl ?_ | refine Under.hav2 rfl ?_), ?_⟩
        refine ⟨k, rfl, hk, hgt, ?_, rfl, rfl⟩
        first
          | exact .inl (by omega)
          | (refine .inr ?_; rw [gy]; omega)
      refine pB rfl rfl ?_
      refine SL_no rfl rfl ?_
      refine SL_no rfl rfl ?_
      refine SL_no rfl rfl ?_
      refine SL_no rfl rfl ?_
      refine SL_no rfl rfl ?_
      refine SL_no rfl rfl ?_
      refine SL_no rfl rfl ?_
      refine SL_no rfl rfl ?_
      refine SL_no rfl rfl ?_
      refine SL_no rfl rfl ?_
      refine pB rfl rfl ?_
      refine SL_nil (nx (SWP_cf rfl (SWP_exit (ne (ne (be rfl (nx ?_)))))))
      refine ⟨by repeat (first | with_reducible exact Under.refl _ _ | exact Under.upds rfl (Under.hav _ _ _) | exact Under.hav _ _ _ | refine Under.upd rfl ?_ | refine Under.upds rfl ?_ | refine Under.hav2 rfl ?_), ?_⟩
      refine ⟨k, rfl, hk, hgt, ?_, rfl, rfl⟩
      first
        | exact .inl (by omega)
        | (refine .inr ?_; rw [gy]; omega)
    intro uM0 vM0 σM0 mM0 hM0 _
    obtain ⟨k, rfl, hk, hgt, hle, rfl, rfl⟩ := hM0
    refine SWP_seq (SWP_region ?_)
    refine bs rfl rfl rfl rfl rfl (fun B31 => ?_)
    refine SL_imp (row_nil _ 1) ?_
    first | refine pL rfl rfl ?_ | refine pu rfl rfl ?_
    first | refine pI rfl rfl ?_ | refine pu rfl rfl ?_
    refine slh (size := 1) rfl rfl rfl rfl rfl (by omega) (by omega) rfl ?_
    rw [Int.toNat_natCast]
    have hsA := RL.sub (lo := 0) (hi := k) intE_len hr (by omega) (by omega)
    rw [List.drop_zero] at hsA
    refine apR (e := 3) (size := 1) (bytes := 8) rfl rfl rfl rfl rfl rfl rfl (.row B31 0 0 [] rfl (Nat.le_refl _) (Nat.zero_le _)) (.refl _) rfl hsA (all_intE _) (by rw [List.length_take]; simp; omega) rfl rfl (fun v35 σ35 hown35 => ?_)
    rw [List.nil_append] at hown35
    first | refine pL rfl rfl ?_ | refine pu rfl rfl ?_
    refine SL_nil (nx (SWP_seq (SWP_region ?_)))
    first | refine pL rfl rfl ?_ | refine pu rfl rfl ?_
    first | refine pL rfl rfl ?_ | refine pu rfl rfl ?_
    first | refine pI rfl rfl ?_ | refine pu rfl rfl ?_
    refine ia (es := 1) rfl rfl rfl (Nat.mul_one _) rfl rfl (by omega) rfl ?_
    refine ldA (v := .int .i64 _) rfl (hatx.mono hle0) rfl rfl ?_
    refine bs rfl rfl rfl rfl rfl (fun B41 => ?_)
    refine ap (e := 3) (size := 1) (bytes := 8) rfl rfl rfl rfl rfl rfl rfl hown35 (permX [_] σ35 _) rfl (Rd.of_cells (.head _)) rfl rfl (by rw [flatMap_len intE_len, List.length_take]; omega) rfl rfl (fun v42 σ42 hown42 => ?_)
    refine SL_weak (List.Sublist.append_left (List.nil_sublist _) _) ?_
    first | refine pL rfl rfl ?_ | refine pu rfl rfl ?_
    refine SL_nil (nx (SWP_seq (SWP_region ?_)))
    first | refine pL rfl rfl ?_ | refine pu rfl rfl ?_
    first | refine pL rfl rfl ?_ | refine pu rfl rfl ?_
    first | refine pI rfl rfl ?_ | refine pu rfl rfl ?_
    refine slo (size := 1) rfl rfl rfl rfl rfl (by omega) (by omega) rfl ?_
    rw [Int.toNat_natCast]
    have hsB := RL.sub (lo := k) (hi := X.length) intE_len hr (by omega) (Nat.le_refl _)
    rw [List.take_length] at hsB
    refine apR (e := 3) (size := 1) (bytes := 8) rfl rfl rfl rfl rfl rfl rfl hown42 (.refl _) rfl hsB (all_intE _) (by rw [List.length_append, flatMap_len intE_len, List.length_take, List.length_drop]; show (_ + 1 + _) * 8 ≤ _; omega) rfl rfl (fun v47 σ47 hown47 => ?_)
    have hown9 : OwnS 3 1 v47 ((X.take k ++ [x] ++ X.drop k).flatMap intE) σ47 := by
      rw [List.flatMap_append, List.flatMap_append]; exact hown47
    first | refine pL rfl rfl ?_ | refine pu rfl rfl ?_
    refine SL_nil (nx (SWP_region ?_))
    refine SL_freezeL (by omega) intE_len hown9 (fun m9 hl9 hb9 => ?_)
    refine pu rfl rfl ?_
    first | refine pL rfl rfl ?_ | refine pu rfl rfl ?_
    refine SL_nil (nb (nx (SWP_region ?_)))
    first | refine pI rfl rfl ?_ | refine pu rfl rfl ?_
    first | refine pw rfl rfl (w64 (by omega) (by omega)) ?_ | refine pu rfl rfl ?_
    refine pI rfl rfl ?_
    refine SL_nil (nx ?_)
    refine ⟨by repeat (first | exact Under.upds rfl (Under.hav _ _ _) | exact Under.hav _ _ _ | refine Under.upd rfl ?_ | refine Under.upds rfl ?_ | refine Under.hav2 rfl ?_), ?_, ?_⟩
    · exact ⟨i + 1, v47, _, rfl, by omega, by rw [take_snocA hx]; exact ins_perm hX, ins_pw hpw hk hgt hle, hb9, rfl, hle0.trans hl9⟩
    · simp only [L_vals, List.map, List.getD]; show l.length - (i + 1) < l.length - i; omega
  refine SL_nil (nx (SWP_cf rfl (SWP_exit (ne (ne (be rfl (nx (SWP_seq (SWP_region ?_)))))))))
  first | refine pL rfl rfl ?_ | refine pu rfl rfl ?_
  first | refine pL rfl rfl ?_ | refine pu rfl rfl ?_
  refine SL_nil (nx (SWP_ret ?_))
  refine fin [_] ⟨rfl, trivial⟩ ?_
  obtain rfl : i = l.length := by omega
  rw [List.take_length] at hX
  rw [← pw_eq hpw hX]
  exact ⟨rfl, hr⟩
theorem intsR {m : Mem} {v w : Value} {a b : List Int} (h : RL m intE 1 v a) (h' : RL m intE 1 w b) : PureCall Tryz.prog 56 [v, w] m (.bool (decide (a = b))) := by
  refine CallsS.pure ?_
  have hsm := h.small
  obtain ⟨pa, qc, rfl⟩ := h.len
  obtain ⟨pb, qd, rfl⟩ := h'.len
  refine enter Tryz.func56 Tryz.ntmps56 rfl rfl ?_
  refine SWP_seq (SWP_region ?_)
  refine pB rfl rfl ?_
  refine SL_nil (nx (SWP_seq (SWP_seq (SWP_region ?_))))
  first | refine pL rfl rfl ?_ | refine pu rfl rfl ?_
  refine pu rfl rfl ?_
  first | refine pL rfl rfl ?_ | refine pu rfl rfl ?_
  refine pu rfl rfl ?_
  refine pc rfl rfl (fun c10 => ?_) (fun c10 => ?_)
  · skip
    refine SL_nil (nx (SWP_ct rfl (SWP_seq (SWP_region ?_))))
    refine pB rfl rfl ?_
    refine SL_nil (nx (SWP_ret (nr ?_)))
    refine fin [_] ⟨rfl, trivial⟩ ?_
    exact congrArg Value.bool (decide_eq_false fun e => by subst e; omega).symm
  refine SL_nil (nx (SWP_cf rfl (SWP_skip (nx (SWP_seq (SWP_seq (SWP_region ?_)))))))
  refine pI rfl rfl ?_
  refine SL_nil (nx (SWP_block ?_))
  refine SWP_loop [4, 5, 11, 12, 13, 14, 15, 16, 17, 18, 19, 20, 21, 22, 23, 24, 25] [5]
      (fun vs σ' m' => ∃ (i : Nat), vs = [.int .i64 (i : Nat)] ∧ i ≤ a.length ∧ (∀ j, j < i → a[j]? = b[j]?) ∧ σ' = [] ∧ m = m')
      (fun vs => a.length - nOf (vs.getD 0 undef)) rfl ?_ ?_
  · exact ⟨0, rfl, by omega, fun j hj => (by omega), rfl, rfl⟩
  intro u0 vs0 σ0 m0 hJ0 _
  obtain ⟨i, rfl, hi, hsame, rfl, rfl⟩ := hJ0
  refine SWP_seq (SWP_seq (SWP_region ?_))
  first | refine pI rfl rfl ?_ | refine pu rfl rfl ?_
  first | refine pL rfl rfl ?_ | refine pu rfl rfl ?_
  refine pu rfl rfl ?_
  refine pc rfl rfl (fun c14 => ?_) (fun c14 => ?_)
  · skip
    refine SL_nil (nx (SWP_ct rfl (SWP_skip (nx (SWP_seq (SWP_block (SWP_seq ?_)))))))
    obtain ⟨x, hx⟩ : ∃ x, a[i]? = some x := ⟨_, List.getElem?_eq_getElem (by omega)⟩
    obtain ⟨y, hy⟩ : ∃ y, b[i]? = some y := ⟨_, List.getElem?_eq_getElem (by omega)⟩
    obtain ⟨ad, e1, _, hat⟩ := h.atI hx
    cases e1
    obtain ⟨ad', e2, _, hat'⟩ := h'.atI hy
    cases e2
    refine SWP_draws (by kernel_rfl) (by kernel_rfl) ?_
    first | refine pL rfl rfl ?_ | refine pu rfl rfl ?_
    first | refine pI rfl rfl ?_ | refine pu rfl rfl ?_
    first | refine ia (es := 1) rfl rfl rfl (Nat.mul_one _) rfl rfl (by omega) rfl ?_ | refine iai (es := 1) rfl rfl rfl (Nat.mul_one _) rfl rfl (by omega) (by omega) rfl ?_
    refine ldA (v := .int .i64 _) rfl hat rfl rfl ?_
    first | refine pL rfl rfl ?_ | refine pu rfl rfl ?_
    first | refine pI rfl rfl ?_ | refine pu rfl rfl ?_
    first | refine ia (es := 1) rfl rfl rfl (Nat.mul_one _) rfl rfl (by omega) rfl ?_ | refine iai (es := 1) rfl rfl rfl (Nat.mul_one _) rfl rfl (by omega) (by omega) rfl ?_
    refine ldA (v := .int .i64 _) rfl hat' rfl rfl ?_
    refine pc rfl rfl (fun c25 => ?_) (fun c25 => ?_)
    · skip
      refine SL_nil (nx (SWP_ct rfl (SWP_seq (SWP_region ?_))))
      refine pB rfl rfl ?_
      refine SL_nil (nx (SWP_ret (br (nr (nr (br (nr ?_)))))))
      refine fin [_] ⟨rfl, trivial⟩ ?_
      exact congrArg Value.bool (decide_eq_false fun e => by subst e; rw [hx] at hy; cases hy; omega).symm
    refine SL_nil (nx (SWP_cf rfl (SWP_skip (nb (nx (SWP_region ?_))))))
    first | refine pI rfl rfl ?_ | refine pu rfl rfl ?_
    first | refine pw rfl rfl (w64 (by omega) (by omega)) ?_ | refine pu rfl rfl ?_
    refine pI rfl rfl ?_
    refine SL_nil (nx ?_)
    refine ⟨by repeat (first | exact Under.upds rfl (Under.hav _ _ _) | exact Under.hav _ _ _ | refine Under.upd rfl ?_), ?_, ?_⟩
    · refine ⟨i + 1, rfl, by omega, fun j hj => ?_, rfl, rfl⟩
      by_cases e : j = i
      · subst e
        rw [hx, hy, show x = y by omega]
      · exact hsame j (by omega)
    · simp only [L_vals, List.map, List.getD]; show a.length - (i + 1) < a.length - i; omega
  refine SL_nil (nx (SWP_cf rfl (SWP_exit (ne (ne (be rfl (nx (SWP_seq (SWP_region ?_)))))))))
  refine pB rfl rfl ?_
  refine SL_nil (nx (SWP_ret ?_))
  refine fin [_] ⟨rfl, trivial⟩ ?_
  exact congrArg Value.bool (decide_eq_true (eq_of_get (by omega) fun j hj => hsame j (by omega))).symm
theorem canonF {m : Mem} {v : Value} {l : List Int} (h : RL m intE 1 v l) (hl : l.length ≤ 100000) : CallsS Tryz.prog 144 [v].toArray [] m fun r σ' m' => σ' = [] ∧ RL m' intE 1 r (l.mergeSort leI) := by
  refine CallsS.ghost (R' := fun r σ' m' => OwnS 3 1 r ((l.mergeSort leI).flatMap intE) σ') ?_ ?h2
  case h2 =>
    intro r σ' m' hR g W hC
    obtain ⟨m2, h1, h2, h3⟩ := hR.freezeL (τ := []) (by omega) intE_len (by simpa using hC)
    exact ⟨[], m2, h2, h1, rfl, h3⟩
  refine enter Tryz.func144 Tryz.ntmps144 rfl rfl ?_
  refine SWP_seq (SWP_region ?_)
  refine pL rfl rfl ?_
  refine SL_nil (nx (SWP_seq (SWP_region ?_)))
  first | refine pL rfl rfl ?_ | refine pu rfl rfl ?_
  refine apR (e := 3) (size := 1) (bytes := 8) rfl rfl rfl rfl rfl rfl rfl .nil (.refl _) rfl h (all_intE l) (by simp; omega) rfl rfl (fun v5 σ5 hown5 => ?_)
  rw [List.nil_append] at hown5
  first | refine pL rfl rfl ?_ | refine pu rfl rfl ?_
  refine SL_nil (nx (SWP_seq (SWP_region ?_)))
  first | refine pL rfl rfl ?_ | refine pu rfl rfl ?_
  refine SL_call rfl rfl cb145 (sortI hown5 (by omega)) rfl (fun v2_1 σ2_1 m2_1 hl2_1 hR2_1 => ?_)
  obtain ⟨hm2_1, σs, rfl, howns⟩ := hR2_1
  have hn2_1 := hm2_1.symm
  subst hn2_1
  refine SL_nil (nx (SWP_seq (SWP_region ?_)))
  first | refine pL rfl rfl ?_ | refine pu rfl rfl ?_
  first | refine pL rfl rfl ?_ | refine pu rfl rfl ?_
  refine SL_nil (nx (SWP_ret ?_))
  refine fin [_] ⟨rfl, trivial⟩ ?_
  rw [List.append_nil]
  exact howns
set_option maxRecDepth 100000 in
theorem canonI {m : Mem} {l : Line} (h : l.In m) (h1 : l.main.length ≤ 100000) (h2 : l.bonus.length ≤ 100000) : CallsS Tryz.prog 113 [l.val].toArray [] m fun r σ' m' => σ' = [] ∧ ∃ c : Line, r = c.val ∧ c.In m' ∧ c.main = l.main.mergeSort leI ∧ c.bonus = l.bonus.mergeSort leI := by
  refine CallsS.ghost (R' := fun r σ' m' => ∃ c : Line, r = c.val ∧ c.In m' ∧ c.main = l.main.mergeSort leI ∧ c.bonus = l.bonus.mergeSort leI) ?_ ?h2
  case h2 =>
    rintro r σ' m' hr g0 W hC
    exact ⟨_, m', hC.sublist (List.nil_sublist _), Le.refl _, rfl, hr⟩
  dsimp only [Line.val]
  refine enter Tryz.func113 Tryz.ntmps113 rfl rfl ?_
  refine SWP_seq (SWP_region ?_)
  refine bx (v := .agg _) rfl rfl (fun B1 => ?_)
  refine al rfl rfl (fun B2 => ?_)
  refine SL_nil (nx (SWP_seq (SWP_region ?_)))
  refine pu rfl rfl ?_
  refine SL_nil (nx (SWP_seq ?_))
  refine SWP_drawn [(B1, Cells 50 l.enc)] [0, 1, 2, 4, 5, 6, 3, 7, 8, 9] (by kernel_rfl) (by kernel_rfl) (Sub.cons _ (Sub.refl _)) ?_
  refine pu rfl rfl ?_
  refine pu rfl rfl ?_
  refine lw (v := .slice _ _ _) B1 0 rfl rfl rfl rfl ?_
  refine pu rfl rfl ?_
  refine pu rfl rfl ?_
  refine lw (v := .slice _ _ _) B1 1 rfl rfl rfl rfl ?_
  refine SL_call rfl rfl cb144 (CallsS.frame0 (canonF h.mn h1)) rfl (fun v2_3 σ2_3 m2_3 hl2_3 hR2_3 => ?_)
  obtain ⟨σa, rfl, rfl, hra⟩ := hR2_3
  obtain ⟨aa, ac, rfl⟩ := hra.len
  refine SL_call rfl rfl cb144 (CallsS.frame0 (canonF (h.bn.mono hl2_3) h2)) rfl (fun v2_7 σ2_7 m2_7 hl2_7 hR2_7 => ?_)
  obtain ⟨σb, rfl, rfl, hrb⟩ := hR2_7
  obtain ⟨ba, bc, rfl⟩ := hrb.len
  refine pA rfl rfl ?_
  refine sw (v := .agg _) B2 0 rfl rfl rfl rfl rfl rfl rfl ?_
  refine SL_nil (nx (SWP_ret ?_))
  refine fin [_] ⟨⟨_, _, rfl, Rd.of_cells (MemO.mem (B := B2)), rfl⟩, trivial⟩ ?_
  exact ⟨⟨aa, ac, _, ba, bc, _⟩, rfl, ⟨hra.mono hl2_7, hrb⟩, rfl, rfl⟩
end Go.Proofs.YtifjhpaoejageaaGreatDoor
namespace Go.Proofs.YtifjhpaoejageaaGreatDoor
open Eng
set_option maxRecDepth 100000 in
theorem eqLI {m : Mem} {a b : Line} (ha : a.In m) (hb : b.In m) (h1 : a.main.length ≤ 100000) (h2 : a.bonus.length ≤ 100000) : PureCall Tryz.prog 84 [a.val, b.val] m (.bool (decide (a.main = b.main ∧ a.bonus = b.bonus))) := by
  refine CallsS.pure ?_
  dsimp only [Line.val]
  refine enter Tryz.func84 Tryz.ntmps84 rfl rfl ?_
  refine SWP_seq (SWP_region ?_)
  refine bx (v := .agg _) rfl rfl (fun B2 => ?_)
  refine bx (v := .agg _) rfl rfl (fun B3 => ?_)
  refine pB rfl rfl ?_
  refine SL_nil (nx (SWP_seq (SWP_region ?_)))
  refine pu rfl rfl ?_
  refine lw (v := .slice _ _ _) B2 0 rfl rfl rfl rfl ?_
  refine pu rfl rfl ?_
  refine lw (v := .slice _ _ _) B3 0 rfl rfl rfl rfl ?_
  refine SL_pcall rfl rfl cb114 (equalI ha.mn hb.mn h1) rfl ?_
  refine psp 9 rfl (fun c9 => ?_) (fun c9 => ?_)
  · skip
    first | refine pB rfl rfl ?_ | refine pu rfl rfl ?_
    refine SL_yes rfl ?_
    refine pu rfl rfl ?_
    refine SL_yes rfl ?_
    refine lw (v := .slice _ _ _) B2 1 rfl rfl rfl rfl ?_
    refine SL_yes rfl ?_
    refine pu rfl rfl ?_
    refine SL_yes rfl ?_
    refine lw (v := .slice _ _ _) B3 1 rfl rfl rfl rfl ?_
    refine SL_yes rfl ?_
    refine SL_pcall rfl rfl cb114 (equalI ha.bn hb.bn h2) rfl ?_
    refine pB rfl rfl ?_
    refine pB rfl rfl ?_
    refine SL_nil (nx (SWP_ret ?_))
    refine fin [_] ⟨rfl, trivial⟩ ?_
    refine congrArg Value.bool (decide_eq_decide.2 ⟨fun h => ⟨by assumption, h⟩, fun h => h.2⟩)
  first | refine pB rfl rfl ?_ | refine pu rfl rfl ?_
  refine SL_no rfl rfl ?_
  refine SL_no rfl rfl ?_
  refine SL_no rfl rfl ?_
  refine SL_no rfl rfl ?_
  refine SL_no rfl rfl ?_
  refine pB rfl rfl ?_
  refine pB rfl rfl ?_
  refine SL_nil (nx (SWP_ret ?_))
  refine fin [_] ⟨rfl, trivial⟩ ?_
  refine congrArg Value.bool (decide_eq_false (fun h => ?_)).symm
  exact absurd h.1 (by assumption)
set_option maxRecDepth 100000 in
theorem sameLR {m : Mem} {a b : Line} (ha : a.In m) (hb : b.In m) : PureCall Tryz.prog 25 [a.val, b.val] m (.bool (decide (a.main = b.main ∧ a.bonus = b.bonus))) := by
  refine CallsS.pure ?_
  dsimp only [Line.val]
  refine enter Tryz.func25 Tryz.ntmps25 rfl rfl ?_
  refine SWP_seq (SWP_region ?_)
  refine bx (v := .agg _) rfl rfl (fun B2 => ?_)
  refine bx (v := .agg _) rfl rfl (fun B3 => ?_)
  refine pB rfl rfl ?_
  refine SL_nil (nx (SWP_seq (SWP_region ?_)))
  refine pu rfl rfl ?_
  refine lw (v := .slice _ _ _) B2 0 rfl rfl rfl rfl ?_
  refine pu rfl rfl ?_
  refine lw (v := .slice _ _ _) B3 0 rfl rfl rfl rfl ?_
  refine SL_pcall rfl rfl cb56 (intsR ha.mn hb.mn) rfl ?_
  refine psp 9 rfl (fun c9 => ?_) (fun c9 => ?_)
  · skip
    first | refine pB rfl rfl ?_ | refine pu rfl rfl ?_
    refine SL_yes rfl ?_
    refine pu rfl rfl ?_
    refine SL_yes rfl ?_
    refine lw (v := .slice _ _ _) B2 1 rfl rfl rfl rfl ?_
    refine SL_yes rfl ?_
    refine pu rfl rfl ?_
    refine SL_yes rfl ?_
    refine lw (v := .slice _ _ _) B3 1 rfl rfl rfl rfl ?_
    refine SL_yes rfl ?_
    refine SL_pcall rfl rfl cb56 (intsR ha.bn hb.bn) rfl ?_
    refine pB rfl rfl ?_
    refine pB rfl rfl ?_
    refine SL_nil (nx (SWP_ret ?_))
    refine fin [_] ⟨rfl, trivial⟩ ?_
    refine congrArg Value.bool (decide_eq_decide.2 ⟨fun h => ⟨by assumption, h⟩, fun h => h.2⟩)
  first | refine pB rfl rfl ?_ | refine pu rfl rfl ?_
  refine SL_no rfl rfl ?_
  refine SL_no rfl rfl ?_
  refine SL_no rfl rfl ?_
  refine SL_no rfl rfl ?_
  refine SL_no rfl rfl ?_
  refine pB rfl rfl ?_
  refine pB rfl rfl ?_
  refine SL_nil (nx (SWP_ret ?_))
  refine fin [_] ⟨rfl, trivial⟩ ?_
  refine congrArg Value.bool (decide_eq_false (fun h => ?_)).symm
  exact absurd h.1 (by assumption)
set_option maxRecDepth 100000 in
theorem eqF {m : Mem} {p : Addr} {e c : Line} (he : e.In m) (hc : c.In m) (hp : At m p c.enc) (h1 : e.main.length ≤ 100000) (h2 : e.bonus.length ≤ 100000) : PureCall Tryz.prog 83 [e.val, .pointer (some p)] m (.bool (decide (e.main = c.main ∧ e.bonus = c.bonus))) := by
  refine CallsS.pure ?_
  dsimp only [Line.val]
  refine enter Tryz.func83 Tryz.ntmps83 rfl rfl ?_
  refine SWP_seq (SWP_region ?_)
  refine bx (v := .agg _) rfl rfl (fun B2 => ?_)
  refine pB rfl rfl ?_
  refine SL_nil (nx (SWP_seq (SWP_region ?_)))
  refine lw (v := .agg _) B2 0 rfl rfl rfl rfl ?_
  refine ldA (v := c.val) rfl hp rfl rfl ?_
  refine SL_pcall rfl rfl cb84 (eqLI he hc h1 h2) rfl ?_
  first | refine pB rfl rfl ?_ | refine pu rfl rfl ?_
  refine SL_nil (nx (SWP_ret ?_))
  refine fin [_] ⟨rfl, trivial⟩ ?_
  rfl
theorem Line.enc_len (l : Line) : l.enc.length = 2 := rfl
structure Bet where
  la : Option Addr
  lc : Nat
  lines : List Line
  system : Bool
  draws : Int
  addons : Int
def Bet.enc (b : Bet) : List Value := [.slice b.la b.lines.length b.lc, .bool b.system, .int .i64 b.draws, .int .i64 b.addons]
def Bet.val (b : Bet) : Value := .agg #[.slice b.la b.lines.length b.lc, .bool b.system, .int .i64 b.draws, .int .i64 b.addons]
structure Bet.In (m : Mem) (b : Bet) : Prop where
  ls : RL m Line.enc 2 (.slice b.la b.lines.length b.lc) b.lines
  each : ∀ l ∈ b.lines, l.In m
theorem Bet.In.mono {m m' : Mem} {b : Bet} (h : b.In m) (hl : Le m m') : b.In m' := ⟨h.ls.mono hl, fun l hh => (h.each l hh).mono hl⟩
set_option maxRecDepth 100000 in
theorem idxF {m : Mem} {v : Value} {L : List Line} (h : RL m Line.enc 2 v L) (hL : ∀ e ∈ L, e.In m ∧ e.main.length ≤ 100000 ∧ e.bonus.length ≤ 100000) {p : Addr} {c : Line} (hc : c.In m) (hp : At m p c.enc) : CallsS Tryz.prog 115 [v, .func (.func 83) #[] #[.pointer (some p)]].toArray [] m fun r σ' m' => σ' = [] ∧ m' = m ∧ ∃ k : Int, r = .int .i64 k ∧ (0 ≤ k ↔ ∃ e ∈ L, e.main = c.main ∧ e.bonus = c.bonus) := by
  refine CallsS.forget (R := fun r => ∃ k : Int, r = .int .i64 k ∧ (0 ≤ k ↔ ∃ e ∈ L, e.main = c.main ∧ e.bonus = c.bonus)) ?_
  have hsm := h.small
  obtain ⟨pa, pcap, rfl⟩ := h.len
  refine enter Tryz.func115 Tryz.ntmps115 rfl rfl ?_
  refine SWP_seq (SWP_region ?_)
  refine pI rfl rfl ?_
  refine SL_nil (nx (SWP_seq (SWP_seq (SWP_region ?_))))
  first | refine pL rfl rfl ?_ | refine pu rfl rfl ?_
  refine pu rfl rfl ?_
  refine pI rfl rfl ?_
  refine SL_nil (nx (SWP_block ?_))
  refine SWP_loop [4, 5, 8, 9, 10, 11, 12, 13, 14, 15, 16, 17, 18] [8]
      (fun vs σ' m' => ∃ (i : Nat), vs = [.int .i64 (i : Nat)] ∧ i ≤ L.length ∧ (∀ e ∈ L.take i, ¬ (e.main = c.main ∧ e.bonus = c.bonus)) ∧ σ' = [] ∧ m = m')
      (fun vs => L.length - nOf (vs.getD 0 undef)) rfl ?_ ?_
  · exact ⟨0, rfl, by omega, by simp, rfl, rfl⟩
  intro u0 vs0 σ0 m0 hJ0 _
  obtain ⟨i, rfl, hi, hno, rfl, rfl⟩ := hJ0
  refine SWP_seq (SWP_region ?_)
  refine pc rfl rfl (fun c9 => ?_) (fun c9 => ?_)
  · skip
    refine SL_nil (nx (SWP_seq (SWP_ct rfl (SWP_skip (nx (SWP_seq (SWP_block (SWP_seq ?_))))))))
    obtain ⟨x, hx⟩ : ∃ x, L[i]? = some x := ⟨_, List.getElem?_eq_getElem (by omega)⟩
    obtain ⟨hx1, hx2, hx3⟩ := hL x (List.mem_of_getElem? hx)
    obtain ⟨ad, e0, _, hat⟩ := h.atA Line.enc_len hx
    cases e0
    refine SWP_region ?_
    first | refine pI rfl rfl ?_ | refine pu rfl rfl ?_
    first | refine pI rfl rfl ?_ | refine pu rfl rfl ?_
    refine SL_nil (nx (SWP_seq (SWP_region ?_)))
    refine pu rfl rfl ?_
    first | refine pL rfl rfl ?_ | refine pu rfl rfl ?_
    first | refine pI rfl rfl ?_ | refine pu rfl rfl ?_
    first | refine ia (es := 2) rfl rfl rfl rfl rfl rfl (by omega) rfl ?_ | refine iai (es := 2) rfl rfl rfl rfl rfl rfl (by omega) (by omega) rfl ?_
    refine ldA (v := x.val) rfl hat rfl rfl ?_
    refine SL_pcallC rfl rfl cb83 (eqF hx1 hc hp hx2 hx3 _) rfl rfl ?_
    refine psp 16 rfl (fun c16 => ?_) (fun c16 => ?_)
    · skip
      refine SL_nil (nx (SWP_ct rfl (SWP_seq (SWP_region ?_))))
      first | refine pI rfl rfl ?_ | refine pu rfl rfl ?_
      first | refine pI rfl rfl ?_ | refine pu rfl rfl ?_
      refine SL_nil (nx (SWP_ret (br (nr (nr (br (nr ?_)))))))
      refine fin [_] ⟨rfl, trivial⟩ ?_
      exact ⟨_, rfl, fun _ => ⟨x, List.mem_of_getElem? hx, by assumption⟩, fun _ => by omega⟩
    refine SL_nil (nx (SWP_cf rfl (SWP_skip (nb (nx (SWP_region ?_))))))
    first | refine pw rfl rfl (w64 (by omega) (by omega)) ?_ | refine pu rfl rfl ?_
    refine pI rfl rfl ?_
    refine SL_nil (nx ?_)
    refine ⟨by repeat (first | exact Under.upds rfl (Under.hav _ _ _) | exact Under.hav _ _ _ | refine Under.upd rfl ?_), ?_, ?_⟩
    · refine ⟨i + 1, rfl, by omega, fun y hy => ?_, rfl, rfl⟩
      rw [take_snocA hx] at hy
      rcases List.mem_append.1 hy with hy | hy
      · exact hno y hy
      · rw [List.mem_singleton.1 hy]; assumption
    · simp only [L_vals, List.map, List.getD]; show L.length - (i + 1) < L.length - i; omega
  refine SL_nil (nx (SWP_seq (SWP_cf rfl (SWP_exit (ne (ne (be rfl (nx (SWP_seq (SWP_region ?_))))))))))
  refine pI rfl rfl ?_
  refine SL_nil (nx (SWP_ret ?_))
  refine fin [_] ⟨rfl, trivial⟩ ?_
  refine ⟨_, rfl, fun h => by omega, fun ⟨e, he, hee⟩ => ?_⟩
  rw [List.take_of_length_le (by omega)] at hno
  exact absurd hee (hno e he)
set_option maxRecDepth 100000 in
theorem contF {m : Mem} {v : Value} {L : List Line} (h : RL m Line.enc 2 v L) (hL : ∀ e ∈ L, e.In m ∧ e.main.length ≤ 100000 ∧ e.bonus.length ≤ 100000) {p : Addr} {c : Line} (hc : c.In m) (hp : At m p c.enc) : PureCall Tryz.prog 85 [v, .func (.func 83) #[] #[.pointer (some p)]] m (.bool (decide (∃ e ∈ L, e.main = c.main ∧ e.bonus = c.bonus))) := by
  refine CallsS.pure ?_
  refine enter Tryz.func85 Tryz.ntmps85 rfl rfl ?_
  refine SWP_seq (SWP_region ?_)
  refine pB rfl rfl ?_
  refine SL_nil (nx (SWP_seq (SWP_region ?_)))
  first | refine pL rfl rfl ?_ | refine pu rfl rfl ?_
  refine pu rfl rfl ?_
  refine SL_call rfl rfl cb115 (idxF h hL hc hp) rfl (fun v1_2 σ1_2 m1_2 hl1_2 hR1_2 => ?_)
  obtain ⟨rfl, hm1_2, k, rfl, hk⟩ := hR1_2
  have hn1_2 := hm1_2.symm
  subst hn1_2
  refine pu rfl rfl ?_
  refine pB rfl rfl ?_
  refine SL_nil (nx (SWP_ret ?_))
  refine fin [_] ⟨rfl, trivial⟩ ?_
  exact congrArg Value.bool (decide_eq_decide.2 hk)
end Go.Proofs.YtifjhpaoejageaaGreatDoor
namespace Go.Proofs.YtifjhpaoejageaaGreatDoor
open Eng
theorem cells3 : Tryz.prog.cellsOf 3 = 1 := by kernel_rfl
theorem open_el3 {H : Type} {enc : TypeId × Value → H} {W : World} (n : Nat) (cs : List Value) (y : DataW H × List MemPlace) (h : DataW.trod enc Tryz.prog W 0 (fun _ => true) true n 3 cs = some y) : ∃ b : Int, cs = intE b ∧ (Lit.int .i64 b).wf = true := by
  obtain ⟨n0, e0, _, w0⟩ := DataW.trod_int Tryz.underlying3 h
  exact ⟨n0, e0, w0⟩
def Tier.OkM (m : Mem) : Tier → Prop
  | ⟨n0, n1, n2, n3, n4, n5⟩ => (Lit.int .i64 n0).wf = true ∧ (Lit.int .i64 n1).wf = true ∧ (Lit.int .i64 n2).wf = true ∧ (Lit.int .i64 n3).wf = true ∧ (Lit.int .i64 n4).wf = true ∧ (Lit.int .i64 n5).wf = true
theorem cells_Tier : Tryz.prog.cellsOf 74 = 6 := by kernel_rfl
set_option maxRecDepth 100000 in
theorem open_Tier {H : Type} {enc : TypeId × Value → H} {W : World} (n : Nat) (cs : List Value) (y : DataW H × List MemPlace) (h : DataW.trod enc Tryz.prog W 0 (fun _ => true) true n 74 cs = some y) : ∃ b : Tier, cs = b.enc ∧ b.OkM (allMem W) := by
  obtain ⟨xs, k, _, _, hlen, hxs, hf⟩ := DataW.trod_struct Tryz.underlying74 h
  rw [cells_Tier] at hlen
  match cs, hlen with
  | [v0, v1, v2, v3, v4, v5], _ =>
  match xs, hxs with
  | [y0, y1, y2, y3, y4, y5], _ =>
    have f0 : DataW.trod enc Tryz.prog W 0 (fun _ => true) true k 3 [v0] = some y0 := by
      have := hf 0 _ rfl
      have e0 : List.take (Tryz.prog.cellsOf 3) (List.drop 0 [v0, v1, v2, v3, v4, v5]) = [v0] := by rw [cells3]; rfl
      rw [← e0]; exact this
    have f1 : DataW.trod enc Tryz.prog W 0 (fun _ => true) true k 3 [v1] = some y1 := by
      have := hf 1 _ rfl
      have e0 : List.take (Tryz.prog.cellsOf 3) (List.drop 1 [v0, v1, v2, v3, v4, v5]) = [v1] := by rw [cells3]; rfl
      rw [← e0]; exact this
    have f2 : DataW.trod enc Tryz.prog W 0 (fun _ => true) true k 3 [v2] = some y2 := by
      have := hf 2 _ rfl
      have e0 : List.take (Tryz.prog.cellsOf 3) (List.drop 2 [v0, v1, v2, v3, v4, v5]) = [v2] := by rw [cells3]; rfl
      rw [← e0]; exact this
    have f3 : DataW.trod enc Tryz.prog W 0 (fun _ => true) true k 3 [v3] = some y3 := by
      have := hf 3 _ rfl
      have e0 : List.take (Tryz.prog.cellsOf 3) (List.drop 3 [v0, v1, v2, v3, v4, v5]) = [v3] := by rw [cells3]; rfl
      rw [← e0]; exact this
    have f4 : DataW.trod enc Tryz.prog W 0 (fun _ => true) true k 3 [v4] = some y4 := by
      have := hf 4 _ rfl
      have e0 : List.take (Tryz.prog.cellsOf 3) (List.drop 4 [v0, v1, v2, v3, v4, v5]) = [v4] := by rw [cells3]; rfl
      rw [← e0]; exact this
    have f5 : DataW.trod enc Tryz.prog W 0 (fun _ => true) true k 3 [v5] = some y5 := by
      have := hf 5 _ rfl
      have e0 : List.take (Tryz.prog.cellsOf 3) (List.drop 5 [v0, v1, v2, v3, v4, v5]) = [v5] := by rw [cells3]; rfl
      rw [← e0]; exact this
    obtain ⟨n0, e0, _, w0⟩ := DataW.trod_int Tryz.underlying3 f0
    obtain rfl : v0 = _ := (List.cons.inj e0).1
    obtain ⟨n1, e1, _, w1⟩ := DataW.trod_int Tryz.underlying3 f1
    obtain rfl : v1 = _ := (List.cons.inj e1).1
    obtain ⟨n2, e2, _, w2⟩ := DataW.trod_int Tryz.underlying3 f2
    obtain rfl : v2 = _ := (List.cons.inj e2).1
    obtain ⟨n3, e3, _, w3⟩ := DataW.trod_int Tryz.underlying3 f3
    obtain rfl : v3 = _ := (List.cons.inj e3).1
    obtain ⟨n4, e4, _, w4⟩ := DataW.trod_int Tryz.underlying3 f4
    obtain rfl : v4 = _ := (List.cons.inj e4).1
    obtain ⟨n5, e5, _, w5⟩ := DataW.trod_int Tryz.underlying3 f5
    obtain rfl : v5 = _ := (List.cons.inj e5).1
    exact ⟨⟨n0, n1, n2, n3, n4, n5⟩, rfl, ⟨w0, w1, w2, w3, w4, w5⟩⟩
theorem cells9 : Tryz.prog.cellsOf 9 = 1 := by kernel_rfl
theorem cells45 : Tryz.prog.cellsOf 45 = 1 := by kernel_rfl
def Addon.OkM (m : Mem) : Addon → Prop
  | ⟨n0, n1, n2, a3, c3, l3, n4, a5, c5, l5⟩ => n0.size ≤ maxLen ∧ (Lit.int .i64 n1).wf = true ∧ (Lit.int .i64 n2).wf = true ∧ (RL m intE 1 (.slice a3 l3.length c3) l3 ∧ ∀ x ∈ l3, (Lit.int .i64 x).wf = true) ∧ (Lit.int .i64 n4).wf = true ∧ (RL m intE 1 (.slice a5 l5.length c5) l5 ∧ ∀ x ∈ l5, (Lit.int .i64 x).wf = true)
theorem cells_Addon : Tryz.prog.cellsOf 47 = 6 := by kernel_rfl
set_option maxRecDepth 100000 in
theorem open_Addon {H : Type} {enc : TypeId × Value → H} {W : World} (n : Nat) (cs : List Value) (y : DataW H × List MemPlace) (h : DataW.trod enc Tryz.prog W 0 (fun _ => true) true n 47 cs = some y) : ∃ b : Addon, cs = b.enc ∧ b.OkM (allMem W) := by
  obtain ⟨xs, k, _, _, hlen, hxs, hf⟩ := DataW.trod_struct Tryz.underlying47 h
  rw [cells_Addon] at hlen
  match cs, hlen with
  | [v0, v1, v2, v3, v4, v5], _ =>
  match xs, hxs with
  | [y0, y1, y2, y3, y4, y5], _ =>
    have f0 : DataW.trod enc Tryz.prog W 0 (fun _ => true) true k 9 [v0] = some y0 := by
      have := hf 0 _ rfl
      have e0 : List.take (Tryz.prog.cellsOf 9) (List.drop 0 [v0, v1, v2, v3, v4, v5]) = [v0] := by rw [cells9]; rfl
      rw [← e0]; exact this
    have f1 : DataW.trod enc Tryz.prog W 0 (fun _ => true) true k 3 [v1] = some y1 := by
      have := hf 1 _ rfl
      have e0 : List.take (Tryz.prog.cellsOf 3) (List.drop 1 [v0, v1, v2, v3, v4, v5]) = [v1] := by rw [cells3]; rfl
      rw [← e0]; exact this
    have f2 : DataW.trod enc Tryz.prog W 0 (fun _ => true) true k 3 [v2] = some y2 := by
      have := hf 2 _ rfl
      have e0 : List.take (Tryz.prog.cellsOf 3) (List.drop 2 [v0, v1, v2, v3, v4, v5]) = [v2] := by rw [cells3]; rfl
      rw [← e0]; exact this
    have f3 : DataW.trod enc Tryz.prog W 0 (fun _ => true) true k 45 [v3] = some y3 := by
      have := hf 3 _ rfl
      have e0 : List.take (Tryz.prog.cellsOf 45) (List.drop 3 [v0, v1, v2, v3, v4, v5]) = [v3] := by rw [cells45]; rfl
      rw [← e0]; exact this
    have f4 : DataW.trod enc Tryz.prog W 0 (fun _ => true) true k 3 [v4] = some y4 := by
      have := hf 4 _ rfl
      have e0 : List.take (Tryz.prog.cellsOf 3) (List.drop 4 [v0, v1, v2, v3, v4, v5]) = [v4] := by rw [cells3]; rfl
      rw [← e0]; exact this
    have f5 : DataW.trod enc Tryz.prog W 0 (fun _ => true) true k 45 [v5] = some y5 := by
      have := hf 5 _ rfl
      have e0 : List.take (Tryz.prog.cellsOf 45) (List.drop 5 [v0, v1, v2, v3, v4, v5]) = [v5] := by rw [cells45]; rfl
      rw [← e0]; exact this
    obtain ⟨n0, e0, _, w0⟩ := DataW.trod_string Tryz.underlying9 f0
    obtain rfl : v0 = _ := (List.cons.inj e0).1
    obtain ⟨n1, e1, _, w1⟩ := DataW.trod_int Tryz.underlying3 f1
    obtain rfl : v1 = _ := (List.cons.inj e1).1
    obtain ⟨n2, e2, _, w2⟩ := DataW.trod_int Tryz.underlying3 f2
    obtain rfl : v2 = _ := (List.cons.inj e2).1
    obtain ⟨l3, hl3, w3⟩ := open_list (v := v3) intE_len Tryz.underlying45 cells3 open_el3 f3
    obtain ⟨a3, c3, rfl⟩ := hl3.len
    obtain ⟨n4, e4, _, w4⟩ := DataW.trod_int Tryz.underlying3 f4
    obtain rfl : v4 = _ := (List.cons.inj e4).1
    obtain ⟨l5, hl5, w5⟩ := open_list (v := v5) intE_len Tryz.underlying45 cells3 open_el3 f5
    obtain ⟨a5, c5, rfl⟩ := hl5.len
    exact ⟨⟨n0, n1, n2, a3, c3, l3, n4, a5, c5, l5⟩, rfl, ⟨w0, w1, w2, ⟨hl3, w3⟩, w4, ⟨hl5, w5⟩⟩⟩
theorem cells22 : Tryz.prog.cellsOf 22 = 1 := by kernel_rfl
theorem cells23 : Tryz.prog.cellsOf 23 = 1 := by kernel_rfl
def Game.OkM (m : Mem) : Game → Prop
  | ⟨n0, n1, n2, n3, n4, n5, n6, n7, n8, n9, n10, n11, n12, n13, n14, n15, n16, n17, n18, n19, a20, c20, l20, a21, c21, l21⟩ => n0.size ≤ maxLen ∧ (Lit.int .i64 n1).wf = true ∧ (Lit.int .i64 n2).wf = true ∧ (Lit.int .i64 n3).wf = true ∧ (Lit.int .i64 n4).wf = true ∧ (Lit.int .i64 n5).wf = true ∧ (Lit.int .i64 n6).wf = true ∧ (Lit.int .i64 n7).wf = true ∧ (Lit.int .i64 n8).wf = true ∧ (Lit.int .i64 n9).wf = true ∧ (Lit.int .i64 n10).wf = true ∧ (Lit.int .i64 n11).wf = true ∧ (Lit.int .i64 n12).wf = true ∧ (Lit.int .i64 n13).wf = true ∧ (Lit.int .i64 n14).wf = true ∧ (Lit.int .i64 n15).wf = true ∧ (Lit.int .i64 n16).wf = true ∧ (Lit.int .i64 n17).wf = true ∧ (Lit.int .i64 n18).wf = true ∧ (Lit.int .i64 n19).wf = true ∧ (RL m Addon.enc 6 (.slice a20 l20.length c20) l20 ∧ ∀ x ∈ l20, Addon.OkM m x) ∧ (RL m Tier.enc 6 (.slice a21 l21.length c21) l21 ∧ ∀ x ∈ l21, Tier.OkM m x)
theorem cells_Game : Tryz.prog.cellsOf 25 = 22 := by kernel_rfl
set_option maxRecDepth 100000 in
theorem open_Game {H : Type} {enc : TypeId × Value → H} {W : World} (n : Nat) (cs : List Value) (y : DataW H × List MemPlace) (h : DataW.trod enc Tryz.prog W 0 (fun _ => true) true n 25 cs = some y) : ∃ b : Game, cs = b.enc ∧ b.OkM (allMem W) := by
  obtain ⟨xs, k, _, _, hlen, hxs, hf⟩ := DataW.trod_struct Tryz.underlying25 h
  rw [cells_Game] at hlen
  match cs, hlen with
  | [v0, v1, v2, v3, v4, v5, v6, v7, v8, v9, v10, v11, v12, v13, v14, v15, v16, v17, v18, v19, v20, v21], _ =>
  match xs, hxs with
  | [y0, y1, y2, y3, y4, y5, y6, y7, y8, y9, y10, y11, y12, y13, y14, y15, y16, y17, y18, y19, y20, y21], _ =>
    have f0 : DataW.trod enc Tryz.prog W 0 (fun _ => true) true k 9 [v0] = some y0 := by
      have := hf 0 _ rfl
      have e0 : List.take (Tryz.prog.cellsOf 9) (List.drop 0 [v0, v1, v2, v3, v4, v5, v6, v7, v8, v9, v10, v11, v12, v13, v14, v15, v16, v17, v18, v19, v20, v21]) = [v0] := by rw [cells9]; rfl
      rw [← e0]; exact this
    have f1 : DataW.trod enc Tryz.prog W 0 (fun _ => true) true k 3 [v1] = some y1 := by
      have := hf 1 _ rfl
      have e0 : List.take (Tryz.prog.cellsOf 3) (List.drop 1 [v0, v1, v2, v3, v4, v5, v6, v7, v8, v9, v10, v11, v12, v13, v14, v15, v16, v17, v18, v19, v20, v21]) = [v1] := by rw [cells3]; rfl
      rw [← e0]; exact this
    have f2 : DataW.trod enc Tryz.prog W 0 (fun _ => true) true k 3 [v2] = some y2 := by
      have := hf 2 _ rfl
      have e0 : List.take (Tryz.prog.cellsOf 3) (List.drop 2 [v0, v1, v2, v3, v4, v5, v6, v7, v8, v9, v10, v11, v12, v13, v14, v15, v16, v17, v18, v19, v20, v21]) = [v2] := by rw [cells3]; rfl
      rw [← e0]; exact this
    have f3 : DataW.trod enc Tryz.prog W 0 (fun _ => true) true k 3 [v3] = some y3 := by
      have := hf 3 _ rfl
      have e0 : List.take (Tryz.prog.cellsOf 3) (List.drop 3 [v0, v1, v2, v3, v4, v5, v6, v7, v8, v9, v10, v11, v12, v13, v14, v15, v16, v17, v18, v19, v20, v21]) = [v3] := by rw [cells3]; rfl
      rw [← e0]; exact this
    have f4 : DataW.trod enc Tryz.prog W 0 (fun _ => true) true k 3 [v4] = some y4 := by
      have := hf 4 _ rfl
      have e0 : List.take (Tryz.prog.cellsOf 3) (List.drop 4 [v0, v1, v2, v3, v4, v5, v6, v7, v8, v9, v10, v11, v12, v13, v14, v15, v16, v17, v18, v19, v20, v21]) = [v4] := by rw [cells3]; rfl
      rw [← e0]; exact this
    have f5 : DataW.trod enc Tryz.prog W 0 (fun _ => true) true k 3 [v5] = some y5 := by
      have := hf 5 _ rfl
      have e0 : List.take (Tryz.prog.cellsOf 3) (List.drop 5 [v0, v1, v2, v3, v4, v5, v6, v7, v8, v9, v10, v11, v12, v13, v14, v15, v16, v17, v18, v19, v20, v21]) = [v5] := by rw [cells3]; rfl
      rw [← e0]; exact this
    have f6 : DataW.trod enc Tryz.prog W 0 (fun _ => true) true k 3 [v6] = some y6 := by
      have := hf 6 _ rfl
      have e0 : List.take (Tryz.prog.cellsOf 3) (List.drop 6 [v0, v1, v2, v3, v4, v5, v6, v7, v8, v9, v10, v11, v12, v13, v14, v15, v16, v17, v18, v19, v20, v21]) = [v6] := by rw [cells3]; rfl
      rw [← e0]; exact this
    have f7 : DataW.trod enc Tryz.prog W 0 (fun _ => true) true k 3 [v7] = some y7 := by
      have := hf 7 _ rfl
      have e0 : List.take (Tryz.prog.cellsOf 3) (List.drop 7 [v0, v1, v2, v3, v4, v5, v6, v7, v8, v9, v10, v11, v12, v13, v14, v15, v16, v17, v18, v19, v20, v21]) = [v7] := by rw [cells3]; rfl
      rw [← e0]; exact this
    have f8 : DataW.trod enc Tryz.prog W 0 (fun _ => true) true k 3 [v8] = some y8 := by
      have := hf 8 _ rfl
      have e0 : List.take (Tryz.prog.cellsOf 3) (List.drop 8 [v0, v1, v2, v3, v4, v5, v6, v7, v8, v9, v10, v11, v12, v13, v14, v15, v16, v17, v18, v19, v20, v21]) = [v8] := by rw [cells3]; rfl
      rw [← e0]; exact this
    have f9 : DataW.trod enc Tryz.prog W 0 (fun _ => true) true k 3 [v9] = some y9 := by
      have := hf 9 _ rfl
      have e0 : List.take (Tryz.prog.cellsOf 3) (List.drop 9 [v0, v1, v2, v3, v4, v5, v6, v7, v8, v9, v10, v11, v12, v13, v14, v15, v16, v17, v18, v19, v20, v21]) = [v9] := by rw [cells3]; rfl
      rw [← e0]; exact this
    have f10 : DataW.trod enc Tryz.prog W 0 (fun _ => true) true k 3 [v10] = some y10 := by
      have := hf 10 _ rfl
      have e0 : List.take (Tryz.prog.cellsOf 3) (List.drop 10 [v0, v1, v2, v3, v4, v5, v6, v7, v8, v9, v10, v11, v12, v13, v14, v15, v16, v17, v18, v19, v20, v21]) = [v10] := by rw [cells3]; rfl
      rw [← e0]; exact this
    have f11 : DataW.trod enc Tryz.prog W 0 (fun _ => true) true k 3 [v11] = some y11 := by
      have := hf 11 _ rfl
      have e0 : List.take (Tryz.prog.cellsOf 3) (List.drop 11 [v0, v1, v2, v3, v4, v5, v6, v7, v8, v9, v10, v11, v12, v13, v14, v15, v16, v17, v18, v19, v20, v21]) = [v11] := by rw [cells3]; rfl
      rw [← e0]; exact this
    have f12 : DataW.trod enc Tryz.prog W 0 (fun _ => true) true k 3 [v12] = some y12 := by
      have := hf 12 _ rfl
      have e0 : List.take (Tryz.prog.cellsOf 3) (List.drop 12 [v0, v1, v2, v3, v4, v5, v6, v7, v8, v9, v10, v11, v12, v13, v14, v15, v16, v17, v18, v19, v20, v21]) = [v12] := by rw [cells3]; rfl
      rw [← e0]; exact this
    have f13 : DataW.trod enc Tryz.prog W 0 (fun _ => true) true k 3 [v13] = some y13 := by
      have := hf 13 _ rfl
      have e0 : List.take (Tryz.prog.cellsOf 3) (List.drop 13 [v0, v1, v2, v3, v4, v5, v6, v7, v8, v9, v10, v11, v12, v13, v14, v15, v16, v17, v18, v19, v20, v21]) = [v13] := by rw [cells3]; rfl
      rw [← e0]; exact this
    have f14 : DataW.trod enc Tryz.prog W 0 (fun _ => true) true k 3 [v14] = some y14 := by
      have := hf 14 _ rfl
      have e0 : List.take (Tryz.prog.cellsOf 3) (List.drop 14 [v0, v1, v2, v3, v4, v5, v6, v7, v8, v9, v10, v11, v12, v13, v14, v15, v16, v17, v18, v19, v20, v21]) = [v14] := by rw [cells3]; rfl
      rw [← e0]; exact this
    have f15 : DataW.trod enc Tryz.prog W 0 (fun _ => true) true k 3 [v15] = some y15 := by
      have := hf 15 _ rfl
      have e0 : List.take (Tryz.prog.cellsOf 3) (List.drop 15 [v0, v1, v2, v3, v4, v5, v6, v7, v8, v9, v10, v11, v12, v13, v14, v15, v16, v17, v18, v19, v20, v21]) = [v15] := by rw [cells3]; rfl
      rw [← e0]; exact this
    have f16 : DataW.trod enc Tryz.prog W 0 (fun _ => true) true k 3 [v16] = some y16 := by
      have := hf 16 _ rfl
      have e0 : List.take (Tryz.prog.cellsOf 3) (List.drop 16 [v0, v1, v2, v3, v4, v5, v6, v7, v8, v9, v10, v11, v12, v13, v14, v15, v16, v17, v18, v19, v20, v21]) = [v16] := by rw [cells3]; rfl
      rw [← e0]; exact this
    have f17 : DataW.trod enc Tryz.prog W 0 (fun _ => true) true k 3 [v17] = some y17 := by
      have := hf 17 _ rfl
      have e0 : List.take (Tryz.prog.cellsOf 3) (List.drop 17 [v0, v1, v2, v3, v4, v5, v6, v7, v8, v9, v10, v11, v12, v13, v14, v15, v16, v17, v18, v19, v20, v21]) = [v17] := by rw [cells3]; rfl
      rw [← e0]; exact this
    have f18 : DataW.trod enc Tryz.prog W 0 (fun _ => true) true k 3 [v18] = some y18 := by
      have := hf 18 _ rfl
      have e0 : List.take (Tryz.prog.cellsOf 3) (List.drop 18 [v0, v1, v2, v3, v4, v5, v6, v7, v8, v9, v10, v11, v12, v13, v14, v15, v16, v17, v18, v19, v20, v21]) = [v18] := by rw [cells3]; rfl
      rw [← e0]; exact this
    have f19 : DataW.trod enc Tryz.prog W 0 (fun _ => true) true k 3 [v19] = some y19 := by
      have := hf 19 _ rfl
      have e0 : List.take (Tryz.prog.cellsOf 3) (List.drop 19 [v0, v1, v2, v3, v4, v5, v6, v7, v8, v9, v10, v11, v12, v13, v14, v15, v16, v17, v18, v19, v20, v21]) = [v19] := by rw [cells3]; rfl
      rw [← e0]; exact this
    have f20 : DataW.trod enc Tryz.prog W 0 (fun _ => true) true k 22 [v20] = some y20 := by
      have := hf 20 _ rfl
      have e0 : List.take (Tryz.prog.cellsOf 22) (List.drop 20 [v0, v1, v2, v3, v4, v5, v6, v7, v8, v9, v10, v11, v12, v13, v14, v15, v16, v17, v18, v19, v20, v21]) = [v20] := by rw [cells22]; rfl
      rw [← e0]; exact this
    have f21 : DataW.trod enc Tryz.prog W 0 (fun _ => true) true k 23 [v21] = some y21 := by
      have := hf 21 _ rfl
      have e0 : List.take (Tryz.prog.cellsOf 23) (List.drop 21 [v0, v1, v2, v3, v4, v5, v6, v7, v8, v9, v10, v11, v12, v13, v14, v15, v16, v17, v18, v19, v20, v21]) = [v21] := by rw [cells23]; rfl
      rw [← e0]; exact this
    obtain ⟨n0, e0, _, w0⟩ := DataW.trod_string Tryz.underlying9 f0
    obtain rfl : v0 = _ := (List.cons.inj e0).1
    obtain ⟨n1, e1, _, w1⟩ := DataW.trod_int Tryz.underlying3 f1
    obtain rfl : v1 = _ := (List.cons.inj e1).1
    obtain ⟨n2, e2, _, w2⟩ := DataW.trod_int Tryz.underlying3 f2
    obtain rfl : v2 = _ := (List.cons.inj e2).1
    obtain ⟨n3, e3, _, w3⟩ := DataW.trod_int Tryz.underlying3 f3
    obtain rfl : v3 = _ := (List.cons.inj e3).1
    obtain ⟨n4, e4, _, w4⟩ := DataW.trod_int Tryz.underlying3 f4
    obtain rfl : v4 = _ := (List.cons.inj e4).1
    obtain ⟨n5, e5, _, w5⟩ := DataW.trod_int Tryz.underlying3 f5
    obtain rfl : v5 = _ := (List.cons.inj e5).1
    obtain ⟨n6, e6, _, w6⟩ := DataW.trod_int Tryz.underlying3 f6
    obtain rfl : v6 = _ := (List.cons.inj e6).1
    obtain ⟨n7, e7, _, w7⟩ := DataW.trod_int Tryz.underlying3 f7
    obtain rfl : v7 = _ := (List.cons.inj e7).1
    obtain ⟨n8, e8, _, w8⟩ := DataW.trod_int Tryz.underlying3 f8
    obtain rfl : v8 = _ := (List.cons.inj e8).1
    obtain ⟨n9, e9, _, w9⟩ := DataW.trod_int Tryz.underlying3 f9
    obtain rfl : v9 = _ := (List.cons.inj e9).1
    obtain ⟨n10, e10, _, w10⟩ := DataW.trod_int Tryz.underlying3 f10
    obtain rfl : v10 = _ := (List.cons.inj e10).1
    obtain ⟨n11, e11, _, w11⟩ := DataW.trod_int Tryz.underlying3 f11
    obtain rfl : v11 = _ := (List.cons.inj e11).1
    obtain ⟨n12, e12, _, w12⟩ := DataW.trod_int Tryz.underlying3 f12
    obtain rfl : v12 = _ := (List.cons.inj e12).1
    obtain ⟨n13, e13, _, w13⟩ := DataW.trod_int Tryz.underlying3 f13
    obtain rfl : v13 = _ := (List.cons.inj e13).1
    obtain ⟨n14, e14, _, w14⟩ := DataW.trod_int Tryz.underlying3 f14
    obtain rfl : v14 = _ := (List.cons.inj e14).1
    obtain ⟨n15, e15, _, w15⟩ := DataW.trod_int Tryz.underlying3 f15
    obtain rfl : v15 = _ := (List.cons.inj e15).1
    obtain ⟨n16, e16, _, w16⟩ := DataW.trod_int Tryz.underlying3 f16
    obtain rfl : v16 = _ := (List.cons.inj e16).1
    obtain ⟨n17, e17, _, w17⟩ := DataW.trod_int Tryz.underlying3 f17
    obtain rfl : v17 = _ := (List.cons.inj e17).1
    obtain ⟨n18, e18, _, w18⟩ := DataW.trod_int Tryz.underlying3 f18
    obtain rfl : v18 = _ := (List.cons.inj e18).1
    obtain ⟨n19, e19, _, w19⟩ := DataW.trod_int Tryz.underlying3 f19
    obtain rfl : v19 = _ := (List.cons.inj e19).1
    obtain ⟨l20, hl20, w20⟩ := open_list (v := v20) Addon.enc_len Tryz.underlying22 cells_Addon open_Addon f20
    obtain ⟨a20, c20, rfl⟩ := hl20.len
    obtain ⟨l21, hl21, w21⟩ := open_list (v := v21) Tier.enc_len Tryz.underlying23 cells_Tier open_Tier f21
    obtain ⟨a21, c21, rfl⟩ := hl21.len
    exact ⟨⟨n0, n1, n2, n3, n4, n5, n6, n7, n8, n9, n10, n11, n12, n13, n14, n15, n16, n17, n18, n19, a20, c20, l20, a21, c21, l21⟩, rfl, ⟨w0, w1, w2, w3, w4, w5, w6, w7, w8, w9, w10, w11, w12, w13, w14, w15, w16, w17, w18, w19, ⟨hl20, w20⟩, ⟨hl21, w21⟩⟩⟩
def Line.OkM (m : Mem) : Line → Prop
  | ⟨a0, c0, l0, a1, c1, l1⟩ => (RL m intE 1 (.slice a0 l0.length c0) l0 ∧ ∀ x ∈ l0, (Lit.int .i64 x).wf = true) ∧ (RL m intE 1 (.slice a1 l1.length c1) l1 ∧ ∀ x ∈ l1, (Lit.int .i64 x).wf = true)
theorem cells_Line : Tryz.prog.cellsOf 50 = 2 := by kernel_rfl
set_option maxRecDepth 100000 in
theorem open_Line {H : Type} {enc : TypeId × Value → H} {W : World} (n : Nat) (cs : List Value) (y : DataW H × List MemPlace) (h : DataW.trod enc Tryz.prog W 0 (fun _ => true) true n 50 cs = some y) : ∃ b : Line, cs = b.enc ∧ b.OkM (allMem W) := by
  obtain ⟨xs, k, _, _, hlen, hxs, hf⟩ := DataW.trod_struct Tryz.underlying50 h
  rw [cells_Line] at hlen
  match cs, hlen with
  | [v0, v1], _ =>
  match xs, hxs with
  | [y0, y1], _ =>
    have f0 : DataW.trod enc Tryz.prog W 0 (fun _ => true) true k 45 [v0] = some y0 := by
      have := hf 0 _ rfl
      have e0 : List.take (Tryz.prog.cellsOf 45) (List.drop 0 [v0, v1]) = [v0] := by rw [cells45]; rfl
      rw [← e0]; exact this
    have f1 : DataW.trod enc Tryz.prog W 0 (fun _ => true) true k 45 [v1] = some y1 := by
      have := hf 1 _ rfl
      have e0 : List.take (Tryz.prog.cellsOf 45) (List.drop 1 [v0, v1]) = [v1] := by rw [cells45]; rfl
      rw [← e0]; exact this
    obtain ⟨l0, hl0, w0⟩ := open_list (v := v0) intE_len Tryz.underlying45 cells3 open_el3 f0
    obtain ⟨a0, c0, rfl⟩ := hl0.len
    obtain ⟨l1, hl1, w1⟩ := open_list (v := v1) intE_len Tryz.underlying45 cells3 open_el3 f1
    obtain ⟨a1, c1, rfl⟩ := hl1.len
    exact ⟨⟨a0, c0, l0, a1, c1, l1⟩, rfl, ⟨⟨hl0, w0⟩, ⟨hl1, w1⟩⟩⟩
theorem cells28 : Tryz.prog.cellsOf 28 = 1 := by kernel_rfl
theorem cells4 : Tryz.prog.cellsOf 4 = 1 := by kernel_rfl
def Bet.OkM (m : Mem) : Bet → Prop
  | ⟨a0, c0, l0, _, n2, n3⟩ => (RL m Line.enc 2 (.slice a0 l0.length c0) l0 ∧ ∀ x ∈ l0, Line.OkM m x) ∧ (Lit.int .i64 n2).wf = true ∧ (Lit.int .i64 n3).wf = true
theorem cells_Bet : Tryz.prog.cellsOf 30 = 4 := by kernel_rfl
set_option maxRecDepth 100000 in
theorem open_Bet {H : Type} {enc : TypeId × Value → H} {W : World} (n : Nat) (cs : List Value) (y : DataW H × List MemPlace) (h : DataW.trod enc Tryz.prog W 0 (fun _ => true) true n 30 cs = some y) : ∃ b : Bet, cs = b.enc ∧ b.OkM (allMem W) := by
  obtain ⟨xs, k, _, _, hlen, hxs, hf⟩ := DataW.trod_struct Tryz.underlying30 h
  rw [cells_Bet] at hlen
  match cs, hlen with
  | [v0, v1, v2, v3], _ =>
  match xs, hxs with
  | [y0, y1, y2, y3], _ =>
    have f0 : DataW.trod enc Tryz.prog W 0 (fun _ => true) true k 28 [v0] = some y0 := by
      have := hf 0 _ rfl
      have e0 : List.take (Tryz.prog.cellsOf 28) (List.drop 0 [v0, v1, v2, v3]) = [v0] := by rw [cells28]; rfl
      rw [← e0]; exact this
    have f1 : DataW.trod enc Tryz.prog W 0 (fun _ => true) true k 4 [v1] = some y1 := by
      have := hf 1 _ rfl
      have e0 : List.take (Tryz.prog.cellsOf 4) (List.drop 1 [v0, v1, v2, v3]) = [v1] := by rw [cells4]; rfl
      rw [← e0]; exact this
    have f2 : DataW.trod enc Tryz.prog W 0 (fun _ => true) true k 3 [v2] = some y2 := by
      have := hf 2 _ rfl
      have e0 : List.take (Tryz.prog.cellsOf 3) (List.drop 2 [v0, v1, v2, v3]) = [v2] := by rw [cells3]; rfl
      rw [← e0]; exact this
    have f3 : DataW.trod enc Tryz.prog W 0 (fun _ => true) true k 3 [v3] = some y3 := by
      have := hf 3 _ rfl
      have e0 : List.take (Tryz.prog.cellsOf 3) (List.drop 3 [v0, v1, v2, v3]) = [v3] := by rw [cells3]; rfl
      rw [← e0]; exact this
    obtain ⟨l0, hl0, w0⟩ := open_list (v := v0) Line.enc_len Tryz.underlying28 cells_Line open_Line f0
    obtain ⟨a0, c0, rfl⟩ := hl0.len
    obtain ⟨n1, e1, _⟩ := DataW.trod_bool Tryz.underlying4 f1
    obtain rfl : v1 = _ := (List.cons.inj e1).1
    obtain ⟨n2, e2, _, w2⟩ := DataW.trod_int Tryz.underlying3 f2
    obtain rfl : v2 = _ := (List.cons.inj e2).1
    obtain ⟨n3, e3, _, w3⟩ := DataW.trod_int Tryz.underlying3 f3
    obtain rfl : v3 = _ := (List.cons.inj e3).1
    exact ⟨⟨a0, c0, l0, n1, n2, n3⟩, rfl, ⟨⟨hl0, w0⟩, w2, w3⟩⟩
end Go.Proofs.YtifjhpaoejageaaGreatDoor
namespace Go.Proofs.YtifjhpaoejageaaGreatDoor
open Eng
theorem Addon.OkM.in {m : Mem} : ∀ {a : Addon}, a.OkM m → a.In m
  | ⟨_, _, _, _, _, _, _, _, _, _⟩, ⟨_, _, _, h3, _, h5⟩ => ⟨h3.1, h5.1⟩
theorem Game.OkM.in {m : Mem} : ∀ {g : Game}, g.OkM m → g.In m
  | ⟨_, _, _, _, _, _, _, _, _, _, _, _, _, _, _, _, _, _, _, _, _, _, _, _, _, _⟩, ⟨_, _, _, _, _, _, _, _, _, _, _, _, _, _, _, _, _, _, _, _, ha, ht⟩ => ⟨ha.1, fun a h => (ha.2 a h).in, ht.1⟩
theorem Line.OkM.in {m : Mem} : ∀ {l : Line}, l.OkM m → l.In m
  | ⟨_, _, _, _, _, _⟩, ⟨h0, h1⟩ => ⟨h0.1, h1.1⟩
theorem Bet.OkM.in {m : Mem} : ∀ {b : Bet}, b.OkM m → b.In m
  | ⟨_, _, _, _, _, _⟩, ⟨h0, _, _⟩ => ⟨h0.1, fun x h => (h0.2 x h).in⟩
end Go.Proofs.YtifjhpaoejageaaGreatDoor
namespace Go.Proofs.YtifjhpaoejageaaGreatDoor
open Eng
theorem cloneF {m : Mem} {v : Value} {l : List Int} (h : RL m intE 1 v l) (hl : l.length ≤ 100000) : CallsS Tryz.prog 112 [v].toArray [] m fun r σ' m' => σ' = [] ∧ RL m' intE 1 r l :=
  CallsS.ghost (cloneI h hl) fun v σ' m' ⟨hm, hown⟩ g0 W hC => by
    obtain ⟨m2, h1, h2, h3⟩ := hown.freezeL (τ := []) (by omega) intE_len (by simpa using hC)
    exact ⟨[], m2, h2, h1, rfl, h3⟩
def canonL (g : Game) (l : Line) : List Int × List Int := if g.kind = 2 then (l.main, l.bonus) else (l.main.mergeSort leI, l.bonus.mergeSort leI)
def IsCanon (g : Game) (l : Line) (r : Value) (m : Mem) : Prop := ∃ c : Line, r = c.val ∧ c.In m ∧ c.main = (canonL g l).1 ∧ c.bonus = (canonL g l).2
noncomputable def sizeE (g : Game) (sys : Bool) (l : Line) : Int := if sys = true then sysErr g l else lineErr g l
noncomputable def sizeN (g : Game) (sys : Bool) (l : Line) : Nat := if sys = true then (if sysErr g l ≠ 0 then 0 else ch l.main.length g.main.toNat) else 1
theorem sysOk_num {g : Game} {l : Line} (h : sysErr g l = 0) : 0 ≤ g.main ∧ g.main ≤ 10 ∧ g.main < l.main.length ∧ l.main.length ≤ 14 := by
  have hs := sysOk h
  have hk := sysG_ok hs.g0
  have hg := gameOk hk.1
  have h1 := hs.ml
  have h2 := hg.mx.h2
  have h16 := (hg.mx.h16 (by omega)).1
  omega
set_option maxRecDepth 100000 in
theorem canonG {m : Mem} {g : Game} {l : Line} (h : l.In m) (h1 : l.main.length ≤ 100000) (h2 : l.bonus.length ≤ 100000) : CallsS Tryz.prog 82 [g.val, l.val].toArray [] m fun r σ' m' => σ' = [] ∧ IsCanon g l r m' := by
  refine CallsS.ghost (R' := fun r σ' m' => IsCanon g l r m') ?_ ?h2
  case h2 =>
    rintro r σ' m' hr g0 W hC
    exact ⟨_, m', hC.sublist (List.nil_sublist _), Le.refl _, rfl, hr⟩
  dsimp only [Line.val, Game.val]
  refine enter Tryz.func82 Tryz.ntmps82 rfl rfl ?_
  refine SWP_seq (SWP_region ?_)
  refine bx (v := .agg _) rfl rfl (fun B2 => ?_)
  refine bx (v := .agg _) rfl rfl (fun B3 => ?_)
  refine al rfl rfl (fun B4 => ?_)
  refine SL_nil (nx (SWP_seq (SWP_seq (SWP_region ?_))))
  refine pu rfl rfl ?_
  refine lw (v := .int .i64 _) B2 1 rfl rfl rfl rfl ?_
  refine pc rfl rfl (fun c7 => ?_) (fun c7 => ?_)
  · skip
    refine SL_nil (nx (SWP_ct rfl (SWP_seq ?_)))
    refine SWP_drawn [(B3, Cells 50 l.enc), (B2, Cells 25 g.enc)] [0, 1, 3, 4, 2, 5, 6, 7] (by kernel_rfl) (by kernel_rfl) (Sub.cons _ (Sub.refl _)) ?_
    refine pu rfl rfl ?_
    refine lw (v := .slice _ _ _) B3 0 rfl rfl rfl rfl ?_
    refine pu rfl rfl ?_
    refine lw (v := .slice _ _ _) B3 1 rfl rfl rfl rfl ?_
    refine SL_call rfl rfl cb112 (CallsS.frame0 (cloneF h.mn h1)) rfl (fun v2_2 σ2_2 m2_2 hl2_2 hR2_2 => ?_)
    obtain ⟨σa, rfl, rfl, hra⟩ := hR2_2
    obtain ⟨aa, ac, rfl⟩ := hra.len
    refine SL_call rfl rfl cb112 (CallsS.frame0 (cloneF (h.bn.mono hl2_2) h2)) rfl (fun v2_5 σ2_5 m2_5 hl2_5 hR2_5 => ?_)
    obtain ⟨σb, rfl, rfl, hrb⟩ := hR2_5
    obtain ⟨ba, bc, rfl⟩ := hrb.len
    refine pA rfl rfl ?_
    refine sw (v := .agg _) B4 0 rfl rfl rfl rfl rfl rfl rfl ?_
    refine SL_nil (nx (SWP_ret (nr ?_)))
    refine fin [_] ⟨⟨_, _, rfl, Rd.of_cells (MemO.mem (B := B4)), rfl⟩, trivial⟩ ?_
    exact ⟨⟨aa, ac, _, ba, bc, _⟩, rfl, ⟨hra.mono hl2_5, hrb⟩, by unfold canonL; rw [if_pos (by assumption)], by unfold canonL; rw [if_pos (by assumption)]⟩
  refine SL_nil (nx (SWP_cf rfl (SWP_skip (nx (SWP_seq (SWP_region ?_))))))
  refine lw (v := .agg _) B3 0 rfl rfl rfl rfl ?_
  refine SL_call rfl rfl cb113 (CallsS.frame0 (canonI h h1 h2)) rfl (fun v3_1 σ3_1 m3_1 hl3_1 hR3_1 => ?_)
  obtain ⟨σc, rfl, rfl, hcc⟩ := hR3_1
  obtain ⟨c, rfl, hci, hc1, hc2⟩ := hcc
  refine sw (v := .agg _) B4 0 rfl rfl rfl rfl rfl rfl rfl ?_
  refine SL_nil (nx (SWP_ret ?_))
  refine fin [_] ⟨⟨_, _, rfl, Rd.of_cells (MemO.mem (B := B4)), rfl⟩, trivial⟩ ?_
  exact ⟨c, rfl, hci, by unfold canonL; rw [if_neg (by assumption)]; exact hc1, by unfold canonL; rw [if_neg (by assumption)]; exact hc2⟩
set_option maxRecDepth 100000 in
theorem canonR {m : Mem} {l : Line} (h : l.In m) (h1 : l.main.length ≤ 100000) (h2 : l.bonus.length ≤ 100000) : CallsS Tryz.prog 92 [l.val].toArray [] m fun r σ' m' => σ' = [] ∧ ∃ c : Line, r = c.val ∧ c.In m' ∧ c.main = l.main.mergeSort leI ∧ c.bonus = l.bonus.mergeSort leI := by
  refine CallsS.ghost (R' := fun r σ' m' => ∃ c : Line, r = c.val ∧ c.In m' ∧ c.main = l.main.mergeSort leI ∧ c.bonus = l.bonus.mergeSort leI) ?_ ?h2
  case h2 =>
    rintro r σ' m' hr g0 W hC
    exact ⟨_, m', hC.sublist (List.nil_sublist _), Le.refl _, rfl, hr⟩
  dsimp only [Line.val]
  refine enter Tryz.func92 Tryz.ntmps92 rfl rfl ?_
  refine SWP_seq (SWP_region ?_)
  refine bx (v := .agg _) rfl rfl (fun B1 => ?_)
  refine al rfl rfl (fun B2 => ?_)
  refine SL_nil (nx (SWP_seq ?_))
  refine SWP_drawn [(B1, Cells 50 l.enc)] [0, 1, 3, 4, 2, 5, 6, 7] (by kernel_rfl) (by kernel_rfl) (Sub.cons _ (Sub.refl _)) ?_
  refine pu rfl rfl ?_
  refine lw (v := .slice _ _ _) B1 0 rfl rfl rfl rfl ?_
  refine pu rfl rfl ?_
  refine lw (v := .slice _ _ _) B1 1 rfl rfl rfl rfl ?_
  refine SL_call rfl rfl cb124 (CallsS.frame0 (sort13 h.mn h1)) rfl (fun v1_2 σ1_2 m1_2 hl1_2 hR1_2 => ?_)
  obtain ⟨σa, rfl, rfl, hra⟩ := hR1_2
  obtain ⟨aa, ac, rfl⟩ := hra.len
  refine SL_call rfl rfl cb124 (CallsS.frame0 (sort13 (h.bn.mono hl1_2) h2)) rfl (fun v1_5 σ1_5 m1_5 hl1_5 hR1_5 => ?_)
  obtain ⟨σb, rfl, rfl, hrb⟩ := hR1_5
  obtain ⟨ba, bc, rfl⟩ := hrb.len
  refine pA rfl rfl ?_
  refine sw (v := .agg _) B2 0 rfl rfl rfl rfl rfl rfl rfl ?_
  refine SL_nil (nx (SWP_ret ?_))
  refine fin [_] ⟨⟨_, _, rfl, Rd.of_cells (MemO.mem (B := B2)), rfl⟩, trivial⟩ ?_
  exact ⟨⟨aa, ac, _, ba, bc, _⟩, rfl, ⟨hra.mono hl1_5, hrb⟩, rfl, rfl⟩
set_option maxRecDepth 100000 in
theorem formR {m : Mem} {g : Game} {l : Line} (h : l.In m) (h1 : l.main.length ≤ 100000) (h2 : l.bonus.length ≤ 100000) : CallsS Tryz.prog 55 [g.val, l.val].toArray [] m fun r σ' m' => σ' = [] ∧ IsCanon g l r m' := by
  refine CallsS.ghost (R' := fun r σ' m' => IsCanon g l r m') ?_ ?h2
  case h2 =>
    rintro r σ' m' hr g0 W hC
    exact ⟨_, m', hC.sublist (List.nil_sublist _), Le.refl _, rfl, hr⟩
  dsimp only [Line.val, Game.val]
  refine enter Tryz.func55 Tryz.ntmps55 rfl rfl ?_
  refine SWP_seq (SWP_region ?_)
  refine bx (v := .agg _) rfl rfl (fun B2 => ?_)
  refine bx (v := .agg _) rfl rfl (fun B3 => ?_)
  refine al rfl rfl (fun B4 => ?_)
  refine SL_nil (nx (SWP_seq (SWP_seq (SWP_region ?_))))
  refine pu rfl rfl ?_
  refine lw (v := .int .i64 _) B2 1 rfl rfl rfl rfl ?_
  refine pc rfl rfl (fun c7 => ?_) (fun c7 => ?_)
  · skip
    refine SL_nil (nx (SWP_ct rfl (SWP_seq ?_)))
    refine SWP_tree [(B3, Cells 50 l.enc), (B2, Cells 25 g.enc)] 10 (.one 1 (.one 2 (.one 5 (.one 6 (.fork (.alt 0 (.fork (.alt 3 (.one 4 (.one 7 (.one 8 (.one 9 (.fin))))) (.alt 4 (.one 3 (.one 7 (.one 8 (.one 9 (.fin))))) (.none)))) (.alt 4 (.one 0 (.one 3 (.one 7 (.one 8 (.one 9 (.fin)))))) (.none)))))))) (by kernel_rfl) (by kernel_rfl) (Sub.cons _ (Sub.refl _)) ?_
    refine T1 rfl ?_
    refine pu rfl rfl ?_
    refine SL_nil ?_
    refine T1 rfl ?_
    refine lw (v := .slice _ _ _) B3 0 rfl rfl rfl rfl ?_
    refine SL_nil ?_
    refine T1 rfl ?_
    refine pu rfl rfl ?_
    refine SL_nil ?_
    refine T1 rfl ?_
    refine lw (v := .slice _ _ _) B3 1 rfl rfl rfl rfl ?_
    refine SL_nil ?_
    refine TF ?_
    refine TA rfl ?_ ?_
    · skip
      refine bs rfl rfl rfl rfl rfl (fun B8 => ?_)
      refine SL_imp (row_nil _ 1) ?_
      refine SL_nil ?_
      refine TF ?_
      refine TA rfl ?_ ?_
      · skip
        refine apR (e := 3) (size := 1) (bytes := 8) rfl rfl rfl rfl rfl rfl rfl (.row B8 0 0 [] rfl (Nat.le_refl _) (Nat.zero_le _)) (by first | exact .refl _ | exact .swap _ _ _) rfl (by first | exact h.mn.mono hl15 | exact h.mn) (all_intE _) (by simp; omega) rfl rfl (fun v11 σ11 hown11 => ?_)
        rw [List.nil_append] at hown11
        refine SL_freezeL (by omega) intE_len hown11 (fun m11 hl11 hr11 => ?_)
        obtain ⟨aa, ac, rfl⟩ := hr11.len
        refine SL_nil ?_
        refine T1 rfl ?_
        refine bs rfl rfl rfl rfl rfl (fun B12 => ?_)
        refine SL_imp (row_nil _ 1) ?_
        refine SL_nil ?_
        refine T1 rfl ?_
        refine apR (e := 3) (size := 1) (bytes := 8) rfl rfl rfl rfl rfl rfl rfl (.row B12 0 0 [] rfl (Nat.le_refl _) (Nat.zero_le _)) (by first | exact .refl _ | exact .swap _ _ _) rfl (by first | exact h.bn.mono hl11 | exact h.bn) (all_intE _) (by simp; omega) rfl rfl (fun v15 σ15 hown15 => ?_)
        rw [List.nil_append] at hown15
        refine SL_freezeL (by omega) intE_len hown15 (fun m15 hl15 hr15 => ?_)
        obtain ⟨ba, bc, rfl⟩ := hr15.len
        refine SL_nil ?_
        refine T1 rfl ?_
        refine pA rfl rfl ?_
        refine SL_nil ?_
        refine T1 rfl ?_
        refine sw (v := .agg _) B4 0 rfl rfl rfl rfl rfl rfl rfl ?_
        refine SL_nil (nx (SWP_ret (nr ?_)))
        refine fin [_] ⟨⟨_, _, rfl, Rd.of_cells (MemO.mem (B := B4)), rfl⟩, trivial⟩ ?_
        first
        | exact ⟨⟨aa, ac, _, ba, bc, _⟩, rfl, ⟨by first | exact hr11.mono hl15 | exact hr11, by first | exact hr15 | exact hr15.mono hl11⟩, by unfold canonL; rw [if_pos (by assumption)], by unfold canonL; rw [if_pos (by assumption)]⟩
        | exact ⟨c, rfl, hci, by unfold canonL; rw [if_neg (by assumption)]; exact hc1, by unfold canonL; rw [if_neg (by assumption)]; exact hc2⟩
      refine TA rfl ?_ ?_
      · skip
        refine bs rfl rfl rfl rfl rfl (fun B12 => ?_)
        refine SL_imp (row_nil _ 1) ?_
        refine SL_nil ?_
        refine T1 rfl ?_
        refine apR (e := 3) (size := 1) (bytes := 8) rfl rfl rfl rfl rfl rfl rfl (.row B8 0 0 [] rfl (Nat.le_refl _) (Nat.zero_le _)) (by first | exact .refl _ | exact .swap _ _ _) rfl (by first | exact h.mn.mono hl15 | exact h.mn) (all_intE _) (by simp; omega) rfl rfl (fun v11 σ11 hown11 => ?_)
        rw [List.nil_append] at hown11
        refine SL_freezeL (by omega) intE_len hown11 (fun m11 hl11 hr11 => ?_)
        obtain ⟨aa, ac, rfl⟩ := hr11.len
        refine SL_nil ?_
        refine T1 rfl ?_
        refine apR (e := 3) (size := 1) (bytes := 8) rfl rfl rfl rfl rfl rfl rfl (.row B12 0 0 [] rfl (Nat.le_refl _) (Nat.zero_le _)) (by first | exact .refl _ | exact .swap _ _ _) rfl (by first | exact h.bn.mono hl11 | exact h.bn) (all_intE _) (by simp; omega) rfl rfl (fun v15 σ15 hown15 => ?_)
        rw [List.nil_append] at hown15
        refine SL_freezeL (by omega) intE_len hown15 (fun m15 hl15 hr15 => ?_)
        obtain ⟨ba, bc, rfl⟩ := hr15.len
        refine SL_nil ?_
        refine T1 rfl ?_
        refine pA rfl rfl ?_
        refine SL_nil ?_
        refine T1 rfl ?_
        refine sw (v := .agg _) B4 0 rfl rfl rfl rfl rfl rfl rfl ?_
        refine SL_nil (nx (SWP_ret (nr ?_)))
        refine fin [_] ⟨⟨_, _, rfl, Rd.of_cells (MemO.mem (B := B4)), rfl⟩, trivial⟩ ?_
        first
        | exact ⟨⟨aa, ac, _, ba, bc, _⟩, rfl, ⟨by first | exact hr11.mono hl15 | exact hr11, by first | exact hr15 | exact hr15.mono hl11⟩, by unfold canonL; rw [if_pos (by assumption)], by unfold canonL; rw [if_pos (by assumption)]⟩
        | exact ⟨c, rfl, hci, by unfold canonL; rw [if_neg (by assumption)]; exact hc1, by unfold canonL; rw [if_neg (by assumption)]; exact hc2⟩
      exact True.intro
    refine TA rfl ?_ ?_
    · skip
      refine bs rfl rfl rfl rfl rfl (fun B12 => ?_)
      refine SL_imp (row_nil _ 1) ?_
      refine SL_nil ?_
      refine T1 rfl ?_
      refine bs rfl rfl rfl rfl rfl (fun B8 => ?_)
      refine SL_imp (row_nil _ 1) ?_
      refine SL_nil ?_
      refine T1 rfl ?_
      refine apR (e := 3) (size := 1) (bytes := 8) rfl rfl rfl rfl rfl rfl rfl (.row B8 0 0 [] rfl (Nat.le_refl _) (Nat.zero_le _)) (by first | exact .refl _ | exact .swap _ _ _) rfl (by first | exact h.mn.mono hl15 | exact h.mn) (all_intE _) (by simp; omega) rfl rfl (fun v11 σ11 hown11 => ?_)
      rw [List.nil_append] at hown11
      refine SL_freezeL (by omega) intE_len hown11 (fun m11 hl11 hr11 => ?_)
      obtain ⟨aa, ac, rfl⟩ := hr11.len
      refine SL_nil ?_
      refine T1 rfl ?_
      refine apR (e := 3) (size := 1) (bytes := 8) rfl rfl rfl rfl rfl rfl rfl (.row B12 0 0 [] rfl (Nat.le_refl _) (Nat.zero_le _)) (by first | exact .refl _ | exact .swap _ _ _) rfl (by first | exact h.bn.mono hl11 | exact h.bn) (all_intE _) (by simp; omega) rfl rfl (fun v15 σ15 hown15 => ?_)
      rw [List.nil_append] at hown15
      refine SL_freezeL (by omega) intE_len hown15 (fun m15 hl15 hr15 => ?_)
      obtain ⟨ba, bc, rfl⟩ := hr15.len
      refine SL_nil ?_
      refine T1 rfl ?_
      refine pA rfl rfl ?_
      refine SL_nil ?_
      refine T1 rfl ?_
      refine sw (v := .agg _) B4 0 rfl rfl rfl rfl rfl rfl rfl ?_
      refine SL_nil (nx (SWP_ret (nr ?_)))
      refine fin [_] ⟨⟨_, _, rfl, Rd.of_cells (MemO.mem (B := B4)), rfl⟩, trivial⟩ ?_
      first
      | exact ⟨⟨aa, ac, _, ba, bc, _⟩, rfl, ⟨by first | exact hr11.mono hl15 | exact hr11, by first | exact hr15 | exact hr15.mono hl11⟩, by unfold canonL; rw [if_pos (by assumption)], by unfold canonL; rw [if_pos (by assumption)]⟩
      | exact ⟨c, rfl, hci, by unfold canonL; rw [if_neg (by assumption)]; exact hc1, by unfold canonL; rw [if_neg (by assumption)]; exact hc2⟩
    exact True.intro
  refine SL_nil (nx (SWP_cf rfl (SWP_skip (nx (SWP_seq (SWP_region ?_))))))
  refine lw (v := .agg _) B3 0 rfl rfl rfl rfl ?_
  refine SL_call rfl rfl cb92 (CallsS.frame0 (canonR h h1 h2)) rfl (fun v3_1 σ3_1 m3_1 hl3_1 hR3_1 => ?_)
  obtain ⟨σc, rfl, rfl, hcc⟩ := hR3_1
  obtain ⟨c, rfl, hci, hc1, hc2⟩ := hcc
  refine sw (v := .agg _) B4 0 rfl rfl rfl rfl rfl rfl rfl ?_
  refine SL_nil (nx (SWP_ret ?_))
  refine fin [_] ⟨⟨_, _, rfl, Rd.of_cells (MemO.mem (B := B4)), rfl⟩, trivial⟩ ?_
  first
  | exact ⟨⟨aa, ac, _, ba, bc, _⟩, rfl, ⟨by first | exact hr11.mono hl15 | exact hr11, by first | exact hr15 | exact hr15.mono hl11⟩, by unfold canonL; rw [if_pos (by assumption)], by unfold canonL; rw [if_pos (by assumption)]⟩
  | exact ⟨c, rfl, hci, by unfold canonL; rw [if_neg (by assumption)]; exact hc1, by unfold canonL; rw [if_neg (by assumption)]; exact hc2⟩
theorem countZ2 {m : Mem} {g : Game} {l : Line} (h : sysErr g l = 0) : PureCall Tryz.prog 39 [.int .i64 (l.main.length : Nat), .int .i64 g.main] m (.tuple #[.int .i64 ((ch l.main.length g.main.toNat : Nat) : Int), .int .i64 0]) := by
  have hn := sysOk_num h
  have e := countZ (m := m) (n := (l.main.length : Int)) (k := g.main) (by omega) (by omega) (by omega)
  rwa [Int.toNat_natCast] at e
theorem chooseZ {m : Mem} {g : Game} {l : Line} (h : sysErr g l = 0) : PureCall Tryz.prog 123 [.int .i64 (l.main.length : Nat), .int .i64 g.main] m (.int .i64 ((ch l.main.length g.main.toNat : Nat) : Int)) := by
  have hn := sysOk_num h
  have e := chooseR (m := m) (n := l.main.length) (k := g.main.toNat) (by omega) (by omega)
  rwa [Int.toNat_of_nonneg hn.1] at e
set_option maxRecDepth 100000 in
theorem sysCI {m : Mem} {g : Game} {l : Line} (hin : g.In m) (hl : l.In m) : PureCall Tryz.prog 80 [g.val, l.val] m (.tuple #[.int .i64 (sizeN g true l : Nat), .int .i64 (sysErr g l)]) := by
  refine CallsS.pure ?_
  dsimp only [Game.val, Line.val]
  refine enter Tryz.func80 Tryz.ntmps80 rfl rfl ?_
  refine SWP_seq (SWP_region ?_)
  refine bx (v := .agg _) rfl rfl (fun B2 => ?_)
  refine bx (v := .agg _) rfl rfl (fun B3 => ?_)
  refine pI rfl rfl ?_
  refine pI rfl rfl ?_
  refine SL_nil (nx (SWP_seq (SWP_seq (SWP_region ?_))))
  refine lw (v := .agg _) B2 0 rfl rfl rfl rfl ?_
  refine lw (v := .agg _) B3 0 rfl rfl rfl rfl ?_
  refine SL_pcall rfl rfl cb109 (sysI hin hl) rfl ?_
  first | refine pI rfl rfl ?_ | refine pu rfl rfl ?_
  refine SL_nil (nx (SWP_seq (SWP_region ?_)))
  first | refine pI rfl rfl ?_ | refine pu rfl rfl ?_
  refine pc rfl rfl (fun c11 => ?_) (fun c11 => ?_)
  · skip
    refine SL_nil (nx (SWP_ct rfl (SWP_seq (SWP_region ?_))))
    first | refine pI rfl rfl ?_ | refine pu rfl rfl ?_
    refine pI rfl rfl ?_
    first | refine pI rfl rfl ?_ | refine pu rfl rfl ?_
    refine SL_nil (nx (SWP_ret (nr ?_)))
    refine fin [_, _] ⟨rfl, rfl, trivial⟩ ?_
    have e : sizeN g true l = 0 := (if_pos rfl).trans (if_pos (by assumption))
    rw [e]
    rfl
  refine SL_nil (nx (SWP_cf rfl (SWP_skip (nx (SWP_seq ?_)))))
  have hz : sysErr g l = 0 := Classical.not_not.1 (by assumption)
  refine SWP_region ?_
  refine pu rfl rfl ?_
  refine lw (v := .slice _ _ _) B3 0 rfl rfl rfl rfl ?_
  refine pu rfl rfl ?_
  refine pu rfl rfl ?_
  refine lw (v := .int .i64 _) B2 3 rfl rfl rfl rfl ?_
  refine SL_pcall rfl rfl cb39 (countZ2 hz) rfl ?_
  first | refine pI rfl rfl ?_ | refine pu rfl rfl ?_
  first | refine pI rfl rfl ?_ | refine pu rfl rfl ?_
  first | refine pI rfl rfl ?_ | refine pu rfl rfl ?_
  first | refine pI rfl rfl ?_ | refine pu rfl rfl ?_
  refine SL_nil (nx (SWP_ret ?_))
  refine fin [_, _] ⟨rfl, rfl, trivial⟩ ?_
  have e : sizeN g true l = ch l.main.length g.main.toNat := (if_pos rfl).trans (if_neg (fun hh => hh hz))
  rw [e, hz]
  rfl
set_option maxRecDepth 100000 in
theorem sysCR {m : Mem} {g : Game} {l : Line} (hin : g.In m) (hl : l.In m) : PureCall Tryz.prog 91 [g.val, l.val] m (.tuple #[.int .i64 (sizeN g true l : Nat), .int .i64 (sysErr g l)]) := by
  refine CallsS.pure ?_
  dsimp only [Game.val, Line.val]
  refine enter Tryz.func91 Tryz.ntmps91 rfl rfl ?_
  refine SWP_seq (SWP_region ?_)
  refine bx (v := .agg _) rfl rfl (fun B2 => ?_)
  refine bx (v := .agg _) rfl rfl (fun B3 => ?_)
  refine pI rfl rfl ?_
  refine pI rfl rfl ?_
  refine SL_nil (nx (SWP_seq (SWP_region ?_)))
  refine lw (v := .agg _) B2 0 rfl rfl rfl rfl ?_
  refine lw (v := .agg _) B3 0 rfl rfl rfl rfl ?_
  refine SL_pcall rfl rfl cb90 (sysR hin hl) rfl ?_
  first | refine pI rfl rfl ?_ | refine pu rfl rfl ?_
  refine SL_nil (nx (SWP_seq (SWP_seq (SWP_region ?_))))
  first | refine pI rfl rfl ?_ | refine pu rfl rfl ?_
  refine pc rfl rfl (fun c11 => ?_) (fun c11 => ?_)
  · skip
    refine SL_nil (nx (SWP_ct rfl (SWP_seq (SWP_region ?_))))
    first | refine pI rfl rfl ?_ | refine pu rfl rfl ?_
    refine pI rfl rfl ?_
    first | refine pI rfl rfl ?_ | refine pu rfl rfl ?_
    refine SL_nil (nx (SWP_ret (nr ?_)))
    refine fin [_, _] ⟨rfl, rfl, trivial⟩ ?_
    have e : sizeN g true l = 0 := (if_pos rfl).trans (if_pos (by assumption))
    rw [e]
    rfl
  refine SL_nil (nx (SWP_cf rfl (SWP_skip (nx (SWP_seq ?_)))))
  have hz : sysErr g l = 0 := Classical.not_not.1 (by assumption)
  refine SWP_region ?_
  refine pu rfl rfl ?_
  refine lw (v := .slice _ _ _) B3 0 rfl rfl rfl rfl ?_
  refine pu rfl rfl ?_
  refine pu rfl rfl ?_
  refine lw (v := .int .i64 _) B2 3 rfl rfl rfl rfl ?_
  refine SL_pcall rfl rfl cb123 (chooseZ hz) rfl ?_
  first | refine pI rfl rfl ?_ | refine pu rfl rfl ?_
  refine pI rfl rfl ?_
  refine SL_nil (nx (SWP_ret ?_))
  refine fin [_, _] ⟨rfl, rfl, trivial⟩ ?_
  have e : sizeN g true l = ch l.main.length g.main.toNat := (if_pos rfl).trans (if_neg (fun hh => hh hz))
  rw [e, hz]
  rfl
set_option maxRecDepth 100000 in
theorem sizeI {m : Mem} {g : Game} {l : Line} (hin : g.In m) (hl : l.In m) {pb pg : Addr} {b : Bet} (hpg : At m pg g.enc) (hpb : At m pb b.enc) : PureCall Tryz.prog 79 [l.val, .pointer (some pb), .pointer (some pg)] m (.tuple #[.int .i64 (sizeN g b.system l : Nat), .int .i64 (sizeE g b.system l)]) := by
  refine CallsS.pure ?_
  dsimp only [Line.val]
  refine enter Tryz.func79 Tryz.ntmps79 rfl rfl ?_
  refine SWP_seq (SWP_region ?_)
  refine bx (v := .agg _) rfl rfl (fun B3 => ?_)
  refine pI rfl rfl ?_
  refine pI rfl rfl ?_
  refine SL_nil (nx (SWP_seq (SWP_seq (SWP_region ?_))))
  refine pu rfl rfl ?_
  refine ldF (off := 1) (v := .bool b.system) rfl rfl hpb rfl rfl ?_
  refine bsp 7 rfl (fun b7 => ?_) (fun b7 => ?_)
  · skip
    refine SL_nil (nx (SWP_ct rfl (SWP_seq (SWP_region ?_))))
    refine ldA (v := g.val) rfl hpg rfl rfl ?_
    refine lw (v := .agg _) B3 0 rfl rfl rfl rfl ?_
    refine SL_pcall rfl rfl cb80 (sysCI hin hl) rfl ?_
    first | refine pI rfl rfl ?_ | refine pu rfl rfl ?_
    first | refine pI rfl rfl ?_ | refine pu rfl rfl ?_
    first | refine pI rfl rfl ?_ | refine pu rfl rfl ?_
    first | refine pI rfl rfl ?_ | refine pu rfl rfl ?_
    refine SL_nil (nx (SWP_ret (nr ?_)))
    refine fin [_, _] ⟨rfl, rfl, trivial⟩ ?_
    rw [show b.system = true by assumption]
    rfl
  refine SL_nil (nx (SWP_cf rfl (SWP_skip (nx (SWP_seq (SWP_region ?_))))))
  refine ldA (v := g.val) rfl hpg rfl rfl ?_
  refine lw (v := .agg _) B3 0 rfl rfl rfl rfl ?_
  refine SL_pcall rfl rfl cb81 (lineI hin hl) rfl ?_
  refine pI rfl rfl ?_
  first | refine pI rfl rfl ?_ | refine pu rfl rfl ?_
  refine SL_nil (nx (SWP_ret ?_))
  refine fin [_, _] ⟨rfl, rfl, trivial⟩ ?_
  rw [show b.system = false by assumption]
  rfl
set_option maxRecDepth 100000 in
theorem oneR {m : Mem} {g : Game} {l : Line} (hin : g.In m) (hl : l.In m) (sys : Bool) : PureCall Tryz.prog 54 [g.val, .bool sys, l.val] m (.tuple #[.int .i64 (sizeN g sys l : Nat), .int .i64 (sizeE g sys l)]) := by
  refine CallsS.pure ?_
  dsimp only [Game.val, Line.val]
  refine enter Tryz.func54 Tryz.ntmps54 rfl rfl ?_
  refine SWP_seq (SWP_region ?_)
  refine bx (v := .agg _) rfl rfl (fun B3 => ?_)
  refine bx (v := .agg _) rfl rfl (fun B5 => ?_)
  refine pI rfl rfl ?_
  refine pI rfl rfl ?_
  refine SL_nil (nx (SWP_seq (SWP_seq (SWP_region ?_))))
  refine pu rfl rfl ?_
  refine bsp 9 rfl (fun b9 => ?_) (fun b9 => ?_)
  · skip
    refine pB rfl rfl ?_
    refine SL_nil (nx (SWP_cf rfl (SWP_skip (nx (SWP_seq (SWP_region ?_))))))
    refine lw (v := .agg _) B3 0 rfl rfl rfl rfl ?_
    refine lw (v := .agg _) B5 0 rfl rfl rfl rfl ?_
    refine SL_pcall rfl rfl cb90 (sysR hin hl) rfl ?_
    first | refine pI rfl rfl ?_ | refine pu rfl rfl ?_
    refine SL_nil (nx (SWP_seq (SWP_seq (SWP_region ?_))))
    first | refine pI rfl rfl ?_ | refine pu rfl rfl ?_
    refine pc rfl rfl (fun c18 => ?_) (fun c18 => ?_)
    · skip
      refine SL_nil (nx (SWP_ct rfl (SWP_seq (SWP_region ?_))))
      first | refine pI rfl rfl ?_ | refine pu rfl rfl ?_
      refine pI rfl rfl ?_
      first | refine pI rfl rfl ?_ | refine pu rfl rfl ?_
      refine SL_nil (nx (SWP_ret (nr ?_)))
      refine fin [_, _] ⟨rfl, rfl, trivial⟩ ?_
      cases sys
      · first | rfl | contradiction
      · first
          | contradiction
          | rfl
          | (have e : sizeN g true l = 0 := (if_pos rfl).trans (if_pos (by assumption))
             rw [e]
             rfl)
    refine SL_nil (nx (SWP_cf rfl (SWP_skip (nx (SWP_seq (SWP_region ?_))))))
    refine lw (v := .agg _) B3 0 rfl rfl rfl rfl ?_
    refine lw (v := .agg _) B5 0 rfl rfl rfl rfl ?_
    refine SL_pcall rfl rfl cb91 (sysCR hin hl) rfl ?_
    first | refine pI rfl rfl ?_ | refine pu rfl rfl ?_
    first | refine pI rfl rfl ?_ | refine pu rfl rfl ?_
    first | refine pI rfl rfl ?_ | refine pu rfl rfl ?_
    first | refine pI rfl rfl ?_ | refine pu rfl rfl ?_
    refine SL_nil (nx (SWP_ret ?_))
    refine fin [_, _] ⟨rfl, rfl, trivial⟩ ?_
    cases sys
    · first | rfl | contradiction
    · first
        | contradiction
        | rfl
        | (have e : sizeN g true l = 0 := (if_pos rfl).trans (if_pos (by assumption))
           rw [e]
           rfl)
  refine pB rfl rfl ?_
  refine SL_nil (nx (SWP_ct rfl (SWP_seq (SWP_region ?_))))
  refine lw (v := .agg _) B3 0 rfl rfl rfl rfl ?_
  refine lw (v := .agg _) B5 0 rfl rfl rfl rfl ?_
  refine SL_pcall rfl rfl cb89 (lineR hin hl) rfl ?_
  refine pI rfl rfl ?_
  first | refine pI rfl rfl ?_ | refine pu rfl rfl ?_
  refine SL_nil (nx (SWP_ret (nr ?_)))
  refine fin [_, _] ⟨rfl, rfl, trivial⟩ ?_
  cases sys
  · first | rfl | contradiction
  · first
      | contradiction
      | rfl
      | (have e : sizeN g true l = 0 := (if_pos rfl).trans (if_pos (by assumption))
         rw [e]
         rfl)
end Go.Proofs.YtifjhpaoejageaaGreatDoor
namespace Go.Proofs.YtifjhpaoejageaaGreatDoor
namespace Eng
section
variable {P : Program} {T : TyTab} [TyOk P T]
variable {n : Nat} {md : Mode} {Q : APost} {f : Fr} {σ : Sig} {m : Mem} {ops : Array Oper} {rest : List Oper} {d : Nat} {ty : TypeId} {pos : String} {after : Array Edge}
theorem mk0 {t : TypeId} {e c size bytes : Nat} {ei : TI} {x y : Operand} {kl kq : IntKind} {ag : Bool} {ts tb : Nat} {tz : Value} (ht : tyGet T t = some ⟨.slice e, ag, ts, tb, tz⟩) (he : tyGet T e = some ei) (hsz : ei.size = size) (hby : ei.bytes = bytes) (hz : Nat.beq ei.zero.cells.toList.length size = true)
    (hx : ev f x = .int kl 0) (hy : ev f y = .int kq (c : Nat)) (hb : bytes * c ≤ 281474976710656) (hc : c ≤ maxLen) (hdn : Nat.blt d n = true)
    (h : ∀ B, SL P n md ops Q rest (upd f d (.slice (some ⟨B, 0, none⟩) 0 c)) ((B, Row e size c []) :: σ) m) (hm : md.loud = true := by exact rfl) :
    SL P n md ops Q (⟨some d, .makeSlice t x y, ty, pos, after, none⟩ :: rest) f σ m :=
  SL_val hm rfl rfl rfl hdn fun g W hC hk => by
    obtain ⟨dd, hd1, hd2, _⟩ := (TyOk.get (P := P) ht).desc
    obtain rfl : dd = .slice e := by cases dd <;> simp [DescOk] at hd2 ⊢; exact hd2
    obtain ⟨info, hi, hzz, hss, hbb⟩ := (TyOk.get (P := P) he).infoEx
    have hc' := hc
    unfold maxLen at hc'
    have hb' : (info.bytes : Int) * (c : Int) ≤ 281474976710656 := by
      rw [hbb, hby]
      have h : ((bytes * c : Nat) : Int) ≤ 281474976710656 := by omega
      rwa [Int.natCast_mul] at h
    have hr := run_make (P := P) W t e info ei.zero hd1 hi hzz kl kq 0 c (Int.le_refl _) (by omega) hb' (by omega)
    simp only [Int.toNat_natCast, hss, hsz] at hr
    have hr' : (Instr.makeSlice t (.int kl 0) (.int kq (c : Nat))).run P W = .ok (.slice (some ⟨W.heap.size, 0, none⟩) 0 c) (W.alloc (.cells (madeCells ei.zero.cells (c * size)) e)) := hr
    refine ⟨_, W.alloc (.cells (madeCells ei.zero.cells (c * size)) e), [(W.heap.size, Row e size c [])] ++ σ, m, by simp [execOp, hx, hy, hr'], (hC.alloc _).imp (ψ := Row e size c []) (fun o ho => ?_), Le.refl m, Mode.keep_cons _ hk, h W.heap.size⟩
    subst ho
    exact ⟨_, rfl, by rw [size_madeCells], hc, by simp, by simp⟩
theorem sst {t : TypeId} {s : ByteArray} {x lo hi : Operand} {k k' : IntKind} {i j : Int} {ag : Bool} {ts tb : Nat} {tz : Value} (ht : tyGet T t = some ⟨.str, ag, ts, tb, tz⟩)
    (hx : ev f x = .string s) (hlo : ev f lo = .int k i) (hhi : ev f hi = .int k' j) (h0 : 0 ≤ i) (h1 : i ≤ j) (h2 : j ≤ s.size) (hdn : Nat.blt d n = true)
    (h : SL P n md ops Q rest (upd f d (.string (s.extract i.toNat j.toNat))) σ m) : SL P n md ops Q (⟨some d, .slice t x (some lo) (some hi) none, ty, pos, after, none⟩ :: rest) f σ m :=
  SL_same rfl rfl hdn (fun g W _ => by
    obtain ⟨dd, hd1, hd2, _⟩ := (TyOk.get (P := P) ht).desc
    obtain rfl : dd = .string := by cases dd <;> simp [DescOk] at hd2 ⊢
    have h3 := run_slice_string (P := P) W t s k k' i j hd1 h0 h1 h2
    have h4 := run_sliceAt_string (P := P) W t (.string s) (some (.int k i)) (some (.int k' j)) none hd1
    rw [h3] at h4
    simp [execOp, hx, hlo, hhi, h4]) h
theorem ssl {t : TypeId} {s : ByteArray} {x lo : Operand} {k : IntKind} {i : Int} {ag : Bool} {ts tb : Nat} {tz : Value} (ht : tyGet T t = some ⟨.str, ag, ts, tb, tz⟩)
    (hx : ev f x = .string s) (hlo : ev f lo = .int k i) (h0 : 0 ≤ i) (h1 : i ≤ s.size) (hdn : Nat.blt d n = true)
    (h : SL P n md ops Q rest (upd f d (.string (s.extract i.toNat s.size))) σ m) : SL P n md ops Q (⟨some d, .slice t x (some lo) none none, ty, pos, after, none⟩ :: rest) f σ m :=
  SL_same rfl rfl hdn (fun g W _ => by
    obtain ⟨dd, hd1, hd2, _⟩ := (TyOk.get (P := P) ht).desc
    obtain rfl : dd = .string := by cases dd <;> simp [DescOk] at hd2 ⊢
    have h3 := run_slice_string_l (P := P) W t s hd1 k i h0 h1
    have h4 := run_sliceAt_string (P := P) W t (.string s) (some (.int k i)) none none hd1
    rw [h3] at h4
    simp [execOp, hx, hlo, h4]) h
theorem peq {t z te : TypeId} {x y : Operand} {a b : Addr} {r : Bool} {ei : TI} {ag : Bool} {ts tb : Nat} {tz : Value} (ht : tyGet T t = some ⟨.ptr te, ag, ts, tb, tz⟩) (he : tyGet T te = some ei) (hs : ei.size = 1) (hx : ev f x = .pointer (some a)) (hy : ev f y = .pointer (some b)) (ha : a.block = b.block) (hr : decide (a = b) = r) (hdn : Nat.blt d n = true)
    (h : SL P n md ops Q rest (upd f d (.bool r)) σ m) : SL P n md ops Q (⟨some d, .binOp .eql t x y z, ty, pos, after, none⟩ :: rest) f σ m :=
  SL_same rfl rfl hdn (fun g W _ => by
    subst hr
    obtain ⟨dd, h1, h2, _⟩ := (TyOk.get (P := P) ht).desc
    obtain rfl : dd = .pointer te := by cases dd <;> simp [DescOk] at h2 ⊢; exact h2
    have hz := (TyOk.get (P := P) he).sizeOf W
    rw [hs] at hz
    have hb := (binOp_eql_of (P := P) (W := W) (t := t) (x := .pointer (some a)) (y := .pointer (some b)) (b := decide (a = b)) (fun d => by
      have e1 : (a == b) = decide (a = b) := rfl
      simp [Op.equalIn, run_underlying h1, hz, sameAddr, ha, e1]) rfl).1
    simp only [execOp, hx, hy, Sem.run_bind, run_eqGuard_of .eql t x y (a := .pointer (some a)) (b := .pointer (some b)) rfl, Result.andThen_ok]
    rw [hb]
    rfl) h
theorem sadd {t z : TypeId} {x y : Operand} {a b : ByteArray} (hx : ev f x = .string a) (hy : ev f y = .string b) (hs : a.size + b.size ≤ 9223372036854775807) (hdn : Nat.blt d n = true)
    (h : SL P n md ops Q rest (upd f d (.string (a ++ b))) σ m) : SL P n md ops Q (⟨some d, .binOp .add t x y z, ty, pos, after, none⟩ :: rest) f σ m :=
  SL_same rfl rfl hdn (fun g W _ => by
    have h1 : IntKind.i64.max = 9223372036854775807 := by decide
    have hs' : ¬ ((a.size + b.size : Nat) : Int) > IntKind.i64.max := by rw [h1]; omega
    simp only [execOp, hx, hy, Sem.run_bind, run_eqGuard_of .add t (.string a) (.string b) rfl, Result.andThen_ok, binOp, Op.stringOp, if_neg hs']
    rfl) h
theorem c2s {src dst e : TypeId} {x : Operand} {ad : Addr} {cap : Nat} {l : List UInt8} {ei : TI} {ag ag' : Bool} {ts tb ts' tb' : Nat} {tz tz' : Value} (hs : tyGet T src = some ⟨.slice e, ag, ts, tb, tz⟩) (he : tyGet T e = some ei) (hek : ei.k = .int .u8) (hd : tyGet T dst = some ⟨.str, ag', ts', tb', tz'⟩)
    (hx : ev f x = .slice (some ad) l.length cap) (hr : Rd (md.own σ) m ad (l.map fun b => .int .u8 (b.toNat : Int))) (hdn : Nat.blt d n = true)
    (h : SL P n md ops Q rest (upd f d (.string ⟨l.toArray⟩)) σ m) : SL P n md ops Q (⟨some d, .convert src dst x, ty, pos, after, none⟩ :: rest) f σ m :=
  SL_same rfl rfl hdn (fun g W hC => by
    obtain ⟨d1, hs1, hs2, _⟩ := (TyOk.get (P := P) hs).desc
    obtain ⟨d2, he1, he2, _⟩ := (TyOk.get (P := P) he).desc
    obtain ⟨d3, hd1, hd2, _⟩ := (TyOk.get (P := P) hd).desc
    obtain rfl : d1 = .slice e := by cases d1 <;> simp [DescOk] at hs2 ⊢; exact hs2
    obtain rfl : d3 = .string := by cases d3 <;> simp [DescOk] at hd2 ⊢
    rw [hek] at he2
    obtain rfl : d2 = .int .u8 := by cases d2 <;> simp [DescOk] at he2 ⊢; exact he2
    have h3 := run_convert_bytes_back (P := P) W src dst e ad cap l hs1 he1 hd1 (fun j hj => hr g W hC j _ (by rw [List.getElem?_map, List.getElem?_eq_getElem hj]; rfl))
    simp [execOp, hx, h3]) h
end
theorem CallsS.below {P : Program} {F : FuncId} {args : Array Value} {m : Mem} {v : Value} {σ : Sig} (h : ∀ (g : Gh) W, Conc g W m σ → Calls P F args W fun e w' => e = .returned v ∧ Go.RowKit.Below W.heap.size W w') :
    CallsS P F args σ m fun u σ' m' => u = v ∧ σ' = σ ∧ m' = m := fun g W hC =>
  (h g W hC).mono fun e W' ⟨he, hb⟩ => by
    have hk : ∀ k o, W.heap[k]? = some o → W'.heap[k]? = some o := fun k o ho => by
      rw [hb.block k (Array.getElem?_eq_some_iff.1 ho).1]; exact ho
    exact ⟨v, σ, m, he, ⟨hb.os.trans hC.os, hb.tape.trans hC.tape, hb.output.trans hC.output, hC.base, fun k o ho => hk k o (hC.imm k o ho), fun k o ho => ⟨hk k o (hC.frg k o ho).1, (hC.frg k o ho).2⟩,
      fun c hc => ⟨⟨(hC.own c hc).1.choose, hk _ _ (hC.own c hc).1.choose_spec.1, (hC.own c hc).1.choose_spec.2⟩, (hC.own c hc).2⟩, hC.nodup⟩, Le.refl m, rfl, rfl, rfl⟩
theorem lendS {α : Type} {P : Program} {F : FuncId} {args : Array Value} {m : Mem} {v u0 : Value} {e size : Nat} {en : α → List Value} {L : List α} {σe σ : Sig} (hs : 0 < size) (he : ∀ x, (en x).length = size) (hown : OwnS e size v (L.flatMap en) σe)
    (h : ∀ m', Le m m' → RL m' en size v L → CallsS P F args σ m' fun u σ' m2 => u = u0 ∧ σ' = σ ∧ m2 = m') :
    CallsS P F args (σe ++ σ) m fun u σ' m' => u = u0 ∧ σ' = σe ++ σ ∧ m' = m := by
  have hx : (L.flatMap en).length = L.length * size := flatMap_len he L
  unfold RL at h
  generalize hxs : L.flatMap en = xs at hown hx h
  cases hown with
  | nil =>
    have hL : L.length = 0 := by
      have : L.length * size = 0 := by rw [← hx]; rfl
      rcases Nat.mul_eq_zero.1 this with h0 | h0 <;> omega
    exact h m (Le.refl m) (by rw [hL]; exact ⟨none, 0, rfl, by simp, Nat.le_refl _, Nat.zero_le _, fun _ => ⟨rfl, rfl⟩, fun _ h => (by cases h)⟩)
  | row B n cap xs hn hle hcm =>
    refine CallsS.lend fun o ho m' hm' hl => h m' hl ?_
    obtain ⟨cur, rfl, h1, h2, h3, h4⟩ := ho
    have hnn : n = L.length := Nat.eq_of_mul_eq_mul_right hs (by rw [← hn, hx])
    refine ⟨some ⟨B, 0, none⟩, cap, by rw [← hnn], hx, by omega, hcm, fun e => (by cases e), fun ad e => ?_⟩
    cases e
    intro j w hj
    rw [Addr.add_lit, Nat.zero_add, hm']
    simp only [Mem.cell, Mem.set, if_true, objCell, Option.isSome_none, Bool.false_eq_true, if_false]
    have e1 := congrArg (fun z => z[j]?) h4
    have hlt := (List.getElem?_eq_some_iff.1 hj).1
    simp only [List.getElem?_take, if_pos hlt, Array.getElem?_toList] at e1
    rw [e1, hj]
theorem lendC {P : Program} {F : FuncId} {args : Array Value} {m : Mem} {u0 : Value} {B e : Nat} {cs : List Value} {σ : Sig}
    (h : ∀ m', Le m m' → At m' ⟨B, 0, none⟩ cs → CallsS P F args σ m' fun u σ' m2 => u = u0 ∧ σ' = σ ∧ m2 = m') :
    CallsS P F args ((B, Cells e cs) :: σ) m fun u σ' m' => u = u0 ∧ σ' = (B, Cells e cs) :: σ ∧ m' = m := by
  refine CallsS.lend fun o ho m' hm' hl => h m' hl ?_
  subst ho
  intro j w hj
  rw [Addr.add_lit, Nat.zero_add, hm']
  simp only [Mem.cell, Mem.set, if_true, objCell, Option.isSome_none, Bool.false_eq_true, if_false]
  simpa using hj
theorem CallsS.permP {P : Program} {F : FuncId} {args : Array Value} {m : Mem} {v : Value} {σ σ' : Sig} (h : CallsS P F args σ m fun u τ m' => u = v ∧ τ = σ ∧ m' = m) (hp : σ'.Perm σ) : CallsS P F args σ' m fun u τ m' => u = v ∧ τ = σ' ∧ m' = m := by
  intro g W hC
  refine (h g W (hC.perm hp)).mono fun e W' ⟨u, τ, m', he, hC', hl, h1, h2, h3⟩ => ?_
  subst h2
  exact ⟨u, σ', m', he, hC'.perm hp.symm, hl, h1, rfl, h3⟩
end Eng
end Go.Proofs.YtifjhpaoejageaaGreatDoor
namespace Go.Proofs.YtifjhpaoejageaaGreatDoor
open Eng
def firstE : List Int → Int
  | [] => 0
  | e :: r => if e ≠ 0 then e else firstE r
theorem firstE_at {f : Nat → Int} {e : Int} (he : e ≠ 0) : ∀ {n i : Nat} (s : Nat), (∀ j, j < i → f (s + j) = 0) → i < n → f (s + i) = e → firstE ((List.range' s n).map f) = e
  | 0, i, _, _, hi, _ => absurd hi (Nat.not_lt_zero i)
  | n + 1, 0, s, _, _, hf => by
    rw [List.range'_succ, List.map_cons, firstE, if_pos (by rw [Nat.add_zero] at hf; rw [hf]; exact he)]
    exact hf
  | n + 1, i + 1, s, h, hi, hf => by
    rw [List.range'_succ, List.map_cons, firstE, if_neg (by have := h 0 (by omega); rw [Nat.add_zero] at this; omega)]
    exact firstE_at (i := i) he (s + 1) (fun j hj => by have := h (j + 1) (by omega); rw [show s + 1 + j = s + (j + 1) by omega]; exact this) (by omega) (by rw [show s + 1 + i = s + (i + 1) by omega]; exact hf)
theorem firstE_zero {f : Nat → Int} : ∀ {n : Nat} (s : Nat), (firstE ((List.range' s n).map f) = 0 ↔ ∀ j, j < n → f (s + j) = 0)
  | 0, s => by simp [firstE]
  | n + 1, s => by
    rw [List.range'_succ, List.map_cons, firstE]
    by_cases h0 : f s = 0
    · rw [if_neg (by omega), firstE_zero (s + 1)]
      constructor
      · intro h j hj
        cases j with
        | zero => exact h0
        | succ j => have := h j (by omega); rw [show s + (j + 1) = s + 1 + j by omega]; exact this
      · intro h j hj
        have := h (j + 1) (by omega); rw [show s + 1 + j = s + (j + 1) by omega]; exact this
    · rw [if_pos h0]
      exact ⟨fun h => absurd h h0, fun h => h 0 (by omega)⟩
noncomputable def lnAt (g : Game) (sys : Bool) (L : List Line) (i : Nat) : Int := match L[i]? with
  | none => 0
  | some l => if sizeE g sys l ≠ 0 then sizeE g sys l else if canonL g l ∈ (L.take i).map (canonL g) then 6 else 0
noncomputable def lnErr (g : Game) (sys : Bool) (L : List Line) : Int := firstE ((List.range' 0 L.length).map (lnAt g sys L))
noncomputable def totN (g : Game) (sys : Bool) (L : List Line) : Nat := (L.map (sizeN g sys)).sum
noncomputable def betErr (g : Game) (b : Bet) : Int :=
  if gameErr g ≠ 0 then gameErr g
  else if ¬ (1 ≤ b.lines.length ∧ b.lines.length ≤ 16) then 3
  else if lnErr g b.system b.lines ≠ 0 then lnErr g b.system b.lines
  else if 1024 < totN g b.system b.lines then 3
  else if ¬ (1 ≤ b.draws ∧ b.draws ≤ g.draws) then 2
  else if ¬ (0 ≤ b.addons ∧ b.addons < 2 ^ g.addons.length) then 2 else 0
theorem lnAt_some {g : Game} {sys : Bool} {L : List Line} {i : Nat} {l : Line} (h : L[i]? = some l) : lnAt g sys L i = if sizeE g sys l ≠ 0 then sizeE g sys l else if canonL g l ∈ (L.take i).map (canonL g) then 6 else 0 := by
  unfold lnAt; rw [h]
theorem lnErr_at {g : Game} {sys : Bool} {L : List Line} {e : Int} {i : Nat} (he : e ≠ 0) (h : ∀ j, j < i → lnAt g sys L j = 0) (hi' : i < L.length) (hf : lnAt g sys L i = e) : lnErr g sys L = e :=
  firstE_at he 0 (fun j hj => by rw [Nat.zero_add]; exact h j hj) hi' (by rw [Nat.zero_add]; exact hf)
theorem lnErr_zero {g : Game} {sys : Bool} {L : List Line} : lnErr g sys L = 0 ↔ ∀ j, j < L.length → lnAt g sys L j = 0 := by
  unfold lnErr
  rw [firstE_zero]
  constructor
  · intro h j hj; have := h j hj; rwa [Nat.zero_add] at this
  · intro h j hj; have := h j hj; rwa [Nat.zero_add]
theorem size_small {g : Game} {sys : Bool} {l : Line} (h : sizeE g sys l = 0) : l.main.length ≤ 14 ∧ l.bonus.length ≤ 4 ∧ sizeN g sys l ≤ 100000 := by
  cases sys with
  | true =>
    have h' : sysErr g l = 0 := h
    have hs := sysOk h'
    have hn := sysOk_num h'
    have hk := sysG_ok hs.g0
    have hg := gameOk hk.1
    have h7 := hg.mx.h7 (by omega)
    have hb := hs.bl
    refine ⟨by omega, by omega, ?_⟩
    rw [show sizeN g true l = ch l.main.length g.main.toNat from (if_pos rfl).trans (if_neg (fun hh => hh h'))]
    exact ch_small _ _ hn.2.2.2
  | false =>
    have h' : lineErr g l = 0 := h
    unfold lineErr at h'
    by_cases h1 : gameErr g ≠ 0
    · rw [if_pos h1] at h'; exact absurd h' h1
    rw [if_neg h1] at h'
    by_cases h2 : (l.main.length : Int) ≠ g.main ∨ (l.bonus.length : Int) ≠ g.bonus
    · rw [if_pos h2] at h'; exact absurd h' (by decide)
    have hg := gameOk (Classical.not_not.1 h1)
    have q2 := hg.mx.h2
    have q5 := hg.mx.h5
    have q6 := hg.mx.h6
    have q7 := hg.mx.h7
    have qk := hg.kind
    refine ⟨by omega, by omega, ?_⟩
    show 1 ≤ 100000
    decide
theorem addons_few {g : Game} (h : GameOk g) : g.addons.length ≤ 4 := by
  have := h.ad
  unfold addonsErr at this
  split at this
  · cases this
  · omega
theorem permI1 {α : Type} (x a b : α) (s : List α) : (x :: (s ++ [a, b])).Perm (a :: b :: (x :: s)) := by
  classical
  rw [List.perm_iff_count]
  intro y
  simp only [List.count_cons, List.count_append, List.count_nil]
  omega
theorem permI2 {α : Type} (x y : α) (s t : List α) : (x :: y :: (s ++ t)).Perm (s ++ (x :: y :: t)) := by
  classical
  rw [List.perm_iff_count]
  intro z
  simp only [List.count_cons, List.count_append]
  omega
theorem permI3 {α : Type} (x y z : α) (s t : List α) : (x :: y :: z :: (s ++ t)).Perm (s ++ (x :: y :: z :: t)) := by
  classical
  rw [List.perm_iff_count]
  intro u
  simp only [List.count_cons, List.count_append]
  omega
theorem keyL_mem {g : Game} {l : Line} {E : List Line} {X : List (List Int × List Int)} (h : E.map (fun e => (e.main, e.bonus)) = X) {c : Line} (h1 : c.main = (canonL g l).1) (h2 : c.bonus = (canonL g l).2) : (∃ e ∈ E, e.main = c.main ∧ e.bonus = c.bonus) ↔ canonL g l ∈ X := by
  subst h
  rw [List.mem_map]
  constructor
  · rintro ⟨e, he, e1, e2⟩; exact ⟨e, he, by rw [e1, e2, h1, h2]⟩
  · rintro ⟨e, he, e1⟩
    refine ⟨e, he, ?_, ?_⟩
    · rw [h1, ← e1]
    · rw [h2, ← e1]
theorem totN_snoc {g : Game} {sys : Bool} {L : List Line} {i : Nat} {l : Line} (h : L[i]? = some l) : totN g sys (L.take (i + 1)) = totN g sys (L.take i) + sizeN g sys l := by
  unfold totN
  rw [take_snocA h, List.map_append, List.sum_append]
  simp
theorem canon_len {g : Game} {l : Line} : (canonL g l).1.length = l.main.length ∧ (canonL g l).2.length = l.bonus.length := by
  unfold canonL
  split
  · exact ⟨rfl, rfl⟩
  · exact ⟨(List.mergeSort_perm _ _).length_eq, (List.mergeSort_perm _ _).length_eq⟩
theorem div_pow {a : Int} {k : Nat} (h : 0 ≤ a) : (a / 2 ^ k ≠ 0 ↔ ¬ a < 2 ^ k) := by
  have hp : (0 : Int) < 2 ^ k := Int.pow_pos (by decide)
  constructor
  · intro h1 h2
    exact h1 (Int.ediv_eq_zero_of_lt h h2)
  · intro h1 h2
    have := Int.emod_add_mul_ediv a (2 ^ k)
    rw [h2, Int.mul_zero] at this
    have h3 := Int.emod_lt_of_pos a hp
    omega
set_option maxRecDepth 100000 in
theorem checkB {m : Mem} {g : Game} {b : Bet} (hin : g.In m) (hb : b.In m) : PureCall Tryz.prog 47 [g.val, b.val] m (.tuple #[.int .i64 (if betErr g b ≠ 0 then 0 else totN g b.system b.lines : Nat), .int .i64 (betErr g b)]) := by
  refine CallsS.pure ?_
  refine CallsS.mono (R := fun r _ _ => ∃ e : Int, betErr g b = e ∧ ((e ≠ 0 ∧ r = .tuple #[.int .i64 0, .int .i64 e]) ∨ (e = 0 ∧ r = .tuple #[.int .i64 (totN g b.system b.lines : Nat), .int .i64 0]))) ?_ (fun v _ _ _ h => ?h2)
  case h2 =>
    obtain ⟨e, h1, ⟨h2, rfl⟩ | ⟨h2, rfl⟩⟩ := h
    · rw [h1, if_pos h2]; rfl
    · rw [h1, h2, if_neg (fun hh => hh rfl)]
  dsimp only [Game.val, Bet.val]
  refine enter Tryz.func47 Tryz.ntmps47 rfl rfl ?_
  refine SWP_seq (SWP_region ?_)
  refine bx (v := .agg _) rfl rfl (fun B2 => ?_)
  refine bx (v := .agg _) rfl rfl (fun B3 => ?_)
  refine pI rfl rfl ?_
  refine pI rfl rfl ?_
  refine SL_nil (nx (SWP_seq (SWP_seq (SWP_region ?_))))
  refine lw (v := .agg _) B2 0 rfl rfl rfl rfl ?_
  refine SL_call rfl rfl cb19 (CallsS.frame0 (countG hin)) rfl (fun v1_1 σ1_1 m1_1 hl1_1 hR1_1 => ?_)
  obtain ⟨σc, rfl, rfl, hm1_1, z0, rfl⟩ := hR1_1
  have hn1_1 := hm1_1.symm
  subst hn1_1
  refine pu rfl rfl ?_
  first | refine pI rfl rfl ?_ | refine pu rfl rfl ?_
  first | refine pI rfl rfl ?_ | refine pu rfl rfl ?_
  first | refine pI rfl rfl ?_ | refine pu rfl rfl ?_
  first | refine pI rfl rfl ?_ | refine pu rfl rfl ?_
  refine SL_nil (nx (SWP_seq (SWP_region ?_)))
  first | refine pI rfl rfl ?_ | refine pu rfl rfl ?_
  refine pc rfl rfl (fun c23 => ?_) (fun c23 => ?_)
  · skip
    refine SL_nil (nx (SWP_ct rfl (SWP_seq (SWP_region ?_))))
    first | refine pI rfl rfl ?_ | refine pu rfl rfl ?_
    refine pI rfl rfl ?_
    first | refine pI rfl rfl ?_ | refine pu rfl rfl ?_
    refine SL_nil (nx (SWP_ret (nr ?_)))
    refine fin [_, _] ⟨rfl, rfl, trivial⟩ ?_
    exact ⟨_, if_pos (by assumption), .inl ⟨by assumption, rfl⟩⟩
  refine SL_nil (nx (SWP_cf rfl (SWP_skip (nx (SWP_seq (SWP_seq ?_))))))
  have hz : gameErr g = 0 := Classical.not_not.1 (by assumption)
  have hg := gameOk hz
  refine SWP_region ?_
  refine pu rfl rfl ?_
  refine lw (v := .slice _ _ _) B3 0 rfl rfl rfl rfl ?_
  refine pu rfl rfl ?_
  refine pc rfl rfl (fun c28 => ?_) (fun c28 => ?_)
  · skip
    refine pB rfl rfl ?_
    refine SL_no rfl rfl ?_
    refine SL_no rfl rfl ?_
    refine SL_no rfl rfl ?_
    refine SL_no rfl rfl ?_
    refine pB rfl rfl ?_
    refine SL_nil (nx (SWP_ct rfl (SWP_seq (SWP_region ?_))))
    refine pI rfl rfl ?_
    refine pI rfl rfl ?_
    refine SL_nil (nx (SWP_ret (nr ?_)))
    refine fin [_, _] ⟨rfl, rfl, trivial⟩ ?_
    exact ⟨3, (if_neg (fun hh => hh hz)).trans (if_pos (by omega)), .inl ⟨by decide, rfl⟩⟩
  refine pB rfl rfl ?_
  refine SL_yes rfl ?_
  refine pu rfl rfl ?_
  refine SL_yes rfl ?_
  refine lw (v := .slice _ _ _) B3 0 rfl rfl rfl rfl ?_
  refine SL_yes rfl ?_
  refine pu rfl rfl ?_
  refine SL_yes rfl ?_
  refine pc rfl rfl (fun c33 => ?_) (fun c33 => ?_)
  · skip
    refine pB rfl rfl ?_
    refine SL_nil (nx (SWP_ct rfl (SWP_seq (SWP_region ?_))))
    refine pI rfl rfl ?_
    refine pI rfl rfl ?_
    refine SL_nil (nx (SWP_ret (nr ?_)))
    refine fin [_, _] ⟨rfl, rfl, trivial⟩ ?_
    exact ⟨3, (if_neg (fun hh => hh hz)).trans (if_pos (by omega)), .inl ⟨by decide, rfl⟩⟩
  refine pB rfl rfl ?_
  refine SL_nil (nx (SWP_cf rfl (SWP_skip (nx (SWP_seq ?_)))))
  have hlen : 1 ≤ b.lines.length ∧ b.lines.length ≤ 16 := by omega
  refine SWP_region ?_
  refine pu rfl rfl ?_
  refine pu rfl rfl ?_
  refine SL_nil (nx (SWP_seq (SWP_region ?_)))
  refine pI rfl rfl ?_
  refine SL_nil (nx (SWP_seq (SWP_region ?_)))
  refine pu rfl rfl ?_
  refine lw (v := .slice _ _ _) B3 0 rfl rfl rfl rfl ?_
  refine pu rfl rfl ?_
  refine mk0 (size := 2) (bytes := 48) rfl rfl rfl rfl rfl rfl rfl (by omega) (by unfold maxLen; omega) rfl (fun B39 => ?_)
  first | refine pL rfl rfl ?_ | refine pu rfl rfl ?_
  refine SL_nil (nx (SWP_seq (SWP_seq (SWP_region ?_))))
  refine pu rfl rfl ?_
  refine lw (v := .slice _ _ _) B3 0 rfl rfl rfl rfl ?_
  refine pu rfl rfl ?_
  refine pI rfl rfl ?_
  refine SL_nil (nx (SWP_block ?_))
  refine SWP_loop [4, 5, 9, 10, 12, 13, 14, 15, 16, 43, 44, 45, 46, 47, 48, 49, 50, 51, 52, 53, 54, 55, 56, 57, 58, 59, 60, 61, 62, 63, 64, 65, 66, 67, 68, 69, 70] [9, 10, 43]
      (fun vs σ' m' => ∃ (i : Nat) (w : Value) (E : List Line) (σe : Sig), vs = [.int .i64 (totN g b.system (b.lines.take i) : Nat), w, .int .i64 (i : Nat)] ∧ i ≤ b.lines.length ∧ (∀ j, j < i → lnAt g b.system b.lines j = 0) ∧ OwnS 50 2 w (E.flatMap Line.enc) σe ∧ E.map (fun e => (e.main, e.bonus)) = (b.lines.take i).map (canonL g) ∧ (∀ e ∈ E, e.In m' ∧ e.main.length ≤ 100000 ∧ e.bonus.length ≤ 100000) ∧ totN g b.system (b.lines.take i) ≤ i * 100000 ∧ σ' = σe ++ [(B3, Cells 30 b.enc), (B2, Cells 25 g.enc)] ∧ Le m m')
      (fun vs => b.lines.length - nOf (vs.getD 2 undef)) rfl ?_ ?_
  · exact ⟨0, .slice (some ⟨B39, 0, none⟩) 0 _, [], _, rfl, by omega, fun j hj => (by omega), .row B39 0 _ [] rfl (Nat.zero_le _) (by unfold maxLen; omega), rfl, fun e he => (by cases he), Nat.le_refl _, rfl, Le.refl _⟩
  intro u0 vs0 σ0 m0 hJ0 _
  obtain ⟨i, w, E, σe, rfl, hi, hln, hown, hK, hE, ht, rfl, hle⟩ := hJ0
  refine SWP_seq (SWP_region ?_)
  refine pc rfl rfl (fun c44 => ?_) (fun c44 => ?_)
  · skip
    refine SL_nil (nx (SWP_seq (SWP_ct rfl (SWP_skip (nx (SWP_seq (SWP_block (SWP_seq ?_))))))))
    obtain ⟨l, hl⟩ : ∃ l, b.lines[i]? = some l := ⟨_, List.getElem?_eq_getElem (by omega)⟩
    obtain ⟨ad, e0, _, hat⟩ := hb.ls.atA Line.enc_len hl
    rw [e0]
    refine SWP_region ?_
    first | refine ia (es := 2) rfl rfl rfl rfl rfl rfl (by omega) rfl ?_ | refine iai (es := 2) rfl rfl rfl rfl rfl rfl (by omega) (by omega) rfl ?_
    refine ldA (v := l.val) rfl (hat.mono hle) rfl rfl ?_
    rw [← e0]
    refine al rfl rfl (fun B12 => ?_)
    refine sw (v := .agg _) B12 0 rfl rfl rfl rfl rfl rfl rfl ?_
    refine SL_nil (nx (SWP_seq (SWP_region ?_)))
    refine pu rfl rfl ?_
    refine lw (v := .agg _) B12 0 rfl rfl rfl rfl ?_
    refine SL_pcallC rfl rfl cb79 (CallsS.permP (lendC fun m1 l1 h3 => lendC fun m2 l2 h2 => sizeI (hin.mono (hle.trans (l1.trans l2))) ((hb.each l (List.mem_of_getElem? hl)).mono (hle.trans (l1.trans l2))) h2 (h3.mono l2) _) (permI1 _ _ _ _)) rfl rfl ?_
    refine pu rfl rfl ?_
    first | refine pI rfl rfl ?_ | refine pu rfl rfl ?_
    first | refine pI rfl rfl ?_ | refine pu rfl rfl ?_
    first | refine pI rfl rfl ?_ | refine pu rfl rfl ?_
    first | refine pI rfl rfl ?_ | refine pu rfl rfl ?_
    refine SL_nil (nx (SWP_seq (SWP_seq (SWP_region ?_))))
    first | refine pI rfl rfl ?_ | refine pu rfl rfl ?_
    refine pc rfl rfl (fun c54 => ?_) (fun c54 => ?_)
    · skip
      refine SL_nil (nx (SWP_ct rfl (SWP_seq (SWP_region ?_))))
      first | refine pI rfl rfl ?_ | refine pu rfl rfl ?_
      refine pI rfl rfl ?_
      first | refine pI rfl rfl ?_ | refine pu rfl rfl ?_
      refine SL_nil (nx (SWP_ret (nr (br (nr (nr (br (nr ?_))))))))
      refine fin [_, _] ⟨rfl, rfl, trivial⟩ ?_
      have hle0 : lnErr g b.system b.lines = sizeE g b.system l := lnErr_at (by assumption) hln (by omega) (by rw [lnAt_some hl]; exact if_pos (by assumption))
      exact ⟨_, (if_neg (fun hh => hh hz)).trans ((if_neg (fun hh => hh hlen)).trans ((if_pos (by rw [hle0]; assumption)).trans hle0)), .inl ⟨by assumption, rfl⟩⟩
    refine SL_nil (nx (SWP_cf rfl (SWP_skip (nx (SWP_seq ?_)))))
    have hsz : sizeE g b.system l = 0 := Classical.not_not.1 (by assumption)
    have hsm := size_small hsz
    refine SWP_region ?_
    refine lw (v := .agg _) B2 0 rfl rfl rfl rfl ?_
    refine lw (v := .agg _) B12 0 rfl rfl rfl rfl ?_
    refine SL_call rfl rfl cb82 (CallsS.frame0 (canonG ((hb.each l (List.mem_of_getElem? hl)).mono hle) (by omega) (by omega))) rfl (fun v15_2 σ15_2 m15_2 hl15_2 hR15_2 => ?_)
    obtain ⟨σc, rfl, rfl, c, rfl, hci, hc1, hc2⟩ := hR15_2
    have hE2 : ∀ e ∈ E, e.In m15_2 ∧ e.main.length ≤ 100000 ∧ e.bonus.length ≤ 100000 := fun e he => ⟨(hE e he).1.mono hl15_2, (hE e he).2⟩
    have hle2 := hle.trans hl15_2
    refine al rfl rfl (fun B15 => ?_)
    refine sw (v := .agg _) B15 0 rfl rfl rfl rfl rfl rfl rfl ?_
    refine SL_nil (nx (SWP_seq (SWP_region ?_)))
    refine pu rfl rfl ?_
    refine pu rfl rfl ?_
    refine SL_nil (nx (SWP_seq (SWP_seq (SWP_region ?_))))
    first | refine pL rfl rfl ?_ | refine pu rfl rfl ?_
    refine pu rfl rfl ?_
    refine SL_pcallS rfl rfl cb85 (CallsS.permP (lendS (by decide) Line.enc_len hown fun m1 l1 hr => lendC fun m2 l2 hp => contF (hr.mono l2) (fun e he => ⟨(hE2 e he).1.mono (l1.trans l2), (hE2 e he).2⟩) (hci.mono (l1.trans l2)) hp _) (permI2 _ _ _ _)) rfl ?_
    refine psp 62 rfl (fun c62 => ?_) (fun c62 => ?_)
    · skip
      refine SL_nil (nx (SWP_ct rfl (SWP_seq (SWP_region ?_))))
      refine pI rfl rfl ?_
      refine pI rfl rfl ?_
      refine SL_nil (nx (SWP_ret (nr (br (nr (nr (br (nr ?_))))))))
      refine fin [_, _] ⟨rfl, rfl, trivial⟩ ?_
      have hle0 : lnErr g b.system b.lines = 6 := lnErr_at (by decide) hln (by omega) (by rw [lnAt_some hl]; exact (if_neg (fun hh => hh hsz)).trans (if_pos ((keyL_mem hK hc1 hc2).1 (by assumption))))
      exact ⟨_, (if_neg (fun hh => hh hz)).trans ((if_neg (fun hh => hh hlen)).trans ((if_pos (by rw [hle0]; decide)).trans hle0)), .inl ⟨by decide, rfl⟩⟩
    refine SL_nil (nx (SWP_cf rfl (SWP_skip (nx (SWP_seq ?_)))))
    have hEl : E.length = i := by have := congrArg List.length hK; rw [List.length_map, List.length_map, List.length_take] at this; omega
    refine SWP_region ?_
    first | refine pL rfl rfl ?_ | refine pu rfl rfl ?_
    refine lw (v := .agg _) B15 0 rfl rfl rfl rfl ?_
    refine bs rfl rfl rfl rfl rfl (fun B65 => ?_)
    refine ap (e := 50) (size := 2) (bytes := 48) rfl rfl rfl rfl rfl rfl rfl hown (permI3 _ _ _ _ _) rfl (Rd.of_cells (.head _)) rfl rfl (by rw [flatMap_len Line.enc_len]; omega) rfl rfl (fun v66 σ66 hown66 => ?_)
    refine SL_weak (List.Sublist.append_left (((List.Sublist.refl _).cons _).cons _ |>.cons _) _) ?_
    first | refine pL rfl rfl ?_ | refine pu rfl rfl ?_
    refine SL_nil (nx (SWP_region ?_))
    first | refine pI rfl rfl ?_ | refine pu rfl rfl ?_
    first | refine pI rfl rfl ?_ | refine pu rfl rfl ?_
    refine pw rfl rfl (w64 (by omega) (by omega)) ?_
    first | refine pI rfl rfl ?_ | refine pu rfl rfl ?_
    refine SL_nil (nb (nx (SWP_region ?_)))
    first | refine pw rfl rfl (w64 (by omega) (by omega)) ?_ | refine pu rfl rfl ?_
    refine pI rfl rfl ?_
    refine SL_nil (nx ?_)
    refine ⟨by repeat (first | exact Under.upds rfl (Under.hav _ _ _) | exact Under.hav _ _ _ | refine Under.upd rfl ?_), ?_, ?_⟩
    · refine ⟨i + 1, v66, E ++ [c], σ66, ?_, by omega, fun j hj => ?_, ?_, ?_, fun e he => ?_, ?_, rfl, hle2⟩
      · rw [totN_snoc hl]; simp only [L_vals, List.map]; first | rfl | simp
      · by_cases e : j = i
        · subst e
          rw [lnAt_some hl]
          exact (if_neg (fun hh => hh hsz)).trans (if_neg (fun hh => by have := (keyL_mem hK hc1 hc2).2 hh; contradiction))
        · exact hln j (by omega)
      · rw [List.flatMap_append]; exact hown66
      · rw [List.map_append, hK, take_snocA hl, List.map_append, List.map_singleton, List.map_singleton, hc1, hc2]
      · rcases List.mem_append.1 he with he | he
        · exact hE2 e he
        · rw [List.mem_singleton.1 he, hc1, hc2, canon_len.1, canon_len.2]
          exact ⟨hci, by omega, by omega⟩
      · rw [totN_snoc hl]; omega
    · simp only [L_vals, List.map, List.getD]; show b.lines.length - (i + 1) < b.lines.length - i; omega
  refine SL_nil (nx (SWP_seq (SWP_cf rfl (SWP_exit (ne (ne (be rfl (nx (SWP_seq (SWP_seq ?_))))))))))
  obtain rfl : i = b.lines.length := by omega
  rw [List.take_length] at ht
  rw [List.take_length]
  have hl0 : lnErr g b.system b.lines = 0 := lnErr_zero.2 hln
  refine SWP_region ?_
  first | refine pI rfl rfl ?_ | refine pu rfl rfl ?_
  refine pc rfl rfl (fun c72 => ?_) (fun c72 => ?_)
  · skip
    refine SL_nil (nx (SWP_ct rfl (SWP_seq (SWP_region ?_))))
    refine pI rfl rfl ?_
    refine pI rfl rfl ?_
    refine SL_nil (nx (SWP_ret (nr ?_)))
    refine fin [_, _] ⟨rfl, rfl, trivial⟩ ?_
    exact ⟨3, (if_neg (fun hh => hh hz)).trans ((if_neg (fun hh => hh hlen)).trans ((if_neg (fun hh => hh hl0)).trans (if_pos (by omega)))), .inl ⟨by decide, rfl⟩⟩
  refine SL_nil (nx (SWP_cf rfl (SWP_skip (nx (SWP_seq (SWP_seq (SWP_region ?_)))))))
  refine pu rfl rfl ?_
  refine lw (v := .int .i64 _) B3 2 rfl rfl rfl rfl ?_
  refine pc rfl rfl (fun c75 => ?_) (fun c75 => ?_)
  · skip
    refine pB rfl rfl ?_
    refine SL_no rfl rfl ?_
    refine SL_no rfl rfl ?_
    refine SL_no rfl rfl ?_
    refine SL_no rfl rfl ?_
    refine SL_no rfl rfl ?_
    refine pB rfl rfl ?_
    refine SL_nil (nx (SWP_ct rfl (SWP_seq (SWP_region ?_))))
    refine pI rfl rfl ?_
    refine pI rfl rfl ?_
    refine SL_nil (nx (SWP_ret (nr ?_)))
    refine fin [_, _] ⟨rfl, rfl, trivial⟩ ?_
    exact ⟨2, (if_neg (fun hh => hh hz)).trans ((if_neg (fun hh => hh hlen)).trans ((if_neg (fun hh => hh hl0)).trans ((if_neg (by omega)).trans (if_pos (by omega))))), .inl ⟨by decide, rfl⟩⟩
  refine pB rfl rfl ?_
  refine SL_yes rfl ?_
  refine pu rfl rfl ?_
  refine SL_yes rfl ?_
  refine lw (v := .int .i64 _) B3 2 rfl rfl rfl rfl ?_
  refine SL_yes rfl ?_
  refine pu rfl rfl ?_
  refine SL_yes rfl ?_
  refine lw (v := .int .i64 _) B2 8 rfl rfl rfl rfl ?_
  refine SL_yes rfl ?_
  refine pc rfl rfl (fun c81 => ?_) (fun c81 => ?_)
  · skip
    refine pB rfl rfl ?_
    refine SL_nil (nx (SWP_ct rfl (SWP_seq (SWP_region ?_))))
    refine pI rfl rfl ?_
    refine pI rfl rfl ?_
    refine SL_nil (nx (SWP_ret (nr ?_)))
    refine fin [_, _] ⟨rfl, rfl, trivial⟩ ?_
    exact ⟨2, (if_neg (fun hh => hh hz)).trans ((if_neg (fun hh => hh hlen)).trans ((if_neg (fun hh => hh hl0)).trans ((if_neg (by omega)).trans (if_pos (by omega))))), .inl ⟨by decide, rfl⟩⟩
  refine pB rfl rfl ?_
  refine SL_nil (nx (SWP_cf rfl (SWP_skip (nx (SWP_seq (SWP_seq (SWP_region ?_)))))))
  refine pu rfl rfl ?_
  refine lw (v := .int .i64 _) B3 3 rfl rfl rfl rfl ?_
  refine pc rfl rfl (fun c85 => ?_) (fun c85 => ?_)
  · skip
    refine pB rfl rfl ?_
    refine SL_no rfl rfl ?_
    refine SL_no rfl rfl ?_
    refine SL_no rfl rfl ?_
    refine SL_no rfl rfl ?_
    refine SL_no rfl rfl ?_
    refine SL_no rfl rfl ?_
    refine SL_no rfl rfl ?_
    refine pB rfl rfl ?_
    refine SL_nil (nx (SWP_ct rfl (SWP_seq (SWP_region ?_))))
    refine pI rfl rfl ?_
    refine pI rfl rfl ?_
    refine SL_nil (nx (SWP_ret (nr ?_)))
    refine fin [_, _] ⟨rfl, rfl, trivial⟩ ?_
    exact ⟨2, (if_neg (fun hh => hh hz)).trans ((if_neg (fun hh => hh hlen)).trans ((if_neg (fun hh => hh hl0)).trans ((if_neg (by omega)).trans ((if_neg (by omega)).trans (if_pos (fun hh => by first | omega | exact absurd hh.2 ((div_pow hh.1).1 (by assumption)))))))), .inl ⟨by decide, rfl⟩⟩
  refine pB rfl rfl ?_
  refine SL_yes rfl ?_
  refine pu rfl rfl ?_
  refine SL_yes rfl ?_
  refine lw (v := .int .i64 _) B3 3 rfl rfl rfl rfl ?_
  refine SL_yes rfl ?_
  refine pu rfl rfl ?_
  refine SL_yes rfl ?_
  refine lw (v := .slice _ _ _) B2 20 rfl rfl rfl rfl ?_
  refine SL_yes rfl ?_
  refine pu rfl rfl ?_
  refine SL_yes rfl ?_
  refine pshr rfl rfl (by omega) (show Int.fdiv b.addons (2 ^ min ((g.addons.length : Nat) : Int).toNat 64) = b.addons / 2 ^ g.addons.length by rw [Int.toNat_natCast, Nat.min_eq_left (by have := addons_few hg; omega), Int.fdiv_eq_ediv_of_nonneg _ (Int.pow_nonneg (by decide))]) rfl ?_
  refine SL_yes rfl ?_
  refine pc rfl rfl (fun c93 => ?_) (fun c93 => ?_)
  · skip
    refine pB rfl rfl ?_
    refine SL_nil (nx (SWP_ct rfl (SWP_seq (SWP_region ?_))))
    refine pI rfl rfl ?_
    refine pI rfl rfl ?_
    refine SL_nil (nx (SWP_ret (nr ?_)))
    refine fin [_, _] ⟨rfl, rfl, trivial⟩ ?_
    exact ⟨2, (if_neg (fun hh => hh hz)).trans ((if_neg (fun hh => hh hlen)).trans ((if_neg (fun hh => hh hl0)).trans ((if_neg (by omega)).trans ((if_neg (by omega)).trans (if_pos (fun hh => by first | omega | exact absurd hh.2 ((div_pow hh.1).1 (by assumption)))))))), .inl ⟨by decide, rfl⟩⟩
  refine pB rfl rfl ?_
  refine SL_nil (nx (SWP_cf rfl (SWP_skip (nx (SWP_seq (SWP_region ?_))))))
  first | refine pI rfl rfl ?_ | refine pu rfl rfl ?_
  first | refine pI rfl rfl ?_ | refine pu rfl rfl ?_
  refine pI rfl rfl ?_
  refine SL_nil (nx (SWP_ret ?_))
  refine fin [_, _] ⟨rfl, rfl, trivial⟩ ?_
  exact ⟨0, (if_neg (fun hh => hh hz)).trans ((if_neg (fun hh => hh hlen)).trans ((if_neg (fun hh => hh hl0)).trans ((if_neg (by omega)).trans ((if_neg (by omega)).trans (if_neg (fun hh => hh ⟨by omega, Classical.not_not.1 (fun hh2 => absurd ((div_pow (by omega)).2 hh2) (by assumption))⟩)))))), .inr ⟨rfl, rfl⟩⟩
end Go.Proofs.YtifjhpaoejageaaGreatDoor
