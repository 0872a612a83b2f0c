/- What the claim rests on, part 3: models of the functions in plain Lean and walks through their code; printed by programs. -/
import Derived.Test.YtlgoegjboabgfaaGreatDoorKTerminalNobody2
set_option linter.unusedVariables false
set_option linter.unusedSimpArgs false
namespace Go.Proofs.YtlgoegjboabgfaaGreatDoor
open Eng
theorem natL_at0 {N x : Int} (h0 : 0 ≤ N) (h : (natL N)[0]? = some x) : valL ((natL N).take 1) = x ∧ 0 ≤ x ∧ x < 4294967296 := by
  unfold natL at h ⊢
  split at h
  · simp at h
  · rename_i h1
    rw [if_neg h1]
    split at h
    · rename_i h2
      rw [if_pos h2]
      simp only [List.getElem?_cons_zero, Option.some.injEq] at h
      subst h
      exact ⟨by show N + 4294967296 * 0 = N; omega, by omega, by omega⟩
    · rename_i h2
      rw [if_neg h2]
      simp only [List.getElem?_cons_zero, Option.some.injEq] at h
      subst h
      exact ⟨by show N % 4294967296 + 4294967296 * 0 = _; omega, by omega, by omega⟩
theorem natL_at1 {N x : Int} (h0 : 0 ≤ N) (hN : N < 18446744073709551616) (h : (natL N)[1]? = some x) : valL ((natL N).take 1) = N % 4294967296 ∧ valL ((natL N).take 2) = N % 4294967296 + 4294967296 * x ∧ 0 ≤ x ∧ x < 4294967296 := by
  unfold natL at h ⊢
  split at h
  · simp at h
  · rename_i h1
    rw [if_neg h1]
    split at h
    · simp at h
    · rename_i h2
      rw [if_neg h2]
      simp only [List.getElem?_cons_succ, List.getElem?_cons_zero, Option.some.injEq] at h
      subst h
      exact ⟨by show N % 4294967296 + 4294967296 * 0 = _; omega, by show N % 4294967296 + 4294967296 * (N / 4294967296 + 4294967296 * 0) = _; omega, by omega, by omega⟩
def mulS (B : Int) : List Int → Int → List Int
  | [], c => [c]
  | a :: l, c => (a * B + c) % 4294967296 :: mulS B l ((a * B + c) / 4294967296)
theorem mul_rng {a B : Int} (h1 : 0 ≤ a ∧ a < 4294967296) (h2 : 0 ≤ B ∧ B < 4294967296) : 0 ≤ a * B ∧ a * B ≤ 18446744065119617025 := by
  refine ⟨Int.mul_nonneg h1.1 h2.1, ?_⟩
  calc a * B ≤ 4294967295 * B := Int.mul_le_mul_of_nonneg_right (by omega) h2.1
    _ ≤ 4294967295 * 4294967295 := Int.mul_le_mul_of_nonneg_left (by omega) (by decide)
    _ = 18446744065119617025 := by decide
theorem mulS_ok {B : Int} (hB : 0 ≤ B ∧ B < 4294967296) : ∀ {l : List Int} {c : Int}, okL l → 0 ≤ c ∧ c < 4294967296 → okL (mulS B l c) ∧ valL (mulS B l c) = valL l * B + c ∧ (mulS B l c).length = l.length + 1
  | [], c, _, hc => ⟨okL_cons.2 ⟨hc, (fun _ h => by cases h)⟩, (by show c + 4294967296 * 0 = 0 * B + c; omega), rfl⟩
  | a :: l, c, h, hc => by
    have ha := (okL_cons.1 h).1
    obtain ⟨p0, p1⟩ := mul_rng ha hB
    obtain ⟨h1, h2, h3⟩ := mulS_ok hB (okL_cons.1 h).2 (c := (a * B + c) / 4294967296) (by omega)
    refine ⟨okL_cons.2 ⟨by omega, h1⟩, ?_, by show (mulS B l _).length + 1 = _; rw [h3]; rfl⟩
    show (a * B + c) % 4294967296 + 4294967296 * valL (mulS B l ((a * B + c) / 4294967296)) = (a + 4294967296 * valL l) * B + c
    rw [h2, Int.add_mul, Int.mul_assoc]
    omega
theorem mulS_at {B c : Int} {l : List Int} {i : Nat} {x : Int} (h : l[i]? = some x) : mulS B (l.drop i) c = (x * B + c) % 4294967296 :: mulS B (l.drop (i + 1)) ((x * B + c) / 4294967296) := by
  obtain ⟨h1, h2⟩ := List.getElem?_eq_some_iff.1 h
  rw [List.drop_eq_getElem_cons h1, h2]; rfl
theorem set_at {D Z : List Int} {c v : Int} {i : Nat} (h : D.length = i) : (D ++ c :: Z).set i v = D ++ v :: Z := by
  rw [List.set_append, if_neg (by omega), show i - D.length = 0 by omega]; rfl
theorem set_at1 {D Z : List Int} {c d v : Int} {i : Nat} (h : D.length = i) : (D ++ c :: d :: Z).set (i + 1) v = D ++ c :: v :: Z := by
  rw [List.set_append, if_neg (by omega), show i + 1 - D.length = 1 by omega]; rfl
theorem get_at {D Z : List Int} {c : Int} {i : Nat} (h : D.length = i) : (D ++ c :: Z)[i]? = some c := by
  rw [List.getElem?_append_right (by omega), show i - D.length = 0 by omega]; rfl
theorem get_at1 {D Z : List Int} {c d : Int} {i : Nat} (h : D.length = i) : (D ++ c :: d :: Z)[i + 1]? = some d := by
  rw [List.getElem?_append_right (by omega), show i + 1 - D.length = 1 by omega]; rfl
theorem repV_flat (n : Nat) : (List.replicate n (0 : Int)).flatMap u32E = List.replicate n (.int .u32 0) := by
  induction n with
  | zero => rfl
  | succ n ih => rw [List.replicate_succ, List.flatMap_cons, ih]; rfl
theorem natL_one {D : Int} (h : 1 ≤ D) (h' : D < 4294967296) : natL D = [D] := by
  unfold natL; rw [if_neg (by omega), if_pos h']
set_option maxRecDepth 100000 in
theorem uintI {m : Mem} {a : Option Addr} {c : Nat} {N : Int} (h0 : 0 ≤ N) (h1 : N < 18446744073709551616) (h : RL m u32E 1 (.slice a (natL N).length c) (natL N)) : PureCall Tryz.prog 181 [.agg #[.slice a (natL N).length c]] m (.tuple #[.int .u64 N, .bool true]) := by
  refine CallsS.pure ?_
  have hln := natL_len N
  refine enter Tryz.func181 Tryz.ntmps181 rfl rfl ?_
  refine SWP_seq (SWP_region ?_)
  refine bx (v := .agg _) rfl rfl (fun B1 => ?_)
  refine pI rfl rfl (pB rfl rfl (SL_nil (nx (SWP_seq (SWP_seq (SWP_region ?_))))))
  refine lw (v := .agg _) B1 0 rfl rfl rfl rfl ?_
  refine SL_pcall rfl rfl cb194 (validI h (by omega) (tidy_natL h0)) rfl ?_
  refine pB rfl rfl (pB rfl rfl (SL_yes rfl (pu rfl rfl (SL_yes rfl ?_))))
  refine lw (v := .slice _ _ _) B1 0 rfl rfl rfl rfl ?_
  refine SL_yes rfl (pu rfl rfl (SL_yes rfl ?_))
  refine pn rfl rfl (by omega) ?_
  refine pB rfl rfl (SL_nil (nx (SWP_cf rfl (SWP_skip (nx (SWP_seq (SWP_region (pI rfl rfl (SL_nil (nx (SWP_seq ?_)))))))))))
  refine SWP_seq (SWP_region (pu rfl rfl ?_))
  refine lw (v := .slice _ _ _) B1 0 rfl rfl rfl rfl ?_
  refine pu rfl rfl (pI rfl rfl (SL_nil (nx (SWP_block ?_))))
  refine SWP_loop [4, 5, 6, 19, 20, 21, 22, 23, 24, 25, 26, 27, 28, 29, 30, 31] [4, 19]
      (fun vs σ' m' => ∃ (i : Nat), vs = [.int .u64 (valL ((natL N).take i)), .int .i64 (i : Nat)] ∧ i ≤ (natL N).length ∧ σ' = [(B1, Cells 236 [.slice a (natL N).length c])] ∧ m = m')
      (fun vs => (natL N).length - nOf (vs.getD 1 undef)) rfl ?_ ?_
  · exact ⟨0, rfl, by omega, rfl, rfl⟩
  intro u0 vs0 σ0 m0 hJ0 _
  obtain ⟨i, rfl, hi, rfl, rfl⟩ := hJ0
  refine SWP_seq (SWP_region ?_)
  refine pc rfl rfl (fun c20 => ?_) (fun c20 => ?_)
  · skip
    refine SL_nil (nx (SWP_seq (SWP_ct rfl (SWP_skip (nx (SWP_seq (SWP_block (SWP_seq (SWP_region (pI rfl rfl ?_))))))))))
    obtain ⟨x, hx⟩ : ∃ z, (natL N)[i]? = some z := ⟨_, List.getElem?_eq_getElem (by omega)⟩
    obtain ⟨adx, ex, _, hatx⟩ := h.atV hx
    cases ex
    refine ia (es := 1) rfl rfl rfl (Nat.mul_one _) rfl rfl (by omega) rfl ?_
    refine ldA (v := .int .u32 _) rfl hatx rfl rfl ?_
    have hxr := okL_at (okL_natL h0 h1) hx
    refine pI rfl rfl (pI rfl rfl (SL_nil (nx (SWP_region (pI rfl rfl (pI rfl rfl ?_))))))
    refine pw rfl rfl (by rw [wrapU]; omega) ?_
    refine pI rfl rfl ?_
    refine pw rfl rfl (w64 (by omega) (by omega)) ?_
    have hi2 : i = 0 ∨ i = 1 := by omega
    have hstep : ∃ y : Int, IntKind.u64.wrap (x * 2 ^ (min (32 * (i : Int)).toNat IntKind.u64.bits)) = y ∧ bits .or .u64 (valL ((natL N).take i)) y = valL ((natL N).take (i + 1)) := by
      rcases hi2 with rfl | rfl
      · obtain ⟨q1, q2, q3⟩ := natL_at0 h0 hx
        refine ⟨x, by show IntKind.u64.wrap (x * 1) = x; rw [wrapU]; omega, ?_⟩
        rw [q1]
        show bits .or .u64 0 x = x
        have := or_hi (y := x) (x := 0) (by omega) (by omega) (by omega) (by decide) (by decide)
        rw [this]; omega
      · obtain ⟨q0, q1, q2, q3⟩ := natL_at1 h0 h1 hx
        refine ⟨x * 4294967296, by show IntKind.u64.wrap (x * 4294967296) = _; rw [wrapU]; omega, ?_⟩
        rw [q0, q1, or_lo (by omega) (by omega) (by omega) (by omega) (by omega)]; omega
    obtain ⟨y, hy1, hy2⟩ := hstep
    refine pshl rfl rfl (by omega) hy1 rfl ?_
    refine pu (v := .int .u64 (bits .or .u64 (valL ((natL N).take i)) y)) rfl rfl ?_
    rw [hy2]
    refine pI rfl rfl (SL_nil (nb (nx (SWP_region ?_))))
    refine pw rfl rfl (w64 (by omega) (by omega)) ?_
    refine pI rfl rfl (SL_nil (nx ?_))
    refine ⟨by repeat (first | exact Under.upds rfl (Under.hav _ _ _) | exact Under.hav _ _ _ | refine Under.upd rfl ?_), ?_, ?_⟩
    · exact ⟨i + 1, rfl, by omega, rfl, rfl⟩
    · simp only [L_vals, List.map, List.getD]; show (natL N).length - (i + 1) < (natL N).length - i; omega
  refine SL_nil (nx (SWP_seq (SWP_cf rfl (SWP_exit (ne (ne (be rfl (nx (SWP_seq (SWP_region (pI rfl rfl ?_)))))))))))
  refine pI rfl rfl (pB rfl rfl (SL_nil (nx (SWP_ret ?_))))
  refine fin [_, _] ⟨rfl, rfl, trivial⟩ ?_
  have e : valL ((natL N).take i) = N := by rw [List.take_of_length_le (by omega), valL_natL]
  rw [e]
  rfl
set_option maxRecDepth 100000 in
theorem mulI {m : Mem} {a b : Option Addr} {c d : Nat} {l : List Int} {B N : Int} (h : RL m u32E 1 (.slice a l.length c) l) (h' : RL m u32E 1 (.slice b ([B] : List Int).length d) [B]) (hok : okL l) (hll : l.length ≤ 2) (ht : tidyL l) (hB : 1 ≤ B ∧ B < 4294967296) (hN : valL l * B = N) (hN2 : N < 18446744073709551616) :
    CallsS Tryz.prog 179 [.agg #[.slice a l.length c], .agg #[.slice b ([B] : List Int).length d]].toArray [] m fun r σ' m' => σ' = [] ∧ ∃ a' c', r = .tuple #[.agg #[.slice a' (natL N).length c'], .int .i64 0] ∧ RL m' u32E 1 (.slice a' (natL N).length c') (natL N) := by
  refine CallsS.ghost (R' := fun r σ' m' => ∃ a' c', r = .tuple #[.agg #[.slice a' (natL N).length c'], .int .i64 0] ∧ RL m' u32E 1 (.slice a' (natL N).length c') (natL N)) ?_ ?h2
  case h2 =>
    rintro r σ' m' hr g0 W hC
    exact ⟨_, m', hC.sublist (List.nil_sublist _), Le.refl _, rfl, hr⟩
  have hokB : okL [B] := okL_cons.2 ⟨by omega, fun _ h => by cases h⟩
  have e1 : ([B] : List Int).length = 1 := rfl
  obtain ⟨adB, eB, _, hatB⟩ := h'.atV (show ([B] : List Int)[0]? = some B from rfl)
  cases eB
  refine enter Tryz.func179 Tryz.ntmps179 rfl rfl ?_
  refine SWP_seq (SWP_region ?_)
  refine bx (v := .agg _) rfl rfl (fun B2 => ?_)
  refine bx (v := .agg _) rfl rfl (fun B3 => ?_)
  refine al rfl rfl (fun B4 => ?_)
  refine pI rfl rfl (SL_nil (nx (SWP_seq (SWP_seq (SWP_region ?_)))))
  refine lw (v := .agg _) B2 0 rfl rfl rfl rfl ?_
  refine SL_pcall rfl rfl cb194 (validI h (by omega) ht) rfl ?_
  refine pB rfl rfl (pB rfl rfl (SL_yes rfl ?_))
  refine lw (v := .agg _) B3 0 rfl rfl rfl rfl ?_
  refine SL_yes rfl ?_
  refine SL_pcall rfl rfl cb194 (validI h' (show 1 ≤ 64 by decide) (.inr (show B ≠ 0 by omega))) rfl ?_
  refine SL_yes rfl (pB rfl rfl (pB rfl rfl (SL_nil (nx (SWP_cf rfl (SWP_skip (nx (SWP_seq (SWP_region (pu rfl rfl ?_))))))))))
  refine lw (v := .slice _ _ _) B2 0 rfl rfl rfl rfl ?_
  refine pu rfl rfl (pu rfl rfl ?_)
  refine lw (v := .slice _ _ _) B3 0 rfl rfl rfl rfl ?_
  refine pu rfl rfl ?_
  refine pw rfl rfl (w64 (by rw [e1]; omega) (by rw [e1]; omega)) ?_
  refine mkn (c := l.length + 1) (z := .int .u32 0) rfl rfl rfl rfl (by show Value.int .i64 ((l.length : Int) + ((([B] : List Int).length : Nat) : Int)) = _; rw [e1]; rfl) (by show Value.int .i64 ((l.length : Int) + ((([B] : List Int).length : Nat) : Int)) = _; rw [e1]; rfl) (by show 4 * (l.length + 1) ≤ 281474976710656; omega) (by unfold maxLen; omega) rfl (fun B29 σ29 hown29 => ?_)
  rw [← repV_flat] at hown29
  refine pL rfl rfl (SL_nil (nx (SWP_seq (SWP_seq (SWP_region (pu rfl rfl ?_))))))
  refine lw (v := .slice _ _ _) B2 0 rfl rfl rfl rfl ?_
  refine pu rfl rfl (pI rfl rfl (SL_nil (nx (SWP_block ?_))))
  refine SWP_loop [7, 8, 9, 10, 11, 12, 33, 34, 35, 36, 37, 38, 39, 40, 41, 42, 43, 44, 45, 46, 47, 48, 49, 50, 51, 52, 53, 54, 55, 56, 57, 58, 59, 60, 61, 62, 63, 64, 65, 66, 67, 68, 69, 70, 71, 72, 73, 74, 75, 76, 77, 78, 79, 80, 81, 82, 83, 84, 85, 86, 87, 88, 89] [33]
      (fun vs σ' m' => ∃ (i : Nat) (D0 : List Int) (cc : Int) (σp : Sig), vs = [.int .i64 (i : Nat)] ∧ i ≤ l.length ∧ D0.length = i ∧ D0 ++ mulS B (l.drop i) cc = mulS B l 0 ∧ (0 ≤ cc ∧ cc < 4294967296) ∧ OwnS 191 1 (.slice (some ⟨B29, 0, none⟩) (l.length + 1) (l.length + 1)) ((D0 ++ cc :: List.replicate (l.length - i) 0).flatMap u32E) σp ∧ σ' = σp ++ [(B4, Cells 236 [.slice none 0 0]), (B3, Cells 236 [.slice (some adB) ([B] : List Int).length d]), (B2, Cells 236 [.slice a l.length c])] ∧ m = m')
      (fun vs => l.length - nOf (vs.getD 0 undef)) rfl ?_ ?_
  · exact ⟨0, [], 0, σ29, rfl, by omega, rfl, rfl, by decide, hown29, rfl, rfl⟩
  intro u0 vs0 σ0 m0 hJ0 _
  obtain ⟨i, D0, cc, σp, rfl, hi, hD0, hD, hcc, hown, rfl, rfl⟩ := hJ0
  refine SWP_seq (SWP_region ?_)
  refine pc rfl rfl (fun c34 => ?_) (fun c34 => ?_)
  · skip
    refine SL_nil (nx (SWP_seq (SWP_ct rfl (SWP_skip (nx (SWP_seq (SWP_block (SWP_seq ?_))))))))
    rw [show l.length - i = (l.length - (i + 1)) + 1 by omega, List.replicate_succ] at hown
    refine SWP_region (pI rfl rfl ?_)
    obtain ⟨x, hx⟩ : ∃ z, l[i]? = some z := ⟨_, List.getElem?_eq_getElem (by omega)⟩
    obtain ⟨adx, ex, _, hatx⟩ := h.atV hx
    have hxr := okL_at hok hx
    refine ia (es := 1) (ad := adx) rfl rfl rfl (Nat.mul_one _) (by show Value.slice a _ _ = _; rw [ex]) rfl (by omega) rfl ?_
    refine ldA (v := .int .u32 _) rfl hatx rfl rfl ?_
    refine pI rfl rfl (pI rfl rfl (SL_nil (nx (SWP_seq (SWP_region (pL rfl rfl (pI rfl rfl (pI rfl rfl (pu rfl rfl ?_)))))))))
    refine lw (v := .slice _ _ _) B3 0 rfl rfl rfl rfl ?_
    refine pu rfl rfl ?_
    refine pw rfl rfl (w64 (by rw [e1]; omega) (by rw [e1]; omega)) ?_
    refine pw rfl rfl (w64 (by rw [e1]; omega) (by rw [e1]; omega)) ?_
    refine pI rfl rfl (pu rfl rfl ?_)
    refine lw (v := .slice _ _ _) B3 0 rfl rfl rfl rfl ?_
    refine pu rfl rfl ?_
    refine pw rfl rfl (w64 (by rw [e1]; omega) (by rw [e1]; omega)) ?_
    refine pw rfl rfl (w64 (by rw [e1]; omega) (by rw [e1]; omega)) ?_
    refine slhm (size := 1) (a := some ⟨B29, 0, none⟩) rfl rfl rfl rfl rfl rfl rfl (by omega) (by rw [e1]; omega) (by rw [e1]; omega) (by rw [e1]; omega) rfl ?_
    rw [show sliced (some ⟨B29, 0, none⟩) ((i : Nat) : Int).toNat ((i : Int) + ((([B] : List Int).length : Nat) : Int) + 1).toNat ((i : Int) + ((([B] : List Int).length : Nat) : Int) + 1).toNat 1 = .slice (some ((⟨B29, 0, none⟩ : Addr).add i)) 2 2 by rw [e1, Int.toNat_natCast, show ((i : Int) + ((1 : Nat) : Int) + 1).toNat = i + 2 by omega]; unfold sliced; rw [if_neg (by omega), Nat.mul_one, show i + 2 - i = 2 by omega]; rfl]
    refine pL rfl rfl (SL_nil (nx (SWP_seq ?_)))
    obtain ⟨p0, p1⟩ := mul_rng hxr (show 0 ≤ B ∧ B < 4294967296 by omega)
    refine SWP_region (pI rfl rfl (SL_nil (nx (SWP_seq (SWP_seq (SWP_region (pu rfl rfl ?_)))))))
    refine lw (v := .slice _ _ _) B3 0 rfl rfl rfl rfl ?_
    refine pu rfl rfl (pI rfl rfl (SL_nil (nx (SWP_block ?_))))
    refine SWP_loop [10, 11, 12, 56, 57, 58, 59, 60, 61, 62, 63, 64, 65, 66, 67, 68, 69, 70, 71, 72, 73, 74, 75, 76, 77, 78, 79, 80, 81] [10, 56]
        (fun vs σ' m' => ∃ (j : Nat) (w : Int) (σq : Sig), vs = [.int .u64 w, .int .i64 (j : Nat)] ∧ j ≤ 1 ∧ ((j = 0 ∧ w = 0 ∧ OwnS 191 1 (.slice (some ⟨B29, 0, none⟩) (l.length + 1) (l.length + 1)) ((D0 ++ cc :: 0 :: List.replicate (l.length - (i + 1)) 0).flatMap u32E) σq) ∨ (j = 1 ∧ w = (x * B + cc) / 4294967296 ∧ OwnS 191 1 (.slice (some ⟨B29, 0, none⟩) (l.length + 1) (l.length + 1)) ((D0 ++ (x * B + cc) % 4294967296 :: 0 :: List.replicate (l.length - (i + 1)) 0).flatMap u32E) σq)) ∧ σ' = σq ++ [(B4, Cells 236 [.slice none 0 0]), (B3, Cells 236 [.slice (some adB) ([B] : List Int).length d]), (B2, Cells 236 [.slice a l.length c])] ∧ m = m')
        (fun vs => 1 - nOf (vs.getD 1 undef)) rfl ?_ ?_
    · exact ⟨0, 0, σp, rfl, by omega, .inl ⟨rfl, rfl, hown⟩, rfl, rfl⟩
    intro u1 vs1 σ1 m1 hJ1 _
    clear hown σp
    obtain ⟨j, w, σq, rfl, hj, hdj, rfl, rfl⟩ := hJ1
    refine SWP_seq (SWP_region ?_)
    refine pc rfl rfl (fun c57 => ?_) (fun c57 => ?_)
    · skip
      refine SL_nil (nx (SWP_seq (SWP_ct rfl (SWP_skip (nx (SWP_seq (SWP_block (SWP_seq ?_))))))))
      have hj0 : j = 0 := by rw [e1] at c57; omega
      subst hj0
      obtain ⟨rfl, hown⟩ : w = 0 ∧ OwnS 191 1 (.slice (some ⟨B29, 0, none⟩) (l.length + 1) (l.length + 1)) ((D0 ++ cc :: 0 :: List.replicate (l.length - (i + 1)) 0).flatMap u32E) σq := by
        rcases hdj with ⟨_, hw, ho⟩ | ⟨hj, _, _⟩
        · exact ⟨hw, ho⟩
        · omega
      obtain ⟨ad0, e0, _, _, hrd⟩ := hown.atN (by omega) u32E_len (get_at hD0)
      cases e0
      refine SWP_region (pI rfl rfl ?_)
      refine ia (es := 1) (ad := adB) (len := ([B] : List Int).length) rfl rfl rfl (Nat.mul_one _) rfl rfl (show 0 < 1 by decide) rfl ?_
      refine ldA (v := .int .u32 B) rfl hatB rfl rfl ?_
      refine pI rfl rfl (pI rfl rfl (SL_nil (nx (SWP_seq (SWP_region (pI rfl rfl (pI rfl rfl ?_)))))))
      refine pw rfl rfl (by rw [wrapU]; omega) ?_
      refine pI rfl rfl ?_
      refine pw rfl rfl (by rw [wrapU]; omega) ?_
      refine pw rfl rfl (by rw [wrapU]; omega) ?_
      refine pL rfl rfl (pI rfl rfl ?_)
      refine ia (es := 1) rfl rfl rfl (Nat.mul_one _) rfl rfl (by omega) rfl ?_
      refine ldO (off := 0) (hrd _ _ (fun q hq => by simp [hq])) rfl (by rw [Nat.mul_one]) rfl rfl ?_
      refine pw rfl rfl (by rw [wrapU]; omega) ?_
      refine pw rfl rfl (by rw [wrapU]; omega) ?_
      refine pw rfl rfl (by rw [wrapU]; omega) ?_
      rw [show (0 : Int) + (x * B + cc) = x * B + cc by omega]
      refine pI rfl rfl (SL_nil (nx (SWP_seq (SWP_region (pL rfl rfl (pI rfl rfl (pI rfl rfl ?_)))))))
      refine pu (v := .int .u32 (IntKind.u32.wrap (x * B + cc))) rfl rfl ?_
      rw [wrapV]
      refine ia (es := 1) rfl rfl rfl (Nat.mul_one _) rfl rfl (by omega) rfl ?_
      refine stL (σe := σq) (τ := [(B4, Cells 236 [.slice none 0 0]), (B3, Cells 236 [.slice (some adB) ([B] : List Int).length d]), (B2, Cells 236 [.slice a l.length c])]) (k := i) (b := cc) (b' := (x * B + cc) % 4294967296) (off := 0) u32E_len rfl hown (.refl _) (get_at hD0) rfl (by rw [Nat.mul_one]) rfl rfl (by show 0 + 1 ≤ 1; omega) rfl rfl (fun σp2 hown2 => ?_)
      rw [set_at hD0] at hown2
      refine SL_nil (nx (SWP_region (pI rfl rfl ?_)))
      refine pshr rfl rfl (by decide) (fdiv32 (by omega)) rfl ?_
      refine pI rfl rfl (SL_nil (nb (nx (SWP_region ?_))))
      refine pw rfl rfl (w64 (by omega) (by omega)) ?_
      refine pI rfl rfl (SL_nil (nx ?_))
      refine ⟨by repeat (first | exact Under.upds rfl (Under.hav _ _ _) | exact Under.hav _ _ _ | refine Under.upd rfl ?_ | refine Under.upds rfl ?_ | refine Under.hav2 rfl ?_), ?_, ?_⟩
      · exact ⟨1, _, σp2, rfl, by omega, .inr ⟨rfl, rfl, hown2⟩, rfl, rfl⟩
      · simp only [L_vals, List.map, List.getD]; show 1 - (0 + 1) < 1 - 0; omega
    refine SL_nil (nx (SWP_seq (SWP_cf rfl (SWP_exit (ne (ne (be rfl (nx ?_))))))))
    skip
    obtain ⟨rfl, hq2⟩ : w = (x * B + cc) / 4294967296 ∧ OwnS 191 1 (.slice (some ⟨B29, 0, none⟩) (l.length + 1) (l.length + 1)) ((D0 ++ (x * B + cc) % 4294967296 :: 0 :: List.replicate (l.length - (i + 1)) 0).flatMap u32E) σq := by
      rcases hdj with ⟨hj, _, _⟩ | ⟨_, hw, ho⟩
      · rw [e1] at c57; omega
      · exact ⟨hw, ho⟩
    refine SWP_region (pL rfl rfl (pu rfl rfl ?_))
    refine lw (v := .slice _ _ _) B3 0 rfl rfl rfl rfl ?_
    refine pu rfl rfl (pI rfl rfl ?_)
    refine pw rfl rfl (by rw [wrapV]; omega) ?_
    refine ia (es := 1) (k := ([B] : List Int).length) rfl rfl rfl (Nat.mul_one _) rfl rfl (by rw [e1]; omega) rfl ?_
    refine stL (σe := σq) (τ := [(B4, Cells 236 [.slice none 0 0]), (B3, Cells 236 [.slice (some adB) ([B] : List Int).length d]), (B2, Cells 236 [.slice a l.length c])]) (k := i + 1) (b := 0) (b' := (x * B + cc) / 4294967296) (off := 0) u32E_len rfl hq2 (.refl _) (get_at1 hD0) rfl (by rw [e1, add_add, add_zero', Nat.mul_one]) rfl rfl (by show 0 + 1 ≤ 1; omega) rfl rfl (fun σp3 hown3 => ?_)
    rw [set_at1 hD0] at hown3
    refine SL_nil (nb (nx (SWP_region ?_)))
    refine pw rfl rfl (w64 (by omega) (by omega)) ?_
    refine pI rfl rfl (SL_nil (nx ?_))
    refine ⟨by repeat (first | exact Under.upds rfl (Under.hav _ _ _) | exact Under.hav _ _ _ | refine Under.upd rfl ?_ | refine Under.upds rfl ?_ | refine Under.hav2 rfl ?_), ?_, ?_⟩
    · refine ⟨i + 1, D0 ++ [(x * B + cc) % 4294967296], (x * B + cc) / 4294967296, σp3, rfl, by omega, by rw [List.length_append, hD0]; rfl, ?_, by omega, ?_, rfl, rfl⟩
      · rw [← hD, mulS_at hx, List.append_assoc]; rfl
      · rw [List.append_assoc]; exact hown3
    · simp only [L_vals, List.map, List.getD]; show l.length - (i + 1) < l.length - i; omega
  refine SL_nil (nx (SWP_seq (SWP_cf rfl (SWP_exit (ne (ne (be rfl (nx (SWP_seq (SWP_region ?_))))))))))
  obtain rfl : i = l.length := by omega
  have hM : D0 ++ [cc] = mulS B l 0 := by rw [← hD, List.drop_length]; rfl
  rw [Nat.sub_self] at hown
  have hown9 : OwnS 191 1 (.slice (some ⟨B29, 0, none⟩) (l.length + 1) (l.length + 1)) ((mulS B l 0).flatMap u32E) σp := by rw [← hM]; exact hown
  obtain ⟨m1, m2, m3⟩ := mulS_ok (B := B) (by omega) hok (c := 0) (by decide)
  have hTP := trim_nat m1 (show valL (mulS B l 0) = N by rw [m2]; omega) hN2
  refine SL_freezeL (by omega) u32E_len hown9 (fun m9 hl9 hRP => ?_)
  rw [show l.length + 1 = (mulS B l 0).length from m3.symm] at hRP
  rw [show l.length + 1 = (mulS B l 0).length from m3.symm]
  obtain ⟨a9, c9, hwf⟩ := trimV_form hRP
  have hw := trim_RL hRP
  rw [hTP] at hwf hw
  rw [hwf] at hw
  refine pu rfl rfl ?_
  refine SL_pcall rfl rfl cb195 (boundI hRP (by rw [hTP]; have := natL_len N; omega)) rfl ?_
  rw [hwf]
  refine pA rfl rfl (pI rfl rfl ?_)
  refine sw (v := .agg _) B4 0 rfl rfl rfl rfl rfl rfl rfl ?_
  refine pI rfl rfl (SL_nil (nx (SWP_ret ?_)))
  refine fin [_, _] ⟨⟨_, _, rfl, Rd.of_cells (MemO.mem (B := B4)), rfl⟩, rfl, trivial⟩ ?_
  exact ⟨a9, c9, rfl, hw⟩
end Go.Proofs.YtlgoegjboabgfaaGreatDoor
namespace Go.Proofs.YtlgoegjboabgfaaGreatDoor
open Eng
set_option maxRecDepth 100000 in
theorem divModI {m : Mem} {a b : Option Addr} {c d : Nat} {l : List Int} {D A : Int} (h : RL m u32E 1 (.slice a l.length c) l) (h' : RL m u32E 1 (.slice b ([D] : List Int).length d) [D]) (hok : okL l) (hll : l.length ≤ 2) (ht : tidyL l) (hD : 1 ≤ D ∧ D < 4294967296) (hA : valL l = A) (hA2 : A < 18446744073709551616) (hge : D ≤ A) :
    CallsS Tryz.prog 180 [.agg #[.slice a l.length c], .agg #[.slice b ([D] : List Int).length d]].toArray [] m fun r σ' m' => σ' = [] ∧ ∃ a' c' w, r = .tuple #[.agg #[.slice a' (natL (A / D)).length c'], .agg #[w], .int .i64 0] ∧ RL m' u32E 1 (.slice a' (natL (A / D)).length c') (natL (A / D)) := by
  refine CallsS.ghost (R' := fun r σ' m' => ∃ a' c' w, r = .tuple #[.agg #[.slice a' (natL (A / D)).length c'], .agg #[w], .int .i64 0] ∧ RL m' u32E 1 (.slice a' (natL (A / D)).length c') (natL (A / D))) ?_ ?h2
  case h2 =>
    rintro r σ' m' hr g0 W hC
    exact ⟨_, m', hC.sublist (List.nil_sublist _), Le.refl _, rfl, hr⟩
  have e1 : ([D] : List Int).length = 1 := rfl
  obtain ⟨adD, eD, _, hatD⟩ := h'.atV (show ([D] : List Int)[0]? = some D from rfl)
  cases eD
  obtain ⟨d1, d2, d3, d4⟩ := divS_ok hD.1 hD.2 hok
  have hquo : valL (divS D l).1 = A / D := by
    have h5 : valL (divS D l).1 * D + (divS D l).2 = A := d3.trans hA
    rw [← h5, Int.add_comm, Int.add_mul_ediv_right _ _ (by omega), Int.ediv_eq_zero_of_lt d2.1 d2.2]; omega
  have hquo2 : A / D < 18446744073709551616 := Int.ediv_lt_of_lt_mul (by omega) (by
    have h6 := Int.mul_le_mul_of_nonneg_left hD.1 (show (0 : Int) ≤ 18446744073709551616 by decide)
    omega)
  refine enter Tryz.func180 Tryz.ntmps180 rfl rfl ?_
  refine SWP_seq (SWP_region ?_)
  refine bx (v := .agg _) rfl rfl (fun B2 => ?_)
  refine bx (v := .agg _) rfl rfl (fun B3 => ?_)
  refine al rfl rfl (fun B4 => ?_)
  refine al rfl rfl (fun B5 => ?_)
  refine pI rfl rfl (SL_nil (nx (SWP_seq (SWP_seq (SWP_region ?_)))))
  refine lw (v := .agg _) B2 0 rfl rfl rfl rfl ?_
  refine SL_pcall rfl rfl cb194 (validI h (by omega) ht) rfl ?_
  refine pB rfl rfl (pB rfl rfl (SL_yes rfl ?_))
  refine lw (v := .agg _) B3 0 rfl rfl rfl rfl ?_
  refine SL_yes rfl ?_
  refine SL_pcall rfl rfl cb194 (validI h' (show 1 ≤ 64 by decide) (.inr (show D ≠ 0 by omega))) rfl ?_
  refine SL_yes rfl (pB rfl rfl (pB rfl rfl (SL_nil (nx (SWP_cf rfl (SWP_skip (nx (SWP_seq (SWP_seq (SWP_region (pu rfl rfl ?_)))))))))))
  refine lw (v := .slice _ _ _) B3 0 rfl rfl rfl rfl ?_
  refine pu rfl rfl ?_
  refine pn rfl rfl (by rw [e1]; decide) ?_
  refine SL_nil (nx (SWP_cf rfl (SWP_skip (nx (SWP_seq (SWP_seq (SWP_region (pu rfl rfl ?_))))))))
  refine lw (v := .slice _ _ _) B2 0 rfl rfl rfl rfl ?_
  refine pu rfl rfl ?_
  refine lw (v := .slice _ _ _) B3 0 rfl rfl rfl rfl ?_
  refine SL_call rfl rfl cb196 (CallsS.forget (cmpI h h' hok ht hD (by omega))) rfl (fun v5_4 σ5_4 m5_4 hl5_4 hR5_4 => ?_)
  obtain ⟨rfl, hm5_4, z, rfl, hz⟩ := hR5_4
  have hn5_4 := hm5_4.symm
  subst hn5_4
  refine pn rfl rfl (hz) ?_
  refine SL_nil (nx (SWP_cf rfl (SWP_skip (nx (SWP_seq (SWP_seq (SWP_region (pu rfl rfl ?_))))))))
  refine lw (v := .slice _ _ _) B3 0 rfl rfl rfl rfl ?_
  refine pu rfl rfl ?_
  refine pt rfl rfl (by rw [e1]; rfl) ?_
  refine SL_nil (nx (SWP_ct rfl (SWP_seq (SWP_region (pu rfl rfl ?_)))))
  refine lw (v := .slice _ _ _) B2 0 rfl rfl rfl rfl ?_
  refine apR (e := 191) (size := 1) (bytes := 4) rfl rfl rfl rfl rfl rfl rfl .nil (.refl _) rfl h (all_u32E _) (by simp; omega) rfl rfl (fun v42 σ42 hown42 => ?_)
  rw [List.nil_append] at hown42
  obtain ⟨a42, c42, e42⟩ := hown42.lenL (by omega) u32E_len
  subst e42
  refine pL rfl rfl (SL_nil (nx (SWP_seq (SWP_region (pL rfl rfl (pu rfl rfl ?_))))))
  refine lw (v := .slice _ _ _) B3 0 rfl rfl rfl rfl ?_
  refine ia (es := 1) (ad := adD) (len := ([D] : List Int).length) (k := 0) rfl rfl rfl rfl rfl rfl (show 0 < 1 by decide) rfl ?_
  refine ldA (v := .int .u32 D) rfl hatD rfl rfl ?_
  refine SL_call rfl rfl cb198 (CallsS.subF _ (divSI hok hD (by omega) hown42) (.refl _)) rfl (fun v9_5 σ9_5 m9_5 hl9_5 hR9_5 => ?_)
  obtain ⟨σz, rfl, rfl, hq, hm9_5⟩ := hR9_5
  have hn9_5 := hm9_5.symm
  subst hn9_5
  refine pI rfl rfl (SL_nil (nx (SWP_seq (SWP_region ?_))))
  rw [← d4] at hq
  rw [show l.length = (divS D l).1.length from d4.symm]
  refine SL_freezeL (by omega) u32E_len hq (fun m9 hl9 hRP => ?_)
  have hTP := trim_nat d1 hquo hquo2
  obtain ⟨a9, c9, hwf⟩ := trimV_form hRP
  have hw := trim_RL hRP
  rw [hTP] at hwf hw
  rw [hwf] at hw
  refine pu rfl rfl ?_
  refine SL_pcall rfl rfl cb193 (trimI hRP) rfl ?_
  rw [hwf]
  refine pI rfl rfl ?_
  refine pw rfl rfl (by rw [wrapU]; omega) ?_
  refine SL_call rfl rfl cb178 (CallsS.frame0 (ofI d2.1 (by omega))) rfl (fun v10_4 σ10_4 m10_4 hl10_4 hR10_4 => ?_)
  obtain ⟨σo, rfl, rfl, ao, co, rfl, ho⟩ := hR10_4
  refine sw (v := .agg _) B4 0 rfl rfl rfl rfl rfl rfl rfl ?_
  refine sw (v := .agg _) B5 0 rfl rfl rfl rfl rfl rfl rfl ?_
  refine pI rfl rfl (SL_nil (nx (SWP_ret (nr ?_))))
  refine fin [_, _, _] ⟨⟨_, _, rfl, Rd.of_cells (MemO.mem (B := B4)), rfl⟩, ⟨_, _, rfl, Rd.of_cells (MemO.mem (B := B5)), rfl⟩, rfl, trivial⟩ ?_
  exact ⟨a9, c9, _, rfl, hw.mono hl10_4⟩
def ch : Nat → Nat → Nat
  | _, 0 => 1
  | 0, _ + 1 => 0
  | n + 1, k + 1 => ch n k + ch n (k + 1)
theorem ch_zero (n : Nat) : ch n 0 = 1 := by cases n <;> rfl
theorem ch_mul : ∀ n k : Nat, (k + 1) * ch (n + 1) (k + 1) = (n + 1) * ch n k
  | 0, 0 => rfl
  | 0, k + 1 => by
    show (k + 2) * (ch 0 (k + 1) + ch 0 (k + 2)) = 1 * ch 0 (k + 1)
    show (k + 2) * (0 + 0) = 1 * 0
    omega
  | n + 1, 0 => by
    have h := ch_mul n 0
    have h' : 1 * ch (n + 1) 1 = (n + 1) * ch n 0 := h
    rw [ch_zero] at h'
    show 1 * (ch (n + 1) 0 + ch (n + 1) 1) = (n + 2) * ch (n + 1) 0
    rw [ch_zero]
    generalize ch (n + 1) 1 = z at *
    omega
  | n + 1, k + 1 => by
    have h1 := ch_mul n (k + 1)
    have h2 := ch_mul n k
    have e : ch (n + 1) (k + 1) = ch n k + ch n (k + 1) := rfl
    show (k + 2) * (ch (n + 1) (k + 1) + ch (n + 1) (k + 2)) = (n + 2) * ch (n + 1) (k + 1)
    rw [Nat.mul_add, h1, Nat.succ_mul (k + 1), h2]
    rw [show (n + 2) * ch (n + 1) (k + 1) = (n + 1) * ch (n + 1) (k + 1) + ch (n + 1) (k + 1) from Nat.succ_mul _ _]
    have h3 : (n + 1) * ch (n + 1) (k + 1) = (n + 1) * ch n k + (n + 1) * ch n (k + 1) := by rw [e, Nat.mul_add]
    omega
theorem ch_next (n k : Nat) (h : k ≤ n) : (k + 1) * ch n (k + 1) = (n - k) * ch n k := by
  have h1 := ch_mul n k
  have e : ch (n + 1) (k + 1) = ch n k + ch n (k + 1) := rfl
  rw [e, Nat.mul_add] at h1
  have h2 : (n + 1) * ch n k = (n - k) * ch n k + (k + 1) * ch n k := by rw [← Nat.add_mul]; congr 1; omega
  omega
theorem ch_mono (n k : Nat) : ch n k ≤ ch (n + 1) k := by
  cases k with
  | zero => rw [ch_zero, ch_zero]; exact Nat.le_refl _
  | succ k => show ch n (k + 1) ≤ ch n k + ch n (k + 1); omega
theorem ch_le {n N : Nat} (k : Nat) (h : n ≤ N) : ch n k ≤ ch N k := by
  induction h with
  | refl => exact Nat.le_refl _
  | step _ ih => exact Nat.le_trans ih (ch_mono _ _)
theorem row80 (c : Nat → Nat) (h0 : c 0 = 1) (h : ∀ k, k ≤ 80 → (k + 1) * c (k + 1) = (80 - k) * c k) : (∀ k, k ≤ 10 → c k ≤ 1646492110120) ∧ ∀ k, k ≤ 4 → c k ≤ 1581580 := by
  have b1 : c 1 = 80 := by
    have a := h 0 (by decide)
    have a' : 1 * c 1 = 80 * c 0 := a
    rw [h0] at a'
    clear h
    generalize c 1 = z at a' ⊢
    omega
  have b2 : c 2 = 3160 := by
    have a := h 1 (by decide)
    have a' : 2 * c 2 = 79 * c 1 := a
    rw [b1] at a'
    clear h
    generalize c 2 = z at a' ⊢
    omega
  have b3 : c 3 = 82160 := by
    have a := h 2 (by decide)
    have a' : 3 * c 3 = 78 * c 2 := a
    rw [b2] at a'
    clear h
    generalize c 3 = z at a' ⊢
    omega
  have b4 : c 4 = 1581580 := by
    have a := h 3 (by decide)
    have a' : 4 * c 4 = 77 * c 3 := a
    rw [b3] at a'
    clear h
    generalize c 4 = z at a' ⊢
    omega
  have b5 : c 5 = 24040016 := by
    have a := h 4 (by decide)
    have a' : 5 * c 5 = 76 * c 4 := a
    rw [b4] at a'
    clear h
    generalize c 5 = z at a' ⊢
    omega
  have b6 : c 6 = 300500200 := by
    have a := h 5 (by decide)
    have a' : 6 * c 6 = 75 * c 5 := a
    rw [b5] at a'
    clear h
    generalize c 6 = z at a' ⊢
    omega
  have b7 : c 7 = 3176716400 := by
    have a := h 6 (by decide)
    have a' : 7 * c 7 = 74 * c 6 := a
    rw [b6] at a'
    clear h
    generalize c 7 = z at a' ⊢
    omega
  have b8 : c 8 = 28987537150 := by
    have a := h 7 (by decide)
    have a' : 8 * c 8 = 73 * c 7 := a
    rw [b7] at a'
    clear h
    generalize c 8 = z at a' ⊢
    omega
  have b9 : c 9 = 231900297200 := by
    have a := h 8 (by decide)
    have a' : 9 * c 9 = 72 * c 8 := a
    rw [b8] at a'
    clear h
    generalize c 9 = z at a' ⊢
    omega
  have b10 : c 10 = 1646492110120 := by
    have a := h 9 (by decide)
    have a' : 10 * c 10 = 71 * c 9 := a
    rw [b9] at a'
    clear h
    generalize c 10 = z at a' ⊢
    omega
  clear h
  refine ⟨fun k hk => ?_, fun k hk => ?_⟩
  · have : k = 0 ∨ k = 1 ∨ k = 2 ∨ k = 3 ∨ k = 4 ∨ k = 5 ∨ k = 6 ∨ k = 7 ∨ k = 8 ∨ k = 9 ∨ k = 10 := by omega
    rcases this with rfl | rfl | rfl | rfl | rfl | rfl | rfl | rfl | rfl | rfl | rfl
    · rw [h0]; decide
    · rw [b1]; decide
    · rw [b2]; decide
    · rw [b3]; decide
    · rw [b4]; decide
    · rw [b5]; decide
    · rw [b6]; decide
    · rw [b7]; decide
    · rw [b8]; decide
    · rw [b9]; decide
    · rw [b10]; decide
  · have : k = 0 ∨ k = 1 ∨ k = 2 ∨ k = 3 ∨ k = 4 := by omega
    rcases this with rfl | rfl | rfl | rfl | rfl
    · rw [h0]; decide
    · rw [b1]; decide
    · rw [b2]; decide
    · rw [b3]; decide
    · rw [b4]; decide
theorem ch_bound {n k : Nat} (hn : n ≤ 80) (hk : k ≤ 10) : ch n k ≤ 1646492110120 :=
  Nat.le_trans (ch_le k hn) ((row80 (ch 80) (ch_zero 80) fun k h => ch_next 80 k h).1 k hk)
theorem ch_bound4 {n k : Nat} (hn : n ≤ 80) (hk : k ≤ 4) : ch n k ≤ 1581580 :=
  Nat.le_trans (ch_le k hn) ((row80 (ch 80) (ch_zero 80) fun k h => ch_next 80 k h).2 k hk)
theorem ch_pos : ∀ {n k : Nat}, k ≤ n → 1 ≤ ch n k
  | n, 0, _ => by rw [ch_zero]; exact Nat.le_refl _
  | 0, k + 1, h => by omega
  | n + 1, k + 1, h => by
    have := ch_pos (n := n) (k := k) (by omega)
    show 1 ≤ ch n k + ch n (k + 1); omega
theorem knownI {m : Mem} (n : Int) (h : 0 ≤ n ∧ n ≤ 80) : PureCall Tryz.prog 177 [.int .i64 n] m (.bool true) := by
  refine CallsS.pure ?_
  refine enter Tryz.func177 Tryz.ntmps177 rfl rfl ?_
  refine SWP_seq (SWP_region (pB rfl rfl (SL_nil (nx (SWP_seq (SWP_region (pI rfl rfl ?_)))))))
  refine pt rfl rfl (h.1) ?_
  refine pB rfl rfl (SL_yes rfl (pI rfl rfl (SL_yes rfl ?_)))
  refine pt rfl rfl (h.2) ?_
  refine pB rfl rfl (pB rfl rfl (SL_nil (nx (SWP_ret ?_))))
  refine fin [_] ⟨rfl, trivial⟩ ?_
  rfl
set_option maxRecDepth 100000 in
theorem chooseI {m : Mem} {n k : Nat} (hn : n ≤ 80) (hk : k ≤ 10) (hkn : k ≤ n) : CallsS Tryz.prog 159 [.int .i64 (n : Nat), .int .i64 (k : Nat)].toArray [] m fun r σ' m' => σ' = [] ∧ ∃ a c, r = .tuple #[.agg #[.slice a (natL ((ch n k : Nat) : Int)).length c], .int .i64 0] ∧ RL m' u32E 1 (.slice a (natL ((ch n k : Nat) : Int)).length c) (natL ((ch n k : Nat) : Int)) := by
  refine CallsS.ghost (R' := fun r σ' m' => ∃ a c, r = .tuple #[.agg #[.slice a (natL ((ch n k : Nat) : Int)).length c], .int .i64 0] ∧ RL m' u32E 1 (.slice a (natL ((ch n k : Nat) : Int)).length c) (natL ((ch n k : Nat) : Int))) ?_ ?h2
  case h2 =>
    rintro r σ' m' hr g0 W hC
    exact ⟨_, m', hC.sublist (List.nil_sublist _), Le.refl _, rfl, hr⟩
  refine enter Tryz.func159 Tryz.ntmps159 rfl rfl ?_
  refine SWP_seq (SWP_region ?_)
  refine al rfl rfl (fun B4 => ?_)
  refine pI rfl rfl (SL_nil (nx (SWP_seq (SWP_seq (SWP_region (pI rfl rfl ?_))))))
  refine SL_pcall rfl rfl cb177 (knownI _ (by omega)) rfl ?_
  refine pB rfl rfl (SL_nil (nx (SWP_cf rfl (SWP_skip (nx (SWP_seq (SWP_seq (SWP_region (pI rfl rfl ?_)))))))))
  refine pn rfl rfl (by omega) ?_
  refine pB rfl rfl (SL_yes rfl (pI rfl rfl (SL_yes rfl (pI rfl rfl (SL_yes rfl ?_)))))
  refine pn rfl rfl (by omega) ?_
  refine pB rfl rfl (SL_nil (nx (SWP_cf rfl (SWP_skip (nx (SWP_seq (SWP_region ?_)))))))
  refine SL_call rfl rfl cb178 (CallsS.frame0 (ofI (N := 1) (by decide) (by decide))) rfl (fun v5_0 σ5_0 m5_0 hl5_0 hR5_0 => ?_)
  obtain ⟨σo, rfl, rfl, ao, co, rfl, ho⟩ := hR5_0
  refine al rfl rfl (fun B6 => ?_)
  refine swE B6 0 [.slice ao (natL 1).length co] (v := .agg #[.slice ao (natL 1).length co]) rfl rfl rfl rfl rfl rfl rfl rfl ?_
  refine SL_nil (nx (SWP_seq (SWP_seq (SWP_region (pI rfl rfl (SL_nil (nx (SWP_block ?_))))))))
  refine SWP_loop [5, 7, 8, 9, 23, 24, 25, 26, 27, 28, 29, 30, 31, 32, 33, 34, 35, 36, 37, 38, 39, 40, 41, 42, 43, 44, 45, 46, 47, 48, 49, 50, 51, 52, 53, 54, 55, 56] [7]
      (fun vs σ' m' => ∃ (i : Nat) (a6 : Option Addr) (c6 : Nat), vs = [.int .i64 ((i : Int) + 1)] ∧ i ≤ k ∧ RL m' u32E 1 (.slice a6 (natL ((ch (n - k + i) i : Nat) : Int)).length c6) (natL ((ch (n - k + i) i : Nat) : Int)) ∧ σ' = [(B6, Cells 236 [.slice a6 (natL ((ch (n - k + i) i : Nat) : Int)).length c6]), (B4, Cells 236 [.slice none 0 0])] ∧ Le m m')
      (fun vs => k + 1 - nOf (vs.getD 0 undef)) rfl ?_ ?_
  · refine ⟨0, ao, co, rfl, by omega, ?_, ?_, hl5_0⟩
    · rw [ch_zero]; exact ho
    · rw [ch_zero]; rfl
  intro u0 vs0 σ0 m0 hJ0 _
  obtain ⟨i, a6, c6, rfl, hi, h6, rfl, hle⟩ := hJ0
  refine SWP_seq (SWP_seq (SWP_region (pI rfl rfl (pI rfl rfl ?_))))
  refine pc rfl rfl (fun c25 => ?_) (fun c25 => ?_)
  · skip
    refine SL_nil (nx (SWP_ct rfl (SWP_skip (nx (SWP_seq (SWP_block ?_))))))
    have hb1 := ch_bound (n := n - k + i) (k := i) (by omega) (by omega)
    have hb2 := ch_bound (n := n - k + (i + 1)) (k := i + 1) (by omega) (by omega)
    have hp1 := ch_pos (n := n - k + i) (k := i) (by omega)
    have hcm : (i + 1) * ch (n - k + (i + 1)) (i + 1) = (n - k + (i + 1)) * ch (n - k + i) i := ch_mul (n - k + i) i
    have hP2 : (((n - k + (i + 1)) * ch (n - k + i) i : Nat) : Int) < 18446744073709551616 := by
      rw [← hcm]
      have : (i + 1) * ch (n - k + (i + 1)) (i + 1) ≤ 10 * 1646492110120 := Nat.mul_le_mul (by omega) hb2
      omega
    have hPge : i + 1 ≤ (n - k + (i + 1)) * ch (n - k + i) i := by
      rw [← hcm]
      exact Nat.le_mul_of_pos_right _ (ch_pos (by omega))
    have hquo : (((n - k + (i + 1)) * ch (n - k + i) i : Nat) : Int) / (((i + 1) : Nat) : Int) = ((ch (n - k + (i + 1)) (i + 1) : Nat) : Int) := by
      rw [← hcm, Int.natCast_mul]
      exact Int.mul_ediv_cancel_left _ (by omega)
    refine SWP_merge1 [8, 9, 28, 29, 30, 31, 32, 33, 34, 35, 36, 37, 38, 39] [8, 9]
        (fun vs σ' m' => ∃ (B8 : Nat) (a8 : Option Addr) (c8 : Nat), vs = [.pointer (some ⟨B8, 0, none⟩), .int .i64 0] ∧ σ' = (B8, Cells 236 [.slice a8 (natL (((n - k + (i + 1)) * ch (n - k + i) i : Nat) : Int)).length c8]) :: [(B6, Cells 236 [.slice a6 (natL ((ch (n - k + i) i : Nat) : Int)).length c6]), (B4, Cells 236 [.slice none 0 0])] ∧ RL m' u32E 1 (.slice a8 (natL (((n - k + (i + 1)) * ch (n - k + i) i : Nat) : Int)).length c8) (natL (((n - k + (i + 1)) * ch (n - k + i) i : Nat) : Int)) ∧ Le m0 m')
        rfl ?_ ?_
    · skip
      refine SWP_tree [(B6, Cells 236 [.slice a6 (natL ((ch (n - k + i) i : Nat) : Int)).length c6]), (B4, Cells 236 [.slice none 0 0])] 15 (.one 0 (.one 1 (.one 2 (.one 3 (.one 4 (.one 5 (.one 6 (.fork (.alt 7 (.fork (.alt 8 (.one 9 (.one 10 (.one 11 (.one 12 (.one 13 (.one 14 (.fin))))))) (.alt 12 (.one 8 (.one 9 (.one 10 (.one 11 (.one 13 (.one 14 (.fin))))))) (.none)))) (.alt 12 (.one 7 (.one 8 (.one 9 (.one 10 (.one 11 (.one 13 (.one 14 (.fin)))))))) (.none))))))))))) (by kernel_rfl) (by kernel_rfl) (by repeat (first | exact Sub.refl _ | exact Sub.nil _ | refine Sub.cons2 _ ?_ | refine Sub.cons _ ?_ | refine Sub.left _ ?_)) ?_
      refine T1 rfl ?_
      refine lw (v := .agg _) B6 0 rfl rfl rfl rfl ?_
      refine SL_nil ?_
      refine T1 rfl ?_
      refine pI rfl rfl (SL_nil ?_)
      refine T1 rfl ?_
      refine pI rfl rfl (SL_nil ?_)
      refine T1 rfl ?_
      refine pw rfl rfl (w64 (by omega) (by omega)) ?_
      refine SL_nil ?_
      refine T1 rfl ?_
      refine pI rfl rfl (SL_nil ?_)
      refine T1 rfl ?_
      refine pw rfl rfl (w64 (by omega) (by omega)) ?_
      rw [show (n : Int) - (k : Int) + ((i : Int) + 1) = ((n - k + (i + 1) : Nat) : Int) by omega]
      refine SL_nil ?_
      refine T1 rfl ?_
      refine pw rfl rfl (by rw [wrapU]; omega) ?_
      refine SL_nil ?_
      refine TF ?_
      refine TA rfl ?_ ?_
      · skip
        refine SL_call rfl rfl cb178 (CallsS.frame0 (ofI (N := (((n - k + (i + 1)) : Nat) : Int)) (by omega) (by omega))) rfl (fun v9_7 σ9_7 m9_7 hl9_7 hR9_7 => ?_)
        obtain ⟨σo, rfl, rfl, ao, co, rfl, ho⟩ := hR9_7
        rw [natL_one (D := (((n - k + (i + 1)) : Nat) : Int)) (by omega) (by omega)] at ho
        rw [natL_one (D := (((n - k + (i + 1)) : Nat) : Int)) (by omega) (by omega)]
        refine SL_nil ?_
        refine TF ?_
        refine TA rfl ?_ ?_
        · skip
          refine SL_call rfl rfl cb179 (CallsS.frame0 (mulI (N := (((n - k + (i + 1)) * ch (n - k + i) i : Nat) : Int)) (h6.mono hl9_7) ho (okL_natL (by omega) (by omega)) (natL_len _) (tidy_natL (by omega)) (by omega) (by rw [valL_natL, Int.mul_comm, Int.natCast_mul]) hP2)) rfl (fun v9_8 σ9_8 m9_8 hl9_8 hR9_8 => ?_)
          obtain ⟨σp, rfl, rfl, a8, c8, rfl, h8⟩ := hR9_8
          refine SL_nil ?_
          refine T1 rfl ?_
          refine pu rfl rfl (SL_nil ?_)
          refine T1 rfl ?_
          refine pA rfl rfl (SL_nil ?_)
          refine T1 rfl ?_
          refine pI rfl rfl (SL_nil ?_)
          refine T1 rfl ?_
          refine al rfl rfl (fun B8 => ?_)
          refine SL_nil ?_
          refine T1 rfl ?_
          refine swE B8 0 [.slice a8 (natL (((n - k + (i + 1)) * ch (n - k + i) i : Nat) : Int)).length c8] (v := .agg #[.slice a8 (natL (((n - k + (i + 1)) * ch (n - k + i) i : Nat) : Int)).length c8]) rfl rfl rfl rfl rfl rfl rfl rfl ?_
          refine SL_nil ?_
          refine T1 rfl ?_
          refine pI rfl rfl (SL_nil (nx ?_))
          refine ⟨by repeat (first | with_reducible exact Under.refl _ _ | exact Under.upds rfl (Under.hav _ _ _) | exact Under.hav _ _ _ | refine Under.upd rfl ?_ | refine Under.upds rfl ?_ | refine Under.hav2 rfl ?_), ?_⟩
          exact ⟨B8, a8, c8, rfl, rfl, h8, hl9_7.trans hl9_8⟩
        refine TA rfl ?_ ?_
        · skip
          refine al rfl rfl (fun B8 => ?_)
          refine SL_nil ?_
          refine T1 rfl ?_
          refine SL_call rfl rfl cb179 (CallsS.frame0 (mulI (N := (((n - k + (i + 1)) * ch (n - k + i) i : Nat) : Int)) (h6.mono hl9_7) ho (okL_natL (by omega) (by omega)) (natL_len _) (tidy_natL (by omega)) (by omega) (by rw [valL_natL, Int.mul_comm, Int.natCast_mul]) hP2)) rfl (fun v9_8 σ9_8 m9_8 hl9_8 hR9_8 => ?_)
          obtain ⟨σp, rfl, rfl, a8, c8, rfl, h8⟩ := hR9_8
          refine SL_nil ?_
          refine T1 rfl ?_
          refine pu rfl rfl (SL_nil ?_)
          refine T1 rfl ?_
          refine pA rfl rfl (SL_nil ?_)
          refine T1 rfl ?_
          refine pI rfl rfl (SL_nil ?_)
          refine T1 rfl ?_
          refine swE B8 0 [.slice a8 (natL (((n - k + (i + 1)) * ch (n - k + i) i : Nat) : Int)).length c8] (v := .agg #[.slice a8 (natL (((n - k + (i + 1)) * ch (n - k + i) i : Nat) : Int)).length c8]) rfl rfl rfl rfl rfl rfl rfl rfl ?_
          refine SL_nil ?_
          refine T1 rfl ?_
          refine pI rfl rfl (SL_nil (nx ?_))
          refine ⟨by repeat (first | with_reducible exact Under.refl _ _ | exact Under.upds rfl (Under.hav _ _ _) | exact Under.hav _ _ _ | refine Under.upd rfl ?_ | refine Under.upds rfl ?_ | refine Under.hav2 rfl ?_), ?_⟩
          exact ⟨B8, a8, c8, rfl, rfl, h8, hl9_7.trans hl9_8⟩
        exact True.intro
      refine TA rfl ?_ ?_
      · skip
        refine al rfl rfl (fun B8 => ?_)
        refine SL_nil ?_
        refine T1 rfl ?_
        refine SL_call rfl rfl cb178 (CallsS.frame0 (ofI (N := (((n - k + (i + 1)) : Nat) : Int)) (by omega) (by omega))) rfl (fun v9_7 σ9_7 m9_7 hl9_7 hR9_7 => ?_)
        obtain ⟨σo, rfl, rfl, ao, co, rfl, ho⟩ := hR9_7
        rw [natL_one (D := (((n - k + (i + 1)) : Nat) : Int)) (by omega) (by omega)] at ho
        rw [natL_one (D := (((n - k + (i + 1)) : Nat) : Int)) (by omega) (by omega)]
        refine SL_nil ?_
        refine T1 rfl ?_
        refine SL_call rfl rfl cb179 (CallsS.frame0 (mulI (N := (((n - k + (i + 1)) * ch (n - k + i) i : Nat) : Int)) (h6.mono hl9_7) ho (okL_natL (by omega) (by omega)) (natL_len _) (tidy_natL (by omega)) (by omega) (by rw [valL_natL, Int.mul_comm, Int.natCast_mul]) hP2)) rfl (fun v9_8 σ9_8 m9_8 hl9_8 hR9_8 => ?_)
        obtain ⟨σp, rfl, rfl, a8, c8, rfl, h8⟩ := hR9_8
        refine SL_nil ?_
        refine T1 rfl ?_
        refine pu rfl rfl (SL_nil ?_)
        refine T1 rfl ?_
        refine pA rfl rfl (SL_nil ?_)
        refine T1 rfl ?_
        refine pI rfl rfl (SL_nil ?_)
        refine T1 rfl ?_
        refine swE B8 0 [.slice a8 (natL (((n - k + (i + 1)) * ch (n - k + i) i : Nat) : Int)).length c8] (v := .agg #[.slice a8 (natL (((n - k + (i + 1)) * ch (n - k + i) i : Nat) : Int)).length c8]) rfl rfl rfl rfl rfl rfl rfl rfl ?_
        refine SL_nil ?_
        refine T1 rfl ?_
        refine pI rfl rfl (SL_nil (nx ?_))
        refine ⟨by repeat (first | with_reducible exact Under.refl _ _ | exact Under.upds rfl (Under.hav _ _ _) | exact Under.hav _ _ _ | refine Under.upd rfl ?_ | refine Under.upds rfl ?_ | refine Under.hav2 rfl ?_), ?_⟩
        exact ⟨B8, a8, c8, rfl, rfl, h8, hl9_7.trans hl9_8⟩
      exact True.intro
    intro uM0 vM0 σM0 mM0 hM0 _
    obtain ⟨B8, a8, c8, rfl, rfl, h8, hle2⟩ := hM0
    refine SWP_seq (SWP_seq (SWP_region (pI rfl rfl ?_)))
    refine pn rfl rfl (fun hh => hh rfl) ?_
    refine SL_nil (nx (SWP_cf rfl (SWP_skip (nx (SWP_seq ?_)))))
    refine SWP_tree [(B8, Cells 236 [.slice a8 (natL (((n - k + (i + 1)) * ch (n - k + i) i : Nat) : Int)).length c8]), (B4, Cells 236 [.slice none 0 0])] 11 (.one 0 (.one 1 (.one 2 (.one 3 (.one 4 (.one 5 (.one 6 (.one 7 (.one 8 (.one 9 (.one 10 (.fin)))))))))))) (by kernel_rfl) (by kernel_rfl) (by repeat (first | exact Sub.refl _ | exact Sub.nil _ | refine Sub.cons2 _ ?_ | refine Sub.cons _ ?_ | refine Sub.left _ ?_)) ?_
    refine T1 rfl ?_
    refine lw (v := .agg _) B8 0 rfl rfl rfl rfl ?_
    refine SL_nil ?_
    refine T1 rfl ?_
    refine pI rfl rfl (SL_nil ?_)
    refine T1 rfl ?_
    refine pw rfl rfl (by rw [wrapU]; omega) ?_
    rw [show (i : Int) + 1 = ((i + 1 : Nat) : Int) by omega]
    refine SL_nil ?_
    refine T1 rfl ?_
    refine SL_call rfl rfl cb178 (CallsS.frame0 (ofI (N := (((i + 1) : Nat) : Int)) (by omega) (by omega))) rfl (fun v12_3 σ12_3 m12_3 hl12_3 hR12_3 => ?_)
    obtain ⟨σo, rfl, rfl, ao, co, rfl, ho⟩ := hR12_3
    rw [natL_one (D := (((i + 1) : Nat) : Int)) (by omega) (by omega)] at ho
    rw [natL_one (D := (((i + 1) : Nat) : Int)) (by omega) (by omega)]
    refine SL_nil ?_
    refine T1 rfl ?_
    refine SL_call rfl rfl cb180 (CallsS.frame0 (divModI (A := (((n - k + (i + 1)) * ch (n - k + i) i : Nat) : Int)) (D := (((i + 1) : Nat) : Int)) (h8.mono hl12_3) ho (okL_natL (by omega) hP2) (natL_len _) (tidy_natL (by omega)) (by omega) (valL_natL _) hP2 (by omega))) rfl (fun v12_4 σ12_4 m12_4 hl12_4 hR12_4 => ?_)
    obtain ⟨σp, rfl, rfl, a9, c9, w9, rfl, h9⟩ := hR12_4
    rw [hquo] at h9
    rw [hquo]
    refine SL_nil ?_
    refine T1 rfl ?_
    refine pu rfl rfl (SL_nil ?_)
    refine T1 rfl ?_
    refine pA rfl rfl (SL_nil ?_)
    refine T1 rfl ?_
    refine pA rfl rfl (SL_nil ?_)
    refine T1 rfl ?_
    refine pI rfl rfl (SL_nil ?_)
    refine T1 rfl ?_
    refine swE B6 0 [.slice a9 (natL ((ch (n - k + (i + 1)) (i + 1) : Nat) : Int)).length c9] (v := .agg #[.slice a9 (natL ((ch (n - k + (i + 1)) (i + 1) : Nat) : Int)).length c9]) rfl rfl rfl rfl rfl rfl rfl rfl ?_
    refine SL_nil ?_
    refine T1 rfl ?_
    refine pI rfl rfl (SL_nil (nx (SWP_seq (SWP_region (pI rfl rfl ?_)))))
    refine pn rfl rfl (fun hh => hh rfl) ?_
    refine SL_nil (nx (SWP_cf rfl (SWP_skip (nb (nx ?_)))))
    refine SWP_weak (List.sublist_cons_self _ _) ?_
    refine SWP_region (pI rfl rfl ?_)
    refine pw rfl rfl (w64 (by omega) (by omega)) ?_
    refine pI rfl rfl (SL_nil (nx ?_))
    refine ⟨by repeat (first | exact Under.upds rfl (Under.hav _ _ _) | exact Under.hav _ _ _ | refine Under.upd rfl ?_ | refine Under.upds rfl ?_ | refine Under.hav2 rfl ?_), ?_, ?_⟩
    · exact ⟨i + 1, a9, c9, rfl, by omega, h9, rfl, (hle.trans hle2).trans (hl12_3.trans hl12_4)⟩
    · simp only [L_vals, List.map, List.getD]; show k + 1 - ((i : Int) + 1 + 1).toNat < k + 1 - ((i : Int) + 1).toNat; omega
  refine SL_nil (nx (SWP_cf rfl (SWP_exit (ne (ne (be rfl (nx (SWP_seq ?_))))))))
  obtain rfl : i = k := by omega
  rw [show n - i + i = n by omega] at h6
  rw [show n - i + i = n by omega]
  refine SWP_region ?_
  refine lw (v := .agg _) B6 0 rfl rfl rfl rfl ?_
  refine sw (v := .agg _) B4 0 rfl rfl rfl rfl rfl rfl rfl ?_
  refine pI rfl rfl (SL_nil (nx (SWP_ret ?_)))
  refine fin [_, _] ⟨⟨_, _, rfl, Rd.of_cells (MemO.mem (B := B4)), rfl⟩, rfl, trivial⟩ ?_
  exact ⟨a6, c6, rfl, h6⟩
set_option maxRecDepth 100000 in
theorem narrowI {m : Mem} {a : Option Addr} {c : Nat} {N : Int} (h0 : 0 ≤ N) (h1 : N ≤ 9223372036854775807) (h : RL m u32E 1 (.slice a (natL N).length c) (natL N)) : PureCall Tryz.prog 160 [.agg #[.slice a (natL N).length c]] m (.tuple #[.int .i64 N, .int .i64 0]) := by
  refine CallsS.pure ?_
  refine enter Tryz.func160 Tryz.ntmps160 rfl rfl ?_
  refine SWP_seq (SWP_region ?_)
  refine bx (v := .agg _) rfl rfl (fun B1 => ?_)
  refine pI rfl rfl (pI rfl rfl (SL_nil (nx (SWP_seq (SWP_region ?_)))))
  refine lw (v := .agg _) B1 0 rfl rfl rfl rfl ?_
  refine SL_pcall rfl rfl cb181 (uintI h0 (by omega) h) rfl ?_
  refine pu rfl rfl (pI rfl rfl ?_)
  refine pu (v := .bool true) rfl rfl ?_
  refine pI rfl rfl (pB rfl rfl (SL_nil (nx (SWP_seq (SWP_seq (SWP_region (pB rfl rfl (pB rfl rfl (pB rfl rfl (SL_yes rfl (pI rfl rfl ?_)))))))))))
  refine SL_yes rfl ?_
  refine pn rfl rfl (by omega) ?_
  refine pB rfl rfl (SL_nil (nx (SWP_cf rfl (SWP_skip (nx (SWP_seq (SWP_region (pI rfl rfl ?_))))))))
  refine pw rfl rfl (w64 (by omega) (by omega)) ?_
  refine pI rfl rfl (pI rfl rfl (SL_nil (nx (SWP_ret ?_))))
  refine fin [_, _] ⟨rfl, rfl, trivial⟩ ?_
  rfl
set_option maxRecDepth 100000 in
theorem countI {m : Mem} {n k : Nat} (hn : n ≤ 80) (hk : k ≤ 10) (hkn : k ≤ n) : PureCall Tryz.prog 131 [.int .i64 (n : Nat), .int .i64 (k : Nat)] m (.tuple #[.int .i64 ((ch n k : Nat) : Int), .int .i64 0]) := by
  refine CallsS.pure ?_
  have hb := ch_bound hn hk
  refine enter Tryz.func131 Tryz.ntmps131 rfl rfl ?_
  refine SWP_seq (SWP_region (pI rfl rfl (pI rfl rfl (SL_nil (nx (SWP_seq (SWP_region (pI rfl rfl (pI rfl rfl ?_)))))))))
  refine SL_call rfl rfl cb159 (chooseI hn hk hkn) rfl (fun v1_2 σ1_2 m1_2 hl1_2 hR1_2 => ?_)
  obtain ⟨rfl, a8, c8, rfl, h8⟩ := hR1_2
  refine pu rfl rfl (pA rfl rfl (pI rfl rfl ?_))
  refine al rfl rfl (fun B6 => ?_)
  refine swE B6 0 [.slice a8 (natL ((ch n k : Nat) : Int)).length c8] (v := .agg #[.slice a8 (natL ((ch n k : Nat) : Int)).length c8]) rfl rfl rfl rfl rfl rfl rfl rfl ?_
  refine pI rfl rfl (SL_nil (nx (SWP_seq (SWP_seq (SWP_region (pI rfl rfl ?_))))))
  refine pn rfl rfl (fun hh => hh rfl) ?_
  refine SL_nil (nx (SWP_cf rfl (SWP_skip (nx (SWP_seq (SWP_region ?_))))))
  refine lw (v := .agg _) B6 0 rfl rfl rfl rfl ?_
  refine SL_pcall rfl rfl cb160 (narrowI (by omega) (by omega) h8) rfl ?_
  refine pI rfl rfl (pI rfl rfl (pI rfl rfl (pI rfl rfl (SL_nil (nx (SWP_ret ?_))))))
  refine fin [_, _] ⟨rfl, rfl, trivial⟩ ?_
  rfl
end Go.Proofs.YtlgoegjboabgfaaGreatDoor
namespace Go.Proofs.YtlgoegjboabgfaaGreatDoor
open Eng
theorem pureOf {P : Program} {F : FuncId} {args : List Value} {m : Mem} {v : Value} (h : ∀ w, Calls P F args.toArray w fun e w' => e = .returned v ∧ w' = w) : PureCall P F args m v :=
  fun σ g W hC => (h W).mono fun e W' ⟨he, hw⟩ => ⟨v, σ, m, he, by rw [hw]; exact hC, Le.refl m, rfl, rfl, rfl⟩
theorem mul64I {m : Mem} (x y : Nat) (hx : x < 18446744073709551616) (hy : y < 18446744073709551616) (hxy : x * y < 18446744073709551616) : PureCall Tryz.prog 123 [.int .u64 (x : Nat), .int .u64 (y : Nat)] m (.tuple #[.int .u64 0, .int .u64 ((x * y : Nat) : Int)]) := by
  have h := pureOf (m := m) (fun w => Tryz.bits_Mul64 x y hx hy w)
  rw [Nat.div_eq_of_lt hxy, Nat.mod_eq_of_lt hxy] at h
  exact h
theorem magI {m : Mem} {n : Int} (h0 : 0 ≤ n) (h1 : n ≤ 9223372036854775807) : PureCall Tryz.prog 124 [.int .i64 n] m (.int .u64 n) := by
  refine CallsS.pure ?_
  refine enter Tryz.func124 Tryz.ntmps124 rfl rfl ?_
  refine SWP_seq (SWP_region (pI rfl rfl (SL_nil (nx (SWP_seq (SWP_seq (SWP_region (pI rfl rfl ?_))))))))
  refine pn rfl rfl (by omega) ?_
  refine SL_nil (nx (SWP_cf rfl (SWP_skip (nx (SWP_seq (SWP_region (pI rfl rfl ?_)))))))
  refine pw rfl rfl (by rw [wrapU]; omega) ?_
  refine pI rfl rfl (SL_nil (nx (SWP_ret ?_)))
  refine fin [_] ⟨rfl, trivial⟩ ?_
  rfl
theorem mulNI {m : Mem} (a b : Nat) (h : a * b ≤ 9223372036854775807) (ha : a ≤ 9223372036854775807) (hb : b ≤ 9223372036854775807) : PureCall Tryz.prog 86 [.int .i64 (a : Nat), .int .i64 (b : Nat)] m (.tuple #[.int .i64 ((a * b : Nat) : Int), .int .i64 0]) := by
  refine CallsS.pure ?_
  generalize hp : a * b = p at h ⊢
  refine enter Tryz.func86 Tryz.ntmps86 rfl rfl ?_
  refine SWP_seq (SWP_region (pI rfl rfl (pI rfl rfl (SL_nil (nx (SWP_seq (SWP_region (pI rfl rfl ?_))))))))
  refine SL_pcall rfl rfl cb124 (magI (by omega) (by omega)) rfl ?_
  refine pI rfl rfl ?_
  refine SL_pcall rfl rfl cb124 (magI (by omega) (by omega)) rfl ?_
  refine SL_pcall rfl rfl cb123 (mul64I a b (by omega) (by omega) (by omega)) rfl ?_
  rw [hp]
  refine pu rfl rfl (pI rfl rfl (pI rfl rfl (pI rfl rfl (pI rfl rfl (SL_nil (nx (SWP_seq (SWP_seq (SWP_region (pI rfl rfl ?_))))))))))
  refine pn rfl rfl (fun hh => hh rfl) ?_
  refine SL_nil (nx (SWP_cf rfl (SWP_skip (nx (SWP_seq (SWP_seq (SWP_region (pI rfl rfl ?_))))))))
  refine pn rfl rfl (by omega) ?_
  refine pI rfl rfl ?_
  refine pn rfl rfl (by omega) ?_
  refine pu (v := .bool true) rfl rfl ?_
  refine SL_nil (nx (SWP_ct rfl (SWP_seq (SWP_seq (SWP_region (pI rfl rfl ?_))))))
  refine pn rfl rfl (by omega) ?_
  refine SL_nil (nx (SWP_cf rfl (SWP_skip (nx (SWP_seq (SWP_region (pI rfl rfl ?_)))))))
  refine pw rfl rfl (w64 (by omega) (by omega)) ?_
  refine pI rfl rfl (pI rfl rfl (SL_nil (nx (SWP_ret (nr ?_)))))
  refine fin [_, _] ⟨rfl, rfl, trivial⟩ ?_
  rfl
theorem powI {m : Mem} (a n : Nat) (ha : a ≤ 10) (hn : n ≤ 10) (ha1 : 1 ≤ a) : PureCall Tryz.prog 130 [.int .i64 (a : Nat), .int .i64 (n : Nat)] m (.tuple #[.int .i64 ((a ^ n : Nat) : Int), .int .i64 0]) := by
  refine CallsS.pure ?_
  have hpow : ∀ i, i ≤ 10 → a ^ i ≤ 10000000000 := fun i hi => Nat.le_trans (Nat.pow_le_pow_left ha i) (Nat.le_trans (Nat.pow_le_pow_right (by decide) hi) (by decide))
  refine enter Tryz.func130 Tryz.ntmps130 rfl rfl ?_
  refine SWP_seq (SWP_region (pI rfl rfl (pI rfl rfl (SL_nil (nx (SWP_seq (SWP_seq (SWP_region (pI rfl rfl ?_)))))))))
  refine pn rfl rfl (by omega) ?_
  refine pB rfl rfl (SL_yes rfl (pI rfl rfl (SL_yes rfl ?_)))
  refine pn rfl rfl (by omega) ?_
  refine pB rfl rfl (SL_nil (nx (SWP_cf rfl (SWP_skip (nx (SWP_seq (SWP_region (pI rfl rfl (SL_nil (nx (SWP_seq ?_)))))))))))
  refine SWP_seq (SWP_region (pI rfl rfl (pI rfl rfl (SL_nil (nx (SWP_block ?_))))))
  refine SWP_loop [4, 5, 6, 7, 8, 16, 17, 18, 19, 20, 21, 22, 23, 24, 25, 26, 27, 28] [6, 16]
      (fun vs σ' m' => ∃ (i : Nat), vs = [.int .i64 ((a ^ i : Nat) : Int), .int .i64 (i : Nat)] ∧ i ≤ n ∧ σ' = [] ∧ m = m')
      (fun vs => n - nOf (vs.getD 1 undef)) rfl ?_ ?_
  · exact ⟨0, rfl, by omega, rfl, rfl⟩
  intro u0 vs0 σ0 m0 hJ0 _
  obtain ⟨i, rfl, hi, rfl, rfl⟩ := hJ0
  refine SWP_seq (SWP_region ?_)
  refine pc rfl rfl (fun c17 => ?_) (fun c17 => ?_)
  · skip
    refine SL_nil (nx (SWP_seq (SWP_ct rfl (SWP_skip (nx (SWP_seq (SWP_block (SWP_seq (SWP_region (pI rfl rfl (pI rfl rfl ?_)))))))))))
    refine SL_pcall rfl rfl cb86 (mulNI (a ^ i) a (by show a ^ (i + 1) ≤ _; exact Nat.le_trans (hpow (i + 1) (by omega)) (by decide)) (by have := hpow i (by omega); omega) (by omega)) rfl ?_
    rw [← Nat.pow_succ]
    refine pu rfl rfl (pI rfl rfl (pI rfl rfl (pI rfl rfl (pI rfl rfl (SL_nil (nx (SWP_seq (SWP_seq (SWP_region (pI rfl rfl ?_))))))))))
    refine pn rfl rfl (fun hh => hh rfl) ?_
    refine SL_nil (nx (SWP_cf rfl (SWP_skip (nx (SWP_region (pI rfl rfl (pI rfl rfl (SL_nil (nb (nx (SWP_region ?_)))))))))))
    refine pw rfl rfl (w64 (by omega) (by omega)) ?_
    refine pI rfl rfl (SL_nil (nx ?_))
    refine ⟨by repeat (first | exact Under.upds rfl (Under.hav _ _ _) | exact Under.hav _ _ _ | refine Under.upd rfl ?_), ?_, ?_⟩
    · exact ⟨i + 1, rfl, by omega, rfl, rfl⟩
    · simp only [L_vals, List.map, List.getD]; show n - (i + 1) < n - i; omega
  refine SL_nil (nx (SWP_seq (SWP_cf rfl (SWP_exit (ne (ne (be rfl (nx (SWP_seq (SWP_region (pI rfl rfl ?_)))))))))))
  refine pI rfl rfl (pI rfl rfl (SL_nil (nx (SWP_ret ?_))))
  refine fin [_, _] ⟨rfl, rfl, trivial⟩ ?_
  obtain rfl : i = n := by omega
  rfl
theorem countZ {m : Mem} {n k : Int} (hn : 0 ≤ n ∧ n ≤ 80) (hk : 0 ≤ k ∧ k ≤ 10) (hkn : k ≤ n) : PureCall Tryz.prog 131 [.int .i64 n, .int .i64 k] m (.tuple #[.int .i64 ((ch n.toNat k.toNat : Nat) : Int), .int .i64 0]) := by
  obtain ⟨a, rfl⟩ := Int.eq_ofNat_of_zero_le hn.1
  obtain ⟨b, rfl⟩ := Int.eq_ofNat_of_zero_le hk.1
  rw [Int.toNat_natCast, Int.toNat_natCast]
  exact countI (by omega) (by omega) (by omega)
theorem powZ {m : Mem} {n k : Int} (hn : 1 ≤ n ∧ n ≤ 10) (hk : 0 ≤ k ∧ k ≤ 10) : ∃ z : Int, PureCall Tryz.prog 130 [.int .i64 n, .int .i64 k] m (.tuple #[.int .i64 z, .int .i64 0]) := by
  obtain ⟨a, rfl⟩ := Int.eq_ofNat_of_zero_le (show 0 ≤ n by omega)
  obtain ⟨b, rfl⟩ := Int.eq_ofNat_of_zero_le hk.1
  exact ⟨_, powI a b (by omega) (by omega) (by omega)⟩
set_option maxRecDepth 100000 in
theorem countG {m : Mem} {g : Game} (hin : g.In m) : CallsS Tryz.prog 91 [g.val].toArray [] m fun r σ' m' => σ' = [] ∧ m' = m ∧ ∃ z : Int, r = .tuple #[.int .i64 z, .int .i64 (gameErr g)] := by
  refine CallsS.forget (R := fun r => ∃ z : Int, r = .tuple #[.int .i64 z, .int .i64 (gameErr g)]) ?_
  dsimp only [Game.val]
  refine enter Tryz.func91 Tryz.ntmps91 rfl rfl ?_
  refine SWP_seq (SWP_region ?_)
  refine bx (v := .agg _) rfl rfl (fun B1 => ?_)
  refine pI rfl rfl (pI rfl rfl (SL_nil (nx (SWP_seq (SWP_seq (SWP_region ?_))))))
  refine lw (v := .agg _) B1 0 rfl rfl rfl rfl ?_
  refine SL_call rfl rfl cb42 (CallsS.frame0 (checkI hin)) rfl (fun v1_1 σ1_1 m1_1 hl1_1 hR1_1 => ?_)
  obtain ⟨σc, rfl, rfl, hm1_1, s0, rfl⟩ := hR1_1
  have hn1_1 := hm1_1.symm
  subst hn1_1
  refine pu rfl rfl (pI rfl rfl (pS rfl rfl (pI rfl rfl (pS rfl rfl (SL_nil (nx (SWP_seq (SWP_region (pI rfl rfl ?_)))))))))
  refine pc rfl rfl (fun c15 => ?_) (fun c15 => ?_)
  · skip
    refine SL_nil (nx (SWP_ct rfl (SWP_seq (SWP_region (pI rfl rfl (pI rfl rfl (pI rfl rfl (SL_nil (nx (SWP_ret (nr ?_)))))))))))
    refine fin [_, _] ⟨rfl, rfl, trivial⟩ ?_
    exact ⟨0, rfl⟩
  refine SL_nil (nx (SWP_cf rfl (SWP_skip (nx (SWP_seq (SWP_seq ?_))))))
  have hz : gameErr g = 0 := Classical.not_not.1 (by assumption)
  have hg := gameOk hz
  have q2 := hg.mx.h2
  have q3 := hg.mx.h3
  have q4 := hg.mx.h4
  have q5 := hg.mx.h5
  have q7 := hg.mx.h7
  have q8 := hg.mx.h8
  have q9 := hg.mx.h9
  refine SWP_region (pu rfl rfl ?_)
  refine lw (v := .int .i64 _) B1 1 rfl rfl rfl rfl ?_
  refine pc rfl rfl (fun c19 => ?_) (fun c19 => ?_)
  · skip
    refine SL_nil (nx (SWP_ct rfl (SWP_seq ?_)))
    obtain ⟨z, hpz⟩ := powZ (m := m) (n := g.of) (k := g.main) (by omega) (by omega)
    refine SWP_region (pu rfl rfl ?_)
    refine lw (v := .int .i64 _) B1 4 rfl rfl rfl rfl ?_
    refine pu rfl rfl ?_
    refine lw (v := .int .i64 _) B1 3 rfl rfl rfl rfl ?_
    refine SL_pcall rfl rfl cb130 (hpz) rfl ?_
    refine pI rfl rfl (pI rfl rfl (pI rfl rfl (pI rfl rfl (SL_nil (nx (SWP_ret (nr ?_)))))))
    refine fin [_, _] ⟨rfl, rfl, trivial⟩ ?_
    exact ⟨z, by rw [hz]; rfl⟩
  refine SL_nil (nx (SWP_cf rfl (SWP_skip (nx (SWP_seq (SWP_region (pu rfl rfl ?_)))))))
  refine lw (v := .int .i64 _) B1 4 rfl rfl rfl rfl ?_
  refine pu rfl rfl ?_
  refine lw (v := .int .i64 _) B1 3 rfl rfl rfl rfl ?_
  refine SL_pcall rfl rfl cb131 (countZ (by omega) (by omega) (by omega)) rfl ?_
  refine pu rfl rfl (pI rfl rfl (pI rfl rfl (pI rfl rfl (pI rfl rfl (SL_nil (nx (SWP_seq (SWP_seq (SWP_region (pI rfl rfl ?_))))))))))
  refine pn rfl rfl (fun hh => hh rfl) ?_
  refine SL_nil (nx (SWP_cf rfl (SWP_skip (nx (SWP_seq (SWP_region (pu rfl rfl ?_)))))))
  refine lw (v := .int .i64 _) B1 6 rfl rfl rfl rfl ?_
  refine pu rfl rfl ?_
  refine lw (v := .int .i64 _) B1 5 rfl rfl rfl rfl ?_
  refine SL_pcall rfl rfl cb131 (countZ (by omega) (by omega) (by omega)) rfl ?_
  refine pu rfl rfl (pI rfl rfl (pI rfl rfl (pI rfl rfl (pI rfl rfl (SL_nil (nx (SWP_seq (SWP_seq (SWP_region (pI rfl rfl ?_))))))))))
  refine pn rfl rfl (fun hh => hh rfl) ?_
  refine SL_nil (nx (SWP_cf rfl (SWP_skip (nx (SWP_seq ?_)))))
  have b1 := ch_bound (n := g.of.toNat) (k := g.main.toNat) (by omega) (by omega)
  have b2 := ch_bound4 (n := g.bonusOf.toNat) (k := g.bonus.toNat) (by omega) (by omega)
  have hmm : ch g.of.toNat g.main.toNat * ch g.bonusOf.toNat g.bonus.toNat ≤ 9223372036854775807 := Nat.le_trans (Nat.mul_le_mul b1 b2) (by decide)
  refine SWP_region (pI rfl rfl (pI rfl rfl ?_))
  refine SL_pcall rfl rfl cb86 (mulNI _ _ hmm (by omega) (by omega)) rfl ?_
  refine pI rfl rfl (pI rfl rfl (pI rfl rfl (pI rfl rfl (SL_nil (nx (SWP_ret ?_))))))
  refine fin [_, _] ⟨rfl, rfl, trivial⟩ ?_
  exact ⟨_, by rw [hz]; rfl⟩
end Go.Proofs.YtlgoegjboabgfaaGreatDoor
namespace Go.Proofs.YtlgoegjboabgfaaGreatDoor
open Eng
noncomputable def sysG (g : Game) : Int := if gameErr g ≠ 0 then gameErr g else if g.kind ≠ 1 then 7 else 0
noncomputable def sysErr (g : Game) (l : Line) : Int :=
  if sysG g ≠ 0 then sysG g
  else if ¬ ((g.main < l.main.length ∧ (l.main.length : Int) ≤ g.system) ∧ (l.bonus.length : Int) = g.bonus) then 3
  else if ¬ (allIn 1 g.of l.main ∧ allIn 1 g.bonusOf l.bonus) then 2
  else if ¬ (l.main.Nodup ∧ l.bonus.Nodup) then 6
  else 0
theorem sysG_ok {g : Game} (h : sysG g = 0) : gameErr g = 0 ∧ g.kind = 1 := by
  unfold sysG at h
  by_cases h1 : gameErr g ≠ 0
  · rw [if_pos h1] at h; exact absurd h h1
  rw [if_neg h1] at h
  by_cases h2 : g.kind ≠ 1
  · rw [if_pos h2] at h; exact absurd h (by decide)
  exact ⟨Classical.not_not.1 h1, Classical.not_not.1 h2⟩
structure SysOk (g : Game) (l : Line) : Prop where
  g0 : sysG g = 0
  ml : g.main < l.main.length ∧ (l.main.length : Int) ≤ g.system
  bl : (l.bonus.length : Int) = g.bonus
  mi : allIn 1 g.of l.main
  bi : allIn 1 g.bonusOf l.bonus
  mn : l.main.Nodup
  bn : l.bonus.Nodup
theorem sysOk {g : Game} {l : Line} (h : sysErr g l = 0) : SysOk g l := by
  unfold sysErr at h
  by_cases h1 : sysG g ≠ 0
  · rw [if_pos h1] at h; exact absurd h h1
  rw [if_neg h1] at h
  by_cases h2 : ¬ ((g.main < l.main.length ∧ (l.main.length : Int) ≤ g.system) ∧ (l.bonus.length : Int) = g.bonus)
  · rw [if_pos h2] at h; exact absurd h (by decide)
  rw [if_neg h2] at h
  by_cases h3 : ¬ (allIn 1 g.of l.main ∧ allIn 1 g.bonusOf l.bonus)
  · rw [if_pos h3] at h; exact absurd h (by decide)
  rw [if_neg h3] at h
  by_cases h4 : ¬ (l.main.Nodup ∧ l.bonus.Nodup)
  · rw [if_pos h4] at h; exact absurd h (by decide)
  have h2' := Classical.not_not.1 h2
  have h3' := Classical.not_not.1 h3
  have h4' := Classical.not_not.1 h4
  exact ⟨Classical.not_not.1 h1, h2'.1, h2'.2, h3'.1, h3'.2, h4'.1, h4'.2⟩
def seenC (s : List Int) : List Value := (List.range 81).map fun (k : Nat) => .bool (decide ((k : Int) ∈ s))
theorem seenC_len (s : List Int) : (seenC s).length = 81 := by simp [seenC]
theorem seenC_at (s : List Int) {k : Nat} (h : k < 81) : (seenC s)[k]? = some (.bool (decide ((k : Int) ∈ s))) := by unfold seenC; rw [List.getElem?_map, List.getElem?_range h]; rfl
theorem seenC_set {s : List Int} {x : Int} (h0 : 0 ≤ x) (h1 : x ≤ 80) : (seenC s).set x.toNat (.bool true) = seenC (s ++ [x]) := by
  apply List.ext_getElem?
  intro k
  rw [List.getElem?_set]
  by_cases hk : k < 81
  · rw [seenC_at _ hk, seenC_at _ hk, seenC_len]
    by_cases e : x.toNat = k
    · rw [if_pos e, if_pos (by omega)]
      have : (k : Int) = x := by omega
      simp [this]
    · rw [if_neg e]
      have : ¬ (k : Int) = x := by omega
      simp [this]
  · have h2 := seenC_len (s ++ [x])
    have h3 := seenC_len s
    rw [List.getElem?_eq_none (l := seenC (s ++ [x])) (by omega)]
    rw [h3, if_neg (by omega : ¬ x.toNat = k), List.getElem?_eq_none (by omega)]
theorem insideS {m : Mem} {v : Value} {l : List Int} (h : RL m intE 1 v l) (hi : Int) : PureCall Tryz.prog 172 [v, .int .i64 hi] m (.bool (decide (allIn 1 hi l))) := by
  refine CallsS.pure ?_
  have hsm := h.small
  obtain ⟨pa, pcap, rfl⟩ := h.len
  refine enter Tryz.func172 Tryz.ntmps172 rfl rfl ?_
  refine SWP_seq (SWP_region (pB rfl rfl (SL_nil (nx (SWP_seq (SWP_seq (SWP_region (pL rfl rfl (pu rfl rfl (pI rfl rfl (SL_nil ?_)))))))))))
  refine nx (SWP_block ?_)
  refine SWP_loop [4, 6, 9, 10, 11, 12, 13, 14, 15, 16, 17, 18, 19, 20] [9]
      (fun vs σ' m' => ∃ (i : Nat), vs = [.int .i64 (i : Nat)] ∧ i ≤ l.length ∧ allIn 1 hi (l.take i) ∧ σ' = [] ∧ m = m')
      (fun vs => l.length - nOf (vs.getD 0 undef)) rfl ?_ ?_
  · exact ⟨0, rfl, by omega, fun x h => (by cases h), rfl, rfl⟩
  intro u0 vs0 σ0 m0 hJ0 _
  obtain ⟨i, rfl, hi, hall, rfl, rfl⟩ := hJ0
  refine SWP_seq (SWP_region ?_)
  refine pc rfl rfl (fun c10 => ?_) (fun c10 => ?_)
  · skip
    refine SL_nil (nx (SWP_seq (SWP_ct rfl (SWP_skip (nx (SWP_seq (SWP_block (SWP_seq ?_))))))))
    obtain ⟨x, hx⟩ : ∃ x, l[i]? = some x := ⟨_, List.getElem?_eq_getElem (by omega)⟩
    obtain ⟨ad, e0, _, hat⟩ := h.atI hx
    cases e0
    refine SWP_region ?_
    refine ia (es := 1) rfl rfl rfl (Nat.mul_one _) rfl rfl (by omega) rfl ?_
    refine ldA (v := .int .i64 _) rfl (by assumption) rfl rfl ?_
    refine pI rfl rfl (SL_nil (nx (SWP_seq (SWP_region (pI rfl rfl ?_)))))
    refine pc rfl rfl (fun c14 => ?_) (fun c14 => ?_)
    · skip
      refine pB rfl rfl (SL_no rfl rfl (SL_no rfl rfl (SL_no rfl rfl (pB rfl rfl (SL_nil (nx (SWP_ct rfl (SWP_seq (SWP_region (pB rfl rfl (SL_nil ?_)))))))))))
      refine nx (SWP_ret (br (nr (nr (br (nr ?_))))))
      refine fin [_] ⟨rfl, trivial⟩ ?_
      exact congrArg Value.bool (decide_eq_false fun h => by have := h x (List.mem_of_getElem? hx); omega).symm
    refine pB rfl rfl (SL_yes rfl (pI rfl rfl (SL_yes rfl (pI rfl rfl (SL_yes rfl ?_)))))
    refine pc rfl rfl (fun c18 => ?_) (fun c18 => ?_)
    · skip
      refine pB rfl rfl (SL_nil (nx (SWP_ct rfl (SWP_seq (SWP_region (pB rfl rfl (SL_nil (nx (SWP_ret (br (nr ?_)))))))))))
      refine nr (br (nr ?_))
      refine fin [_] ⟨rfl, trivial⟩ ?_
      exact congrArg Value.bool (decide_eq_false fun h => by have := h x (List.mem_of_getElem? hx); omega).symm
    refine pB rfl rfl (SL_nil (nx (SWP_cf rfl (SWP_skip (nb (nx (SWP_region ?_)))))))
    refine pw rfl rfl (w64 (by omega) (by omega)) ?_
    refine pI rfl rfl (SL_nil (nx ?_))
    refine ⟨by repeat (first | exact Under.upds rfl (Under.hav _ _ _) | exact Under.hav _ _ _ | refine Under.upd rfl ?_), ?_, ?_⟩
    · exact ⟨i + 1, rfl, by omega, allIn_snoc hx hall (by omega), rfl, rfl⟩
    · simp only [L_vals, List.map, List.getD]; show l.length - (i + 1) < l.length - i; omega
  refine SL_nil (nx (SWP_seq (SWP_cf rfl (SWP_exit (ne (ne (be rfl (nx (SWP_seq (SWP_region (pB rfl rfl ?_)))))))))))
  refine SL_nil (nx (SWP_ret ?_))
  refine fin [_] ⟨rfl, trivial⟩ ?_
  (refine congrArg Value.bool (decide_eq_true ?_).symm; rw [List.take_of_length_le (by omega)] at hall; exact hall)
theorem repeatedS {m : Mem} {v : Value} {l : List Int} (h : RL m intE 1 v l) (hin : allIn 1 80 l) : PureCall Tryz.prog 173 [v] m (.bool (decide (¬ l.Nodup))) := by
  refine CallsS.pure ?_
  have hsm := h.small
  obtain ⟨pa, pcap, rfl⟩ := h.len
  refine enter Tryz.func173 Tryz.ntmps173 rfl rfl ?_
  refine SWP_seq (SWP_region (pB rfl rfl (SL_nil (nx (SWP_seq (SWP_region ?_))))))
  refine al rfl rfl (fun B3 => ?_)
  refine SL_nil (nx (SWP_seq (SWP_seq (SWP_region (pL rfl rfl (pu rfl rfl (pI rfl rfl (SL_nil (nx (SWP_block ?_))))))))))
  refine SWP_loop [2, 5, 8, 9, 10, 11, 12, 13, 14, 15, 16, 17] [8]
      (fun vs σ' m' => ∃ (i : Nat), vs = [.int .i64 (i : Nat)] ∧ i ≤ l.length ∧ (l.take i).Nodup ∧ σ' = [(B3, Cells 267 (seenC (l.take i)))] ∧ m = m')
      (fun vs => l.length - nOf (vs.getD 0 undef)) rfl ?_ ?_
  · exact ⟨0, rfl, by omega, by simp, rfl, rfl⟩
  intro u0 vs0 σ0 m0 hJ0 _
  obtain ⟨i, rfl, hi, hnd, rfl, rfl⟩ := hJ0
  refine SWP_seq (SWP_region ?_)
  refine pc rfl rfl (fun c9 => ?_) (fun c9 => ?_)
  · skip
    refine SL_nil (nx (SWP_seq (SWP_ct rfl (SWP_skip (nx (SWP_seq (SWP_block (SWP_seq ?_))))))))
    obtain ⟨x, hx⟩ : ∃ x, l[i]? = some x := ⟨_, List.getElem?_eq_getElem (by omega)⟩
    obtain ⟨ad, e0, _, hat⟩ := h.atI hx
    cases e0
    have hxi := hin x (List.mem_of_getElem? hx)
    refine SWP_region ?_
    refine ia (es := 1) rfl rfl rfl (Nat.mul_one _) rfl rfl (by omega) rfl ?_
    refine ldA (v := .int .i64 _) rfl (by assumption) rfl rfl ?_
    refine pI rfl rfl (SL_nil (nx (SWP_seq (SWP_seq (SWP_region (pI rfl rfl ?_))))))
    refine iari (es := 1) rfl rfl rfl (Nat.mul_one _) rfl rfl (by omega) (by omega) rfl ?_
    refine ld (p := ⟨B3, 0, none⟩) (off := x.toNat) (v := .bool (decide (x ∈ l.take i))) (Rd.of_cells (.head _)) rfl rfl (by show (seenC (l.take i))[x.toNat]? = _; rw [seenC_at _ (by omega), Int.toNat_of_nonneg (by omega)]) rfl ?_
    refine psp 14 rfl (fun c14 => ?_) (fun c14 => ?_)
    · skip
      refine SL_nil (nx (SWP_ct rfl (SWP_seq (SWP_region (pB rfl rfl (SL_nil (nx (SWP_ret (nr (br (nr ?_)))))))))))
      refine nr (br (nr ?_))
      refine fin [_] ⟨rfl, trivial⟩ ?_
      exact congrArg Value.bool (decide_eq_true (not_nodup_take hx (by assumption))).symm
    refine SL_nil (nx (SWP_cf rfl (SWP_skip (nx (SWP_region (pI rfl rfl ?_))))))
    refine iari (es := 1) rfl rfl rfl (Nat.mul_one _) rfl rfl (by omega) (by omega) rfl ?_
    refine st1 (off := x.toNat) (σ₁ := []) rfl rfl rfl rfl rfl rfl rfl (by rw [seenC_len]; omega) rfl ?_
    refine SL_nil (nb (nx (SWP_region ?_)))
    refine pw rfl rfl (w64 (by omega) (by omega)) ?_
    refine pI rfl rfl (SL_nil (nx ?_))
    refine ⟨by repeat (first | exact Under.upds rfl (Under.hav _ _ _) | exact Under.hav _ _ _ | refine Under.upd rfl ?_), ?_, ?_⟩
    · refine ⟨i + 1, rfl, by omega, (nodup_snoc hx).2 ⟨hnd, by assumption⟩, ?_, rfl⟩
      rw [take_snocA hx, ← seenC_set (by omega) (by omega)]; rfl
    · simp only [L_vals, List.map, List.getD]; show l.length - (i + 1) < l.length - i; omega
  refine SL_nil (nx (SWP_seq (SWP_cf rfl (SWP_exit (ne (ne (be rfl (nx (SWP_seq (SWP_region (pB rfl rfl ?_)))))))))))
  refine SL_nil (nx (SWP_ret ?_))
  refine fin [_] ⟨rfl, trivial⟩ ?_
  refine congrArg Value.bool (decide_eq_false ?_).symm
  rw [List.take_of_length_le (by omega)] at hnd
  exact Classical.not_not.2 hnd
set_option maxRecDepth 100000 in
theorem validS {m : Mem} {g : Game} (hin : g.In m) : PureCall Tryz.prog 171 [g.val] m (.int .i64 (sysG g)) := by
  refine CallsS.pure ?_
  dsimp only [Game.val]
  refine enter Tryz.func171 Tryz.ntmps171 rfl rfl ?_
  refine SWP_seq (SWP_region ?_)
  refine bx (v := .agg _) rfl rfl (fun B1 => ?_)
  refine pI rfl rfl (SL_nil (nx (SWP_seq (SWP_seq (SWP_region ?_)))))
  refine lw (v := .agg _) B1 0 rfl rfl rfl rfl ?_
  refine SL_call rfl rfl cb91 (CallsS.frame0 (countG hin)) rfl (fun v1_1 σ1_1 m1_1 hl1_1 hR1_1 => ?_)
  obtain ⟨σc, rfl, rfl, hm1_1, z0, rfl⟩ := hR1_1
  have hn1_1 := hm1_1.symm
  subst hn1_1
  refine pu rfl rfl (pI rfl rfl (pI rfl rfl (pI rfl rfl (pI rfl rfl (SL_nil (nx (SWP_seq (SWP_region (pI rfl rfl ?_)))))))))
  refine pc rfl rfl (fun c11 => ?_) (fun c11 => ?_)
  · skip
    refine SL_nil (nx (SWP_ct rfl (SWP_seq (SWP_region (pI rfl rfl (pI rfl rfl (SL_nil (nx (SWP_ret (nr ?_))))))))))
    refine fin [_] ⟨rfl, trivial⟩ ?_
    refine congrArg (Value.int .i64) ?_
    exact (if_pos (by assumption)).symm
  refine SL_nil (nx (SWP_cf rfl (SWP_skip (nx (SWP_seq (SWP_seq ?_))))))
  have hz : gameErr g = 0 := Classical.not_not.1 (by assumption)
  refine SWP_region (pu rfl rfl ?_)
  refine lw (v := .int .i64 _) B1 1 rfl rfl rfl rfl ?_
  refine pc rfl rfl (fun c15 => ?_) (fun c15 => ?_)
  · skip
    refine SL_nil (nx (SWP_ct rfl (SWP_seq (SWP_region (pI rfl rfl (SL_nil (nx (SWP_ret (nr ?_)))))))))
    refine fin [_] ⟨rfl, trivial⟩ ?_
    refine congrArg (Value.int .i64) ?_
    exact ((if_neg (fun hh => hh hz)).trans (if_pos (by assumption))).symm
  refine SL_nil (nx (SWP_cf rfl (SWP_skip (nx (SWP_seq (SWP_region (pI rfl rfl (SL_nil (nx (SWP_ret ?_))))))))))
  refine fin [_] ⟨rfl, trivial⟩ ?_
  refine congrArg (Value.int .i64) ?_
  exact ((if_neg (fun hh => hh hz)).trans (if_neg (by assumption))).symm
set_option maxRecDepth 100000 in
theorem sysI {m : Mem} {g : Game} {l : Line} (hin : g.In m) (hl : l.In m) : PureCall Tryz.prog 150 [g.val, l.val] m (.int .i64 (sysErr g l)) := by
  refine CallsS.pure ?_
  dsimp only [Game.val, Line.val]
  refine enter Tryz.func150 Tryz.ntmps150 rfl rfl ?_
  refine SWP_seq (SWP_region ?_)
  refine bx (v := .agg _) rfl rfl (fun B2 => ?_)
  refine bx (v := .agg _) rfl rfl (fun B3 => ?_)
  refine pI rfl rfl (SL_nil (nx ?_))
  refine SWP_merge1 [4, 5, 6, 7, 8, 9, 10] []
      (fun vs σ' m' => vs = [] ∧ sysG g = 0 ∧ σ' = [(B3, Cells 142 l.enc), (B2, Cells 31 g.enc)] ∧ m = m')
      rfl ?_ ?_
  · skip
    refine SWP_seq (SWP_region ?_)
    refine lw (v := .agg _) B2 0 rfl rfl rfl rfl ?_
    refine SL_pcall rfl rfl cb171 (validS hin) rfl ?_
    refine pI rfl rfl (SL_nil (nx (SWP_seq (SWP_region (pI rfl rfl ?_)))))
    refine pc rfl rfl (fun c9 => ?_) (fun c9 => ?_)
    · skip
      refine SL_nil (nx (SWP_ct rfl (SWP_seq (SWP_region (pI rfl rfl (pI rfl rfl (SL_nil (nx (SWP_ret (nr ?_))))))))))
      refine fin [_] ⟨rfl, trivial⟩ ?_
      refine congrArg (Value.int .i64) ?_
      unfold sysErr
      exact (if_pos (by assumption)).symm
    refine SL_nil (nx (SWP_cf rfl (SWP_skip (nx ?_))))
    refine ⟨by repeat (first | with_reducible exact Under.refl _ _ | exact Under.upds rfl (Under.hav _ _ _) | exact Under.hav _ _ _ | refine Under.upd rfl ?_ | refine Under.upds rfl ?_ | refine Under.hav2 rfl ?_), ?_⟩
    exact ⟨rfl, by omega, rfl, rfl⟩
  intro uM0 vM0 σM0 mM0 hM0 _
  obtain ⟨rfl, hs0, rfl, rfl⟩ := hM0
  have hok := gameOk (sysG_ok hs0).1
  have hkk := (sysG_ok hs0).2
  have q2 := hok.mx.h2
  have q4 := hok.mx.h4 (by omega)
  have q5 := hok.mx.h5
  have q8 := hok.mx.h8
  have q9 := hok.mx.h9
  have hbo : g.bonusOf ≤ 80 := by omega
  dsimp only [Line.enc, Game.enc]
  refine SWP_merge1 [4, 11, 12, 13, 14, 15, 16, 17, 18, 19, 20, 21, 22, 23, 24, 25, 26, 27, 28, 29, 30, 31, 32, 33] []
      (fun vs σ' m' => vs = [] ∧ ((g.main < l.main.length ∧ (l.main.length : Int) ≤ g.system) ∧ (l.bonus.length : Int) = g.bonus) ∧ σ' = [(B3, Cells 142 l.enc), (B2, Cells 31 g.enc)] ∧ m = m')
      rfl ?_ ?_
  · skip
    refine SWP_seq (SWP_region (pu rfl rfl ?_))
    refine lw (v := .slice _ _ _) B3 0 rfl rfl rfl rfl ?_
    refine pu rfl rfl (pu rfl rfl ?_)
    refine lw (v := .int .i64 _) B2 3 rfl rfl rfl rfl ?_
    refine pw rfl rfl (w64 (by omega) (by omega)) ?_
    refine pc rfl rfl (fun c17 => ?_) (fun c17 => ?_)
    · skip
      refine pB rfl rfl (SL_no rfl rfl (SL_no rfl rfl (SL_no rfl rfl (SL_no rfl rfl (SL_no rfl rfl (SL_no rfl rfl (pB rfl rfl (pB rfl rfl (SL_no rfl rfl (SL_no rfl rfl (SL_no rfl rfl ?_)))))))))))
      refine SL_no rfl rfl (SL_no rfl rfl (SL_no rfl rfl (pB rfl rfl (SL_nil (nx (SWP_ct rfl (SWP_seq (SWP_region (pI rfl rfl (SL_nil (nx ?_)))))))))))
      refine SWP_ret (nr ?_)
      refine fin [_] ⟨rfl, trivial⟩ ?_
      refine congrArg (Value.int .i64) ?_
      unfold sysErr
      exact ((if_neg (fun hh => hh hs0)).trans (if_pos (by omega))).symm
    refine pB rfl rfl (SL_yes rfl (pu rfl rfl (SL_yes rfl ?_)))
    refine lw (v := .slice _ _ _) B3 0 rfl rfl rfl rfl ?_
    refine SL_yes rfl (pu rfl rfl (SL_yes rfl (pu rfl rfl (SL_yes rfl ?_))))
    refine lw (v := .int .i64 _) B2 9 rfl rfl rfl rfl ?_
    refine SL_yes rfl ?_
    refine pc rfl rfl (fun c24 => ?_) (fun c24 => ?_)
    · skip
      refine pB rfl rfl (pB rfl rfl (SL_no rfl rfl (SL_no rfl rfl (SL_no rfl rfl (SL_no rfl rfl (SL_no rfl rfl (SL_no rfl rfl (pB rfl rfl (SL_nil (nx (SWP_ct rfl ?_)))))))))))
      refine SWP_seq (SWP_region (pI rfl rfl (SL_nil (nx (SWP_ret (nr ?_))))))
      refine fin [_] ⟨rfl, trivial⟩ ?_
      refine congrArg (Value.int .i64) ?_
      unfold sysErr
      exact ((if_neg (fun hh => hh hs0)).trans (if_pos (by omega))).symm
    refine pB rfl rfl (pB rfl rfl (SL_yes rfl (pu rfl rfl (SL_yes rfl ?_))))
    refine lw (v := .slice _ _ _) B3 1 rfl rfl rfl rfl ?_
    refine SL_yes rfl (pu rfl rfl (SL_yes rfl (pu rfl rfl (SL_yes rfl ?_))))
    refine lw (v := .int .i64 _) B2 5 rfl rfl rfl rfl ?_
    refine SL_yes rfl ?_
    refine pc rfl rfl (fun c32 => ?_) (fun c32 => ?_)
    · skip
      refine pB rfl rfl (SL_nil (nx (SWP_ct rfl (SWP_seq (SWP_region (pI rfl rfl (SL_nil (nx (SWP_ret (nr ?_))))))))))
      refine fin [_] ⟨rfl, trivial⟩ ?_
      refine congrArg (Value.int .i64) ?_
      unfold sysErr
      exact ((if_neg (fun hh => hh hs0)).trans (if_pos (by omega))).symm
    refine pB rfl rfl (SL_nil (nx (SWP_cf rfl (SWP_skip (nx ?_)))))
    refine ⟨by repeat (first | with_reducible exact Under.refl _ _ | exact Under.upds rfl (Under.hav _ _ _) | exact Under.hav _ _ _ | refine Under.upd rfl ?_ | refine Under.upds rfl ?_ | refine Under.hav2 rfl ?_), ?_⟩
    exact ⟨rfl, by omega, rfl, rfl⟩
  intro uM1 vM1 σM1 mM1 hM1 _
  obtain ⟨rfl, hm1, rfl, rfl⟩ := hM1
  dsimp only [Line.enc, Game.enc]
  refine SWP_merge1 [4, 34, 35, 36, 37, 38, 39, 40, 41, 42, 43, 44, 45, 46, 47] []
      (fun vs σ' m' => vs = [] ∧ (allIn 1 g.of l.main ∧ allIn 1 g.bonusOf l.bonus) ∧ σ' = [(B3, Cells 142 l.enc), (B2, Cells 31 g.enc)] ∧ m = m')
      rfl ?_ ?_
  · skip
    refine SWP_seq (SWP_region (pu rfl rfl ?_))
    refine lw (v := .slice _ _ _) B3 0 rfl rfl rfl rfl ?_
    refine pu rfl rfl ?_
    refine lw (v := .int .i64 _) B2 4 rfl rfl rfl rfl ?_
    refine SL_pcall rfl rfl cb172 (insideS hl.mn _) rfl ?_
    refine psp 38 rfl (fun c38 => ?_) (fun c38 => ?_)
    · skip
      refine pB rfl rfl (pB rfl rfl (SL_yes rfl (pu rfl rfl (SL_yes rfl ?_))))
      refine lw (v := .slice _ _ _) B3 1 rfl rfl rfl rfl ?_
      refine SL_yes rfl (pu rfl rfl (SL_yes rfl ?_))
      refine lw (v := .int .i64 _) B2 6 rfl rfl rfl rfl ?_
      refine SL_yes rfl ?_
      refine SL_pcall rfl rfl cb172 (insideS hl.bn _) rfl ?_
      refine psp 45 rfl (fun c45 => ?_) (fun c45 => ?_)
      · skip
        refine SL_yes rfl (pB rfl rfl (pB rfl rfl (SL_nil (nx (SWP_cf rfl (SWP_skip (nx ?_)))))))
        refine ⟨by repeat (first | with_reducible exact Under.refl _ _ | exact Under.upds rfl (Under.hav _ _ _) | exact Under.hav _ _ _ | refine Under.upd rfl ?_ | refine Under.upds rfl ?_ | refine Under.hav2 rfl ?_), ?_⟩
        exact ⟨rfl, ⟨by assumption, by assumption⟩, rfl, rfl⟩
      refine SL_yes rfl (pB rfl rfl (pB rfl rfl (SL_nil (nx (SWP_ct rfl (SWP_seq (SWP_region (pI rfl rfl (SL_nil (nx (SWP_ret ?_)))))))))))
      refine nr ?_
      refine fin [_] ⟨rfl, trivial⟩ ?_
      refine congrArg (Value.int .i64) ?_
      unfold sysErr
      exact ((if_neg (fun hh => hh hs0)).trans ((if_neg (fun hh => hh hm1)).trans (if_pos (fun hh => by first | exact absurd hh.1 (by assumption) | exact absurd hh.2 (by assumption))))).symm
    refine pB rfl rfl (pB rfl rfl (SL_no rfl rfl (SL_no rfl rfl (SL_no rfl rfl (SL_no rfl rfl (SL_no rfl rfl (SL_no rfl rfl (pB rfl rfl (SL_nil (nx (SWP_ct rfl ?_)))))))))))
    refine SWP_seq (SWP_region (pI rfl rfl (SL_nil (nx (SWP_ret (nr ?_))))))
    refine fin [_] ⟨rfl, trivial⟩ ?_
    refine congrArg (Value.int .i64) ?_
    unfold sysErr
    exact ((if_neg (fun hh => hh hs0)).trans ((if_neg (fun hh => hh hm1)).trans (if_pos (fun hh => by first | exact absurd hh.1 (by assumption) | exact absurd hh.2 (by assumption))))).symm
  intro uM2 vM2 σM2 mM2 hM2 _
  obtain ⟨rfl, hai, rfl, rfl⟩ := hM2
  dsimp only [Line.enc, Game.enc]
  refine SWP_seq (SWP_seq (SWP_region (pu rfl rfl ?_)))
  refine lw (v := .slice _ _ _) B3 0 rfl rfl rfl rfl ?_
  refine SL_pcall rfl rfl cb173 (repeatedS hl.mn (fun y hy => ⟨(hai.1 y hy).1, by have := (hai.1 y hy).2; omega⟩)) rfl ?_
  refine psp 50 rfl (fun c50 => ?_) (fun c50 => ?_)
  · skip
    refine pB rfl rfl (SL_no rfl rfl (SL_no rfl rfl (SL_no rfl rfl (pB rfl rfl (SL_nil (nx (SWP_ct rfl (SWP_seq (SWP_region (pI rfl rfl (SL_nil ?_)))))))))))
    refine nx (SWP_ret (nr ?_))
    refine fin [_] ⟨rfl, trivial⟩ ?_
    refine congrArg (Value.int .i64) ?_
    unfold sysErr
    exact ((if_neg (fun hh => hh hs0)).trans ((if_neg (fun hh => hh hm1)).trans ((if_neg (fun hh => hh hai)).trans (if_pos (fun hh => by first | exact absurd hh.1 (by assumption) | exact absurd hh.2 (by assumption)))))).symm
  refine pB rfl rfl (SL_yes rfl (pu rfl rfl (SL_yes rfl ?_)))
  refine lw (v := .slice _ _ _) B3 1 rfl rfl rfl rfl ?_
  refine SL_yes rfl ?_
  refine SL_pcall rfl rfl cb173 (repeatedS hl.bn (fun y hy => ⟨(hai.2 y hy).1, by have := (hai.2 y hy).2; omega⟩)) rfl ?_
  refine psp 54 rfl (fun c54 => ?_) (fun c54 => ?_)
  · skip
    refine pB rfl rfl (SL_nil (nx (SWP_ct rfl (SWP_seq (SWP_region (pI rfl rfl (SL_nil (nx (SWP_ret (nr ?_))))))))))
    refine fin [_] ⟨rfl, trivial⟩ ?_
    refine congrArg (Value.int .i64) ?_
    unfold sysErr
    exact ((if_neg (fun hh => hh hs0)).trans ((if_neg (fun hh => hh hm1)).trans ((if_neg (fun hh => hh hai)).trans (if_pos (fun hh => by first | exact absurd hh.1 (by assumption) | exact absurd hh.2 (by assumption)))))).symm
  refine pB rfl rfl (SL_nil (nx (SWP_cf rfl (SWP_skip (nx (SWP_seq (SWP_region (pI rfl rfl (SL_nil (nx (SWP_ret ?_)))))))))))
  refine fin [_] ⟨rfl, trivial⟩ ?_
  refine congrArg (Value.int .i64) ?_
  unfold sysErr
  exact ((if_neg (fun hh => hh hs0)).trans ((if_neg (fun hh => hh hm1)).trans ((if_neg (fun hh => hh hai)).trans (if_neg (fun hh => hh ⟨Classical.not_not.1 (by assumption), Classical.not_not.1 (by assumption)⟩))))).symm
theorem ch_small (i k : Nat) (hi : i ≤ 14) : ch i k ≤ 100000 := by
  have h : ∀ i, i ≤ 14 → ∀ k, ch i k ≤ 2 ^ i := by
    intro i
    induction i with
    | zero => intro _ k; cases k with | zero => decide | succ k => exact Nat.zero_le _
    | succ i ih =>
      intro hi k
      cases k with
      | zero => exact Nat.one_le_two_pow
      | succ k =>
        show ch i k + ch i (k + 1) ≤ 2 ^ (i + 1)
        have h1 := ih (by omega) k
        have h2 := ih (by omega) (k + 1)
        rw [Nat.pow_succ]; generalize 2 ^ i = z at *; omega
  exact Nat.le_trans (h i hi k) (Nat.le_trans (Nat.pow_le_pow_right (by decide) hi) (by decide))
end Go.Proofs.YtlgoegjboabgfaaGreatDoor
namespace Go.Proofs.YtlgoegjboabgfaaGreatDoor
open Eng
theorem canonF {m : Mem} {v : Value} {l : List Int} (h : RL m intE 1 v l) (hl : l.length ≤ 100000) : CallsS Tryz.prog 175 [v].toArray [] m fun r σ' m' => σ' = [] ∧ RL m' intE 1 r (l.mergeSort leI) := by
  refine CallsS.ghost (R' := fun r σ' m' => OwnS 3 1 r ((l.mergeSort leI).flatMap intE) σ') ?_ ?h2
  case h2 =>
    intro r σ' m' hR g W hC
    obtain ⟨m2, h1, h2, h3⟩ := hR.freezeL (τ := []) (by omega) intE_len (by simpa using hC)
    exact ⟨[], m2, h2, h1, rfl, h3⟩
  refine enter Tryz.func175 Tryz.ntmps175 rfl rfl ?_
  refine SWP_seq (SWP_region (pL rfl rfl (SL_nil (nx (SWP_seq (SWP_region (pu rfl rfl ?_)))))))
  refine apR (e := 3) (size := 1) (bytes := 8) rfl rfl rfl rfl rfl rfl rfl .nil (.refl _) rfl h (all_intE l) (by simp; omega) rfl rfl (fun v5 σ5 hown5 => ?_)
  rw [List.nil_append] at hown5
  refine pu rfl rfl (SL_nil (nx (SWP_seq (SWP_region (pu rfl rfl ?_)))))
  refine SL_call rfl rfl cb176 (sortI hown5 (by omega)) rfl (fun v2_1 σ2_1 m2_1 hl2_1 hR2_1 => ?_)
  obtain ⟨hm2_1, σs, rfl, howns⟩ := hR2_1
  have hn2_1 := hm2_1.symm
  subst hn2_1
  refine SL_nil (nx (SWP_seq (SWP_region (pu rfl rfl (pu rfl rfl (SL_nil (nx (SWP_ret ?_))))))))
  refine fin [_] ⟨rfl, trivial⟩ ?_
  rw [List.append_nil]
  exact howns
set_option maxRecDepth 100000 in
theorem canonI {m : Mem} {l : Line} (h : l.In m) (h1 : l.main.length ≤ 100000) (h2 : l.bonus.length ≤ 100000) : CallsS Tryz.prog 153 [l.val].toArray [] m fun r σ' m' => σ' = [] ∧ ∃ c : Line, r = c.val ∧ c.In m' ∧ c.main = l.main.mergeSort leI ∧ c.bonus = l.bonus.mergeSort leI := by
  refine CallsS.ghost (R' := fun r σ' m' => ∃ c : Line, r = c.val ∧ c.In m' ∧ c.main = l.main.mergeSort leI ∧ c.bonus = l.bonus.mergeSort leI) ?_ ?h2
  case h2 =>
    rintro r σ' m' hr g0 W hC
    exact ⟨_, m', hC.sublist (List.nil_sublist _), Le.refl _, rfl, hr⟩
  dsimp only [Line.val]
  refine enter Tryz.func153 Tryz.ntmps153 rfl rfl ?_
  refine SWP_seq (SWP_region ?_)
  refine bx (v := .agg _) rfl rfl (fun B1 => ?_)
  refine al rfl rfl (fun B2 => ?_)
  refine SL_nil (nx (SWP_seq (SWP_region (pu rfl rfl (SL_nil (nx (SWP_seq ?_)))))))
  refine SWP_drawn [(B1, Cells 142 l.enc)] [0, 1, 2, 4, 5, 6, 3, 7, 8, 9] (by kernel_rfl) (by kernel_rfl) (Sub.cons _ (Sub.refl _)) ?_
  refine pu rfl rfl (pu rfl rfl ?_)
  refine lw (v := .slice _ _ _) B1 0 rfl rfl rfl rfl ?_
  refine pu rfl rfl (pu rfl rfl ?_)
  refine lw (v := .slice _ _ _) B1 1 rfl rfl rfl rfl ?_
  refine SL_call rfl rfl cb175 (CallsS.frame0 (canonF h.mn h1)) rfl (fun v2_3 σ2_3 m2_3 hl2_3 hR2_3 => ?_)
  obtain ⟨σa, rfl, rfl, hra⟩ := hR2_3
  obtain ⟨aa, ac, rfl⟩ := hra.len
  refine SL_call rfl rfl cb175 (CallsS.frame0 (canonF (h.bn.mono hl2_3) h2)) rfl (fun v2_7 σ2_7 m2_7 hl2_7 hR2_7 => ?_)
  obtain ⟨σb, rfl, rfl, hrb⟩ := hR2_7
  obtain ⟨ba, bc, rfl⟩ := hrb.len
  refine pA rfl rfl ?_
  refine sw (v := .agg _) B2 0 rfl rfl rfl rfl rfl rfl rfl ?_
  refine SL_nil (nx (SWP_ret ?_))
  refine fin [_] ⟨⟨_, _, rfl, Rd.of_cells (MemO.mem (B := B2)), rfl⟩, trivial⟩ ?_
  exact ⟨⟨aa, ac, _, ba, bc, _⟩, rfl, ⟨hra.mono hl2_7, hrb⟩, rfl, rfl⟩
end Go.Proofs.YtlgoegjboabgfaaGreatDoor
namespace Go.Proofs.YtlgoegjboabgfaaGreatDoor
open Eng
set_option maxRecDepth 100000 in
theorem eqLI {m : Mem} {a b : Line} (ha : a.In m) (hb : b.In m) (h1 : a.main.length ≤ 100000) (h2 : a.bonus.length ≤ 100000) : PureCall Tryz.prog 121 [a.val, b.val] m (.bool (decide (a.main = b.main ∧ a.bonus = b.bonus))) := by
  refine CallsS.pure ?_
  dsimp only [Line.val]
  refine enter Tryz.func121 Tryz.ntmps121 rfl rfl ?_
  refine SWP_seq (SWP_region ?_)
  refine bx (v := .agg _) rfl rfl (fun B2 => ?_)
  refine bx (v := .agg _) rfl rfl (fun B3 => ?_)
  refine pB rfl rfl (SL_nil (nx (SWP_seq (SWP_region (pu rfl rfl ?_)))))
  refine lw (v := .slice _ _ _) B2 0 rfl rfl rfl rfl ?_
  refine pu rfl rfl ?_
  refine lw (v := .slice _ _ _) B3 0 rfl rfl rfl rfl ?_
  refine SL_pcall rfl rfl cb154 (equalI ha.mn hb.mn h1) rfl ?_
  refine psp 9 rfl (fun c9 => ?_) (fun c9 => ?_)
  · skip
    refine pB rfl rfl (SL_yes rfl (pu rfl rfl (SL_yes rfl ?_)))
    refine lw (v := .slice _ _ _) B2 1 rfl rfl rfl rfl ?_
    refine SL_yes rfl (pu rfl rfl (SL_yes rfl ?_))
    refine lw (v := .slice _ _ _) B3 1 rfl rfl rfl rfl ?_
    refine SL_yes rfl ?_
    refine SL_pcall rfl rfl cb154 (equalI ha.bn hb.bn h2) rfl ?_
    refine pB rfl rfl (pB rfl rfl (SL_nil (nx (SWP_ret ?_))))
    refine fin [_] ⟨rfl, trivial⟩ ?_
    refine congrArg Value.bool (decide_eq_decide.2 ⟨fun h => ⟨by assumption, h⟩, fun h => h.2⟩)
  refine pB rfl rfl (SL_no rfl rfl (SL_no rfl rfl (SL_no rfl rfl (SL_no rfl rfl (SL_no rfl rfl (pB rfl rfl (pB rfl rfl (SL_nil (nx (SWP_ret ?_))))))))))
  refine fin [_] ⟨rfl, trivial⟩ ?_
  refine congrArg Value.bool (decide_eq_false (fun h => ?_)).symm
  exact absurd h.1 (by assumption)
set_option maxRecDepth 100000 in
theorem eqF {m : Mem} {p : Addr} {e c : Line} (he : e.In m) (hc : c.In m) (hp : At m p c.enc) (h1 : e.main.length ≤ 100000) (h2 : e.bonus.length ≤ 100000) : PureCall Tryz.prog 120 [e.val, .pointer (some p)] m (.bool (decide (e.main = c.main ∧ e.bonus = c.bonus))) := by
  refine CallsS.pure ?_
  dsimp only [Line.val]
  refine enter Tryz.func120 Tryz.ntmps120 rfl rfl ?_
  refine SWP_seq (SWP_region ?_)
  refine bx (v := .agg _) rfl rfl (fun B2 => ?_)
  refine pB rfl rfl (SL_nil (nx (SWP_seq (SWP_region ?_))))
  refine lw (v := .agg _) B2 0 rfl rfl rfl rfl ?_
  refine ldA (v := c.val) rfl hp rfl rfl ?_
  refine SL_pcall rfl rfl cb121 (eqLI he hc h1 h2) rfl ?_
  refine pB rfl rfl (SL_nil (nx (SWP_ret ?_)))
  refine fin [_] ⟨rfl, trivial⟩ ?_
  rfl
theorem Line.enc_len (l : Line) : l.enc.length = 2 := rfl
structure Bet where
  la : Option Addr
  lc : Nat
  lines : List Line
  system : Bool
  draws : Int
  addons : Int
def Bet.enc (b : Bet) : List Value := [.slice b.la b.lines.length b.lc, .bool b.system, .int .i64 b.draws, .int .i64 b.addons]
def Bet.val (b : Bet) : Value := .agg #[.slice b.la b.lines.length b.lc, .bool b.system, .int .i64 b.draws, .int .i64 b.addons]
structure Bet.In (m : Mem) (b : Bet) : Prop where
  ls : RL m Line.enc 2 (.slice b.la b.lines.length b.lc) b.lines
  each : ∀ l ∈ b.lines, l.In m
theorem Bet.In.mono {m m' : Mem} {b : Bet} (h : b.In m) (hl : Le m m') : b.In m' := ⟨h.ls.mono hl, fun l hh => (h.each l hh).mono hl⟩
set_option maxRecDepth 100000 in
theorem idxF {m : Mem} {v : Value} {L : List Line} (h : RL m Line.enc 2 v L) (hL : ∀ e ∈ L, e.In m ∧ e.main.length ≤ 100000 ∧ e.bonus.length ≤ 100000) {p : Addr} {c : Line} (hc : c.In m) (hp : At m p c.enc) : CallsS Tryz.prog 155 [v, .func (.func 120) #[] #[.pointer (some p)]].toArray [] m fun r σ' m' => σ' = [] ∧ m' = m ∧ ∃ k : Int, r = .int .i64 k ∧ (0 ≤ k ↔ ∃ e ∈ L, e.main = c.main ∧ e.bonus = c.bonus) := by
  refine CallsS.forget (R := fun r => ∃ k : Int, r = .int .i64 k ∧ (0 ≤ k ↔ ∃ e ∈ L, e.main = c.main ∧ e.bonus = c.bonus)) ?_
  have hsm := h.small
  obtain ⟨pa, pcap, rfl⟩ := h.len
  refine enter Tryz.func155 Tryz.ntmps155 rfl rfl ?_
  refine SWP_seq (SWP_region (pI rfl rfl (SL_nil (nx (SWP_seq (SWP_seq (SWP_region (pL rfl rfl (pu rfl rfl (pI rfl rfl (SL_nil ?_)))))))))))
  refine nx (SWP_block ?_)
  refine SWP_loop [4, 5, 8, 9, 10, 11, 12, 13, 14, 15, 16, 17, 18] [8]
      (fun vs σ' m' => ∃ (i : Nat), vs = [.int .i64 (i : Nat)] ∧ i ≤ L.length ∧ (∀ e ∈ L.take i, ¬ (e.main = c.main ∧ e.bonus = c.bonus)) ∧ σ' = [] ∧ m = m')
      (fun vs => L.length - nOf (vs.getD 0 undef)) rfl ?_ ?_
  · exact ⟨0, rfl, by omega, by simp, rfl, rfl⟩
  intro u0 vs0 σ0 m0 hJ0 _
  obtain ⟨i, rfl, hi, hno, rfl, rfl⟩ := hJ0
  refine SWP_seq (SWP_region ?_)
  refine pc rfl rfl (fun c9 => ?_) (fun c9 => ?_)
  · skip
    refine SL_nil (nx (SWP_seq (SWP_ct rfl (SWP_skip (nx (SWP_seq (SWP_block (SWP_seq ?_))))))))
    obtain ⟨x, hx⟩ : ∃ x, L[i]? = some x := ⟨_, List.getElem?_eq_getElem (by omega)⟩
    obtain ⟨hx1, hx2, hx3⟩ := hL x (List.mem_of_getElem? hx)
    obtain ⟨ad, e0, _, hat⟩ := h.atA Line.enc_len hx
    cases e0
    refine SWP_region (pI rfl rfl (pI rfl rfl (SL_nil (nx (SWP_seq (SWP_region (pu rfl rfl (pL rfl rfl (pI rfl rfl ?_)))))))))
    refine ia (es := 2) rfl rfl rfl rfl rfl rfl (by omega) rfl ?_
    refine ldA (v := x.val) rfl hat rfl rfl ?_
    refine SL_pcallC rfl rfl cb120 (eqF hx1 hc hp hx2 hx3 _) rfl rfl ?_
    refine psp 16 rfl (fun c16 => ?_) (fun c16 => ?_)
    · skip
      refine SL_nil (nx (SWP_ct rfl (SWP_seq (SWP_region (pI rfl rfl (pI rfl rfl (SL_nil (nx (SWP_ret (br (nr ?_)))))))))))
      refine nr (br (nr ?_))
      refine fin [_] ⟨rfl, trivial⟩ ?_
      exact ⟨_, rfl, fun _ => ⟨x, List.mem_of_getElem? hx, by assumption⟩, fun _ => by omega⟩
    refine SL_nil (nx (SWP_cf rfl (SWP_skip (nb (nx (SWP_region ?_))))))
    refine pw rfl rfl (w64 (by omega) (by omega)) ?_
    refine pI rfl rfl (SL_nil (nx ?_))
    refine ⟨by repeat (first | exact Under.upds rfl (Under.hav _ _ _) | exact Under.hav _ _ _ | refine Under.upd rfl ?_), ?_, ?_⟩
    · refine ⟨i + 1, rfl, by omega, fun y hy => ?_, rfl, rfl⟩
      rw [take_snocA hx] at hy
      rcases List.mem_append.1 hy with hy | hy
      · exact hno y hy
      · rw [List.mem_singleton.1 hy]; assumption
    · simp only [L_vals, List.map, List.getD]; show L.length - (i + 1) < L.length - i; omega
  refine SL_nil (nx (SWP_seq (SWP_cf rfl (SWP_exit (ne (ne (be rfl (nx (SWP_seq (SWP_region (pI rfl rfl ?_)))))))))))
  refine SL_nil (nx (SWP_ret ?_))
  refine fin [_] ⟨rfl, trivial⟩ ?_
  refine ⟨_, rfl, fun h => by omega, fun ⟨e, he, hee⟩ => ?_⟩
  rw [List.take_of_length_le (by omega)] at hno
  exact absurd hee (hno e he)
set_option maxRecDepth 100000 in
theorem contF {m : Mem} {v : Value} {L : List Line} (h : RL m Line.enc 2 v L) (hL : ∀ e ∈ L, e.In m ∧ e.main.length ≤ 100000 ∧ e.bonus.length ≤ 100000) {p : Addr} {c : Line} (hc : c.In m) (hp : At m p c.enc) : PureCall Tryz.prog 122 [v, .func (.func 120) #[] #[.pointer (some p)]] m (.bool (decide (∃ e ∈ L, e.main = c.main ∧ e.bonus = c.bonus))) := by
  refine CallsS.pure ?_
  refine enter Tryz.func122 Tryz.ntmps122 rfl rfl ?_
  refine SWP_seq (SWP_region (pB rfl rfl (SL_nil (nx (SWP_seq (SWP_region (pu rfl rfl (pu rfl rfl ?_))))))))
  refine SL_call rfl rfl cb155 (idxF h hL hc hp) rfl (fun v1_2 σ1_2 m1_2 hl1_2 hR1_2 => ?_)
  obtain ⟨rfl, hm1_2, k, rfl, hk⟩ := hR1_2
  have hn1_2 := hm1_2.symm
  subst hn1_2
  refine pu rfl rfl (pB rfl rfl (SL_nil (nx (SWP_ret ?_))))
  refine fin [_] ⟨rfl, trivial⟩ ?_
  exact congrArg Value.bool (decide_eq_decide.2 hk)
end Go.Proofs.YtlgoegjboabgfaaGreatDoor
namespace Go.Proofs.YtlgoegjboabgfaaGreatDoor
open Eng
theorem cloneF {m : Mem} {v : Value} {l : List Int} (h : RL m intE 1 v l) (hl : l.length ≤ 100000) : CallsS Tryz.prog 73 [v].toArray [] m fun r σ' m' => σ' = [] ∧ RL m' intE 1 r l :=
  CallsS.ghost (cloneI h hl) fun v σ' m' ⟨hm, hown⟩ g0 W hC => by
    obtain ⟨m2, h1, h2, h3⟩ := hown.freezeL (τ := []) (by omega) intE_len (by simpa using hC)
    exact ⟨[], m2, h2, h1, rfl, h3⟩
def canonL (g : Game) (l : Line) : List Int × List Int := if g.kind = 2 then (l.main, l.bonus) else (l.main.mergeSort leI, l.bonus.mergeSort leI)
def IsCanon (g : Game) (l : Line) (r : Value) (m : Mem) : Prop := ∃ c : Line, r = c.val ∧ c.In m ∧ c.main = (canonL g l).1 ∧ c.bonus = (canonL g l).2
noncomputable def sizeE (g : Game) (sys : Bool) (l : Line) : Int := if sys = true then sysErr g l else lineErr g l
noncomputable def sizeN (g : Game) (sys : Bool) (l : Line) : Nat := if sys = true then (if sysErr g l ≠ 0 then 0 else ch l.main.length g.main.toNat) else 1
theorem sysOk_num {g : Game} {l : Line} (h : sysErr g l = 0) : 0 ≤ g.main ∧ g.main ≤ 10 ∧ g.main < l.main.length ∧ l.main.length ≤ 14 := by
  have hs := sysOk h
  have hk := sysG_ok hs.g0
  have hg := gameOk hk.1
  have h1 := hs.ml
  have h2 := hg.mx.h2
  have h16 := (hg.mx.h16 (by omega)).1
  omega
set_option maxRecDepth 100000 in
theorem canonG {m : Mem} {g : Game} {l : Line} (h : l.In m) (h1 : l.main.length ≤ 100000) (h2 : l.bonus.length ≤ 100000) : CallsS Tryz.prog 119 [g.val, l.val].toArray [] m fun r σ' m' => σ' = [] ∧ IsCanon g l r m' := by
  refine CallsS.ghost (R' := fun r σ' m' => IsCanon g l r m') ?_ ?h2
  case h2 =>
    rintro r σ' m' hr g0 W hC
    exact ⟨_, m', hC.sublist (List.nil_sublist _), Le.refl _, rfl, hr⟩
  dsimp only [Line.val, Game.val]
  refine enter Tryz.func119 Tryz.ntmps119 rfl rfl ?_
  refine SWP_seq (SWP_region ?_)
  refine bx (v := .agg _) rfl rfl (fun B2 => ?_)
  refine bx (v := .agg _) rfl rfl (fun B3 => ?_)
  refine al rfl rfl (fun B4 => ?_)
  refine SL_nil (nx (SWP_seq (SWP_seq (SWP_region (pu rfl rfl ?_)))))
  refine lw (v := .int .i64 _) B2 1 rfl rfl rfl rfl ?_
  refine pc rfl rfl (fun c7 => ?_) (fun c7 => ?_)
  · skip
    refine SL_nil (nx (SWP_ct rfl (SWP_seq ?_)))
    refine SWP_drawn [(B3, Cells 142 l.enc), (B2, Cells 31 g.enc)] [0, 1, 3, 4, 2, 5, 6, 7] (by kernel_rfl) (by kernel_rfl) (Sub.cons _ (Sub.refl _)) ?_
    refine pu rfl rfl ?_
    refine lw (v := .slice _ _ _) B3 0 rfl rfl rfl rfl ?_
    refine pu rfl rfl ?_
    refine lw (v := .slice _ _ _) B3 1 rfl rfl rfl rfl ?_
    refine SL_call rfl rfl cb73 (CallsS.frame0 (cloneF h.mn h1)) rfl (fun v2_2 σ2_2 m2_2 hl2_2 hR2_2 => ?_)
    obtain ⟨σa, rfl, rfl, hra⟩ := hR2_2
    obtain ⟨aa, ac, rfl⟩ := hra.len
    refine SL_call rfl rfl cb73 (CallsS.frame0 (cloneF (h.bn.mono hl2_2) h2)) rfl (fun v2_5 σ2_5 m2_5 hl2_5 hR2_5 => ?_)
    obtain ⟨σb, rfl, rfl, hrb⟩ := hR2_5
    obtain ⟨ba, bc, rfl⟩ := hrb.len
    refine pA rfl rfl ?_
    refine sw (v := .agg _) B4 0 rfl rfl rfl rfl rfl rfl rfl ?_
    refine SL_nil (nx (SWP_ret (nr ?_)))
    refine fin [_] ⟨⟨_, _, rfl, Rd.of_cells (MemO.mem (B := B4)), rfl⟩, trivial⟩ ?_
    exact ⟨⟨aa, ac, _, ba, bc, _⟩, rfl, ⟨hra.mono hl2_5, hrb⟩, by unfold canonL; rw [if_pos (by assumption)], by unfold canonL; rw [if_pos (by assumption)]⟩
  refine SL_nil (nx (SWP_cf rfl (SWP_skip (nx (SWP_seq (SWP_region ?_))))))
  refine lw (v := .agg _) B3 0 rfl rfl rfl rfl ?_
  refine SL_call rfl rfl cb153 (CallsS.frame0 (canonI h h1 h2)) rfl (fun v3_1 σ3_1 m3_1 hl3_1 hR3_1 => ?_)
  obtain ⟨σc, rfl, rfl, hcc⟩ := hR3_1
  obtain ⟨c, rfl, hci, hc1, hc2⟩ := hcc
  refine sw (v := .agg _) B4 0 rfl rfl rfl rfl rfl rfl rfl ?_
  refine SL_nil (nx (SWP_ret ?_))
  refine fin [_] ⟨⟨_, _, rfl, Rd.of_cells (MemO.mem (B := B4)), rfl⟩, trivial⟩ ?_
  exact ⟨c, rfl, hci, by unfold canonL; rw [if_neg (by assumption)]; exact hc1, by unfold canonL; rw [if_neg (by assumption)]; exact hc2⟩
theorem countZ2 {m : Mem} {g : Game} {l : Line} (h : sysErr g l = 0) : PureCall Tryz.prog 131 [.int .i64 (l.main.length : Nat), .int .i64 g.main] m (.tuple #[.int .i64 ((ch l.main.length g.main.toNat : Nat) : Int), .int .i64 0]) := by
  have hn := sysOk_num h
  have e := countZ (m := m) (n := (l.main.length : Int)) (k := g.main) (by omega) (by omega) (by omega)
  rwa [Int.toNat_natCast] at e
set_option maxRecDepth 100000 in
theorem sysCI {m : Mem} {g : Game} {l : Line} (hin : g.In m) (hl : l.In m) : PureCall Tryz.prog 117 [g.val, l.val] m (.tuple #[.int .i64 (sizeN g true l : Nat), .int .i64 (sysErr g l)]) := by
  refine CallsS.pure ?_
  dsimp only [Game.val, Line.val]
  refine enter Tryz.func117 Tryz.ntmps117 rfl rfl ?_
  refine SWP_seq (SWP_region ?_)
  refine bx (v := .agg _) rfl rfl (fun B2 => ?_)
  refine bx (v := .agg _) rfl rfl (fun B3 => ?_)
  refine pI rfl rfl (pI rfl rfl (SL_nil (nx (SWP_seq (SWP_seq (SWP_region ?_))))))
  refine lw (v := .agg _) B2 0 rfl rfl rfl rfl ?_
  refine lw (v := .agg _) B3 0 rfl rfl rfl rfl ?_
  refine SL_pcall rfl rfl cb150 (sysI hin hl) rfl ?_
  refine pI rfl rfl (SL_nil (nx (SWP_seq (SWP_region (pI rfl rfl ?_)))))
  refine pc rfl rfl (fun c11 => ?_) (fun c11 => ?_)
  · skip
    refine SL_nil (nx (SWP_ct rfl (SWP_seq (SWP_region (pI rfl rfl (pI rfl rfl (pI rfl rfl (SL_nil (nx (SWP_ret (nr ?_)))))))))))
    refine fin [_, _] ⟨rfl, rfl, trivial⟩ ?_
    have e : sizeN g true l = 0 := (if_pos rfl).trans (if_pos (by assumption))
    rw [e]
    rfl
  refine SL_nil (nx (SWP_cf rfl (SWP_skip (nx (SWP_seq ?_)))))
  have hz : sysErr g l = 0 := Classical.not_not.1 (by assumption)
  refine SWP_region (pu rfl rfl ?_)
  refine lw (v := .slice _ _ _) B3 0 rfl rfl rfl rfl ?_
  refine pu rfl rfl (pu rfl rfl ?_)
  refine lw (v := .int .i64 _) B2 3 rfl rfl rfl rfl ?_
  refine SL_pcall rfl rfl cb131 (countZ2 hz) rfl ?_
  refine pI rfl rfl (pI rfl rfl (pI rfl rfl (pI rfl rfl (SL_nil (nx (SWP_ret ?_))))))
  refine fin [_, _] ⟨rfl, rfl, trivial⟩ ?_
  have e : sizeN g true l = ch l.main.length g.main.toNat := (if_pos rfl).trans (if_neg (fun hh => hh hz))
  rw [e, hz]
  rfl
set_option maxRecDepth 100000 in
theorem sizeI {m : Mem} {g : Game} {l : Line} (hin : g.In m) (hl : l.In m) {pb pg : Addr} {b : Bet} (hpg : At m pg g.enc) (hpb : At m pb b.enc) : PureCall Tryz.prog 116 [l.val, .pointer (some pb), .pointer (some pg)] m (.tuple #[.int .i64 (sizeN g b.system l : Nat), .int .i64 (sizeE g b.system l)]) := by
  refine CallsS.pure ?_
  dsimp only [Line.val]
  refine enter Tryz.func116 Tryz.ntmps116 rfl rfl ?_
  refine SWP_seq (SWP_region ?_)
  refine bx (v := .agg _) rfl rfl (fun B3 => ?_)
  refine pI rfl rfl (pI rfl rfl (SL_nil (nx (SWP_seq (SWP_seq (SWP_region (pu rfl rfl ?_)))))))
  refine ldF (off := 1) (v := .bool b.system) rfl rfl hpb rfl rfl ?_
  refine bsp 7 rfl (fun b7 => ?_) (fun b7 => ?_)
  · skip
    refine SL_nil (nx (SWP_ct rfl (SWP_seq (SWP_region ?_))))
    refine ldA (v := g.val) rfl hpg rfl rfl ?_
    refine lw (v := .agg _) B3 0 rfl rfl rfl rfl ?_
    refine SL_pcall rfl rfl cb117 (sysCI hin hl) rfl ?_
    refine pI rfl rfl (pI rfl rfl (pI rfl rfl (pI rfl rfl (SL_nil (nx (SWP_ret (nr ?_)))))))
    refine fin [_, _] ⟨rfl, rfl, trivial⟩ ?_
    rw [show b.system = true by assumption]
    rfl
  refine SL_nil (nx (SWP_cf rfl (SWP_skip (nx (SWP_seq (SWP_region ?_))))))
  refine ldA (v := g.val) rfl hpg rfl rfl ?_
  refine lw (v := .agg _) B3 0 rfl rfl rfl rfl ?_
  refine SL_pcall rfl rfl cb118 (lineI hin hl) rfl ?_
  refine pI rfl rfl (pI rfl rfl (SL_nil (nx (SWP_ret ?_))))
  refine fin [_, _] ⟨rfl, rfl, trivial⟩ ?_
  rw [show b.system = false by assumption]
  rfl
end Go.Proofs.YtlgoegjboabgfaaGreatDoor
namespace Go.Proofs.YtlgoegjboabgfaaGreatDoor
open Eng
def firstE : List Int → Int
  | [] => 0
  | e :: r => if e ≠ 0 then e else firstE r
theorem firstE_at {f : Nat → Int} {e : Int} (he : e ≠ 0) : ∀ {n i : Nat} (s : Nat), (∀ j, j < i → f (s + j) = 0) → i < n → f (s + i) = e → firstE ((List.range' s n).map f) = e
  | 0, i, _, _, hi, _ => absurd hi (Nat.not_lt_zero i)
  | n + 1, 0, s, _, _, hf => by
    rw [List.range'_succ, List.map_cons, firstE, if_pos (by rw [Nat.add_zero] at hf; rw [hf]; exact he)]
    exact hf
  | n + 1, i + 1, s, h, hi, hf => by
    rw [List.range'_succ, List.map_cons, firstE, if_neg (by have := h 0 (by omega); rw [Nat.add_zero] at this; omega)]
    exact firstE_at (i := i) he (s + 1) (fun j hj => by have := h (j + 1) (by omega); rw [show s + 1 + j = s + (j + 1) by omega]; exact this) (by omega) (by rw [show s + 1 + i = s + (i + 1) by omega]; exact hf)
theorem firstE_zero {f : Nat → Int} : ∀ {n : Nat} (s : Nat), (firstE ((List.range' s n).map f) = 0 ↔ ∀ j, j < n → f (s + j) = 0)
  | 0, s => by simp [firstE]
  | n + 1, s => by
    rw [List.range'_succ, List.map_cons, firstE]
    by_cases h0 : f s = 0
    · rw [if_neg (by omega), firstE_zero (s + 1)]
      constructor
      · intro h j hj
        cases j with
        | zero => exact h0
        | succ j => have := h j (by omega); rw [show s + (j + 1) = s + 1 + j by omega]; exact this
      · intro h j hj
        have := h (j + 1) (by omega); rw [show s + 1 + j = s + (j + 1) by omega]; exact this
    · rw [if_pos h0]
      exact ⟨fun h => absurd h h0, fun h => h 0 (by omega)⟩
noncomputable def lnAt (g : Game) (sys : Bool) (L : List Line) (i : Nat) : Int := match L[i]? with
  | none => 0
  | some l => if sizeE g sys l ≠ 0 then sizeE g sys l else if canonL g l ∈ (L.take i).map (canonL g) then 6 else 0
noncomputable def lnErr (g : Game) (sys : Bool) (L : List Line) : Int := firstE ((List.range' 0 L.length).map (lnAt g sys L))
noncomputable def totN (g : Game) (sys : Bool) (L : List Line) : Nat := (L.map (sizeN g sys)).sum
noncomputable def betErr (g : Game) (b : Bet) : Int :=
  if gameErr g ≠ 0 then gameErr g
  else if ¬ (1 ≤ b.lines.length ∧ b.lines.length ≤ 16) then 3
  else if lnErr g b.system b.lines ≠ 0 then lnErr g b.system b.lines
  else if 1024 < totN g b.system b.lines then 3
  else if ¬ (1 ≤ b.draws ∧ b.draws ≤ g.draws) then 2
  else if ¬ (0 ≤ b.addons ∧ b.addons < 2 ^ g.addons.length) then 2 else 0
theorem lnAt_some {g : Game} {sys : Bool} {L : List Line} {i : Nat} {l : Line} (h : L[i]? = some l) : lnAt g sys L i = if sizeE g sys l ≠ 0 then sizeE g sys l else if canonL g l ∈ (L.take i).map (canonL g) then 6 else 0 := by
  unfold lnAt; rw [h]
theorem lnErr_at {g : Game} {sys : Bool} {L : List Line} {e : Int} {i : Nat} (he : e ≠ 0) (h : ∀ j, j < i → lnAt g sys L j = 0) (hi' : i < L.length) (hf : lnAt g sys L i = e) : lnErr g sys L = e :=
  firstE_at he 0 (fun j hj => by rw [Nat.zero_add]; exact h j hj) hi' (by rw [Nat.zero_add]; exact hf)
theorem lnErr_zero {g : Game} {sys : Bool} {L : List Line} : lnErr g sys L = 0 ↔ ∀ j, j < L.length → lnAt g sys L j = 0 := by
  unfold lnErr
  rw [firstE_zero]
  constructor
  · intro h j hj; have := h j hj; rwa [Nat.zero_add] at this
  · intro h j hj; have := h j hj; rwa [Nat.zero_add]
theorem size_small {g : Game} {sys : Bool} {l : Line} (h : sizeE g sys l = 0) : l.main.length ≤ 14 ∧ l.bonus.length ≤ 4 ∧ sizeN g sys l ≤ 100000 := by
  cases sys with
  | true =>
    have h' : sysErr g l = 0 := h
    have hs := sysOk h'
    have hn := sysOk_num h'
    have hk := sysG_ok hs.g0
    have hg := gameOk hk.1
    have h7 := hg.mx.h7 (by omega)
    have hb := hs.bl
    refine ⟨by omega, by omega, ?_⟩
    rw [show sizeN g true l = ch l.main.length g.main.toNat from (if_pos rfl).trans (if_neg (fun hh => hh h'))]
    exact ch_small _ _ hn.2.2.2
  | false =>
    have h' : lineErr g l = 0 := h
    unfold lineErr at h'
    by_cases h1 : gameErr g ≠ 0
    · rw [if_pos h1] at h'; exact absurd h' h1
    rw [if_neg h1] at h'
    by_cases h2 : (l.main.length : Int) ≠ g.main ∨ (l.bonus.length : Int) ≠ g.bonus
    · rw [if_pos h2] at h'; exact absurd h' (by decide)
    have hg := gameOk (Classical.not_not.1 h1)
    have q2 := hg.mx.h2
    have q5 := hg.mx.h5
    have q6 := hg.mx.h6
    have q7 := hg.mx.h7
    have qk := hg.kind
    refine ⟨by omega, by omega, ?_⟩
    show 1 ≤ 100000
    decide
theorem addons_few {g : Game} (h : GameOk g) : g.addons.length ≤ 4 := by
  have := h.ad
  unfold addonsErr at this
  split at this
  · cases this
  · omega
theorem permI1 {α : Type} (x a b : α) (s : List α) : (x :: (s ++ [a, b])).Perm (a :: b :: (x :: s)) := by
  classical
  rw [List.perm_iff_count]
  intro y
  simp only [List.count_cons, List.count_append, List.count_nil]
  omega
theorem permI2 {α : Type} (x y : α) (s t : List α) : (x :: y :: (s ++ t)).Perm (s ++ (x :: y :: t)) := by
  classical
  rw [List.perm_iff_count]
  intro z
  simp only [List.count_cons, List.count_append]
  omega
theorem permI3 {α : Type} (x y z : α) (s t : List α) : (x :: y :: z :: (s ++ t)).Perm (s ++ (x :: y :: z :: t)) := by
  classical
  rw [List.perm_iff_count]
  intro u
  simp only [List.count_cons, List.count_append]
  omega
theorem Line.all_one : ∀ L : List Line, (L.flatMap Line.enc).all (·.oneCell') = true
  | [] => rfl
  | x :: l => by rw [List.flatMap_cons, List.all_append, Line.all_one l]; rfl
theorem keyL_mem {g : Game} {l : Line} {E : List Line} {X : List (List Int × List Int)} (h : E.map (fun e => (e.main, e.bonus)) = X) {c : Line} (h1 : c.main = (canonL g l).1) (h2 : c.bonus = (canonL g l).2) : (∃ e ∈ E, e.main = c.main ∧ e.bonus = c.bonus) ↔ canonL g l ∈ X := by
  subst h
  rw [List.mem_map]
  constructor
  · rintro ⟨e, he, e1, e2⟩; exact ⟨e, he, by rw [e1, e2, h1, h2]⟩
  · rintro ⟨e, he, e1⟩
    refine ⟨e, he, ?_, ?_⟩
    · rw [h1, ← e1]
    · rw [h2, ← e1]
theorem totN_snoc {g : Game} {sys : Bool} {L : List Line} {i : Nat} {l : Line} (h : L[i]? = some l) : totN g sys (L.take (i + 1)) = totN g sys (L.take i) + sizeN g sys l := by
  unfold totN
  rw [take_snocA h, List.map_append, List.sum_append]
  simp
theorem canon_len {g : Game} {l : Line} : (canonL g l).1.length = l.main.length ∧ (canonL g l).2.length = l.bonus.length := by
  unfold canonL
  split
  · exact ⟨rfl, rfl⟩
  · exact ⟨(List.mergeSort_perm _ _).length_eq, (List.mergeSort_perm _ _).length_eq⟩
theorem div_pow {a : Int} {k : Nat} (h : 0 ≤ a) : (a / 2 ^ k ≠ 0 ↔ ¬ a < 2 ^ k) := by
  have hp : (0 : Int) < 2 ^ k := Int.pow_pos (by decide)
  constructor
  · intro h1 h2
    exact h1 (Int.ediv_eq_zero_of_lt h h2)
  · intro h1 h2
    have := Int.emod_add_mul_ediv a (2 ^ k)
    rw [h2, Int.mul_zero] at this
    have h3 := Int.emod_lt_of_pos a hp
    omega
set_option maxRecDepth 100000 in
theorem checkB {m : Mem} {g : Game} {b : Bet} (hin : g.In m) (hb : b.In m) : PureCall Tryz.prog 85 [g.val, b.val] m (.tuple #[.int .i64 (if betErr g b ≠ 0 then 0 else totN g b.system b.lines : Nat), .int .i64 (betErr g b)]) := by
  refine CallsS.pure ?_
  refine CallsS.mono (R := fun r _ _ => ∃ e : Int, betErr g b = e ∧ ((e ≠ 0 ∧ r = .tuple #[.int .i64 0, .int .i64 e]) ∨ (e = 0 ∧ r = .tuple #[.int .i64 (totN g b.system b.lines : Nat), .int .i64 0]))) ?_ (fun v _ _ _ h => ?h2)
  case h2 =>
    obtain ⟨e, h1, ⟨h2, rfl⟩ | ⟨h2, rfl⟩⟩ := h
    · rw [h1, if_pos h2]; rfl
    · rw [h1, h2, if_neg (fun hh => hh rfl)]
  dsimp only [Game.val, Bet.val]
  refine enter Tryz.func85 Tryz.ntmps85 rfl rfl ?_
  refine SWP_seq (SWP_region ?_)
  refine bx (v := .agg _) rfl rfl (fun B2 => ?_)
  refine bx (v := .agg _) rfl rfl (fun B3 => ?_)
  refine pI rfl rfl (pI rfl rfl (SL_nil (nx (SWP_seq (SWP_seq (SWP_region ?_))))))
  refine lw (v := .agg _) B2 0 rfl rfl rfl rfl ?_
  refine SL_call rfl rfl cb91 (CallsS.frame0 (countG hin)) rfl (fun v1_1 σ1_1 m1_1 hl1_1 hR1_1 => ?_)
  obtain ⟨σc, rfl, rfl, hm1_1, z0, rfl⟩ := hR1_1
  have hn1_1 := hm1_1.symm
  subst hn1_1
  refine pu rfl rfl (pI rfl rfl (pI rfl rfl (pI rfl rfl (pI rfl rfl (SL_nil (nx (SWP_seq (SWP_region (pI rfl rfl ?_)))))))))
  refine pc rfl rfl (fun c23 => ?_) (fun c23 => ?_)
  · skip
    refine SL_nil (nx (SWP_ct rfl (SWP_seq (SWP_region (pI rfl rfl (pI rfl rfl (pI rfl rfl (SL_nil (nx (SWP_ret (nr ?_)))))))))))
    refine fin [_, _] ⟨rfl, rfl, trivial⟩ ?_
    exact ⟨_, if_pos (by assumption), .inl ⟨by assumption, rfl⟩⟩
  refine SL_nil (nx (SWP_cf rfl (SWP_skip (nx (SWP_seq (SWP_seq ?_))))))
  have hz : gameErr g = 0 := Classical.not_not.1 (by assumption)
  have hg := gameOk hz
  refine SWP_region (pu rfl rfl ?_)
  refine lw (v := .slice _ _ _) B3 0 rfl rfl rfl rfl ?_
  refine pu rfl rfl ?_
  refine pc rfl rfl (fun c28 => ?_) (fun c28 => ?_)
  · skip
    refine pB rfl rfl (SL_no rfl rfl (SL_no rfl rfl (SL_no rfl rfl (SL_no rfl rfl (pB rfl rfl (SL_nil (nx (SWP_ct rfl (SWP_seq (SWP_region (pI rfl rfl ?_)))))))))))
    refine pI rfl rfl (SL_nil (nx (SWP_ret (nr ?_))))
    refine fin [_, _] ⟨rfl, rfl, trivial⟩ ?_
    exact ⟨3, (if_neg (fun hh => hh hz)).trans (if_pos (by omega)), .inl ⟨by decide, rfl⟩⟩
  refine pB rfl rfl (SL_yes rfl (pu rfl rfl (SL_yes rfl ?_)))
  refine lw (v := .slice _ _ _) B3 0 rfl rfl rfl rfl ?_
  refine SL_yes rfl (pu rfl rfl (SL_yes rfl ?_))
  refine pc rfl rfl (fun c33 => ?_) (fun c33 => ?_)
  · skip
    refine pB rfl rfl (SL_nil (nx (SWP_ct rfl (SWP_seq (SWP_region (pI rfl rfl (pI rfl rfl (SL_nil (nx (SWP_ret (nr ?_)))))))))))
    refine fin [_, _] ⟨rfl, rfl, trivial⟩ ?_
    exact ⟨3, (if_neg (fun hh => hh hz)).trans (if_pos (by omega)), .inl ⟨by decide, rfl⟩⟩
  refine pB rfl rfl (SL_nil (nx (SWP_cf rfl (SWP_skip (nx (SWP_seq ?_))))))
  have hlen : 1 ≤ b.lines.length ∧ b.lines.length ≤ 16 := by omega
  refine SWP_region (pu rfl rfl (pu rfl rfl (SL_nil (nx (SWP_seq (SWP_region (pI rfl rfl (SL_nil (nx (SWP_seq (SWP_region ?_)))))))))))
  refine pu rfl rfl ?_
  refine lw (v := .slice _ _ _) B3 0 rfl rfl rfl rfl ?_
  refine pu rfl rfl ?_
  refine mk0 (size := 2) (bytes := 48) rfl rfl rfl rfl rfl rfl rfl (by omega) (by unfold maxLen; omega) rfl (fun B39 => ?_)
  refine pL rfl rfl (SL_nil (nx (SWP_seq (SWP_seq (SWP_region (pu rfl rfl ?_))))))
  refine lw (v := .slice _ _ _) B3 0 rfl rfl rfl rfl ?_
  refine pu rfl rfl (pI rfl rfl (SL_nil (nx (SWP_block ?_))))
  refine SWP_loop [4, 5, 9, 10, 12, 13, 14, 15, 16, 43, 44, 45, 46, 47, 48, 49, 50, 51, 52, 53, 54, 55, 56, 57, 58, 59, 60, 61, 62, 63, 64, 65, 66, 67, 68, 69, 70] [9, 10, 43]
      (fun vs σ' m' => ∃ (i : Nat) (w : Value) (E : List Line) (σe : Sig), vs = [.int .i64 (totN g b.system (b.lines.take i) : Nat), w, .int .i64 (i : Nat)] ∧ i ≤ b.lines.length ∧ (∀ j, j < i → lnAt g b.system b.lines j = 0) ∧ OwnS 142 2 w (E.flatMap Line.enc) σe ∧ E.map (fun e => (e.main, e.bonus)) = (b.lines.take i).map (canonL g) ∧ (∀ e ∈ E, e.In m' ∧ e.main.length ≤ 100000 ∧ e.bonus.length ≤ 100000) ∧ totN g b.system (b.lines.take i) ≤ i * 100000 ∧ σ' = σe ++ [(B3, Cells 51 b.enc), (B2, Cells 31 g.enc)] ∧ Le m m')
      (fun vs => b.lines.length - nOf (vs.getD 2 undef)) rfl ?_ ?_
  · exact ⟨0, .slice (some ⟨B39, 0, none⟩) 0 _, [], _, rfl, by omega, fun j hj => (by omega), .row B39 0 _ [] rfl (Nat.zero_le _) (by unfold maxLen; omega), rfl, fun e he => (by cases he), Nat.le_refl _, rfl, Le.refl _⟩
  intro u0 vs0 σ0 m0 hJ0 _
  obtain ⟨i, w, E, σe, rfl, hi, hln, hown, hK, hE, ht, rfl, hle⟩ := hJ0
  refine SWP_seq (SWP_region ?_)
  refine pc rfl rfl (fun c44 => ?_) (fun c44 => ?_)
  · skip
    refine SL_nil (nx (SWP_seq (SWP_ct rfl (SWP_skip (nx (SWP_seq (SWP_block (SWP_seq ?_))))))))
    obtain ⟨l, hl⟩ : ∃ l, b.lines[i]? = some l := ⟨_, List.getElem?_eq_getElem (by omega)⟩
    obtain ⟨ad, e0, _, hat⟩ := hb.ls.atA Line.enc_len hl
    rw [e0]
    refine SWP_region ?_
    refine ia (es := 2) rfl rfl rfl rfl rfl rfl (by omega) rfl ?_
    refine ldA (v := l.val) rfl (hat.mono hle) rfl rfl ?_
    rw [← e0]
    refine al rfl rfl (fun B12 => ?_)
    refine sw (v := .agg _) B12 0 rfl rfl rfl rfl rfl rfl rfl ?_
    refine SL_nil (nx (SWP_seq (SWP_region (pu rfl rfl ?_))))
    refine lw (v := .agg _) B12 0 rfl rfl rfl rfl ?_
    refine SL_pcallC rfl rfl cb116 (CallsS.permP (lendC fun m1 l1 h3 => lendC fun m2 l2 h2 => sizeI (hin.mono (hle.trans (l1.trans l2))) ((hb.each l (List.mem_of_getElem? hl)).mono (hle.trans (l1.trans l2))) h2 (h3.mono l2) _) (permI1 _ _ _ _)) rfl rfl ?_
    refine pu rfl rfl (pI rfl rfl (pI rfl rfl (pI rfl rfl (pI rfl rfl (SL_nil (nx (SWP_seq (SWP_seq (SWP_region (pI rfl rfl ?_))))))))))
    refine pc rfl rfl (fun c54 => ?_) (fun c54 => ?_)
    · skip
      refine SL_nil (nx (SWP_ct rfl (SWP_seq (SWP_region (pI rfl rfl (pI rfl rfl (pI rfl rfl (SL_nil (nx (SWP_ret (nr ?_)))))))))))
      refine br (nr (nr (br (nr ?_))))
      refine fin [_, _] ⟨rfl, rfl, trivial⟩ ?_
      have hle0 : lnErr g b.system b.lines = sizeE g b.system l := lnErr_at (by assumption) hln (by omega) (by rw [lnAt_some hl]; exact if_pos (by assumption))
      exact ⟨_, (if_neg (fun hh => hh hz)).trans ((if_neg (fun hh => hh hlen)).trans ((if_pos (by rw [hle0]; assumption)).trans hle0)), .inl ⟨by assumption, rfl⟩⟩
    refine SL_nil (nx (SWP_cf rfl (SWP_skip (nx (SWP_seq ?_)))))
    have hsz : sizeE g b.system l = 0 := Classical.not_not.1 (by assumption)
    have hsm := size_small hsz
    refine SWP_region ?_
    refine lw (v := .agg _) B2 0 rfl rfl rfl rfl ?_
    refine lw (v := .agg _) B12 0 rfl rfl rfl rfl ?_
    refine SL_call rfl rfl cb119 (CallsS.frame0 (canonG ((hb.each l (List.mem_of_getElem? hl)).mono hle) (by omega) (by omega))) rfl (fun v15_2 σ15_2 m15_2 hl15_2 hR15_2 => ?_)
    obtain ⟨σc, rfl, rfl, c, rfl, hci, hc1, hc2⟩ := hR15_2
    have hE2 : ∀ e ∈ E, e.In m15_2 ∧ e.main.length ≤ 100000 ∧ e.bonus.length ≤ 100000 := fun e he => ⟨(hE e he).1.mono hl15_2, (hE e he).2⟩
    have hle2 := hle.trans hl15_2
    refine al rfl rfl (fun B15 => ?_)
    refine sw (v := .agg _) B15 0 rfl rfl rfl rfl rfl rfl rfl ?_
    refine SL_nil (nx (SWP_seq (SWP_region (pu rfl rfl (pu rfl rfl (SL_nil (nx (SWP_seq (SWP_seq (SWP_region (pu rfl rfl ?_)))))))))))
    refine pu rfl rfl ?_
    refine SL_pcallS rfl rfl cb122 (CallsS.permP (lendS (by decide) Line.enc_len hown fun m1 l1 hr => lendC fun m2 l2 hp => contF (hr.mono l2) (fun e he => ⟨(hE2 e he).1.mono (l1.trans l2), (hE2 e he).2⟩) (hci.mono (l1.trans l2)) hp _) (permI2 _ _ _ _)) rfl ?_
    refine psp 62 rfl (fun c62 => ?_) (fun c62 => ?_)
    · skip
      refine SL_nil (nx (SWP_ct rfl (SWP_seq (SWP_region (pI rfl rfl (pI rfl rfl (SL_nil (nx (SWP_ret (nr (br ?_)))))))))))
      refine nr (nr (br (nr ?_)))
      refine fin [_, _] ⟨rfl, rfl, trivial⟩ ?_
      have hle0 : lnErr g b.system b.lines = 6 := lnErr_at (by decide) hln (by omega) (by rw [lnAt_some hl]; exact (if_neg (fun hh => hh hsz)).trans (if_pos ((keyL_mem hK hc1 hc2).1 (by assumption))))
      exact ⟨_, (if_neg (fun hh => hh hz)).trans ((if_neg (fun hh => hh hlen)).trans ((if_pos (by rw [hle0]; decide)).trans hle0)), .inl ⟨by decide, rfl⟩⟩
    refine SL_nil (nx (SWP_cf rfl (SWP_skip (nx (SWP_seq ?_)))))
    have hEl : E.length = i := by have := congrArg List.length hK; rw [List.length_map, List.length_map, List.length_take] at this; omega
    refine SWP_region (pu rfl rfl ?_)
    refine lw (v := .agg _) B15 0 rfl rfl rfl rfl ?_
    refine bs rfl rfl rfl rfl rfl (fun B65 => ?_)
    refine ap (e := 142) (size := 2) (bytes := 48) rfl rfl rfl rfl rfl rfl rfl hown (permI3 _ _ _ _ _) rfl (Rd.of_cells (.head _)) rfl rfl (by rw [flatMap_len Line.enc_len]; omega) rfl rfl (fun v66 σ66 hown66 => ?_)
    refine SL_weak (List.Sublist.append_left (((List.Sublist.refl _).cons _).cons _ |>.cons _) _) ?_
    refine pu rfl rfl (SL_nil (nx (SWP_region (pI rfl rfl (pI rfl rfl ?_)))))
    refine pw rfl rfl (w64 (by omega) (by omega)) ?_
    refine pI rfl rfl (SL_nil (nb (nx (SWP_region ?_))))
    refine pw rfl rfl (w64 (by omega) (by omega)) ?_
    refine pI rfl rfl (SL_nil (nx ?_))
    refine ⟨by repeat (first | exact Under.upds rfl (Under.hav _ _ _) | exact Under.hav _ _ _ | refine Under.upd rfl ?_), ?_, ?_⟩
    · refine ⟨i + 1, v66, E ++ [c], σ66, ?_, by omega, fun j hj => ?_, ?_, ?_, fun e he => ?_, ?_, rfl, hle2⟩
      · rw [totN_snoc hl]; simp only [L_vals, List.map]; first | rfl | simp
      · by_cases e : j = i
        · subst e
          rw [lnAt_some hl]
          exact (if_neg (fun hh => hh hsz)).trans (if_neg (fun hh => by have := (keyL_mem hK hc1 hc2).2 hh; contradiction))
        · exact hln j (by omega)
      · rw [List.flatMap_append]; exact hown66
      · rw [List.map_append, hK, take_snocA hl, List.map_append, List.map_singleton, List.map_singleton, hc1, hc2]
      · rcases List.mem_append.1 he with he | he
        · exact hE2 e he
        · rw [List.mem_singleton.1 he, hc1, hc2, canon_len.1, canon_len.2]
          exact ⟨hci, by omega, by omega⟩
      · rw [totN_snoc hl]; omega
    · simp only [L_vals, List.map, List.getD]; show b.lines.length - (i + 1) < b.lines.length - i; omega
  refine SL_nil (nx (SWP_seq (SWP_cf rfl (SWP_exit (ne (ne (be rfl (nx (SWP_seq (SWP_seq ?_))))))))))
  obtain rfl : i = b.lines.length := by omega
  rw [List.take_length] at ht
  rw [List.take_length]
  have hl0 : lnErr g b.system b.lines = 0 := lnErr_zero.2 hln
  refine SWP_region (pI rfl rfl ?_)
  refine pc rfl rfl (fun c72 => ?_) (fun c72 => ?_)
  · skip
    refine SL_nil (nx (SWP_ct rfl (SWP_seq (SWP_region (pI rfl rfl (pI rfl rfl (SL_nil (nx (SWP_ret (nr ?_))))))))))
    refine fin [_, _] ⟨rfl, rfl, trivial⟩ ?_
    exact ⟨3, (if_neg (fun hh => hh hz)).trans ((if_neg (fun hh => hh hlen)).trans ((if_neg (fun hh => hh hl0)).trans (if_pos (by omega)))), .inl ⟨by decide, rfl⟩⟩
  refine SL_nil (nx (SWP_cf rfl (SWP_skip (nx (SWP_seq (SWP_seq (SWP_region (pu rfl rfl ?_))))))))
  refine lw (v := .int .i64 _) B3 2 rfl rfl rfl rfl ?_
  refine pc rfl rfl (fun c75 => ?_) (fun c75 => ?_)
  · skip
    refine pB rfl rfl (SL_no rfl rfl (SL_no rfl rfl (SL_no rfl rfl (SL_no rfl rfl (SL_no rfl rfl (pB rfl rfl (SL_nil (nx (SWP_ct rfl (SWP_seq (SWP_region ?_)))))))))))
    refine pI rfl rfl (pI rfl rfl (SL_nil (nx (SWP_ret (nr ?_)))))
    refine fin [_, _] ⟨rfl, rfl, trivial⟩ ?_
    exact ⟨2, (if_neg (fun hh => hh hz)).trans ((if_neg (fun hh => hh hlen)).trans ((if_neg (fun hh => hh hl0)).trans ((if_neg (by omega)).trans (if_pos (by omega))))), .inl ⟨by decide, rfl⟩⟩
  refine pB rfl rfl (SL_yes rfl (pu rfl rfl (SL_yes rfl ?_)))
  refine lw (v := .int .i64 _) B3 2 rfl rfl rfl rfl ?_
  refine SL_yes rfl (pu rfl rfl (SL_yes rfl ?_))
  refine lw (v := .int .i64 _) B2 8 rfl rfl rfl rfl ?_
  refine SL_yes rfl ?_
  refine pc rfl rfl (fun c81 => ?_) (fun c81 => ?_)
  · skip
    refine pB rfl rfl (SL_nil (nx (SWP_ct rfl (SWP_seq (SWP_region (pI rfl rfl (pI rfl rfl (SL_nil (nx (SWP_ret (nr ?_)))))))))))
    refine fin [_, _] ⟨rfl, rfl, trivial⟩ ?_
    exact ⟨2, (if_neg (fun hh => hh hz)).trans ((if_neg (fun hh => hh hlen)).trans ((if_neg (fun hh => hh hl0)).trans ((if_neg (by omega)).trans (if_pos (by omega))))), .inl ⟨by decide, rfl⟩⟩
  refine pB rfl rfl (SL_nil (nx (SWP_cf rfl (SWP_skip (nx (SWP_seq (SWP_seq (SWP_region (pu rfl rfl ?_)))))))))
  refine lw (v := .int .i64 _) B3 3 rfl rfl rfl rfl ?_
  refine pc rfl rfl (fun c85 => ?_) (fun c85 => ?_)
  · skip
    refine pB rfl rfl (SL_no rfl rfl (SL_no rfl rfl (SL_no rfl rfl (SL_no rfl rfl (SL_no rfl rfl (SL_no rfl rfl (SL_no rfl rfl (pB rfl rfl (SL_nil (nx (SWP_ct rfl ?_)))))))))))
    refine SWP_seq (SWP_region (pI rfl rfl (pI rfl rfl (SL_nil (nx (SWP_ret (nr ?_)))))))
    refine fin [_, _] ⟨rfl, rfl, trivial⟩ ?_
    exact ⟨2, (if_neg (fun hh => hh hz)).trans ((if_neg (fun hh => hh hlen)).trans ((if_neg (fun hh => hh hl0)).trans ((if_neg (by omega)).trans ((if_neg (by omega)).trans (if_pos (fun hh => by first | omega | exact absurd hh.2 ((div_pow hh.1).1 (by assumption)))))))), .inl ⟨by decide, rfl⟩⟩
  refine pB rfl rfl (SL_yes rfl (pu rfl rfl (SL_yes rfl ?_)))
  refine lw (v := .int .i64 _) B3 3 rfl rfl rfl rfl ?_
  refine SL_yes rfl (pu rfl rfl (SL_yes rfl ?_))
  refine lw (v := .slice _ _ _) B2 20 rfl rfl rfl rfl ?_
  refine SL_yes rfl (pu rfl rfl (SL_yes rfl ?_))
  refine pshr rfl rfl (by omega) (show Int.fdiv b.addons (2 ^ min ((g.addons.length : Nat) : Int).toNat 64) = b.addons / 2 ^ g.addons.length by rw [Int.toNat_natCast, Nat.min_eq_left (by have := addons_few hg; omega), Int.fdiv_eq_ediv_of_nonneg _ (Int.pow_nonneg (by decide))]) rfl ?_
  refine SL_yes rfl ?_
  refine pc rfl rfl (fun c93 => ?_) (fun c93 => ?_)
  · skip
    refine pB rfl rfl (SL_nil (nx (SWP_ct rfl (SWP_seq (SWP_region (pI rfl rfl (pI rfl rfl (SL_nil (nx (SWP_ret (nr ?_)))))))))))
    refine fin [_, _] ⟨rfl, rfl, trivial⟩ ?_
    exact ⟨2, (if_neg (fun hh => hh hz)).trans ((if_neg (fun hh => hh hlen)).trans ((if_neg (fun hh => hh hl0)).trans ((if_neg (by omega)).trans ((if_neg (by omega)).trans (if_pos (fun hh => by first | omega | exact absurd hh.2 ((div_pow hh.1).1 (by assumption)))))))), .inl ⟨by decide, rfl⟩⟩
  refine pB rfl rfl (SL_nil (nx (SWP_cf rfl (SWP_skip (nx (SWP_seq (SWP_region (pI rfl rfl (pI rfl rfl (pI rfl rfl (SL_nil ?_)))))))))))
  refine nx (SWP_ret ?_)
  refine fin [_, _] ⟨rfl, rfl, trivial⟩ ?_
  exact ⟨0, (if_neg (fun hh => hh hz)).trans ((if_neg (fun hh => hh hlen)).trans ((if_neg (fun hh => hh hl0)).trans ((if_neg (by omega)).trans ((if_neg (by omega)).trans (if_neg (fun hh => hh ⟨by omega, Classical.not_not.1 (fun hh2 => absurd ((div_pow (by omega)).2 hh2) (by assumption))⟩)))))), .inr ⟨rfl, rfl⟩⟩
end Go.Proofs.YtlgoegjboabgfaaGreatDoor
namespace Go.Proofs.YtlgoegjboabgfaaGreatDoor
open Eng
set_option maxRecDepth 100000 in
theorem betI {m : Mem} {g : Game} {b : Bet} (hin : g.In m) (hb : b.In m) : PureCall Tryz.prog 74 [g.val, b.val] m (.int .i64 (betErr g b)) := by
  refine CallsS.pure ?_
  dsimp only [Game.val, Bet.val]
  refine enter Tryz.func74 Tryz.ntmps74 rfl rfl ?_
  refine SWP_seq (SWP_region ?_)
  refine bx (v := .agg _) rfl rfl (fun B2 => ?_)
  refine bx (v := .agg _) rfl rfl (fun B3 => ?_)
  refine pI rfl rfl (SL_nil (nx (SWP_seq (SWP_region ?_))))
  refine lw (v := .agg _) B2 0 rfl rfl rfl rfl ?_
  refine lw (v := .agg _) B3 0 rfl rfl rfl rfl ?_
  refine SL_pcall rfl rfl cb85 (checkB hin hb) rfl ?_
  refine pu rfl rfl (pI rfl rfl (pI rfl rfl (pI rfl rfl (pI rfl rfl (SL_nil (nx (SWP_seq (SWP_region (pI rfl rfl (pI rfl rfl (SL_nil ?_)))))))))))
  refine nx (SWP_ret ?_)
  refine fin [_] ⟨rfl, trivial⟩ ?_
  rfl
theorem sizeE_of_lnAt {g : Game} {sys : Bool} {L : List Line} {i : Nat} {l : Line} (hl : L[i]? = some l) (h : lnAt g sys L i = 0) : sizeE g sys l = 0 := by
  rw [lnAt_some hl] at h
  by_cases h1 : sizeE g sys l ≠ 0
  · rw [if_pos h1] at h; exact absurd h h1
  · exact Classical.not_not.1 h1
end Go.Proofs.YtlgoegjboabgfaaGreatDoor
namespace Go.Proofs.YtlgoegjboabgfaaGreatDoor
open Eng
theorem wrapB (x : Int) : IntKind.u8.wrap x = x % 256 := by simp [IntKind.wrap, IntKind.bits, IntKind.signed]
def bA (l : List UInt8) : ByteArray := ⟨l.toArray⟩
theorem bA_size (l : List UInt8) : (bA l).size = l.length := by simp [bA, ByteArray.size]
theorem bA_of (s : ByteArray) : bA s.data.toList = s := by simp [bA]
theorem bA_ext (l : List UInt8) (a b : Nat) : (bA l).extract a b = bA ((l.drop a).take (b - a)) := ByteArray.extract_mk l a b
theorem bA_inj {a b : List UInt8} : bA a = bA b ↔ a = b := ⟨fun h => by have := congrArg (fun s => s.data.toList) h; simpa [bA] using this, fun h => by rw [h]⟩
abbrev Wd := List UInt8
def joinW : List Wd → List UInt8
  | [] => []
  | [w] => w
  | w :: v :: ws => w ++ 32 :: joinW (v :: ws)
def wordsL : List UInt8 → List Wd
  | [] => [[]]
  | b :: r => if b = 32 then [] :: wordsL r else match wordsL r with
    | [] => [[b]]
    | w :: ws => (b :: w) :: ws
theorem wordsL_ne : ∀ l, wordsL l ≠ []
  | [] => by simp [wordsL]
  | b :: r => by
    unfold wordsL
    split
    · simp
    · split <;> simp
theorem joinW_cons {w : Wd} {ws : List Wd} (h : ws ≠ []) : joinW (w :: ws) = w ++ 32 :: joinW ws := by
  cases ws with
  | nil => exact absurd rfl h
  | cons v ws => rfl
theorem join_words : ∀ l, joinW (wordsL l) = l
  | [] => rfl
  | b :: r => by
    have ih := join_words r
    unfold wordsL
    by_cases hb : b = 32
    · rw [if_pos hb, joinW_cons (wordsL_ne r), ih, hb]; rfl
    · rw [if_neg hb]
      cases hw : wordsL r with
      | nil => exact absurd hw (wordsL_ne r)
      | cons w ws =>
        rw [hw] at ih
        show joinW ((b :: w) :: ws) = b :: r
        rw [← ih]
        cases ws <;> rfl
theorem words_ns : ∀ l, ∀ w ∈ wordsL l, (32 : UInt8) ∉ w
  | [], w, h => by
    rw [show wordsL [] = [[]] from rfl, List.mem_singleton] at h; subst h; simp
  | b :: r, w, h => by
    have ih := words_ns r
    unfold wordsL at h
    by_cases hb : b = 32
    · rw [if_pos hb] at h
      rcases List.mem_cons.1 h with rfl | h
      · simp
      · exact ih w h
    · rw [if_neg hb] at h
      cases hw : wordsL r with
      | nil => exact absurd hw (wordsL_ne r)
      | cons v ws =>
        rw [hw] at h ih
        rcases List.mem_cons.1 h with rfl | h
        · intro hm
          rcases List.mem_cons.1 hm with e | hm
          · exact hb e.symm
          · exact ih v (List.mem_cons_self ..) hm
        · exact ih w (List.mem_cons_of_mem _ h)
theorem wordsL_sp (l : List UInt8) : wordsL (32 :: l) = [] :: wordsL l := by rw [wordsL]; exact if_pos rfl
theorem wordsL_ch {b : UInt8} {r : List UInt8} {w : Wd} {ws : List Wd} (hb : ¬ b = 32) (e : wordsL r = w :: ws) : wordsL (b :: r) = (b :: w) :: ws := by rw [wordsL, if_neg hb, e]
structure Suf (l : List UInt8) (R : List Wd) : Prop where
  ns : ∀ w ∈ R, (32 : UInt8) ∉ w
  sf : R = [] ∨ ∃ P, l = P ++ joinW R
def posR (l : List UInt8) (R : List Wd) : Nat := l.length - (joinW R).length
theorem Suf.all (l : List UInt8) : Suf l (wordsL l) := ⟨words_ns l, .inr ⟨[], by rw [join_words]; rfl⟩⟩
theorem posR_all (l : List UInt8) : posR l (wordsL l) = 0 := by unfold posR; rw [join_words]; omega
theorem Suf.next {l : List UInt8} {w : Wd} {R : List Wd} (h : Suf l (w :: R)) : Suf l R := by
  refine ⟨fun x hx => h.ns x (List.mem_cons_of_mem _ hx), ?_⟩
  rcases h.sf with e | ⟨P, e⟩
  · cases e
  · cases R with
    | nil => exact .inl rfl
    | cons v R => exact .inr ⟨P ++ w ++ [32], by rw [e, joinW_cons (by simp)]; simp⟩
theorem Suf.len {l : List UInt8} {w : Wd} {R : List Wd} (h : Suf l (w :: R)) : posR l (w :: R) + (joinW (w :: R)).length = l.length := by
  rcases h.sf with e | ⟨P, e⟩
  · cases e
  · unfold posR; have := congrArg List.length e; rw [List.length_append] at this; omega
theorem Suf.drop {l : List UInt8} {w : Wd} {R : List Wd} (h : Suf l (w :: R)) : l.drop (posR l (w :: R)) = joinW (w :: R) := by
  have hl := h.len
  rcases h.sf with e | ⟨P, e⟩
  · cases e
  · have : posR l (w :: R) = P.length := by have := congrArg List.length e; rw [List.length_append] at this; omega
    rw [this, e, List.drop_left]
theorem join_len {w : Wd} {R : List Wd} (h : R ≠ []) : (joinW (w :: R)).length = w.length + 1 + (joinW R).length := by
  rw [joinW_cons h, List.length_append, List.length_cons]; omega
theorem posR_next {l : List UInt8} {w : Wd} {R : List Wd} (h : Suf l (w :: R)) (hR : R ≠ []) : posR l R = posR l (w :: R) + w.length + 1 := by
  have h1 := h.len
  have h2 := join_len (w := w) hR
  unfold posR at *
  omega
theorem posR_last {l : List UInt8} {w : Wd} (h : Suf l [w]) : l.length = posR l [w] + w.length := h.len.symm
theorem posR_le {l : List UInt8} {w : Wd} {R : List Wd} (h : Suf l (w :: R)) : posR l (w :: R) + w.length ≤ l.length ∧ (posR l (w :: R) + w.length = l.length ↔ R = []) := by
  have h1 := h.len
  by_cases hR : R = []
  · subst hR
    rw [posR_last h]
    exact ⟨Nat.le_refl _, by simp⟩
  · rw [join_len hR] at h1
    exact ⟨by omega, ⟨fun e => by omega, fun e => absurd e hR⟩⟩
theorem take_word {w : Wd} {R : List Wd} : (joinW (w :: R)).take w.length = w := by
  cases R with
  | nil => show w.take w.length = w; exact List.take_length
  | cons v R => rw [joinW_cons (by simp), List.take_left]
theorem index_word : ∀ (w : Wd) (R : List Wd), (32 : UInt8) ∉ w → Lib.indexByte (joinW (w :: R)) 32 = if R = [] then -1 else (w.length : Int)
  | [], [], _ => rfl
  | [], v :: R, _ => by rw [if_neg (by simp)]; rfl
  | b :: w, R, h => by
    have hb : ¬ b = 32 := fun e => h (by rw [e]; exact List.mem_cons_self ..)
    have ih := index_word w R (fun hm => h (List.mem_cons_of_mem _ hm))
    have e : joinW ((b :: w) :: R) = b :: joinW (w :: R) := by cases R <;> rfl
    rw [e]
    unfold Lib.indexByte
    rw [ih]
    by_cases hR : R = []
    · simp [hR, hb]
    · simp [hR, hb]
def digB (b : UInt8) : Bool := decide (48 ≤ b.toNat ∧ b.toNat ≤ 57)
def decB : Wd → Bool
  | [] => false
  | b :: r => (b != 48 || r.isEmpty) && (b :: r).all digB
def valB (l : Wd) : Nat := l.foldl (fun v b => 10 * v + (b.toNat - 48)) 0
def numW (w : Wd) : Option Int := if w.length ≤ 9 ∧ decB w = true then some (valB w : Nat) else none
theorem valB_snoc (l : Wd) (b : UInt8) : valB (l ++ [b]) = 10 * valB l + (b.toNat - 48) := by unfold valB; rw [List.foldl_append]; rfl
theorem valB_lt : ∀ (n : Nat) (l : Wd), l.length = n → l.all digB = true → valB l < 10 ^ n
  | 0, l, h, _ => by rw [List.eq_nil_of_length_eq_zero h]; decide
  | n + 1, l, h, ha => by
    obtain ⟨r, b, rfl⟩ : ∃ r b, l = r ++ [b] := ⟨l.dropLast, l.getLast (by intro e; rw [e] at h; cases h), (List.dropLast_concat_getLast (by intro e; rw [e] at h; cases h)).symm⟩
    rw [List.length_append] at h
    rw [List.all_append, Bool.and_eq_true] at ha
    have ih := valB_lt n r (by simpa using h) ha.1
    have hb : 48 ≤ b.toNat ∧ b.toNat ≤ 57 := by simpa [digB] using ha.2
    rw [valB_snoc, Nat.pow_succ]
    omega
theorem decB_all {l : Wd} (h : decB l = true) : l.all digB = true := by
  cases l with
  | nil => cases h
  | cons b r => unfold decB at h; exact (Bool.and_eq_true _ _ ▸ h).2
theorem val_small {l : Wd} (h : l.all digB = true) (hl : l.length ≤ 9) : valB l < 1000000000 :=
  Nat.lt_of_lt_of_le (valB_lt _ l rfl h) (Nat.pow_le_pow_right (n := 10) (j := 9) (by decide) hl)
theorem all_takeB {l : Wd} {b : UInt8} {i : Nat} (hb : l[i]? = some b) : (l.take (i + 1)).all digB = ((l.take i).all digB && digB b) := by
  rw [take_snocA hb, List.all_append]; simp
theorem decDigits_1 {n : Nat} (h : n < 10) : Lib.decDigits n = [UInt8.ofNat (48 + n)] := by rw [Lib.decDigits, dif_pos h]
theorem decDigits_2 {n : Nat} (h : ¬ n < 10) (h2 : n < 100) : Lib.decDigits n = [UInt8.ofNat (48 + n / 10), UInt8.ofNat (48 + n % 10)] := by
  rw [Lib.decDigits, dif_neg h, decDigits_1 (by omega)]; rfl
theorem itoaI {m : Mem} (n : Nat) (h : n < 100) : PureCall Tryz.prog 105 [.int .i64 (n : Nat)] m (.string (bA (Lib.decDigits n))) := pureOf fun w => Tryz.strconv_Itoa_small n h w
theorem fmtI {m : Mem} (n : Nat) (h : n < 100) : PureCall Tryz.prog 75 [.int .i64 (n : Nat)] m (.string (bA (Lib.decDigits n))) := by
  refine CallsS.pure ?_
  refine enter Tryz.func75 Tryz.ntmps75 rfl rfl ?_
  refine SWP_seq (SWP_region (pS rfl rfl (SL_nil (nx (SWP_seq (SWP_region (pI rfl rfl ?_)))))))
  refine SL_pcall rfl rfl cb105 (itoaI n h) rfl ?_
  refine pS rfl rfl (SL_nil (nx (SWP_ret ?_)))
  refine fin [_] ⟨rfl, trivial⟩ ?_
  rfl
end Go.Proofs.YtlgoegjboabgfaaGreatDoor
namespace Go.Proofs.YtlgoegjboabgfaaGreatDoor
open Eng
theorem decB_iff {l : Wd} : decB l = true ↔ l ≠ [] ∧ (l[0]? = some 48 → l.length ≤ 1) ∧ l.all digB = true := by
  cases l with
  | nil => simp [decB]
  | cons b r =>
    unfold decB
    simp only [Bool.and_eq_true, Bool.or_eq_true, bne_iff_ne, ne_eq, List.isEmpty_iff, List.getElem?_cons_zero, Option.some.injEq, List.length_cons]
    constructor
    · rintro ⟨h1, h2⟩
      refine ⟨by simp, fun e => ?_, h2⟩
      rcases h1 with h1 | h1
      · exact absurd e h1
      · rw [h1]; decide
    · rintro ⟨_, h1, h2⟩
      refine ⟨?_, h2⟩
      by_cases e : b = 48
      · right; exact List.eq_nil_of_length_eq_zero (by have := h1 e; omega)
      · exact .inl e
theorem byte_eq {b : UInt8} {n : Nat} (hn : n < 256) : ((b.toNat : Nat) : Int) = (n : Nat) ↔ b = UInt8.ofNat n := by
  constructor
  · intro h
    apply UInt8.toNat.inj
    rw [UInt8.toNat_ofNat']
    omega
  · intro h
    subst h
    rw [UInt8.toNat_ofNat']
    omega
theorem all_noB {l : Wd} {i : Nat} {b : UInt8} (hb : l[i]? = some b) (h : ¬ (48 ≤ b.toNat ∧ b.toNat ≤ 57)) : ¬ l.all digB = true := fun ha => by
  have := List.all_eq_true.1 ha b (List.mem_of_getElem? hb)
  exact h (by simpa [digB] using this)
set_option maxRecDepth 100000 in
theorem decI {m : Mem} (l : Wd) (hl : l.length ≤ 1000000) : PureCall Tryz.prog 200 [.string (bA l)] m (.bool (decB l)) := by
  refine CallsS.pure ?_
  have hsz : ((bA l).size : Int) = l.length := by rw [bA_size]
  refine enter Tryz.func200 Tryz.ntmps200 rfl rfl ?_
  refine SWP_seq (SWP_region (pB rfl rfl (SL_nil (nx (SWP_seq (SWP_seq (SWP_region (pS rfl rfl ?_))))))))
  refine pc rfl rfl (fun c5 => ?_) (fun c5 => ?_)
  · skip
    refine pB rfl rfl (SL_no rfl rfl (SL_no rfl rfl (SL_no rfl rfl (SL_no rfl rfl (SL_no rfl rfl (SL_no rfl rfl (SL_no rfl rfl (SL_no rfl rfl (pB rfl rfl (SL_nil (nx ?_)))))))))))
    refine SWP_ct rfl (SWP_seq (SWP_region (pB rfl rfl (SL_nil (nx (SWP_ret (nr ?_)))))))
    refine fin [_] ⟨rfl, trivial⟩ ?_
    refine congrArg Value.bool ?_
    refine (Bool.eq_false_iff.2 fun h => ?_).symm
    have h' := decB_iff.1 h
    first
      | exact h'.1 (bA_inj.1 (by assumption))
      | exact h'.1 (List.eq_nil_of_length_eq_zero (by omega))
      | exact absurd h'.2.2 (all_noB hb (by omega))
      | exact absurd (h'.2.1 (by rw [hb0]; exact congrArg some ((byte_eq (n := 48) (by decide)).1 (by omega)))) (by omega)
  refine pB rfl rfl (SL_yes rfl (pS rfl rfl (SL_yes rfl ?_)))
  obtain ⟨b0, hb0⟩ : ∃ b, l[0]? = some b := ⟨_, List.getElem?_eq_getElem (by first | omega | (cases l with | nil => exact absurd rfl (by assumption) | cons b r => simp))⟩
  refine ixs (k := 0) rfl rfl rfl hb0 rfl ?_
  refine SL_yes rfl ?_
  refine pc rfl rfl (fun c9 => ?_) (fun c9 => ?_)
  · skip
    refine SL_yes rfl (pB rfl rfl (SL_yes rfl (pS rfl rfl (SL_yes rfl (pu rfl rfl (SL_yes rfl ?_))))))
    refine pc rfl rfl (fun c13 => ?_) (fun c13 => ?_)
    · skip
      refine SL_yes rfl (pB rfl rfl (pB rfl rfl (SL_nil (nx (SWP_ct rfl (SWP_seq (SWP_region (pB rfl rfl (SL_nil (nx (SWP_ret ?_)))))))))))
      refine nr ?_
      refine fin [_] ⟨rfl, trivial⟩ ?_
      refine congrArg Value.bool ?_
      refine (Bool.eq_false_iff.2 fun h => ?_).symm
      have h' := decB_iff.1 h
      first
        | exact h'.1 (bA_inj.1 (by assumption))
        | exact h'.1 (List.eq_nil_of_length_eq_zero (by omega))
        | exact absurd h'.2.2 (all_noB hb (by omega))
        | exact absurd (h'.2.1 (by rw [hb0]; exact congrArg some ((byte_eq (n := 48) (by decide)).1 (by omega)))) (by omega)
    refine SL_yes rfl (pB rfl rfl (pB rfl rfl (SL_nil (nx (SWP_cf rfl (SWP_skip (nx (SWP_seq (SWP_seq (SWP_region (pS rfl rfl ?_)))))))))))
    refine pu rfl rfl (pI rfl rfl (SL_nil (nx (SWP_block ?_))))
    refine SWP_loop [2, 3, 18, 19, 20, 21, 22, 23, 24, 25, 26, 27, 28, 29, 30, 31] [18]
        (fun vs σ' m' => ∃ (i : Nat), vs = [.int .i64 (i : Nat)] ∧ i ≤ l.length ∧ (l.take i).all digB = true ∧ σ' = [] ∧ m = m')
        (fun vs => l.length - nOf (vs.getD 0 undef)) rfl ?_ ?_
    · exact ⟨0, rfl, by omega, by simp, rfl, rfl⟩
    intro u0 vs0 σ0 m0 hJ0 _
    obtain ⟨i, rfl, hi, hall, rfl, rfl⟩ := hJ0
    refine SWP_seq (SWP_region ?_)
    refine pc rfl rfl (fun c19 => ?_) (fun c19 => ?_)
    · skip
      refine SL_nil (nx (SWP_seq (SWP_ct rfl (SWP_skip (nx (SWP_seq (SWP_block (SWP_seq (SWP_region (pI rfl rfl (pI rfl rfl ?_)))))))))))
      refine SL_nil (nx (SWP_seq (SWP_region (pS rfl rfl (pI rfl rfl ?_)))))
      obtain ⟨b, hb⟩ : ∃ b, l[i]? = some b := ⟨_, List.getElem?_eq_getElem (by omega)⟩
      refine ixs (k := i) rfl rfl rfl hb rfl ?_
      refine pc rfl rfl (fun c24 => ?_) (fun c24 => ?_)
      · skip
        refine pB rfl rfl (SL_no rfl rfl (SL_no rfl rfl (SL_no rfl rfl (SL_no rfl rfl (pB rfl rfl (SL_nil (nx (SWP_ct rfl (SWP_seq (SWP_region (pB rfl rfl ?_)))))))))))
        refine SL_nil (nx (SWP_ret (br (nr (nr (br (nr ?_)))))))
        refine fin [_] ⟨rfl, trivial⟩ ?_
        refine congrArg Value.bool ?_
        refine (Bool.eq_false_iff.2 fun h => ?_).symm
        have h' := decB_iff.1 h
        first
          | exact h'.1 (bA_inj.1 (by assumption))
          | exact h'.1 (List.eq_nil_of_length_eq_zero (by omega))
          | exact absurd h'.2.2 (all_noB hb (by omega))
          | exact absurd (h'.2.1 (by rw [hb0]; exact congrArg some ((byte_eq (n := 48) (by decide)).1 (by omega)))) (by omega)
      refine pB rfl rfl (SL_yes rfl (pS rfl rfl (SL_yes rfl (pI rfl rfl (SL_yes rfl ?_)))))
      refine ixs (k := i) rfl rfl rfl hb rfl ?_
      refine SL_yes rfl ?_
      refine pc rfl rfl (fun c29 => ?_) (fun c29 => ?_)
      · skip
        refine pB rfl rfl (SL_nil (nx (SWP_ct rfl (SWP_seq (SWP_region (pB rfl rfl (SL_nil (nx (SWP_ret (br (nr ?_)))))))))))
        refine nr (br (nr ?_))
        refine fin [_] ⟨rfl, trivial⟩ ?_
        refine congrArg Value.bool ?_
        refine (Bool.eq_false_iff.2 fun h => ?_).symm
        have h' := decB_iff.1 h
        first
          | exact h'.1 (bA_inj.1 (by assumption))
          | exact h'.1 (List.eq_nil_of_length_eq_zero (by omega))
          | exact absurd h'.2.2 (all_noB hb (by omega))
          | exact absurd (h'.2.1 (by rw [hb0]; exact congrArg some ((byte_eq (n := 48) (by decide)).1 (by omega)))) (by omega)
      refine pB rfl rfl (SL_nil (nx (SWP_cf rfl (SWP_skip (nb (nx (SWP_region ?_)))))))
      refine pw rfl rfl (w64 (by omega) (by omega)) ?_
      refine pI rfl rfl (SL_nil (nx ?_))
      refine ⟨by repeat (first | exact Under.upds rfl (Under.hav _ _ _) | exact Under.hav _ _ _ | refine Under.upd rfl ?_), ?_, ?_⟩
      · refine ⟨i + 1, rfl, by omega, ?_, rfl, rfl⟩
        rw [all_takeB hb, hall]
        exact decide_eq_true (by omega)
      · simp only [L_vals, List.map, List.getD]; show l.length - (i + 1) < l.length - i; omega
    refine SL_nil (nx (SWP_seq (SWP_cf rfl (SWP_exit (ne (ne (be rfl (nx (SWP_seq (SWP_region (pB rfl rfl ?_)))))))))))
    refine SL_nil (nx (SWP_ret ?_))
    refine fin [_] ⟨rfl, trivial⟩ ?_
    refine congrArg Value.bool ?_
    refine (decB_iff.2 ⟨?_, ?_, ?_⟩).symm
    · intro e; subst e; first | contradiction | (simp at *; done) | omega
    · intro e
      first
        | omega
        | (rw [hb0] at e; exact absurd ((byte_eq (n := 48) (by decide)).2 (Option.some.inj e)) (by omega))
    · rw [List.take_of_length_le (by omega)] at hall; exact hall
  refine SL_yes rfl (pB rfl rfl (SL_no rfl rfl (SL_no rfl rfl (SL_no rfl rfl (SL_yes rfl (pB rfl rfl (pB rfl rfl (SL_nil (nx (SWP_cf rfl (SWP_skip ?_)))))))))))
  refine nx (SWP_seq (SWP_seq (SWP_region (pS rfl rfl (pu rfl rfl (pI rfl rfl (SL_nil (nx (SWP_block ?_)))))))))
  refine SWP_loop [2, 3, 18, 19, 20, 21, 22, 23, 24, 25, 26, 27, 28, 29, 30, 31] [18]
      (fun vs σ' m' => ∃ (i : Nat), vs = [.int .i64 (i : Nat)] ∧ i ≤ l.length ∧ (l.take i).all digB = true ∧ σ' = [] ∧ m = m')
      (fun vs => l.length - nOf (vs.getD 0 undef)) rfl ?_ ?_
  · exact ⟨0, rfl, by omega, by simp, rfl, rfl⟩
  intro u0 vs0 σ0 m0 hJ0 _
  obtain ⟨i, rfl, hi, hall, rfl, rfl⟩ := hJ0
  refine SWP_seq (SWP_region ?_)
  refine pc rfl rfl (fun c19 => ?_) (fun c19 => ?_)
  · skip
    refine SL_nil (nx (SWP_seq (SWP_ct rfl (SWP_skip (nx (SWP_seq (SWP_block (SWP_seq (SWP_region (pI rfl rfl (pI rfl rfl ?_)))))))))))
    refine SL_nil (nx (SWP_seq (SWP_region (pS rfl rfl (pI rfl rfl ?_)))))
    obtain ⟨b, hb⟩ : ∃ b, l[i]? = some b := ⟨_, List.getElem?_eq_getElem (by omega)⟩
    refine ixs (k := i) rfl rfl rfl hb rfl ?_
    refine pc rfl rfl (fun c24 => ?_) (fun c24 => ?_)
    · skip
      refine pB rfl rfl (SL_no rfl rfl (SL_no rfl rfl (SL_no rfl rfl (SL_no rfl rfl (pB rfl rfl (SL_nil (nx (SWP_ct rfl (SWP_seq (SWP_region (pB rfl rfl ?_)))))))))))
      refine SL_nil (nx (SWP_ret (br (nr (nr (br (nr ?_)))))))
      refine fin [_] ⟨rfl, trivial⟩ ?_
      refine congrArg Value.bool ?_
      refine (Bool.eq_false_iff.2 fun h => ?_).symm
      have h' := decB_iff.1 h
      first
        | exact h'.1 (bA_inj.1 (by assumption))
        | exact h'.1 (List.eq_nil_of_length_eq_zero (by omega))
        | exact absurd h'.2.2 (all_noB hb (by omega))
        | exact absurd (h'.2.1 (by rw [hb0]; exact congrArg some ((byte_eq (n := 48) (by decide)).1 (by omega)))) (by omega)
    refine pB rfl rfl (SL_yes rfl (pS rfl rfl (SL_yes rfl (pI rfl rfl (SL_yes rfl ?_)))))
    refine ixs (k := i) rfl rfl rfl hb rfl ?_
    refine SL_yes rfl ?_
    refine pc rfl rfl (fun c29 => ?_) (fun c29 => ?_)
    · skip
      refine pB rfl rfl (SL_nil (nx (SWP_ct rfl (SWP_seq (SWP_region (pB rfl rfl (SL_nil (nx (SWP_ret (br (nr ?_)))))))))))
      refine nr (br (nr ?_))
      refine fin [_] ⟨rfl, trivial⟩ ?_
      refine congrArg Value.bool ?_
      refine (Bool.eq_false_iff.2 fun h => ?_).symm
      have h' := decB_iff.1 h
      first
        | exact h'.1 (bA_inj.1 (by assumption))
        | exact h'.1 (List.eq_nil_of_length_eq_zero (by omega))
        | exact absurd h'.2.2 (all_noB hb (by omega))
        | exact absurd (h'.2.1 (by rw [hb0]; exact congrArg some ((byte_eq (n := 48) (by decide)).1 (by omega)))) (by omega)
    refine pB rfl rfl (SL_nil (nx (SWP_cf rfl (SWP_skip (nb (nx (SWP_region ?_)))))))
    refine pw rfl rfl (w64 (by omega) (by omega)) ?_
    refine pI rfl rfl (SL_nil (nx ?_))
    refine ⟨by repeat (first | exact Under.upds rfl (Under.hav _ _ _) | exact Under.hav _ _ _ | refine Under.upd rfl ?_), ?_, ?_⟩
    · refine ⟨i + 1, rfl, by omega, ?_, rfl, rfl⟩
      rw [all_takeB hb, hall]
      exact decide_eq_true (by omega)
    · simp only [L_vals, List.map, List.getD]; show l.length - (i + 1) < l.length - i; omega
  refine SL_nil (nx (SWP_seq (SWP_cf rfl (SWP_exit (ne (ne (be rfl (nx (SWP_seq (SWP_region (pB rfl rfl ?_)))))))))))
  refine SL_nil (nx (SWP_ret ?_))
  refine fin [_] ⟨rfl, trivial⟩ ?_
  refine congrArg Value.bool ?_
  refine (decB_iff.2 ⟨?_, ?_, ?_⟩).symm
  · intro e; subst e; first | contradiction | (simp at *; done) | omega
  · intro e
    first
      | omega
      | (rw [hb0] at e; exact absurd ((byte_eq (n := 48) (by decide)).2 (Option.some.inj e)) (by omega))
  · rw [List.take_of_length_le (by omega)] at hall; exact hall
set_option maxRecDepth 100000 in
theorem parseI {m : Mem} (l : Wd) (h1 : 1 ≤ l.length) (h9 : l.length ≤ 9) (h45 : l[0]? ≠ some 45) : PureCall Tryz.prog 183 [.string (bA l)] m (.tuple #[.int .i64 ((if decB l = true then valB l else 0 : Nat) : Int), .int .i64 (if decB l = true then 0 else 1)]) := by
  refine CallsS.pure ?_
  have hsz : ((bA l).size : Int) = l.length := by rw [bA_size]
  obtain ⟨b0, hb0⟩ : ∃ b, l[0]? = some b := ⟨_, List.getElem?_eq_getElem (by omega)⟩
  have h450 : ¬ ((b0.toNat : Nat) : Int) = 45 := fun e => h45 (by rw [hb0]; exact congrArg some ((byte_eq (n := 45) (by decide)).1 e))
  refine enter Tryz.func183 Tryz.ntmps183 rfl rfl ?_
  refine SWP_seq (SWP_region (pI rfl rfl (pI rfl rfl (SL_nil (nx (SWP_seq (SWP_region (pS rfl rfl (pS rfl rfl (SL_nil (nx ?_)))))))))))
  refine SWP_seq (SWP_region (pS rfl rfl (pu rfl rfl ?_)))
  refine pt rfl rfl (by omega) ?_
  refine pB rfl rfl (SL_yes rfl (pS rfl rfl (SL_yes rfl ?_)))
  refine ixs (k := 0) rfl rfl rfl hb0 rfl ?_
  refine SL_yes rfl ?_
  refine pn rfl rfl (h450) ?_
  refine pB rfl rfl (pB rfl rfl (SL_nil (nx (SWP_seq (SWP_seq (SWP_region (pB rfl rfl (SL_nil (nx (SWP_cf rfl (SWP_skip ?_)))))))))))
  refine nx (SWP_seq (SWP_seq (SWP_region (pS rfl rfl ?_))))
  refine SL_pcall rfl rfl cb200 (decI l (by omega)) rfl ?_
  refine bsp 23 rfl (fun b23 => ?_) (fun b23 => ?_)
  · skip
    refine pB rfl rfl (pB rfl rfl (SL_yes rfl (pB rfl rfl (SL_yes rfl (pB rfl rfl (SL_no rfl rfl (SL_no rfl rfl (SL_yes rfl (pB rfl rfl (pB rfl rfl (SL_nil ?_)))))))))))
    refine nx (SWP_cf rfl (SWP_skip (nx (SWP_seq ?_))))
    have hdec : decB l = true := by assumption
    refine SWP_region (pI rfl rfl (SL_nil (nx (SWP_seq (SWP_seq (SWP_region (pB rfl rfl (SL_nil (nx (SWP_cf rfl (SWP_skip ?_)))))))))))
    refine nx (SWP_seq (SWP_region (pI rfl rfl (SL_nil (nx (SWP_seq (SWP_seq (SWP_region (pS rfl rfl (pu rfl rfl (pI rfl rfl ?_)))))))))))
    refine SL_nil (nx (SWP_block ?_))
    refine SWP_loop [2, 3, 7, 8, 9, 37, 38, 39, 40, 41, 42, 43, 44, 45, 46, 47, 48, 49, 50, 51, 52, 53, 54, 55] [7, 37]
        (fun vs σ' m' => ∃ (i : Nat), vs = [.int .u64 (valB (l.take i) : Nat), .int .i64 (i : Nat)] ∧ i ≤ l.length ∧ σ' = [] ∧ m = m')
        (fun vs => l.length - nOf (vs.getD 1 undef)) rfl ?_ ?_
    · exact ⟨0, rfl, by omega, rfl, rfl⟩
    intro u0 vs0 σ0 m0 hJ0 _
    obtain ⟨i, rfl, hi, rfl, rfl⟩ := hJ0
    refine SWP_seq (SWP_region ?_)
    refine pc rfl rfl (fun c38 => ?_) (fun c38 => ?_)
    · skip
      refine SL_nil (nx (SWP_seq (SWP_ct rfl (SWP_skip (nx (SWP_seq (SWP_block (SWP_seq (SWP_region (pI rfl rfl (pI rfl rfl ?_)))))))))))
      refine SL_nil (nx (SWP_seq ?_))
      obtain ⟨b, hb⟩ : ∃ b, l[i]? = some b := ⟨_, List.getElem?_eq_getElem (by omega)⟩
      have hbr : 48 ≤ b.toNat ∧ b.toNat ≤ 57 := by simpa [digB] using List.all_eq_true.1 (decB_all hdec) b (List.mem_of_getElem? hb)
      have hV : valB (l.take i) < 1000000000 := val_small (List.all_eq_true.2 fun x hx => List.all_eq_true.1 (decB_all hdec) x (List.mem_of_mem_take hx)) (by rw [List.length_take]; omega)
      have hN : valB (l.take (i + 1)) = 10 * valB (l.take i) + (b.toNat - 48) := by rw [take_snocA hb, valB_snoc]
      have hN3 : ((valB (l.take (i + 1)) : Nat) : Int) = ((valB (l.take i) : Nat) : Int) * 10 + ((b.toNat : Nat) - 48 : Int) := by rw [hN]; omega
      refine SWP_region (pS rfl rfl (pI rfl rfl ?_))
      refine ixs (k := i) rfl rfl rfl hb rfl ?_
      refine pw rfl rfl (by rw [wrapB]; omega) ?_
      refine pw rfl rfl (by rw [wrapU]; omega) ?_
      refine pI rfl rfl (SL_nil (nx (SWP_seq (SWP_seq (SWP_region (pI rfl rfl (pI rfl rfl (pI rfl rfl ?_))))))))
      refine pw rfl rfl (by rw [wrapU]; omega) ?_
      refine pqu rfl rfl (by omega) (show IntKind.u64.wrap ((9223372036854775807 - ((b.toNat : Nat) - 48 : Int)).tdiv 10) = (9223372036854775807 - ((b.toNat : Nat) - 48 : Int)) / 10 by rw [Int.tdiv_eq_ediv_of_nonneg (by omega), wrapU]; omega) rfl ?_
      refine pn rfl rfl (by omega) ?_
      refine SL_nil (nx (SWP_cf rfl (SWP_skip (nx (SWP_region (pI rfl rfl ?_))))))
      refine pw rfl rfl (by rw [wrapU]; omega) ?_
      refine pI rfl rfl ?_
      refine pw rfl rfl (by rw [wrapU]; omega) ?_
      refine pI rfl rfl (SL_nil (nb (nx (SWP_region ?_))))
      refine pw rfl rfl (w64 (by omega) (by omega)) ?_
      refine pI rfl rfl (SL_nil (nx ?_))
      refine ⟨by repeat (first | exact Under.upds rfl (Under.hav _ _ _) | exact Under.hav _ _ _ | refine Under.upd rfl ?_), ?_, ?_⟩
      · refine ⟨i + 1, ?_, by omega, rfl, rfl⟩
        rw [hN3]
        rfl
      · simp only [L_vals, List.map, List.getD]; show l.length - (i + 1) < l.length - i; omega
    refine SL_nil (nx (SWP_seq (SWP_cf rfl (SWP_exit (ne (ne (be rfl (nx (SWP_seq (SWP_seq (SWP_region ?_)))))))))))
    refine pB rfl rfl (pB rfl rfl (SL_nil (nx (SWP_ct rfl (SWP_seq (SWP_region (pI rfl rfl ?_)))))))
    obtain rfl : i = l.length := by omega
    have hVl := val_small (decB_all hdec) h9
    rw [List.take_length]
    refine pw rfl rfl (w64 (by omega) (by omega)) ?_
    refine pI rfl rfl (pI rfl rfl (SL_nil (nx (SWP_ret (nr ?_)))))
    refine fin [_, _] ⟨rfl, rfl, trivial⟩ ?_
    (rw [if_pos hdec, if_pos hdec]; rfl)
  refine pB rfl rfl (pB rfl rfl (SL_no rfl rfl (SL_no rfl rfl (SL_no rfl rfl (SL_no rfl rfl (SL_no rfl rfl (pB rfl rfl (SL_nil (nx (SWP_ct rfl (SWP_seq ?_)))))))))))
  refine SWP_region (pI rfl rfl (pI rfl rfl (SL_nil (nx (SWP_ret (nr ?_))))))
  refine fin [_, _] ⟨rfl, rfl, trivial⟩ ?_
  (rw [show decB l = false by assumption]; rfl)
end Go.Proofs.YtlgoegjboabgfaaGreatDoor
namespace Go.Proofs.YtlgoegjboabgfaaGreatDoor
open Eng
theorem bA_app (a b : List UInt8) : bA a ++ bA b = bA (a ++ b) := by
  apply ByteArray.ext
  simp [bA]
abbrev scC (l : List UInt8) (p : Nat) (w : Wd) (n : Nat) (e : Bool) : List Value := [.string (bA l), .int .i64 (p : Nat), .string (bA w), .int .i64 (n : Nat), .bool e]
abbrev scE (l : List UInt8) (R : List Wd) : List Value := scC l (posR l R) (R.headD []) (posR l R + (R.headD []).length) R.isEmpty
theorem idxByte {m : Mem} (w : Wd) (R : List Wd) (h : (32 : UInt8) ∉ w) : PureCall Tryz.prog 132 [.string (bA (joinW (w :: R))), .int .u8 32] m (.int .i64 (if R = [] then -1 else (w.length : Int))) := pureOf fun W => by
  have h1 := Tryz.strings_IndexByte (bA (joinW (w :: R))) 32 W
  rw [show Lib.indexByte (bA (joinW (w :: R))).data.toList (32 : Int).toNat.toUInt8 = if R = [] then -1 else (w.length : Int) from index_word w R h] at h1
  exact h1
def isW (x : Wd) (R : List Wd) : Bool := match R with
  | [] => false
  | w :: _ => decide (w = x)
def numV (R : List Wd) : Option Int := match R with
  | [] => none
  | w :: _ => numW w
set_option maxRecDepth 100000 in
theorem loadI {m : Mem} {l : List UInt8} {w : Wd} {R : List Wd} (hs : Suf l (w :: R)) (hl : l.length ≤ 1000000) (B : Nat) (a : Int) (b : ByteArray) (c : Int) (e : Bool) : CallsS Tryz.prog 92 [.pointer (some ⟨B, 0, none⟩), .int .i64 (posR l (w :: R) : Nat)].toArray [(B, Cells 166 ([.string (bA l), .int .i64 a, .string b, .int .i64 c, .bool e]))] m fun r σ' m' => σ' = [(B, Cells 166 (scC l (posR l (w :: R)) w (posR l (w :: R) + w.length) e))] ∧ m' = m := by
  have hle := posR_le hs
  have hsz := bA_size l
  generalize hp : posR l (w :: R) = p at *
  refine enter Tryz.func92 Tryz.ntmps92 rfl rfl ?_
  refine SWP_seq (SWP_region (pP rfl rfl (pI rfl rfl (pu rfl rfl (pu rfl rfl ?_)))))
  refine sw (v := .int .i64 _) B 1 rfl rfl rfl rfl rfl rfl rfl ?_
  refine SL_nil (nx (SWP_seq (SWP_region (pP rfl rfl (pu rfl rfl (pu rfl rfl ?_))))))
  refine lw (v := .string _) B 0 rfl rfl rfl rfl ?_
  refine pI rfl rfl ?_
  refine ssl rfl rfl rfl (by omega) (by omega) rfl ?_
  rw [show (bA l).extract ((p : Nat) : Int).toNat (bA l).size = bA (joinW (w :: R)) by rw [bA_ext, Int.toNat_natCast, bA_size, ← hs.drop, hp, List.take_of_length_le (by rw [List.length_drop]; exact Nat.le_refl _)]]
  refine SL_pcall rfl rfl cb132 (idxByte w R (hs.ns w (List.mem_cons_self ..))) rfl ?_
  refine pI rfl rfl (SL_nil (nx ?_))
  refine SWP_merge1 [4, 16, 17, 18, 19, 20, 21, 22, 23, 24] [4]
      (fun vs σ' m' => vs = [.int .i64 (w.length : Nat)] ∧ σ' = [(B, Cells 166 ([.string (bA l), .int .i64 (p : Nat), .string b, .int .i64 c, .bool e]))] ∧ m = m')
      rfl ?_ ?_
  · skip
    refine SWP_seq (SWP_region (pI rfl rfl ?_))
    refine pc rfl rfl (fun c17 => ?_) (fun c17 => ?_)
    · skip
      refine SL_nil (nx (SWP_ct rfl (SWP_region (pP rfl rfl (pu rfl rfl (pu rfl rfl ?_))))))
      refine lw (v := .string _) B 0 rfl rfl rfl rfl ?_
      refine pu rfl rfl (pI rfl rfl ?_)
      have hR : R = [] := Classical.byContradiction fun h => by rw [if_neg h] at c17; omega
      have hle2 := hle.2.2 hR
      refine pw rfl rfl (w64 (by omega) (by omega)) ?_
      rw [show (((bA l).size : Nat) : Int) - (p : Nat) = (w.length : Nat) by omega]
      refine pI rfl rfl (SL_nil (nx ?_))
      refine ⟨by repeat (first | with_reducible exact Under.refl _ _ | exact Under.upds rfl (Under.hav _ _ _) | exact Under.hav _ _ _ | refine Under.upd rfl ?_ | refine Under.upds rfl ?_ | refine Under.hav2 rfl ?_), ?_⟩
      refine ⟨?_, rfl, rfl⟩
      rfl
    refine SL_nil (nx (SWP_cf rfl (SWP_skip (nx ?_))))
    refine ⟨by repeat (first | with_reducible exact Under.refl _ _ | exact Under.upds rfl (Under.hav _ _ _) | exact Under.hav _ _ _ | refine Under.upd rfl ?_ | refine Under.upds rfl ?_ | refine Under.hav2 rfl ?_), ?_⟩
    refine ⟨?_, rfl, rfl⟩
    exact congrArg (fun z => [Value.int .i64 z]) (if_neg (fun h => by rw [if_pos h] at c17; omega))
  intro uM0 vM0 σM0 mM0 hM0 _
  obtain ⟨rfl, rfl, rfl⟩ := hM0
  refine SWP_seq (SWP_region (pP rfl rfl (pI rfl rfl (pI rfl rfl ?_))))
  refine pw rfl rfl (w64 (by omega) (by omega)) ?_
  rw [show ((p : Nat) : Int) + (w.length : Nat) = ((p + w.length : Nat) : Int) by omega]
  refine pu rfl rfl (pu rfl rfl ?_)
  refine sw (v := .int .i64 _) B 3 rfl rfl rfl rfl rfl rfl rfl ?_
  refine SL_nil (nx ?_)
  refine SWP_tail 13 (by kernel_rfl) (by kernel_rfl) ?_
  refine pP rfl rfl (pP rfl rfl (pu rfl rfl (pu rfl rfl ?_)))
  refine lw (v := .string _) B 0 rfl rfl rfl rfl ?_
  refine pI rfl rfl (pP rfl rfl (pu rfl rfl (pu rfl rfl ?_)))
  refine lw (v := .int .i64 _) B 3 rfl rfl rfl rfl ?_
  refine sst rfl rfl rfl rfl (by omega) (by omega) (by omega) rfl ?_
  rw [show (bA l).extract ((p : Nat) : Int).toNat (((p + w.length : Nat) : Nat) : Int).toNat = bA w by rw [bA_ext, Int.toNat_natCast, Int.toNat_natCast, Nat.add_sub_cancel_left, ← hp, hs.drop, take_word]]
  refine pu rfl rfl (pu rfl rfl (SL_nil ?_))
  refine sw (v := .string _) B 2 rfl rfl rfl rfl rfl rfl rfl ?_
  refine SL_nil ?_
  refine finn [] trivial ?_
  exact ⟨rfl, rfl⟩
set_option maxRecDepth 100000 in
theorem advI {m : Mem} {l : List UInt8} {w : Wd} {R : List Wd} (hs : Suf l (w :: R)) (hl : l.length ≤ 1000000) (B : Nat) : CallsS Tryz.prog 136 [.pointer (some ⟨B, 0, none⟩)].toArray [(B, Cells 166 (scE l (w :: R)))] m fun r σ' m' => σ' = [(B, Cells 166 (scE l (R)))] ∧ m' = m := by
  have hle := posR_le hs
  have hsz := bA_size l
  have hnx := fun h => posR_next hs h
  have hposL : posR l [] = l.length := Nat.sub_zero _
  refine enter Tryz.func136 Tryz.ntmps136 rfl rfl ?_
  refine SWP_seq (SWP_seq ?_)
  refine SWP_draws (by kernel_rfl) (by kernel_rfl) ?_
  refine pP rfl rfl (pu rfl rfl (pu rfl rfl ?_))
  refine lw (v := .int .i64 _) B 3 rfl rfl rfl rfl ?_
  refine pP rfl rfl (pu rfl rfl (pu rfl rfl ?_))
  refine lw (v := .string _) B 0 rfl rfl rfl rfl ?_
  refine pu rfl rfl ?_
  refine pc rfl rfl (fun c11 => ?_) (fun c11 => ?_)
  · skip
    refine SL_nil (nx (SWP_ct rfl (SWP_seq (SWP_region (pP rfl rfl (pP rfl rfl (pP rfl rfl (pP rfl rfl (pu rfl rfl (pu rfl rfl ?_))))))))))
    refine lw (v := .string _) B 0 rfl rfl rfl rfl ?_
    refine pu rfl rfl (pu rfl rfl (pu rfl rfl ?_))
    refine sw (v := .int .i64 _) B 1 rfl rfl rfl rfl rfl rfl rfl ?_
    refine pu rfl rfl (pu rfl rfl ?_)
    refine sw (v := .string _) B 2 rfl rfl rfl rfl rfl rfl rfl ?_
    refine pu rfl rfl (pu rfl rfl ?_)
    refine sw (v := .bool _) B 4 rfl rfl rfl rfl rfl rfl rfl ?_
    refine SL_nil (nx (SWP_ret (nr ?_)))
    refine fin [] trivial ?_
    have hR : R = [] := hle.2.1 (by have := c11; have e : (w :: R).headD [] = w := rfl; rw [e] at this; exact (Int.ofNat.inj this).trans hsz)
    subst hR
    have h2 := hle.2.2 rfl
    refine ⟨?_, rfl⟩
    show [(B, Cells 166 (scC l (bA l).size [] (posR l [w] + w.length) true))] = [(B, Cells 166 (scC l (posR l []) [] (posR l [] + 0) true))]
    rw [hsz, h2, hposL, Nat.add_zero]
  refine SL_nil (nx (SWP_cf rfl (SWP_skip (nx ?_))))
  have hR : ¬ R = [] := fun h => by
    have e : (w :: R).headD [] = w := rfl
    rw [e] at c11
    have := hle.2.2 h
    omega
  obtain ⟨v, R2, rfl⟩ : ∃ v R2, R = v :: R2 := by
    cases R with
    | nil => exact absurd rfl hR
    | cons v R2 => exact ⟨v, R2, rfl⟩
  have hs2 : Suf l (v :: R2) := hs.next
  have hnx2 := hnx (by simp)
  refine SWP_region (pP rfl rfl (pP rfl rfl (pu rfl rfl (pu rfl rfl ?_))))
  refine lw (v := .int .i64 _) B 3 rfl rfl rfl rfl ?_
  refine pw rfl rfl (w64 (by simp only [List.headD_cons]; omega) (by simp only [List.headD_cons]; omega)) ?_
  rw [show (((posR l (w :: v :: R2) + ((w :: v :: R2).headD []).length : Nat)) : Int) + 1 = ((posR l (v :: R2) : Nat) : Int) by simp only [List.headD_cons]; omega]
  refine SL_call rfl rfl cb92 (loadI hs2 hl B _ _ _ _) rfl (fun v2_6 σ2_6 m2_6 hl2_6 hR2_6 => ?_)
  obtain ⟨rfl, hm2_6⟩ := hR2_6
  have hn2_6 := hm2_6.symm
  subst hn2_6
  refine SL_nil ?_
  refine finn [] trivial ?_
  exact ⟨rfl, rfl⟩
set_option maxRecDepth 100000 in
theorem isI {m : Mem} {l : List UInt8} {R : List Wd} (B : Nat) (x : Wd) : CallsS Tryz.prog 135 [.pointer (some ⟨B, 0, none⟩), .string (bA x)].toArray [(B, Cells 166 (scE l (R)))] m fun r σ' m' => r = .bool (isW x R) ∧ σ' = [(B, Cells 166 (scE l (R)))] ∧ m' = m := by
  refine enter Tryz.func135 Tryz.ntmps135 rfl rfl ?_
  refine SWP_seq (SWP_region (pB rfl rfl (SL_nil (nx (SWP_seq (SWP_region (pP rfl rfl (pu rfl rfl (pu rfl rfl ?_)))))))))
  refine lw (v := .bool _) B 4 rfl rfl rfl rfl ?_
  refine bsp 8 rfl (fun b8 => ?_) (fun b8 => ?_)
  · skip
    refine pB rfl rfl (pB rfl rfl (SL_no rfl rfl (SL_no rfl rfl (SL_no rfl rfl (SL_no rfl rfl (SL_no rfl rfl (SL_no rfl rfl (pB rfl rfl (pB rfl rfl (SL_nil (nx ?_)))))))))))
    refine SWP_ret ?_
    refine fin [_] ⟨rfl, trivial⟩ ?_
    cases R with
    | nil => first | contradiction | exact ⟨rfl, rfl, rfl⟩
    | cons w R => first | contradiction | exact ⟨congrArg Value.bool (decide_eq_decide.2 bA_inj), rfl, rfl⟩ | (refine ⟨congrArg Value.bool ?_, rfl, rfl⟩; first | exact (decide_eq_true (bA_inj.1 (by assumption))).symm | exact (decide_eq_false (fun h => absurd (bA_inj.2 h) (by assumption))).symm)
  refine pB rfl rfl (pB rfl rfl (SL_yes rfl (pP rfl rfl (SL_yes rfl (pu rfl rfl (SL_yes rfl (pu rfl rfl (SL_yes rfl ?_))))))))
  refine lw (v := .string _) B 2 rfl rfl rfl rfl ?_
  refine SL_yes rfl (pS rfl rfl (SL_yes rfl (pu rfl rfl (pB rfl rfl (pB rfl rfl (SL_nil (nx (SWP_ret ?_))))))))
  refine fin [_] ⟨rfl, trivial⟩ ?_
  cases R with
  | nil => first | contradiction | exact ⟨rfl, rfl, rfl⟩
  | cons w R => first | contradiction | exact ⟨congrArg Value.bool (decide_eq_decide.2 bA_inj), rfl, rfl⟩ | (refine ⟨congrArg Value.bool ?_, rfl, rfl⟩; first | exact (decide_eq_true (bA_inj.1 (by assumption))).symm | exact (decide_eq_false (fun h => absurd (bA_inj.2 h) (by assumption))).symm)
end Go.Proofs.YtlgoegjboabgfaaGreatDoor
namespace Go.Proofs.YtlgoegjboabgfaaGreatDoor
open Eng
theorem numW_some {w : Wd} (h1 : 1 ≤ w.length) (h9 : w.length ≤ 9) : numW w = if decB w = true then some ((valB w : Nat) : Int) else none := by
  unfold numW
  by_cases h : decB w = true
  · rw [if_pos ⟨h9, h⟩, if_pos h]
  · rw [if_neg (fun hh => h hh.2), if_neg h]
theorem numW_nil : numW [] = none := rfl
theorem numW_long {w : Wd} (h : 9 < w.length) : numW w = none := if_neg (fun hh => by omega)
theorem numW_minus {w : Wd} (h : w[0]? = some 45) : numW w = none := if_neg (fun hh => by
  have := List.all_eq_true.1 (decB_all hh.2) 45 (List.mem_of_getElem? h)
  exact absurd this (by decide))
set_option maxRecDepth 100000 in
theorem numb0 {m : Mem} {l : List UInt8} (B : Nat) : CallsS Tryz.prog 163 [.pointer (some ⟨B, 0, none⟩)].toArray [(B, Cells 166 (scE l ([])))] m fun r σ' m' => r = .tuple #[.int .i64 ((numV ([])).getD 0), .bool (numV ([])).isSome] ∧ σ' = [(B, Cells 166 (scE l ([])))] ∧ m' = m := by
  refine enter Tryz.func163 Tryz.ntmps163 rfl rfl ?_
  refine SWP_seq (SWP_region (pI rfl rfl (pB rfl rfl (SL_nil (nx (SWP_seq (SWP_seq (SWP_region (pP rfl rfl (pu rfl rfl (pu rfl rfl ?_)))))))))))
  refine lw (v := .bool true) B 4 rfl rfl rfl rfl ?_
  refine pB rfl rfl (SL_no rfl rfl (SL_no rfl rfl (SL_no rfl rfl (SL_no rfl rfl (SL_no rfl rfl (pB rfl rfl (pB rfl rfl (SL_no rfl rfl (SL_no rfl rfl (SL_no rfl rfl (SL_no rfl rfl ?_)))))))))))
  refine SL_no rfl rfl (SL_no rfl rfl (pB rfl rfl (pB rfl rfl (SL_no rfl rfl (SL_no rfl rfl (SL_no rfl rfl (SL_no rfl rfl (SL_no rfl rfl (SL_no rfl rfl (pB rfl rfl (SL_nil ?_)))))))))))
  refine nx (SWP_ct rfl (SWP_seq (SWP_region (pI rfl rfl (pB rfl rfl (SL_nil (nx (SWP_ret (nr ?_)))))))))
  refine fin [_, _] ⟨rfl, rfl, trivial⟩ ?_
  exact ⟨rfl, rfl, rfl⟩
set_option maxRecDepth 100000 in
theorem numb1 {m : Mem} {l : List UInt8} {w : Wd} {R : List Wd} (B : Nat) (hw : w.length ≤ 1000000) : CallsS Tryz.prog 163 [.pointer (some ⟨B, 0, none⟩)].toArray [(B, Cells 166 (scE l (w :: R)))] m fun r σ' m' => r = .tuple #[.int .i64 ((numV (w :: R)).getD 0), .bool (numV (w :: R)).isSome] ∧ σ' = [(B, Cells 166 (scE l (w :: R)))] ∧ m' = m := by
  have hsz := bA_size w
  refine enter Tryz.func163 Tryz.ntmps163 rfl rfl ?_
  refine SWP_seq (SWP_region (pI rfl rfl (pB rfl rfl (SL_nil (nx (SWP_seq (SWP_seq (SWP_region (pP rfl rfl (pu rfl rfl (pu rfl rfl ?_)))))))))))
  refine lw (v := .bool false) B 4 rfl rfl rfl rfl ?_
  refine pB rfl rfl (SL_yes rfl (pP rfl rfl (SL_yes rfl (pu rfl rfl (SL_yes rfl (pu rfl rfl (SL_yes rfl ?_)))))))
  refine lw (v := .string (bA w)) B 2 rfl rfl rfl rfl ?_
  refine SL_yes rfl ?_
  refine pc rfl rfl (fun c15 => ?_) (fun c15 => ?_)
  · skip
    refine pB rfl rfl (pB rfl rfl (SL_no rfl rfl (SL_no rfl rfl (SL_no rfl rfl (SL_no rfl rfl (SL_no rfl rfl (SL_no rfl rfl (pB rfl rfl (pB rfl rfl (SL_no rfl rfl (SL_no rfl rfl ?_)))))))))))
    refine SL_no rfl rfl (SL_no rfl rfl (SL_no rfl rfl (SL_no rfl rfl (pB rfl rfl (SL_nil (nx (SWP_ct rfl (SWP_seq (SWP_region (pI rfl rfl (pB rfl rfl ?_)))))))))))
    refine SL_nil (nx (SWP_ret (nr ?_)))
    refine fin [_, _] ⟨rfl, rfl, trivial⟩ ?_
    refine ⟨?_, rfl, rfl⟩
    have e : numW w = none := by
      first
        | exact numW_long (by omega)
        | exact numW_minus (by rw [hb0]; exact congrArg some ((byte_eq (n := 45) (by decide)).1 (by assumption)))
        | (rw [bA_inj.1 (show bA w = bA [] by assumption)]; exact numW_nil)
    show _ = Value.tuple #[.int .i64 ((numW w).getD 0), .bool (numW w).isSome]
    rw [e]
    rfl
  refine pB rfl rfl (pB rfl rfl (SL_yes rfl (pP rfl rfl (SL_yes rfl (pu rfl rfl (SL_yes rfl (pu rfl rfl (SL_yes rfl ?_))))))))
  refine lw (v := .string (bA w)) B 2 rfl rfl rfl rfl ?_
  refine SL_yes rfl (pu rfl rfl (SL_yes rfl ?_))
  refine pc rfl rfl (fun c23 => ?_) (fun c23 => ?_)
  · skip
    refine pB rfl rfl (pB rfl rfl (SL_no rfl rfl (SL_no rfl rfl (SL_no rfl rfl (SL_no rfl rfl (SL_no rfl rfl (SL_no rfl rfl (pB rfl rfl (SL_nil (nx (SWP_ct rfl ?_)))))))))))
    refine SWP_seq (SWP_region (pI rfl rfl (pB rfl rfl (SL_nil (nx (SWP_ret (nr ?_)))))))
    refine fin [_, _] ⟨rfl, rfl, trivial⟩ ?_
    refine ⟨?_, rfl, rfl⟩
    have e : numW w = none := by
      first
        | exact numW_long (by omega)
        | exact numW_minus (by rw [hb0]; exact congrArg some ((byte_eq (n := 45) (by decide)).1 (by assumption)))
        | (rw [bA_inj.1 (show bA w = bA [] by assumption)]; exact numW_nil)
    show _ = Value.tuple #[.int .i64 ((numW w).getD 0), .bool (numW w).isSome]
    rw [e]
    rfl
  refine pB rfl rfl (pB rfl rfl (SL_yes rfl (pP rfl rfl (SL_yes rfl (pu rfl rfl (SL_yes rfl (pu rfl rfl (SL_yes rfl ?_))))))))
  refine lw (v := .string (bA w)) B 2 rfl rfl rfl rfl ?_
  refine SL_yes rfl ?_
  have hne : w ≠ [] := fun h => absurd (bA_inj.2 h) (by assumption)
  have h1 : 1 ≤ w.length := List.length_pos_iff.2 hne
  obtain ⟨b0, hb0⟩ : ∃ b, w[0]? = some b := ⟨_, List.getElem?_eq_getElem (by omega)⟩
  refine ixs (k := 0) rfl rfl rfl hb0 rfl ?_
  refine SL_yes rfl ?_
  refine pc rfl rfl (fun c31 => ?_) (fun c31 => ?_)
  · skip
    refine pB rfl rfl (SL_nil (nx (SWP_ct rfl (SWP_seq (SWP_region (pI rfl rfl (pB rfl rfl (SL_nil (nx (SWP_ret (nr ?_)))))))))))
    refine fin [_, _] ⟨rfl, rfl, trivial⟩ ?_
    refine ⟨?_, rfl, rfl⟩
    have e : numW w = none := by
      first
        | exact numW_long (by omega)
        | exact numW_minus (by rw [hb0]; exact congrArg some ((byte_eq (n := 45) (by decide)).1 (by assumption)))
        | (rw [bA_inj.1 (show bA w = bA [] by assumption)]; exact numW_nil)
    show _ = Value.tuple #[.int .i64 ((numW w).getD 0), .bool (numW w).isSome]
    rw [e]
    rfl
  refine pB rfl rfl (SL_nil (nx (SWP_cf rfl (SWP_skip (nx (SWP_seq ?_))))))
  have h45 : w[0]? ≠ some 45 := fun h => absurd ((byte_eq (n := 45) (by decide)).2 (Option.some.inj (hb0.symm.trans h))) (by assumption)
  refine SWP_region (pP rfl rfl (pu rfl rfl (pu rfl rfl ?_)))
  refine lw (v := .string (bA w)) B 2 rfl rfl rfl rfl ?_
  refine SL_pcall rfl rfl cb183 (parseI w h1 (by omega) h45) rfl ?_
  refine pu rfl rfl (pI rfl rfl (pI rfl rfl (pI rfl rfl (pI rfl rfl (SL_nil (nx (SWP_seq (SWP_region (pI rfl rfl (pI rfl rfl (pu rfl rfl ?_)))))))))))
  refine pI rfl rfl (pB rfl rfl (SL_nil (nx (SWP_ret ?_))))
  refine fin [_, _] ⟨rfl, rfl, trivial⟩ ?_
  refine ⟨?_, rfl, rfl⟩
  show _ = Value.tuple #[.int .i64 ((numW w).getD 0), .bool (numW w).isSome]
  rw [numW_some h1 (by omega)]
  by_cases hd : decB w = true
  · simp only [if_pos hd]; rfl
  · simp only [if_neg hd]; rfl
theorem numbI {m : Mem} {l : List UInt8} {R : List Wd} (B : Nat) (hR : ∀ w ∈ R, w.length ≤ 1000000) : CallsS Tryz.prog 163 [.pointer (some ⟨B, 0, none⟩)].toArray [(B, Cells 166 (scE l (R)))] m fun r σ' m' => r = .tuple #[.int .i64 ((numV (R)).getD 0), .bool (numV (R)).isSome] ∧ σ' = [(B, Cells 166 (scE l (R)))] ∧ m' = m := by
  cases R with
  | nil => exact numb0 B
  | cons w R => exact numb1 B (hR w (List.mem_cons_self ..))
def takeN : List Wd → List Int × List Wd
  | [] => ([], [])
  | w :: r => match numW w with
    | none => ([], w :: r)
    | some n => (n :: (takeN r).1, (takeN r).2)
theorem takeN_none {R : List Wd} (h : (numV R).isSome = false) : takeN R = ([], R) := by
  cases R with
  | nil => rfl
  | cons w R =>
    unfold takeN
    cases hw : numW w with
    | none => rfl
    | some n => exact absurd h (by show ¬ (numW w).isSome = false; rw [hw]; simp)
theorem takeN_some {R : List Wd} (h : (numV R).isSome = true) : ∃ w R', R = w :: R' ∧ takeN R = ((numV R).getD 0 :: (takeN R').1, (takeN R').2) := by
  cases R with
  | nil => cases h
  | cons w R =>
    refine ⟨w, R, rfl, ?_⟩
    show takeN (w :: R) = ((numW w).getD 0 :: _, _)
    have h' : (numW w).isSome = true := h
    rw [takeN]
    cases hw : numW w with
    | none => rw [hw] at h'; cases h'
    | some n => rfl
theorem takeN_len : ∀ R : List Wd, (takeN R).1.length + (takeN R).2.length = R.length
  | [] => rfl
  | w :: R => by
    unfold takeN
    cases hw : numW w with
    | none => simp
    | some n =>
      have := takeN_len R
      simp only [List.length_cons]
      omega
theorem Suf.takeN {l : List UInt8} : ∀ {R : List Wd}, Suf l R → Suf l (takeN R).2
  | [], h => h
  | w :: R, h => by
    unfold Go.Proofs.YtlgoegjboabgfaaGreatDoor.takeN
    cases hw : numW w with
    | none => exact h
    | some n => exact Suf.takeN h.next
set_option maxRecDepth 100000 in
theorem numsS {m : Mem} {l : List UInt8} {R : List Wd} (hs : Suf l R) (hl : l.length ≤ 1000000) (hR : ∀ w ∈ R, w.length ≤ 1000000) (hRl : R.length ≤ 1000000) (B : Nat) : CallsS Tryz.prog 162 [.pointer (some ⟨B, 0, none⟩)].toArray [(B, Cells 166 (scE l (R)))] m fun r σ' m' => σ' = [(B, Cells 166 (scE l ((takeN R).2)))] ∧ ∃ a c, r = .tuple #[.slice a (takeN R).1.length c, .bool (decide ((takeN R).1 ≠ []))] ∧ RL m' intE 1 (.slice a (takeN R).1.length c) (takeN R).1 := by
  refine CallsS.ghost (R' := fun r σ' m' => ∃ σe, σ' = ((B, Cells 166 (scE l ((takeN R).2)))) :: σe ∧ ∃ a c, r = .tuple #[.slice a (takeN R).1.length c, .bool (decide ((takeN R).1 ≠ []))] ∧ RL m' intE 1 (.slice a (takeN R).1.length c) (takeN R).1) ?_ ?h2
  case h2 =>
    rintro r σ' m' ⟨σe, rfl, hr⟩ g0 W hC
    exact ⟨_, m', hC.sublist (List.Sublist.cons_cons _ (List.nil_sublist _)), Le.refl _, rfl, hr⟩
  refine enter Tryz.func162 Tryz.ntmps162 rfl rfl ?_
  refine SWP_seq (SWP_region (pL rfl rfl (pB rfl rfl (SL_nil (nx (SWP_seq (SWP_region (pL rfl rfl (SL_nil (nx (SWP_block ?_)))))))))))
  refine SWP_loop [2, 3, 4, 5, 6, 7, 8, 9, 10, 11, 12, 13, 14, 15, 16, 17, 18, 19, 20, 21, 22, 23] [4]
      (fun vs σ' m' => ∃ (a4 : Option Addr) (c4 : Nat) (T : List Int) (R2 : List Wd) (σe : Sig), vs = [.slice a4 T.length c4] ∧ takeN R = (T ++ (takeN R2).1, (takeN R2).2) ∧ T.length + R2.length = R.length ∧ Suf l R2 ∧ (∀ w ∈ R2, w.length ≤ 1000000) ∧ OwnS 3 1 (.slice a4 T.length c4) (T.flatMap intE) σe ∧ σ' = ((B, Cells 166 (scE l (R2)))) :: σe ∧ m = m')
      (fun vs => R.length - (match vs.getD 0 undef with | .slice _ n _ => n | _ => 0)) rfl ?_ ?_
  · exact ⟨none, 0, [], R, [], rfl, rfl, by simp, hs, hR, .nil, rfl, rfl⟩
  intro u0 vs0 σ0 m0 hJ0 _
  obtain ⟨a4, c4, T, R2, σe, rfl, htn, hlen, hs2, hR2, hown, rfl, rfl⟩ := hJ0
  refine SWP_block (SWP_seq (SWP_region (pP rfl rfl ?_)))
  refine SL_pcallS rfl rfl cb163 (CallsS.pureIn (numbI B hR2) ⟨σe, .refl _⟩) rfl ?_
  refine pu rfl rfl (pI rfl rfl (pB rfl rfl ?_))
  refine bsp 11 rfl (fun b11 => ?_) (fun b11 => ?_)
  · skip
    refine pI rfl rfl (pB rfl rfl (SL_nil (nx (SWP_seq (SWP_seq (SWP_region (pB rfl rfl (pB rfl rfl (SL_nil (nx (SWP_cf rfl ?_)))))))))))
    refine SWP_skip (nx (SWP_seq (SWP_region (pL rfl rfl (pI rfl rfl ?_)))))
    refine bs rfl rfl rfl rfl rfl (fun B20 => ?_)
    refine ap (e := 3) (size := 1) (bytes := 8) rfl rfl rfl rfl rfl rfl rfl hown (List.perm_append_comm (l₁ := [_, _]) (l₂ := σe)) rfl (Rd.of_cells (.head _)) rfl rfl (by rw [flatMap_len intE_len]; omega) rfl rfl (fun v21 σ21 hown21 => ?_)
    refine SL_weak (List.Sublist.append_left (List.sublist_cons_self _ _) _) ?_
    refine SL_perm (List.perm_append_comm (l₂ := [_])) ?_
    have hown5 : OwnS 3 1 v21 ((T ++ [(numV R2).getD 0]).flatMap intE) σ21 := by rw [List.flatMap_append]; exact hown21
    obtain ⟨a5, c5, e5⟩ := hown5.lenL (by omega) intE_len
    subst e5
    refine pL rfl rfl (SL_nil (nx ?_))
    obtain ⟨w, R3, rfl, htk⟩ := takeN_some (R := R2) (by assumption)
    have hs3 := hs2
    refine SWP_region (pP rfl rfl ?_)
    refine SL_call rfl rfl cb136 (CallsS.subF _ (advI hs3 hl B) (.refl _)) rfl (fun v6_1 σ6_1 m6_1 hl6_1 hR6_1 => ?_)
    obtain ⟨σz, rfl, rfl, hm6_1⟩ := hR6_1
    have hn6_1 := hm6_1.symm
    subst hn6_1
    refine SL_nil (nb (nx ?_))
    refine ⟨by repeat (first | exact Under.upds rfl (Under.hav _ _ _) | exact Under.hav _ _ _ | refine Under.upd rfl ?_), ?_, ?_⟩
    · refine ⟨a5, c5, T ++ [(numV (w :: R3)).getD 0], R3, σ21, rfl, ?_, ?_, hs3.next, fun x hx => hR2 x (List.mem_cons_of_mem _ hx), ?_, rfl, rfl⟩
      · rw [htn, htk]; simp
      · rw [List.length_append]; simp only [List.length_cons, List.length_nil] at *; omega
      · exact hown5
    · simp only [L_vals, List.map, List.getD]; show R.length - (T ++ [(numV (w :: R3)).getD 0]).length < R.length - T.length; rw [List.length_append]; simp only [List.length_cons, List.length_nil] at *; omega
  refine pI rfl rfl (pB rfl rfl (SL_nil (nx (SWP_seq (SWP_seq (SWP_region (pB rfl rfl (pB rfl rfl (SL_nil (nx (SWP_ct rfl ?_)))))))))))
  refine SWP_seq (SWP_region ?_)
  refine SL_perm (List.perm_append_comm (l₁ := [_]) (l₂ := σe)) ?_
  refine SL_freezeL (by omega) intE_len hown (fun m9 hl9 hr9 => ?_)
  refine pu rfl rfl (pL rfl rfl (pu rfl rfl (pu rfl rfl (pL rfl rfl (pB rfl rfl (SL_nil (nx (SWP_ret (nr (br (nr ?_)))))))))))
  refine br ?_
  refine fin [_, _] ⟨rfl, rfl, trivial⟩ ?_
  have htk := takeN_none (R := R2) (by assumption)
  rw [htk, List.append_nil] at htn
  rw [htn]
  refine ⟨[], rfl, a4, c4, ?_, hr9⟩
  show Value.tuple #[.slice a4 T.length c4, .bool (decide (0 < (T.length : Int)))] = _
  rw [show decide (0 < (T.length : Int)) = decide (T ≠ []) from decide_eq_decide.2 ⟨fun h e => by rw [e] at h; simp at h, fun h => by have := List.length_pos_iff.2 h; omega⟩]
end Go.Proofs.YtlgoegjboabgfaaGreatDoor
namespace Go.Proofs.YtlgoegjboabgfaaGreatDoor
open Eng
abbrev LnK := List Int × List Int
def Line.keyL (x : Line) : LnK := (x.main, x.bonus)
def lineM (R : List Wd) : Option LnK × List Wd :=
  if (takeN R).1 = [] then (none, (takeN R).2)
  else if isW [43] (takeN R).2 = true then
    (if (takeN (takeN R).2.tail).1 = [] then none else some ((takeN R).1, (takeN (takeN R).2.tail).1), (takeN (takeN R).2.tail).2)
  else (some ((takeN R).1, []), (takeN R).2)
def linesF : Nat → List Wd → List LnK → Option (List LnK) × List Wd
  | 0, R, _ => (none, R)
  | f + 1, R, acc => match (lineM R).1 with
    | none => (none, (lineM R).2)
    | some x => if isW [47] (lineM R).2 = true then linesF f (lineM R).2.tail (acc ++ [x]) else (some (acc ++ [x]), (lineM R).2)
def linesM (R : List Wd) : Option (List LnK) × List Wd := linesF (R.length + 1) R []
theorem Suf.tail {l : List UInt8} {R : List Wd} (h : Suf l R) : Suf l R.tail := by
  cases R with
  | nil => exact h
  | cons w R => exact h.next
theorem isW_cons {x : Wd} {R : List Wd} (h : isW x R = true) : R = x :: R.tail := by
  cases R with
  | nil => cases h
  | cons w R => rw [show w = x from of_decide_eq_true h]; rfl
theorem takeN_suf : ∀ R : List Wd, (takeN R).2 <:+ R
  | [] => List.suffix_refl _
  | w :: R => by
    rw [takeN]
    cases hw : numW w with
    | none => exact List.suffix_refl _
    | some n => exact (takeN_suf R).trans (List.suffix_cons _ _)
theorem tail_suf (R : List Wd) : R.tail <:+ R := by
  cases R with
  | nil => exact List.suffix_refl _
  | cons w R => exact List.suffix_cons _ _
theorem takeN_pos {R : List Wd} (h : (takeN R).1 ≠ []) : (takeN R).2.length < R.length := by
  have := takeN_len R
  have := List.length_pos_iff.2 h
  omega
theorem lineM_pos {R : List Wd} {x : LnK} (h : (lineM R).1 = some x) : (lineM R).2.length < R.length := by
  unfold lineM at h ⊢
  by_cases h1 : (takeN R).1 = []
  · rw [if_pos h1] at h; cases h
  rw [if_neg h1] at h ⊢
  have hp := takeN_pos h1
  by_cases h2 : isW [43] (takeN R).2 = true
  · rw [if_pos h2] at h ⊢
    have := ((takeN_suf (takeN R).2.tail).trans (tail_suf _)).length_le
    show (takeN (takeN R).2.tail).2.length < R.length
    omega
  · rw [if_neg h2] at h ⊢
    exact hp
structure WOk (l : List UInt8) (R : List Wd) : Prop where
  sf : Suf l R
  ws : ∀ w ∈ R, w.length ≤ 1000000
  rl : R.length ≤ 1000000
theorem WOk.takeN {l : List UInt8} {R : List Wd} (h : WOk l R) : WOk l (Go.Proofs.YtlgoegjboabgfaaGreatDoor.takeN R).2 := ⟨h.sf.takeN, fun w hw => h.ws w ((takeN_suf R).subset hw), by have := (takeN_suf R).length_le; have := h.rl; omega⟩
theorem WOk.tail {l : List UInt8} {R : List Wd} (h : WOk l R) : WOk l R.tail := ⟨h.sf.tail, fun w hw => h.ws w ((tail_suf R).subset hw), by have := (tail_suf R).length_le; have := h.rl; omega⟩
theorem WOk.line {l : List UInt8} {R : List Wd} (h : WOk l R) : WOk l (lineM R).2 := by
  unfold lineM
  split
  · exact h.takeN
  · split
    · exact h.takeN.tail.takeN
    · exact h.takeN
theorem isN_dec {L : List Int} : decide (L ≠ []) = true ↔ L ≠ [] := decide_eq_true_iff
end Go.Proofs.YtlgoegjboabgfaaGreatDoor
namespace Go.Proofs.YtlgoegjboabgfaaGreatDoor
open Eng
def LinesRes (o : Option (List LnK)) (r : Value) (m : Mem) : Prop :=
  ∃ (L : List Line) (a : Option Addr) (c : Nat) (b : Bool), r = .tuple #[.slice a L.length c, .bool b] ∧ RL m Line.enc 2 (.slice a L.length c) L ∧ (∀ x ∈ L, x.In m) ∧ o = if b = true then some (L.map Line.keyL) else none
theorem permC {α : Type} (a b c : α) (s : List α) : (a :: b :: c :: s).Perm (c :: a :: b :: s) := by
  classical
  rw [List.perm_iff_count]
  intro y
  simp only [List.count_cons]
  omega
theorem permL3 {α : Type} (a b c : α) (s : List α) : (a :: b :: c :: s).Perm (s ++ [c, a, b]) := by
  classical
  rw [List.perm_iff_count]
  intro y
  simp only [List.count_cons, List.count_append, List.count_nil]
  omega
theorem permL1 {α : Type} (c : α) (s : List α) : ([c] ++ s).Perm (s ++ [c]) := List.perm_append_comm
theorem lineM_0 {R : List Wd} (h : (takeN R).1 = []) : lineM R = (none, (takeN R).2) := if_pos h
theorem lineM_1 {R : List Wd} (h : (takeN R).1 ≠ []) (h2 : isW [43] (takeN R).2 = false) : lineM R = (some ((takeN R).1, []), (takeN R).2) := (if_neg h).trans (if_neg (by rw [h2]; exact Bool.noConfusion))
theorem lineM_2 {R : List Wd} (h : (takeN R).1 ≠ []) (h2 : isW [43] (takeN R).2 = true) (h3 : (takeN (takeN R).2.tail).1 = []) : lineM R = (none, (takeN (takeN R).2.tail).2) := (if_neg h).trans ((if_pos h2).trans (by rw [if_pos h3]))
theorem lineM_3 {R : List Wd} (h : (takeN R).1 ≠ []) (h2 : isW [43] (takeN R).2 = true) (h3 : (takeN (takeN R).2.tail).1 ≠ []) : lineM R = (some ((takeN R).1, (takeN (takeN R).2.tail).1), (takeN (takeN R).2.tail).2) := (if_neg h).trans ((if_pos h2).trans (by rw [if_neg h3]))
theorem linesF_0 {f : Nat} {R R' : List Wd} {acc : List LnK} (h : lineM R = (none, R')) : linesF (f + 1) R acc = (none, R') := by rw [linesF, h]
theorem linesF_1 {f : Nat} {R R' : List Wd} {x : LnK} {acc : List LnK} (h : lineM R = (some x, R')) (h2 : isW [47] R' = false) : linesF (f + 1) R acc = (some (acc ++ [x]), R') := by rw [linesF, h]; exact if_neg (by rw [h2]; exact Bool.noConfusion)
theorem linesF_2 {f : Nat} {R R' : List Wd} {x : LnK} {acc : List LnK} (h : lineM R = (some x, R')) (h2 : isW [47] R' = true) : linesF (f + 1) R acc = linesF f R'.tail (acc ++ [x]) := by rw [linesF, h]; exact if_pos h2
set_option maxRecDepth 100000 in
theorem linesS {m : Mem} {l : List UInt8} {R : List Wd} (hw : WOk l R) (hl : l.length ≤ 1000000) (B : Nat) : CallsS Tryz.prog 133 [.pointer (some ⟨B, 0, none⟩)].toArray [(B, Cells 166 (scE l (R)))] m fun r σ' m' => σ' = [(B, Cells 166 (scE l ((linesM R).2)))] ∧ LinesRes (linesM R).1 r m' := by
  refine CallsS.ghost (R' := fun r σ' m' => ∃ τ, σ' = ((B, Cells 166 (scE l ((linesM R).2)))) :: τ ∧ LinesRes (linesM R).1 r m') ?_ ?h2
  case h2 =>
    rintro r σ' m' ⟨τ, rfl, hr⟩ g0 W hC
    exact ⟨_, m', hC.sublist (List.Sublist.cons_cons _ (List.nil_sublist _)), Le.refl _, rfl, hr⟩
  have hrl := hw.rl
  refine enter Tryz.func133 Tryz.ntmps133 rfl rfl ?_
  refine SWP_seq (SWP_region (pL rfl rfl (pB rfl rfl (SL_nil (nx (SWP_scope (SWP_seq (SWP_region (pL rfl rfl (SL_nil (nx ?_)))))))))))
  refine SWP_seq (SWP_region (pB rfl rfl (SL_nil (nx (SWP_seq (SWP_label (nx (SWP_seq (SWP_block ?_)))))))))
  refine SWP_loop [4, 5, 6, 8, 9, 10, 11, 12, 13, 14, 15, 16, 17, 18, 19, 20, 21, 22, 23, 24, 25, 26, 27, 28, 29, 30, 31, 32, 33, 34, 35, 36, 37, 38, 39, 40, 41, 42, 43, 44, 45, 46, 47, 48] [4, 5]
      (fun vs σ' m' => ∃ (a4 : Option Addr) (c4 : Nat) (L : List Line) (R2 : List Wd) (f : Nat) (σe : Sig), vs = [.slice a4 L.length c4, .bool false] ∧ linesM R = linesF f R2 (L.map Line.keyL) ∧ R2.length < f ∧ L.length + f = R.length + 1 ∧ WOk l R2 ∧ OwnS 142 2 (.slice a4 L.length c4) (L.flatMap Line.enc) σe ∧ (∀ x ∈ L, x.In m') ∧ σ' = ((B, Cells 166 (scE l (R2)))) :: σe ∧ Le m m')
      (fun vs => R.length + 1 - (match vs.getD 0 undef with | .slice _ n _ => n | _ => 0)) rfl ?_ ?_
  · exact ⟨none, 0, [], R, R.length + 1, [], rfl, rfl, by omega, by simp, hw, .nil, fun x hx => (by cases hx), rfl, Le.refl _⟩
  intro u0 vs0 σ0 m0 hJ0 _
  obtain ⟨a4, c4, L, R2, f, σe, rfl, hlf, hf, hn, hw2, hown, hin, rfl, hle⟩ := hJ0
  obtain ⟨f, rfl⟩ : ∃ k, f = k + 1 := ⟨f - 1, by omega⟩
  refine SWP_block (SWP_seq (SWP_region ?_))
  refine al rfl rfl (fun B6 => ?_)
  refine SL_nil (nx ?_)
  refine SWP_merge1 [8, 9, 10, 11, 12, 13, 14, 15, 16, 17, 18, 19, 20, 21, 22, 23, 24, 25, 26, 27, 28, 29, 30, 31, 32, 33, 34, 35, 36, 37, 38, 39] []
      (fun vs σ' m' => vs = [] ∧ ∃ (M N : List Int) (a7 : Option Addr) (c7 : Nat) (b7 : Option Addr) (d7 : Nat) (q : Nat × Chk), RL m' intE 1 (.slice a7 M.length c7) M ∧ RL m' intE 1 (.slice b7 N.length d7) N ∧ lineM R2 = (some (M, N), (lineM R2).2) ∧ σ' = q :: (B6, Cells 142 [.slice a7 M.length c7, .slice b7 N.length d7]) :: ((B, Cells 166 (scE l ((lineM R2).2)))) :: σe ∧ Le m0 m')
      rfl ?_ ?_
  · skip
    refine SWP_seq (SWP_region (pu rfl rfl (pu rfl rfl ?_)))
    refine bs rfl rfl rfl rfl rfl (fun B13 => ?_)
    refine pu rfl rfl (pI rfl rfl (SL_nil (nx (SWP_block ?_))))
    refine SWP_loop [8, 9, 10, 15, 16, 17, 18, 19, 20, 21, 22, 23, 24, 25, 26, 27, 28, 29, 30, 31, 32, 33, 34, 35, 36, 37, 38, 39] [15]
        (fun vs σ' m' => ∃ (j : Nat) (M : List Int) (a6 : Option Addr) (c6 : Nat) (R3 : List Wd), vs = [.int .i64 (j : Nat)] ∧ ((j = 0 ∧ M = [] ∧ a6 = none ∧ c6 = 0 ∧ R3 = R2) ∨ (j = 1 ∧ (takeN R2).1 ≠ [] ∧ isW [43] (takeN R2).2 = true ∧ M = (takeN R2).1 ∧ R3 = (takeN R2).2.tail)) ∧ j ≤ 1 ∧ RL m' intE 1 (.slice a6 M.length c6) M ∧ WOk l R3 ∧ σ' = (B13, Cells 240 [.pointer (some ⟨B6, 0, none⟩), .pointer (some ⟨B6, 1, none⟩)]) :: (B6, Cells 142 [.slice a6 M.length c6, .slice none 0 0]) :: ((B, Cells 166 (scE l (R3)))) :: σe ∧ Le m0 m')
        (fun vs => 2 - nOf (vs.getD 0 undef)) rfl ?_ ?_
    · exact ⟨0, [], none, 0, R2, rfl, .inl ⟨rfl, rfl, rfl, rfl, rfl⟩, by omega, RL.nil _ _, hw2, rfl, Le.refl _⟩
    intro u1 vs1 σ1 m1 hJ1 _
    obtain ⟨j, M, a6, c6, R3, rfl, hj, hj1, hM6, hw3, rfl, hle6⟩ := hJ1
    refine SWP_seq (SWP_region ?_)
    refine pt rfl rfl (by omega) ?_
    refine SL_nil (nx (SWP_seq (SWP_ct rfl (SWP_skip (nx (SWP_seq (SWP_block (SWP_seq (SWP_region ?_)))))))))
    rcases hj with ⟨rfl, hM0, ha0, hc0, hR0⟩ | ⟨rfl, hM, hpl, hM0, hR0⟩
    · refine ia (es := 1) (k := 0) rfl rfl rfl rfl rfl rfl (by omega) rfl ?_
      refine lw (v := .pointer (some ⟨B6, 0, none⟩)) B13 0 rfl rfl rfl rfl ?_
      refine pP rfl rfl (SL_nil (nx (SWP_seq (SWP_region (pP rfl rfl ?_)))))
      refine SL_call rfl rfl cb162 (CallsS.subF ((B13, Cells 240 [.pointer (some ⟨B6, 0, none⟩), .pointer (some ⟨B6, 1, none⟩)]) :: (B6, Cells 142 [.slice a6 M.length c6, .slice none 0 0]) :: σe) (numsS hw3.sf hl hw3.ws hw3.rl B) (permC _ _ _ _)) rfl (fun v7_1 σ7_1 m7_1 hl7_1 hR7_1 => ?_)
      obtain ⟨σz, rfl, rfl, a9, c9, rfl, hr9⟩ := hR7_1
      refine SL_perm (permC (B13, Cells 240 [.pointer (some ⟨B6, 0, none⟩), .pointer (some ⟨B6, 1, none⟩)]) (B6, Cells 142 [.slice a6 M.length c6, .slice none 0 0]) ((B, Cells 166 (scE l ((takeN R3).2)))) σe).symm ?_
      refine pu rfl rfl (pL rfl rfl (pB rfl rfl ?_))
      refine bsp 23 rfl (fun b23 => ?_) (fun b23 => ?_)
      · skip
        refine pL rfl rfl (pB rfl rfl (SL_nil (nx (SWP_seq (SWP_seq (SWP_region (pB rfl rfl (pB rfl rfl (SL_nil (nx (SWP_cf rfl ?_)))))))))))
        refine SWP_skip (nx (SWP_seq (SWP_region (pP rfl rfl (pL rfl rfl (pu rfl rfl ?_))))))
        refine sw (v := .slice _ _ _) B6 0 rfl rfl rfl rfl rfl rfl rfl ?_
        refine SL_nil (nx (SWP_seq (SWP_seq (SWP_region (pP rfl rfl (pu rfl rfl ?_))))))
        refine peq (r := false) rfl rfl rfl rfl rfl rfl (decide_eq_false (by simp [Addr.add_lit])) rfl ?_
        refine pB rfl rfl (SL_yes rfl (pP rfl rfl (SL_yes rfl ?_)))
        refine SL_pcallS rfl rfl cb135 (CallsS.pureIn (isI B [43]) ⟨_, permC _ _ _ _⟩) rfl ?_
        refine bsp 34 rfl (fun b34 => ?_) (fun b34 => ?_)
        · skip
          refine SL_yes rfl (pB rfl rfl (pB rfl rfl (SL_nil (nx (SWP_cf rfl (SWP_skip (nx ?_)))))))
          obtain ⟨R4, hR4⟩ : ∃ R4, (takeN R3).2 = [43] :: R4 := ⟨_, isW_cons (by assumption)⟩
          rw [hR4]
          have hs4 := hw3.takeN.sf
          rw [hR4] at hs4
          refine SWP_region (pP rfl rfl ?_)
          refine SL_call rfl rfl cb136 (CallsS.subF ((B13, Cells 240 [.pointer (some ⟨B6, 0, none⟩), .pointer (some ⟨B6, 1, none⟩)]) :: (B6, Cells 142 [.slice a9 (takeN R3).1.length c9, .slice none 0 0]) :: σe) (advI hs4 hl B) (permC _ _ _ _)) rfl (fun v11_1 σ11_1 m11_1 hl11_1 hR11_1 => ?_)
          obtain ⟨σz, rfl, rfl, hm11_1⟩ := hR11_1
          have hn11_1 := hm11_1.symm
          subst hn11_1
          refine SL_perm (permC (B13, Cells 240 [.pointer (some ⟨B6, 0, none⟩), .pointer (some ⟨B6, 1, none⟩)]) (B6, Cells 142 [.slice a9 (takeN R3).1.length c9, .slice none 0 0]) ((B, Cells 166 (scE l (R4)))) σe).symm ?_
          refine SL_nil (nb (nx (SWP_region ?_)))
          refine pw rfl rfl (w64 (by omega) (by omega)) ?_
          refine pI rfl rfl (SL_nil (nx ?_))
          refine ⟨by repeat (first | exact Under.upds rfl (Under.hav _ _ _) | exact Under.hav _ _ _ | refine Under.upd rfl ?_ | refine Under.upds rfl ?_ | refine Under.hav2 rfl ?_), ?_, ?_⟩
          · have hw4 := hw3.takeN.tail
            rw [hR4] at hw4
            exact ⟨1, (takeN R3).1, a9, c9, R4, rfl, .inr ⟨rfl, by rw [← hR0]; exact isN_dec.1 (by assumption), by rw [← hR0]; assumption, by rw [hR0], by rw [← hR0, hR4]; rfl⟩, by omega, hr9, hw4, rfl, hle6.trans hl7_1⟩
          · simp only [L_vals, List.map, List.getD]; show 2 - 1 < 2 - 0; decide
        refine SL_yes rfl (pB rfl rfl (pB rfl rfl (SL_nil (nx (SWP_ct rfl (SWP_exit (ne (bo rfl (ne (ne (be rfl ?_)))))))))))
        refine nx ?_
        refine ⟨by repeat (first | with_reducible exact Under.refl _ _ | exact Under.upds rfl (Under.hav _ _ _) | exact Under.hav _ _ _ | refine Under.upd rfl ?_ | refine Under.upds rfl ?_ | refine Under.hav2 rfl ?_), ?_⟩
        refine ⟨rfl, ?_⟩
        have h1 : (takeN R2).1 ≠ [] := by rw [← hR0]; exact isN_dec.1 (by assumption)
        have h2 : isW [43] (takeN R2).2 = false := by rw [← hR0]; assumption
        have e := lineM_1 h1 h2
        rw [e]
        exact ⟨(takeN R2).1, [], a9, c9, none, 0, _, by rw [← hR0]; exact hr9, RL.nil _ _, rfl, by rw [← hR0]; rfl, hle6.trans hl7_1⟩
      refine pL rfl rfl (pB rfl rfl (SL_nil (nx (SWP_seq (SWP_seq (SWP_region (pB rfl rfl (pB rfl rfl (SL_nil (nx (SWP_ct rfl ?_)))))))))))
      refine SWP_exit (ne (bo rfl (ne (ne (bo rfl (ne (bo rfl (ne (be rfl (nx (SWP_seq ?_)))))))))))
      refine SWP_region ?_
      first
      | (refine SL_perm (permL3 _ _ _ _) ?_; refine SL_freezeL (by omega) Line.enc_len hown (fun m9 hl9 hb9 => ?_); refine pu rfl rfl ?_)
      | (refine SL_perm (permL1 _ _) ?_; refine SL_freezeL (by omega) Line.enc_len hown5 (fun m9 hl9 hb9 => ?_); refine pu rfl rfl ?_)
      refine pB rfl rfl (pL rfl rfl (pB rfl rfl (SL_nil (nx (SWP_ret (sr ?_))))))
      refine fin [_, _] ⟨rfl, rfl, trivial⟩ ?_
      first
      | (rw [hlf, linesF_1 hln (by assumption)]
         refine ⟨_, rfl, L ++ [(⟨a7, c7, M, b7, d7, N⟩ : Line)], a5, c5, true, rfl, hb9, fun x hx => ?_, by rw [List.map_append]; rfl⟩
         rcases List.mem_append.1 hx with hx | hx
         · exact (hin x hx).mono (hle1.trans hl9)
         · rw [List.mem_singleton.1 hx]; exact ⟨hM7.mono hl9, hN7.mono hl9⟩)
      | (have h0 : (takeN R3).1 = [] := Classical.byContradiction fun h => by have := decide_eq_true h; simp_all
         have e : lineM R2 = (none, (takeN R3).2) := by
           rw [hR0] at h0 ⊢; exact lineM_0 h0
         rw [hlf, linesF_0 e]
         exact ⟨_, rfl, L, a4, c4, false, rfl, hb9, fun x hx => (hin x hx).mono ((hle6.trans hl7_1).trans hl9), rfl⟩)
    · refine ia (es := 1) (k := 1) rfl rfl rfl rfl rfl rfl (by omega) rfl ?_
      refine lw (v := .pointer (some ⟨B6, 1, none⟩)) B13 1 rfl rfl rfl rfl ?_
      refine pP rfl rfl (SL_nil (nx (SWP_seq (SWP_region (pP rfl rfl ?_)))))
      refine SL_call rfl rfl cb162 (CallsS.subF ((B13, Cells 240 [.pointer (some ⟨B6, 0, none⟩), .pointer (some ⟨B6, 1, none⟩)]) :: (B6, Cells 142 [.slice a6 M.length c6, .slice none 0 0]) :: σe) (numsS hw3.sf hl hw3.ws hw3.rl B) (permC _ _ _ _)) rfl (fun v7_1 σ7_1 m7_1 hl7_1 hR7_1 => ?_)
      obtain ⟨σz, rfl, rfl, a9, c9, rfl, hr9⟩ := hR7_1
      refine SL_perm (permC (B13, Cells 240 [.pointer (some ⟨B6, 0, none⟩), .pointer (some ⟨B6, 1, none⟩)]) (B6, Cells 142 [.slice a6 M.length c6, .slice none 0 0]) ((B, Cells 166 (scE l ((takeN R3).2)))) σe).symm ?_
      refine pu rfl rfl (pL rfl rfl (pB rfl rfl ?_))
      refine bsp 23 rfl (fun b23 => ?_) (fun b23 => ?_)
      · skip
        refine pL rfl rfl (pB rfl rfl (SL_nil (nx (SWP_seq (SWP_seq (SWP_region (pB rfl rfl (pB rfl rfl (SL_nil (nx (SWP_cf rfl ?_)))))))))))
        refine SWP_skip (nx (SWP_seq (SWP_region (pP rfl rfl (pL rfl rfl (pu rfl rfl ?_))))))
        refine sw (v := .slice _ _ _) B6 1 rfl rfl rfl rfl rfl rfl rfl ?_
        refine SL_nil (nx (SWP_seq (SWP_seq (SWP_region (pP rfl rfl (pu rfl rfl ?_))))))
        refine peq (r := true) rfl rfl rfl rfl rfl rfl (decide_eq_true (by simp [Addr.add_lit])) rfl ?_
        refine pB rfl rfl (SL_no rfl rfl (SL_no rfl rfl (SL_no rfl rfl (pB rfl rfl (SL_nil (nx (SWP_ct rfl (SWP_exit (ne (bo rfl (ne ?_)))))))))))
        refine ne (be rfl (nx ?_))
        refine ⟨by repeat (first | with_reducible exact Under.refl _ _ | exact Under.upds rfl (Under.hav _ _ _) | exact Under.hav _ _ _ | refine Under.upd rfl ?_ | refine Under.upds rfl ?_ | refine Under.hav2 rfl ?_), ?_⟩
        refine ⟨rfl, ?_⟩
        have h3 : (takeN (takeN R2).2.tail).1 ≠ [] := by rw [← hR0]; exact isN_dec.1 (by assumption)
        have e := lineM_3 hM hpl h3
        rw [e]
        exact ⟨(takeN R2).1, (takeN (takeN R2).2.tail).1, a6, c6, a9, c9, _, by rw [← hM0]; exact hM6.mono hl7_1, by rw [← hR0]; exact hr9, rfl, by rw [← hR0, ← hM0]; rfl, hle6.trans hl7_1⟩
      refine pL rfl rfl (pB rfl rfl (SL_nil (nx (SWP_seq (SWP_seq (SWP_region (pB rfl rfl (pB rfl rfl (SL_nil (nx (SWP_ct rfl ?_)))))))))))
      refine SWP_exit (ne (bo rfl (ne (ne (bo rfl (ne (bo rfl (ne (be rfl (nx (SWP_seq ?_)))))))))))
      refine SWP_region ?_
      first
      | (refine SL_perm (permL3 _ _ _ _) ?_; refine SL_freezeL (by omega) Line.enc_len hown (fun m9 hl9 hb9 => ?_); refine pu rfl rfl ?_)
      | (refine SL_perm (permL1 _ _) ?_; refine SL_freezeL (by omega) Line.enc_len hown5 (fun m9 hl9 hb9 => ?_); refine pu rfl rfl ?_)
      refine pB rfl rfl (pL rfl rfl (pB rfl rfl (SL_nil (nx (SWP_ret (sr ?_))))))
      refine fin [_, _] ⟨rfl, rfl, trivial⟩ ?_
      first
      | (rw [hlf, linesF_1 hln (by assumption)]
         refine ⟨_, rfl, L ++ [(⟨a7, c7, M, b7, d7, N⟩ : Line)], a5, c5, true, rfl, hb9, fun x hx => ?_, by rw [List.map_append]; rfl⟩
         rcases List.mem_append.1 hx with hx | hx
         · exact (hin x hx).mono (hle1.trans hl9)
         · rw [List.mem_singleton.1 hx]; exact ⟨hM7.mono hl9, hN7.mono hl9⟩)
      | (have h0 : (takeN R3).1 = [] := Classical.byContradiction fun h => by have := decide_eq_true h; simp_all
         have e : lineM R2 = (none, (takeN R3).2) := by
           rw [hR0] at h0 ⊢; exact lineM_2 hM hpl h0
         rw [hlf, linesF_0 e]
         exact ⟨_, rfl, L, a4, c4, false, rfl, hb9, fun x hx => (hin x hx).mono ((hle6.trans hl7_1).trans hl9), rfl⟩)
  intro uM0 vM0 σM0 mM0 hM0 _
  obtain ⟨rfl, M, N, a7, c7, b7, d7, q, hM7, hN7, hln, rfl, hle1⟩ := hM0
  refine SWP_seq (SWP_region (pL rfl rfl ?_))
  refine lw (v := .agg _) B6 0 rfl rfl rfl rfl ?_
  refine bs rfl rfl rfl rfl rfl (fun B42 => ?_)
  refine ap (e := 142) (size := 2) (bytes := 48) rfl rfl rfl rfl rfl rfl rfl hown (List.perm_append_comm (l₁ := [_, _, _, _]) (l₂ := σe)) rfl (Rd.of_cells (.head _)) rfl rfl (by rw [flatMap_len Line.enc_len]; omega) rfl rfl (fun v43 σ43 hown43 => ?_)
  refine SL_weak (List.Sublist.append_left (((List.Sublist.refl _).cons _).cons _ |>.cons _) _) ?_
  refine SL_perm (List.perm_append_comm (l₂ := [_])) ?_
  have hown5 : OwnS 142 2 v43 ((L ++ [(⟨a7, c7, M, b7, d7, N⟩ : Line)]).flatMap Line.enc) σ43 := by rw [List.flatMap_append]; exact hown43
  obtain ⟨a5, c5, e5⟩ := hown5.lenL (by omega) Line.enc_len
  subst e5
  refine pL rfl rfl (SL_nil (nx (SWP_seq (SWP_seq (SWP_region (pP rfl rfl ?_))))))
  refine SL_pcallS rfl rfl cb135 (CallsS.pureIn (isI B [47]) ⟨σ43, .refl _⟩) rfl ?_
  refine bsp 45 rfl (fun b45 => ?_) (fun b45 => ?_)
  · skip
    refine pB rfl rfl (SL_nil (nx (SWP_cf rfl (SWP_skip (nx ?_)))))
    obtain ⟨R5, hR5⟩ : ∃ R5, (lineM R2).2 = [47] :: R5 := ⟨_, isW_cons (by assumption)⟩
    rw [hR5]
    have hs5 := hw2.line.sf
    rw [hR5] at hs5
    refine SWP_region (pP rfl rfl ?_)
    refine SL_call rfl rfl cb136 (CallsS.subF _ (advI hs5 hl B) (.refl _)) rfl (fun v16_1 σ16_1 m16_1 hl16_1 hR16_1 => ?_)
    obtain ⟨σz, rfl, rfl, hm16_1⟩ := hR16_1
    have hn16_1 := hm16_1.symm
    subst hn16_1
    refine SL_nil (nb (nx ?_))
    refine ⟨by repeat (first | exact Under.upds rfl (Under.hav _ _ _) | exact Under.hav _ _ _ | refine Under.upd rfl ?_ | refine Under.upds rfl ?_ | refine Under.hav2 rfl ?_), ?_, ?_⟩
    · have hp := lineM_pos (R := R2) (x := (M, N)) (by rw [hln])
      rw [hR5] at hp
      have hw5 := hw2.line.tail
      rw [hR5] at hw5
      refine ⟨a5, c5, L ++ [(⟨a7, c7, M, b7, d7, N⟩ : Line)], R5, f, σ43, rfl, ?_, ?_, ?_, hw5, hown5, fun x hx => ?_, rfl, hle.trans hle1⟩
      · rw [hlf, linesF_2 hln (by assumption), hR5, List.map_append]; rfl
      · simp only [List.length_cons] at hp; omega
      · rw [List.length_append]; simp only [List.length_cons, List.length_nil]; omega
      · rcases List.mem_append.1 hx with hx | hx
        · exact (hin x hx).mono hle1
        · rw [List.mem_singleton.1 hx]; exact ⟨hM7, hN7⟩
    · simp only [L_vals, List.map, List.getD]; show R.length + 1 - (L ++ [_]).length < R.length + 1 - L.length; rw [List.length_append]; simp only [List.length_cons, List.length_nil]; omega
  refine pB rfl rfl (SL_nil (nx (SWP_ct rfl (SWP_seq (SWP_region (pB rfl rfl (SL_nil (nx (SWP_exit (ne (bo rfl ?_)))))))))))
  refine ne (be rfl (nx (SWP_seq (SWP_region ?_))))
  first
  | (refine SL_perm (permL3 _ _ _ _) ?_; refine SL_freezeL (by omega) Line.enc_len hown (fun m9 hl9 hb9 => ?_); refine pu rfl rfl ?_)
  | (refine SL_perm (permL1 _ _) ?_; refine SL_freezeL (by omega) Line.enc_len hown5 (fun m9 hl9 hb9 => ?_); refine pu rfl rfl ?_)
  refine pB rfl rfl (pL rfl rfl (pB rfl rfl (SL_nil (nx (SWP_ret (sr ?_))))))
  refine fin [_, _] ⟨rfl, rfl, trivial⟩ ?_
  first
  | (rw [hlf, linesF_1 hln (by assumption)]
     refine ⟨_, rfl, L ++ [(⟨a7, c7, M, b7, d7, N⟩ : Line)], a5, c5, true, rfl, hb9, fun x hx => ?_, by rw [List.map_append]; rfl⟩
     rcases List.mem_append.1 hx with hx | hx
     · exact (hin x hx).mono (hle1.trans hl9)
     · rw [List.mem_singleton.1 hx]; exact ⟨hM7.mono hl9, hN7.mono hl9⟩)
  | (have h0 : (takeN R3).1 = [] := Classical.byContradiction fun h => by have := decide_eq_true h; simp_all
     have e : lineM R2 = (none, (takeN R3).2) := by
       first
         | (rw [hR0] at h0 ⊢; exact lineM_0 h0)
         | (rw [hR0] at h0 ⊢; exact lineM_2 hM hpl h0)
     rw [hlf, linesF_0 e]
     exact ⟨_, rfl, L, a4, c4, false, rfl, hb9, fun x hx => (hin x hx).mono ((hle6.trans hl7_1).trans hl9), rfl⟩)
end Go.Proofs.YtlgoegjboabgfaaGreatDoor
namespace Go.Proofs.YtlgoegjboabgfaaGreatDoor
open Eng
def drawsM (R : List Wd) : Option Int × List Wd :=
  if isW [120] R = true then
    (match numV R.tail with
      | none => (none, R.tail)
      | some n => if n = 1 then (none, R.tail) else (some n, R.tail.tail))
  else (some 1, R)
theorem drawsM_0 {R : List Wd} (h : isW [120] R = false) : drawsM R = (some 1, R) := if_neg (by rw [h]; exact Bool.noConfusion)
theorem drawsM_1 {R R4 : List Wd} (h : R = [120] :: R4) (h2 : (numV R4).isSome = false) : drawsM R = (none, R4) := by
  subst h
  refine (if_pos (by simp [isW])).trans ?_
  show (match numV R4 with | none => (none, R4) | some n => if n = 1 then (none, R4) else (some n, R4.tail)) = _
  cases hn : numV R4 with
  | none => rfl
  | some n => rw [hn] at h2; cases h2
theorem drawsM_2 {R R4 : List Wd} (h : R = [120] :: R4) (h2 : (numV R4).isSome = true) (h3 : (numV R4).getD 0 = 1) : drawsM R = (none, R4) := by
  subst h
  refine (if_pos (by simp [isW])).trans ?_
  show (match numV R4 with | none => (none, R4) | some n => if n = 1 then (none, R4) else (some n, R4.tail)) = _
  cases hn : numV R4 with
  | none => rfl
  | some n => first | exact if_pos (by rw [hn] at h3; exact h3) | rfl
theorem drawsM_3 {R R4 : List Wd} (h : R = [120] :: R4) (h2 : (numV R4).isSome = true) (h3 : ¬ (numV R4).getD 0 = 1) : drawsM R = (some ((numV R4).getD 0), R4.tail) := by
  subst h
  refine (if_pos (by simp [isW])).trans ?_
  show (match numV R4 with | none => (none, R4) | some n => if n = 1 then (none, R4) else (some n, R4.tail)) = _
  cases hn : numV R4 with
  | none => rw [hn] at h2; cases h2
  | some n => rw [hn] at h3; exact if_neg h3
theorem WOk.draws {l : List UInt8} {R : List Wd} (h : WOk l R) : WOk l (drawsM R).2 := by
  unfold drawsM
  split
  · split
    · exact h.tail
    · split
      · exact h.tail
      · exact h.tail.tail
  · exact h
set_option maxRecDepth 100000 in
theorem drawsS {m : Mem} {l : List UInt8} {R : List Wd} (hw : WOk l R) (hl : l.length ≤ 1000000) (B : Nat) : CallsS Tryz.prog 134 [.pointer (some ⟨B, 0, none⟩)].toArray [(B, Cells 166 (scE l (R)))] m fun r σ' m' => σ' = [(B, Cells 166 (scE l ((drawsM R).2)))] ∧ m' = m ∧ ∃ (n : Int) (b : Bool), r = .tuple #[.int .i64 n, .bool b] ∧ (drawsM R).1 = if b = true then some n else none := by
  refine enter Tryz.func134 Tryz.ntmps134 rfl rfl ?_
  refine SWP_seq (SWP_region (pI rfl rfl (pB rfl rfl (SL_nil (nx (SWP_seq (SWP_seq (SWP_region (pP rfl rfl ?_)))))))))
  refine SL_pcallS rfl rfl cb135 (isI B [120]) rfl ?_
  refine bsp 7 rfl (fun b7 => ?_) (fun b7 => ?_)
  · skip
    refine pB rfl rfl (SL_nil (nx (SWP_cf rfl (SWP_skip (nx (SWP_seq ?_))))))
    obtain ⟨R4, hR4⟩ : ∃ R4, R = [120] :: R4 := ⟨_, isW_cons (by assumption)⟩
    have hs4 := hw.sf
    rw [hR4] at hs4
    rw [hR4]
    refine SWP_region (pP rfl rfl ?_)
    refine SL_call rfl rfl cb136 (advI hs4 hl B) rfl (fun v3_1 σ3_1 m3_1 hl3_1 hR3_1 => ?_)
    obtain ⟨rfl, hm3_1⟩ := hR3_1
    have hn3_1 := hm3_1.symm
    subst hn3_1
    refine SL_nil (nx (SWP_seq (SWP_region (pP rfl rfl ?_))))
    refine SL_pcallS rfl rfl cb163 (numbI B (fun x hx => hw.ws x (by rw [hR4]; exact List.mem_cons_of_mem _ hx))) rfl ?_
    refine pu rfl rfl (pI rfl rfl (pB rfl rfl ?_))
    refine bsp 15 rfl (fun b15 => ?_) (fun b15 => ?_)
    · skip
      refine pI rfl rfl (pB rfl rfl (SL_nil (nx (SWP_seq (SWP_seq (SWP_region (pB rfl rfl (pB rfl rfl (pB rfl rfl (SL_yes rfl (pI rfl rfl ?_)))))))))))
      refine SL_yes rfl ?_
      refine pc rfl rfl (fun c20 => ?_) (fun c20 => ?_)
      · skip
        refine pB rfl rfl (SL_nil (nx (SWP_ct rfl (SWP_seq (SWP_region (pI rfl rfl (pB rfl rfl (SL_nil (nx (SWP_ret (nr ?_)))))))))))
        refine fin [_, _] ⟨rfl, rfl, trivial⟩ ?_
        rw [drawsM_2 (R := [120] :: R4) rfl (by assumption) (by assumption)]; exact ⟨rfl, rfl, 0, false, rfl, rfl⟩
      refine pB rfl rfl (SL_nil (nx (SWP_cf rfl (SWP_skip (nx (SWP_seq ?_))))))
      obtain ⟨w5, R5, hR5, _⟩ := takeN_some (R := R4) (by assumption)
      have hs5 := hs4.next
      rw [hR5] at hs5
      have hnv : numV R4 = numV (w5 :: R5) := by rw [hR5]
      rw [show ((B, Cells 166 (scE l (R4)))) = ((B, Cells 166 (scE l (w5 :: R5)))) by rw [hR5]]
      refine SWP_region (pP rfl rfl ?_)
      refine SL_call rfl rfl cb136 (advI hs5 hl B) rfl (fun v7_1 σ7_1 m7_1 hl7_1 hR7_1 => ?_)
      obtain ⟨rfl, hm7_1⟩ := hR7_1
      have hn7_1 := hm7_1.symm
      subst hn7_1
      refine SL_nil (nx (SWP_seq (SWP_region (pI rfl rfl (pI rfl rfl (pB rfl rfl (SL_nil (nx (SWP_ret ?_)))))))))
      refine fin [_, _] ⟨rfl, rfl, trivial⟩ ?_
      rw [drawsM_3 (R := [120] :: R4) rfl (by assumption) (by assumption), hR5]; exact ⟨rfl, rfl, _, true, rfl, rfl⟩
    refine pI rfl rfl (pB rfl rfl (SL_nil (nx (SWP_seq (SWP_seq (SWP_region (pB rfl rfl (pB rfl rfl (pB rfl rfl (SL_no rfl rfl (SL_no rfl rfl ?_)))))))))))
    refine pB rfl rfl (SL_nil (nx (SWP_ct rfl (SWP_seq (SWP_region (pI rfl rfl (pB rfl rfl (SL_nil (nx (SWP_ret (nr ?_)))))))))))
    refine fin [_, _] ⟨rfl, rfl, trivial⟩ ?_
    rw [drawsM_1 (R := [120] :: R4) rfl (by assumption)]; exact ⟨rfl, rfl, 0, false, rfl, rfl⟩
  refine pB rfl rfl (SL_nil (nx (SWP_ct rfl (SWP_seq (SWP_region (pI rfl rfl (pB rfl rfl (SL_nil (nx (SWP_ret (nr ?_)))))))))))
  refine fin [_, _] ⟨rfl, rfl, trivial⟩ ?_
  rw [drawsM_0 (by assumption)]; exact ⟨rfl, rfl, 1, true, rfl, rfl⟩
theorem ne_cons {R : List Wd} (h : R.isEmpty = false) : ∃ w R', R = w :: R' := by
  cases R with
  | nil => cases h
  | cons w R => exact ⟨w, R, rfl⟩
theorem or_bitF : ∀ b : Fin 16, ∀ i : Fin 4, b.val < 2 ^ i.val → bits .or .i64 (b.val : Int) ((2 ^ i.val : Nat) : Int) = ((b.val + 2 ^ i.val : Nat) : Int) := by decide +kernel
theorem or_bit {b i : Nat} (hi : i < 4) (h : b < 2 ^ i) : bits .or .i64 (b : Int) ((2 ^ i : Nat) : Int) = ((b + 2 ^ i : Nat) : Int) := by
  have h2 : 2 ^ i ≤ 2 ^ 4 := Nat.pow_le_pow_right (by decide) (by omega)
  exact or_bitF ⟨b, by omega⟩ ⟨i, hi⟩ h
theorem shl_bitF : ∀ i : Fin 4, IntKind.i64.wrap (1 * 2 ^ (min ((i.val : Nat) : Int).toNat IntKind.i64.bits)) = ((2 ^ i.val : Nat) : Int) := by decide +kernel
theorem shl_bit {i : Nat} (hi : i < 4) : IntKind.i64.wrap (1 * 2 ^ (min ((i : Nat) : Int).toNat IntKind.i64.bits)) = ((2 ^ i : Nat) : Int) := shl_bitF ⟨i, hi⟩
def findFrom (ns : List ByteArray) (k : Nat) (w : ByteArray) : Option Nat := (List.range' k (ns.length - k)).find? fun i => decide (ns[i]? = some w)
def addF (ns : List ByteArray) : List Wd → Nat → Nat → Option Nat × List Wd
  | [], _, b => (if b = 0 then none else some b, [])
  | w :: r, k, b => match findFrom ns k (bA w) with
    | none => (none, w :: r)
    | some i => addF ns r (i + 1) (b + 2 ^ i)
def addonsM (ns : List ByteArray) (R : List Wd) : Option Nat × List Wd := if isW [42] R = true then addF ns R.tail 0 0 else (some 0, R)
theorem findFrom_none {ns : List ByteArray} {k : Nat} {w : ByteArray} (h : ∀ i, k ≤ i → i < ns.length → ns[i]? ≠ some w) : findFrom ns k w = none :=
  List.find?_eq_none.2 fun i hi => by
    rw [List.mem_range'_1] at hi
    simpa using h i hi.1 (by omega)
theorem findFrom_some {ns : List ByteArray} {k i : Nat} {w : ByteArray} (hk : k ≤ i) (hi : ns[i]? = some w) (h : ∀ j, k ≤ j → j < i → ns[j]? ≠ some w) : findFrom ns k w = some i := by
  have hl : i < ns.length := (List.getElem?_eq_some_iff.1 hi).1
  unfold findFrom
  rw [List.find?_range'_eq_some]
  refine ⟨by simpa using hi, by rw [List.mem_range'_1]; omega, fun j h1 h2 => ?_⟩
  simpa using h j h1 h2
theorem addonsM_0 {ns : List ByteArray} {R : List Wd} (h : isW [42] R = false) : addonsM ns R = (some 0, R) := if_neg (by rw [h]; exact Bool.noConfusion)
theorem addonsM_1 {ns : List ByteArray} {R4 : List Wd} : addonsM ns ([42] :: R4) = addF ns R4 0 0 := if_pos (by simp [isW])
theorem addF_none {ns : List ByteArray} {w : Wd} {r : List Wd} {k b : Nat} (h : findFrom ns k (bA w) = none) : addF ns (w :: r) k b = (none, w :: r) := by rw [addF, h]
theorem addF_some {ns : List ByteArray} {w : Wd} {r : List Wd} {k b i : Nat} (h : findFrom ns k (bA w) = some i) : addF ns (w :: r) k b = addF ns r (i + 1) (b + 2 ^ i) := by rw [addF, h]
set_option maxRecDepth 100000 in
theorem addonsS {m : Mem} {l : List UInt8} {R : List Wd} (hw : WOk l R) (hl : l.length ≤ 1000000) (B : Nat) {g : Game} (hin : g.In m) (h4 : g.addons.length ≤ 4) : CallsS Tryz.prog 137 [.pointer (some ⟨B, 0, none⟩), g.val].toArray [(B, Cells 166 (scE l (R)))] m fun r σ' m' => σ' = [(B, Cells 166 (scE l ((addonsM (g.addons.map Addon.name) R).2)))] ∧ m' = m ∧ ∃ (n : Nat) (b : Bool), r = .tuple #[.int .i64 (n : Nat), .bool b] ∧ (addonsM (g.addons.map Addon.name) R).1 = if b = true then some n else none := by
  refine CallsS.ghost (R' := fun r σ' m' => ∃ τ, σ' = ((B, Cells 166 (scE l ((addonsM (g.addons.map Addon.name) R).2)))) :: τ ∧ m' = m ∧ ∃ (n : Nat) (b : Bool), r = .tuple #[.int .i64 (n : Nat), .bool b] ∧ (addonsM (g.addons.map Addon.name) R).1 = if b = true then some n else none) ?_ ?h2
  case h2 =>
    rintro r σ' m' ⟨τ, rfl, rfl, hr⟩ g0 W hC
    exact ⟨_, m', hC.sublist (List.Sublist.cons_cons _ (List.nil_sublist _)), Le.refl _, rfl, rfl, hr⟩
  dsimp only [Game.val]
  refine enter Tryz.func137 Tryz.ntmps137 rfl rfl ?_
  refine SWP_seq (SWP_region ?_)
  refine bx (v := .agg _) rfl rfl (fun B3 => ?_)
  refine pI rfl rfl (pB rfl rfl (SL_nil (nx (SWP_seq (SWP_seq (SWP_region (pP rfl rfl ?_)))))))
  refine SL_pcallS rfl rfl cb135 (CallsS.pureIn (isI B [42]) ⟨[_], .swap _ _ _⟩) rfl ?_
  refine bsp 11 rfl (fun b11 => ?_) (fun b11 => ?_)
  · skip
    refine pB rfl rfl (SL_nil (nx (SWP_cf rfl (SWP_skip (nx (SWP_seq ?_))))))
    obtain ⟨R4, hR4⟩ : ∃ R4, R = [42] :: R4 := ⟨_, isW_cons (by assumption)⟩
    have hs4 := hw.sf
    have hw4 := hw.tail
    rw [hR4] at hs4 hw4
    rw [hR4]
    refine SWP_region (pP rfl rfl ?_)
    refine SL_call rfl rfl cb136 (CallsS.subF [_] (advI hs4 hl B) (.swap _ _ _)) rfl (fun v3_1 σ3_1 m3_1 hl3_1 hR3_1 => ?_)
    obtain ⟨σz, rfl, rfl, hm3_1⟩ := hR3_1
    have hn3_1 := hm3_1.symm
    subst hn3_1
    refine SL_nil (nx (SWP_seq (SWP_region (pI rfl rfl (pI rfl rfl (SL_nil (nx (SWP_block ?_))))))))
    refine SWP_loop [4, 5, 6, 7, 8, 9, 15, 16, 17, 18, 19, 20, 21, 22, 23, 24, 25, 26, 27, 28, 29, 30, 31, 32, 33, 34, 35, 36, 37, 38, 39, 40, 41, 42, 43, 44, 45, 46, 47, 48, 49, 50, 51] [6, 7]
        (fun vs σ' m' => ∃ (b k : Nat) (R2 : List Wd), vs = [.int .i64 (b : Nat), .int .i64 (k : Nat)] ∧ addF (g.addons.map Addon.name) R4 0 0 = addF (g.addons.map Addon.name) R2 k b ∧ b < 2 ^ k ∧ k ≤ g.addons.length ∧ WOk l R2 ∧ σ' = ((B, Cells 166 (scE l (R2)))) :: [(B3, Cells 31 g.enc)] ∧ m = m')
        (fun vs => g.addons.length + 1 - nOf (vs.getD 1 undef)) rfl ?_ ?_
    · exact ⟨0, 0, R4, rfl, rfl, by decide, by omega, hw4, rfl, rfl⟩
    intro u0 vs0 σ0 m0 hJ0 _
    obtain ⟨b, k, R2, rfl, hadd, hbk, hk, hw2, rfl, rfl⟩ := hJ0
    refine SWP_block (SWP_seq (SWP_seq (SWP_region (pP rfl rfl (pu rfl rfl (pu rfl rfl ?_))))))
    refine lw (v := .bool R2.isEmpty) B 4 rfl rfl rfl rfl ?_
    refine bsp 18 rfl (fun b18 => ?_) (fun b18 => ?_)
    · skip
      refine SL_nil (nx (SWP_ct rfl (SWP_seq (SWP_region (pI rfl rfl (pI rfl rfl (pu rfl rfl (pI rfl rfl (pB rfl rfl (SL_nil (nx ?_)))))))))))
      refine SWP_ret (nr (br (nr (br ?_))))
      refine fin [_, _] ⟨rfl, rfl, trivial⟩ ?_
      have hR2 : R2 = [] := List.isEmpty_iff.1 (by assumption)
      subst hR2
      rw [addonsM_1, hadd]
      refine ⟨_, rfl, rfl, b, decide (b ≠ 0), ?_, ?_⟩
      · show Value.tuple #[.int .i64 (b : Nat), .bool (decide ((b : Int) ≠ 0))] = _
        rw [show decide ((b : Int) ≠ 0) = decide (b ≠ 0) from decide_eq_decide.2 (by omega)]
      · show (if b = 0 then none else some b) = _
        by_cases h0 : b = 0
        · rw [if_pos h0, if_neg (by simp [h0])]
        · rw [if_neg h0, if_pos (by simp [h0])]
    refine SL_nil (nx (SWP_cf rfl (SWP_skip (nx (SWP_seq ?_)))))
    obtain ⟨w, R3, rfl⟩ := ne_cons (R := R2) (by assumption)
    refine SWP_region (pI rfl rfl (SL_nil (nx (SWP_seq (SWP_seq (SWP_region (pI rfl rfl (pI rfl rfl (SL_nil (nx (SWP_block ?_)))))))))))
    refine SWP_loop [8, 9, 23, 24, 25, 26, 27, 28, 29, 30, 31, 32, 33, 34, 35, 36, 37, 38, 39, 40, 41] [8, 9]
        (fun vs σ' m' => ∃ (i : Nat), vs = [.int .i64 (-1), .int .i64 (i : Nat)] ∧ k ≤ i ∧ i ≤ g.addons.length ∧ (∀ j, k ≤ j → j < i → (g.addons.map Addon.name)[j]? ≠ some (bA w)) ∧ σ' = ((B, Cells 166 (scE l (w :: R3)))) :: [(B3, Cells 31 g.enc)] ∧ m = m')
        (fun vs => g.addons.length - nOf (vs.getD 1 undef)) rfl ?_ ?_
    · exact ⟨k, rfl, Nat.le_refl _, hk, fun j h1 h2 => (by omega), rfl, rfl⟩
    intro u1 vs1 σ1 m1 hJ1 _
    obtain ⟨i, rfl, hki, hi, hno, rfl, rfl⟩ := hJ1
    refine SWP_seq (SWP_seq (SWP_region (pI rfl rfl (pu rfl rfl ?_))))
    refine lw (v := .slice _ _ _) B3 20 rfl rfl rfl rfl ?_
    refine pu rfl rfl ?_
    refine pc rfl rfl (fun c27 => ?_) (fun c27 => ?_)
    · skip
      refine SL_nil (nx (SWP_ct rfl (SWP_skip (nx (SWP_seq (SWP_block (SWP_seq ?_)))))))
      obtain ⟨a, ha⟩ : ∃ a, g.addons[i]? = some a := ⟨_, List.getElem?_eq_getElem (by omega)⟩
      obtain ⟨ad, e0, _, hat⟩ := hin.ads.atA Addon.enc_len ha
      have hnm : (g.addons.map Addon.name)[i]? = some a.name := by rw [List.getElem?_map, ha]; rfl
      refine SWP_draws (by kernel_rfl) (by kernel_rfl) ?_
      refine pu rfl rfl ?_
      refine lw (v := .slice _ _ _) B3 20 rfl rfl rfl rfl ?_
      refine pI rfl rfl ?_
      rw [e0]
      refine ia (es := 6) rfl rfl rfl rfl rfl rfl (by omega) rfl ?_
      rw [← e0]
      refine pu rfl rfl ?_
      refine ldF (v := .string a.name) rfl rfl hat rfl rfl ?_
      refine pP rfl rfl (pu rfl rfl (pu rfl rfl ?_))
      refine lw (v := .string (bA w)) B 2 rfl rfl rfl rfl ?_
      refine pc rfl rfl (fun c40 => ?_) (fun c40 => ?_)
      · skip
        refine SL_nil (nx (SWP_ct rfl (SWP_seq (SWP_region (pI rfl rfl (pu rfl rfl (SL_nil (nx (SWP_exit (bo rfl (ne ?_)))))))))))
        refine ne (be rfl (nx (SWP_seq (SWP_seq (SWP_region (pI rfl rfl ?_))))))
        refine pn rfl rfl (by omega) ?_
        refine SL_nil (nx (SWP_cf rfl (SWP_skip (nx (SWP_seq ?_)))))
        have hfs : findFrom (g.addons.map Addon.name) k (bA w) = some i := findFrom_some hki (by rw [hnm, show a.name = bA w by assumption]) hno
        have hb2 := Nat.lt_of_lt_of_le hbk (Nat.pow_le_pow_right (by decide : 0 < 2) hki)
        have hi4 : i < 4 := by omega
        have hp4 : 2 ^ i ≤ 2 ^ 3 := Nat.pow_le_pow_right (by decide) (by omega)
        refine SWP_region (pI rfl rfl (pI rfl rfl ?_))
        refine pshl rfl rfl (by omega) (shl_bit hi4) rfl ?_
        refine pu (v := .int .i64 (bits .or .i64 (b : Nat) ((2 ^ i : Nat) : Int))) rfl rfl ?_
        rw [or_bit hi4 hb2]
        refine pI rfl rfl (SL_nil (nx (SWP_seq (SWP_region (pI rfl rfl ?_)))))
        refine pw rfl rfl (w64 (by omega) (by omega)) ?_
        refine pI rfl rfl (SL_nil (nx (SWP_region (pP rfl rfl ?_))))
        refine SL_call rfl rfl cb136 (CallsS.subF [_] (advI hw2.sf hl B) (.refl _)) rfl (fun v17_1 σ17_1 m17_1 hl17_1 hR17_1 => ?_)
        obtain ⟨σz, rfl, rfl, hm17_1⟩ := hR17_1
        have hn17_1 := hm17_1.symm
        subst hn17_1
        refine SL_nil (nb (nx ?_))
        refine ⟨by repeat (first | exact Under.upds rfl (Under.hav _ _ _) | exact Under.hav _ _ _ | refine Under.upd rfl ?_ | refine Under.upds rfl ?_ | refine Under.hav2 rfl ?_), ?_, ?_⟩
        · refine ⟨b + 2 ^ i, i + 1, R3, rfl, hadd.trans (addF_some hfs), ?_, by omega, hw2.tail, rfl, rfl⟩
          rw [Nat.pow_succ]; omega
        · simp only [L_vals, List.map, List.getD]; show g.addons.length + 1 - (i + 1) < g.addons.length + 1 - k; omega
      refine SL_nil (nx (SWP_cf rfl (SWP_skip (nb (nx (SWP_region (pI rfl rfl ?_)))))))
      refine pw rfl rfl (w64 (by omega) (by omega)) ?_
      refine pI rfl rfl (SL_nil (nx ?_))
      refine ⟨by repeat (first | exact Under.upds rfl (Under.hav _ _ _) | exact Under.hav _ _ _ | refine Under.upd rfl ?_ | refine Under.upds rfl ?_ | refine Under.hav2 rfl ?_), ?_, ?_⟩
      · refine ⟨i + 1, rfl, by omega, by omega, fun j h1 h2 => ?_, rfl, rfl⟩
        by_cases e : j = i
        · subst e
          rw [hnm]
          intro e2
          exact absurd (Option.some.inj e2) (by assumption)
        · exact hno j h1 (by omega)
      · simp only [L_vals, List.map, List.getD]; show g.addons.length - (i + 1) < g.addons.length - i; omega
    refine SL_nil (nx (SWP_cf rfl (SWP_exit (ne (ne (be rfl (nx (SWP_seq (SWP_seq (SWP_region (pI rfl rfl ?_)))))))))))
    refine pt rfl rfl (by omega) ?_
    refine SL_nil (nx (SWP_ct rfl (SWP_seq (SWP_region (pI rfl rfl (pB rfl rfl (SL_nil (nx (SWP_ret (nr (br ?_)))))))))))
    refine nr (br ?_)
    refine fin [_, _] ⟨rfl, rfl, trivial⟩ ?_
    have hn : findFrom (g.addons.map Addon.name) k (bA w) = none := findFrom_none fun j h1 h2 => hno j h1 (by rw [List.length_map] at h2; omega)
    rw [addonsM_1, hadd, addF_none hn]
    exact ⟨_, rfl, rfl, 0, false, rfl, rfl⟩
  refine pB rfl rfl (SL_nil (nx (SWP_ct rfl (SWP_seq ?_))))
  refine SWP_perm (.swap _ _ _) ?_
  refine SWP_region (pI rfl rfl (pB rfl rfl (SL_nil (nx (SWP_ret (nr ?_))))))
  refine fin [_, _] ⟨rfl, rfl, trivial⟩ ?_
  rw [addonsM_0 (by assumption)]; exact ⟨_, rfl, rfl, 0, true, rfl, rfl⟩
end Go.Proofs.YtlgoegjboabgfaaGreatDoor
namespace Go.Proofs.YtlgoegjboabgfaaGreatDoor
open Eng
theorem WOk.lines {l : List UInt8} : ∀ (f : Nat) {R : List Wd} (acc : List LnK), WOk l R → WOk l (linesF f R acc).2
  | 0, _, _, h => h
  | f + 1, R, acc, h => by
    rw [linesF]
    split
    · exact h.line
    · split
      · exact WOk.lines f _ h.line.tail
      · exact h.line
def sysM (R : List Wd) : Bool × List Wd := if isW [115, 121, 115] R = true then (true, R.tail) else (false, R)
abbrev BetM := List LnK × Bool × Int × Nat
def readM (ns : List ByteArray) (R : List Wd) : Option BetM × List Wd :=
  match (linesM R).1 with
  | none => (none, (linesM R).2)
  | some L => match (drawsM (linesM R).2).1 with
    | none => (none, (drawsM (linesM R).2).2)
    | some d => match (addonsM ns (sysM (drawsM (linesM R).2).2).2).1 with
      | none => (none, (addonsM ns (sysM (drawsM (linesM R).2).2).2).2)
      | some a => if (addonsM ns (sysM (drawsM (linesM R).2).2).2).2 = [] then (some (L, (sysM (drawsM (linesM R).2).2).1, d, a), []) else (none, (addonsM ns (sysM (drawsM (linesM R).2).2).2).2)
theorem readM_1 {ns : List ByteArray} {R : List Wd} (h : (linesM R).1 = none) : readM ns R = (none, (linesM R).2) := by unfold readM; rw [h]
theorem readM_2 {ns : List ByteArray} {R : List Wd} {L : List LnK} (h : (linesM R).1 = some L) (h2 : (drawsM (linesM R).2).1 = none) : readM ns R = (none, (drawsM (linesM R).2).2) := by unfold readM; rw [h, h2]
theorem readM_3 {ns : List ByteArray} {R R3 : List Wd} {L : List LnK} {d : Int} {s : Bool} (h : (linesM R).1 = some L) (h2 : (drawsM (linesM R).2).1 = some d) (h3 : sysM (drawsM (linesM R).2).2 = (s, R3)) (h4 : (addonsM ns R3).1 = none) : readM ns R = (none, (addonsM ns R3).2) := by
  unfold readM; rw [h, h2, h3]
  show (match (addonsM ns R3).1 with | none => _ | some a => _) = _
  rw [h4]
theorem readM_4 {ns : List ByteArray} {R R3 : List Wd} {L : List LnK} {d : Int} {s : Bool} {a : Nat} (h : (linesM R).1 = some L) (h2 : (drawsM (linesM R).2).1 = some d) (h3 : sysM (drawsM (linesM R).2).2 = (s, R3)) (h4 : (addonsM ns R3).1 = some a) : readM ns R = if (addonsM ns R3).2 = [] then (some (L, s, d, a), []) else (none, (addonsM ns R3).2) := by
  unfold readM; rw [h, h2, h3]
  show (match (addonsM ns R3).1 with | none => _ | some a => _) = _
  rw [h4]
theorem sysM_0 {R : List Wd} (h : isW [115, 121, 115] R = false) : sysM R = (false, R) := if_neg (by rw [h]; exact Bool.noConfusion)
theorem sysM_1 {R R' : List Wd} (h : R = [115, 121, 115] :: R') : sysM R = (true, R') := by subst h; exact if_pos (by simp [isW])
theorem permD {α : Type} (a b c d : α) : [a, b, c, d].Perm [d, a, b, c] := by
  classical
  rw [List.perm_iff_count]
  intro y
  simp only [List.count_cons, List.count_nil]
  omega
def ReadRes (o : Option BetM) (r : Value) (m : Mem) : Prop := ∃ (bt : Bet) (n : Nat) (b : Bool), r = .tuple #[bt.val, .bool b] ∧ bt.In m ∧ bt.addons = n ∧ o = if b = true then some (bt.lines.map Line.keyL, bt.system, bt.draws, n) else none
set_option maxRecDepth 100000 in
theorem readS {m : Mem} {l : List UInt8} {R : List Wd} (hw : WOk l R) (hl : l.length ≤ 1000000) (B : Nat) {g : Game} (hin : g.In m) (h4 : g.addons.length ≤ 4) : CallsS Tryz.prog 93 [.pointer (some ⟨B, 0, none⟩), g.val].toArray [(B, Cells 166 (scE l (R)))] m fun r σ' m' => σ' = [(B, Cells 166 (scE l ((readM (g.addons.map Addon.name) R).2)))] ∧ ReadRes (readM (g.addons.map Addon.name) R).1 r m' := by
  refine CallsS.ghost (R' := fun r σ' m' => ∃ τ, σ' = ((B, Cells 166 (scE l ((readM (g.addons.map Addon.name) R).2)))) :: τ ∧ ReadRes (readM (g.addons.map Addon.name) R).1 r m') ?_ ?h2
  case h2 =>
    rintro r σ' m' ⟨τ, rfl, hr⟩ g0 W hC
    exact ⟨_, m', hC.sublist (List.Sublist.cons_cons _ (List.nil_sublist _)), Le.refl _, rfl, hr⟩
  have hw1 : WOk l (linesM R).2 := WOk.lines _ _ hw
  have hw2 := hw1.draws
  dsimp only [Game.val]
  refine enter Tryz.func93 Tryz.ntmps93 rfl rfl ?_
  refine SWP_seq (SWP_region ?_)
  refine bx (v := .agg _) rfl rfl (fun B3 => ?_)
  refine al rfl rfl (fun B4 => ?_)
  refine pB rfl rfl (SL_nil (nx (SWP_seq (SWP_region ?_))))
  refine al rfl rfl (fun B6 => ?_)
  refine SL_nil (nx (SWP_seq (SWP_region (pB rfl rfl (SL_nil (nx (SWP_seq (SWP_seq (SWP_region (pP rfl rfl ?_))))))))))
  refine SL_call rfl rfl cb133 (CallsS.subF [_, _, _] (linesS hw hl B) (permD _ _ _ _)) rfl (fun v3_1 σ3_1 m3_1 hl3_1 hR3_1 => ?_)
  obtain ⟨σz, rfl, rfl, L, la, lc, bl, rfl, hL, hLi, hlm⟩ := hR3_1
  rw [List.singleton_append]
  refine pu rfl rfl (pL rfl rfl (pB rfl rfl ?_))
  refine bsp 12 rfl (fun b12 => ?_) (fun b12 => ?_)
  · skip
    refine pu rfl rfl ?_
    refine sw (v := .slice _ _ _) B6 0 rfl rfl rfl rfl rfl rfl rfl ?_
    refine pB rfl rfl (SL_nil (nx (SWP_seq (SWP_region (pB rfl rfl (pB rfl rfl (SL_nil (nx (SWP_cf rfl (SWP_skip (nx ?_)))))))))))
    refine SWP_seq (SWP_seq (SWP_region (pP rfl rfl ?_)))
    refine SL_call rfl rfl cb134 (CallsS.subF [_, _, _] (drawsS hw1 hl B) (.refl _)) rfl (fun v6_1 σ6_1 m6_1 hl6_1 hR6_1 => ?_)
    obtain ⟨σz, rfl, rfl, hm6_1, dn, bd, rfl, hdm⟩ := hR6_1
    have hn6_1 := hm6_1.symm
    subst hn6_1
    rw [List.singleton_append]
    refine pu rfl rfl (pI rfl rfl (pB rfl rfl ?_))
    refine bsp 21 rfl (fun b21 => ?_) (fun b21 => ?_)
    · skip
      refine pu rfl rfl ?_
      refine sw (v := .int .i64 _) B6 2 rfl rfl rfl rfl rfl rfl rfl ?_
      refine pB rfl rfl (SL_nil (nx (SWP_seq (SWP_region (pB rfl rfl (pB rfl rfl (SL_nil (nx (SWP_cf rfl (SWP_skip (nx ?_)))))))))))
      refine SWP_seq (SWP_seq (SWP_region (pP rfl rfl ?_)))
      refine SL_pcallS rfl rfl cb135 (CallsS.pureIn (isI B [115, 121, 115]) ⟨[_, _, _], .refl _⟩) rfl ?_
      refine bsp 27 rfl (fun b27 => ?_) (fun b27 => ?_)
      · skip
        refine SL_nil (nx (SWP_ct rfl (SWP_seq (SWP_region (pu rfl rfl ?_)))))
        refine sw (v := .bool _) B6 1 rfl rfl rfl rfl rfl rfl rfl ?_
        refine SL_nil (nx ?_)
        obtain ⟨R4, hR4⟩ : ∃ R4, (drawsM (linesM R).2).2 = [115, 121, 115] :: R4 := ⟨_, isW_cons (by assumption)⟩
        have hsy := sysM_1 hR4
        have hs4 := hw2.sf
        have hw4 : WOk l R4 := by have h5 := hw2.tail; rw [hR4] at h5; exact h5
        rw [hR4] at hs4
        rw [hR4]
        refine SWP_region (pP rfl rfl ?_)
        refine SL_call rfl rfl cb136 (CallsS.subF [_, _, _] (advI hs4 hl B) (.refl _)) rfl (fun v11_1 σ11_1 m11_1 hl11_1 hR11_1 => ?_)
        obtain ⟨σz, rfl, rfl, hm11_1⟩ := hR11_1
        have hn11_1 := hm11_1.symm
        subst hn11_1
        rw [List.singleton_append]
        refine SL_nil (nx (SWP_seq (SWP_seq ?_)))
        have hall : ∃ (s : Bool) (R3 : List Wd), sysM (drawsM (linesM R).2).2 = (s, R3) ∧ WOk l R3 := ⟨_, _, by first | exact hsy | exact sysM_0 (by assumption), by first | exact hw4 | exact hw2⟩
        have hw4 := (show WOk l _ by first | exact hw4 | exact hw2)
        have hsy := (show sysM (drawsM (linesM R).2).2 = _ by first | exact hsy | exact sysM_0 (by assumption))
        refine SWP_region (pP rfl rfl ?_)
        refine lw (v := .agg _) B3 0 rfl rfl rfl rfl ?_
        refine SL_call rfl rfl cb137 (CallsS.subF [_, _, _] (addonsS hw4 hl B (hin.mono hl3_1) h4) (.refl _)) rfl (fun v12_2 σ12_2 m12_2 hl12_2 hR12_2 => ?_)
        obtain ⟨σz, rfl, rfl, hm12_2, an, ba, rfl, ham⟩ := hR12_2
        have hn12_2 := hm12_2.symm
        subst hn12_2
        rw [List.singleton_append]
        refine pu rfl rfl (pI rfl rfl (pB rfl rfl ?_))
        refine bsp 36 rfl (fun b36 => ?_) (fun b36 => ?_)
        · skip
          refine pu rfl rfl ?_
          refine sw (v := .int .i64 _) B6 3 rfl rfl rfl rfl rfl rfl rfl ?_
          refine pB rfl rfl (SL_nil (nx (SWP_seq (SWP_region (pB rfl rfl (pB rfl rfl (SL_nil (nx (SWP_cf rfl (SWP_skip (nx ?_)))))))))))
          refine SWP_seq ?_
          refine SWP_drawn [_, _] [0, 1, 2, 3, 4, 5, 6] (by kernel_rfl) (by kernel_rfl) (Sub.cons2 _ (Sub.cons2 _ (Sub.nil _))) ?_
          refine lw (v := .agg _) B6 0 rfl rfl rfl rfl ?_
          refine pP rfl rfl (pu rfl rfl (pu rfl rfl ?_))
          refine lw (v := .bool _) B 4 rfl rfl rfl rfl ?_
          refine sw (v := .agg _) B4 0 rfl rfl rfl rfl rfl rfl rfl ?_
          refine pB rfl rfl (SL_nil (nx (SWP_ret ?_)))
          refine fin [_, _] ⟨⟨_, _, rfl, Rd.of_cells (MemO.mem (B := B4)), rfl⟩, rfl, trivial⟩ ?_
          cases (show bl = true by assumption)
          cases (show bd = true by assumption)
          cases (show ba = true by assumption)
          have h := readM_4 (hlm.trans (if_pos rfl)) (hdm.trans (if_pos rfl)) hsy (ham.trans (if_pos rfl))
          rw [h]
          clear h
          generalize (addonsM (List.map Addon.name g.addons) _).2 = X
          cases X with
          | nil => exact ⟨_, rfl, ⟨la, lc, L, _, dn, an⟩, an, true, rfl, ⟨hL, hLi⟩, rfl, rfl⟩
          | cons w X => exact ⟨_, rfl, ⟨la, lc, L, _, dn, an⟩, an, false, rfl, ⟨hL, hLi⟩, rfl, rfl⟩
        refine pu rfl rfl ?_
        refine sw (v := .int .i64 _) B6 3 rfl rfl rfl rfl rfl rfl rfl ?_
        refine pB rfl rfl (SL_nil (nx (SWP_seq (SWP_region (pB rfl rfl (pB rfl rfl (SL_nil (nx (SWP_ct rfl (SWP_seq (SWP_region ?_)))))))))))
        refine lw (v := .agg _) B6 0 rfl rfl rfl rfl ?_
        refine sw (v := .agg _) B4 0 rfl rfl rfl rfl rfl rfl rfl ?_
        refine pB rfl rfl (SL_nil (nx (SWP_ret (nr ?_))))
        refine fin [_, _] ⟨⟨_, _, rfl, Rd.of_cells (MemO.mem (B := B4)), rfl⟩, rfl, trivial⟩ ?_
        cases (show bl = true by assumption)
        cases (show bd = true by assumption)
        cases (show ba = false by assumption)
        rw [readM_3 (hlm.trans (if_pos rfl)) (hdm.trans (if_pos rfl)) hsy (ham.trans (if_neg Bool.noConfusion))]
        exact ⟨_, rfl, ⟨la, lc, L, _, dn, an⟩, an, false, rfl, ⟨hL, hLi⟩, rfl, rfl⟩
      refine SL_nil (nx (SWP_cf rfl (SWP_skip (nx (SWP_seq (SWP_seq ?_))))))
      have hall : ∃ (s : Bool) (R3 : List Wd), sysM (drawsM (linesM R).2).2 = (s, R3) ∧ WOk l R3 := ⟨_, _, by first | exact hsy | exact sysM_0 (by assumption), by first | exact hw4 | exact hw2⟩
      have hw4 := (show WOk l _ by first | exact hw4 | exact hw2)
      have hsy := (show sysM (drawsM (linesM R).2).2 = _ by first | exact hsy | exact sysM_0 (by assumption))
      refine SWP_region (pP rfl rfl ?_)
      refine lw (v := .agg _) B3 0 rfl rfl rfl rfl ?_
      refine SL_call rfl rfl cb137 (CallsS.subF [_, _, _] (addonsS hw4 hl B (hin.mono hl3_1) h4) (.refl _)) rfl (fun v12_2 σ12_2 m12_2 hl12_2 hR12_2 => ?_)
      obtain ⟨σz, rfl, rfl, hm12_2, an, ba, rfl, ham⟩ := hR12_2
      have hn12_2 := hm12_2.symm
      subst hn12_2
      rw [List.singleton_append]
      refine pu rfl rfl (pI rfl rfl (pB rfl rfl ?_))
      refine bsp 36 rfl (fun b36 => ?_) (fun b36 => ?_)
      · skip
        refine pu rfl rfl ?_
        refine sw (v := .int .i64 _) B6 3 rfl rfl rfl rfl rfl rfl rfl ?_
        refine pB rfl rfl (SL_nil (nx (SWP_seq (SWP_region (pB rfl rfl (pB rfl rfl (SL_nil (nx (SWP_cf rfl (SWP_skip (nx ?_)))))))))))
        refine SWP_seq ?_
        refine SWP_drawn [_, _] [0, 1, 2, 3, 4, 5, 6] (by kernel_rfl) (by kernel_rfl) (Sub.cons2 _ (Sub.cons2 _ (Sub.nil _))) ?_
        refine lw (v := .agg _) B6 0 rfl rfl rfl rfl ?_
        refine pP rfl rfl (pu rfl rfl (pu rfl rfl ?_))
        refine lw (v := .bool _) B 4 rfl rfl rfl rfl ?_
        refine sw (v := .agg _) B4 0 rfl rfl rfl rfl rfl rfl rfl ?_
        refine pB rfl rfl (SL_nil (nx (SWP_ret ?_)))
        refine fin [_, _] ⟨⟨_, _, rfl, Rd.of_cells (MemO.mem (B := B4)), rfl⟩, rfl, trivial⟩ ?_
        cases (show bl = true by assumption)
        cases (show bd = true by assumption)
        cases (show ba = true by assumption)
        have h := readM_4 (hlm.trans (if_pos rfl)) (hdm.trans (if_pos rfl)) hsy (ham.trans (if_pos rfl))
        rw [h]
        clear h
        generalize (addonsM (List.map Addon.name g.addons) _).2 = X
        cases X with
        | nil => exact ⟨_, rfl, ⟨la, lc, L, _, dn, an⟩, an, true, rfl, ⟨hL, hLi⟩, rfl, rfl⟩
        | cons w X => exact ⟨_, rfl, ⟨la, lc, L, _, dn, an⟩, an, false, rfl, ⟨hL, hLi⟩, rfl, rfl⟩
      refine pu rfl rfl ?_
      refine sw (v := .int .i64 _) B6 3 rfl rfl rfl rfl rfl rfl rfl ?_
      refine pB rfl rfl (SL_nil (nx (SWP_seq (SWP_region (pB rfl rfl (pB rfl rfl (SL_nil (nx (SWP_ct rfl (SWP_seq (SWP_region ?_)))))))))))
      refine lw (v := .agg _) B6 0 rfl rfl rfl rfl ?_
      refine sw (v := .agg _) B4 0 rfl rfl rfl rfl rfl rfl rfl ?_
      refine pB rfl rfl (SL_nil (nx (SWP_ret (nr ?_))))
      refine fin [_, _] ⟨⟨_, _, rfl, Rd.of_cells (MemO.mem (B := B4)), rfl⟩, rfl, trivial⟩ ?_
      cases (show bl = true by assumption)
      cases (show bd = true by assumption)
      cases (show ba = false by assumption)
      rw [readM_3 (hlm.trans (if_pos rfl)) (hdm.trans (if_pos rfl)) hsy (ham.trans (if_neg Bool.noConfusion))]
      exact ⟨_, rfl, ⟨la, lc, L, _, dn, an⟩, an, false, rfl, ⟨hL, hLi⟩, rfl, rfl⟩
    refine pu rfl rfl ?_
    refine sw (v := .int .i64 _) B6 2 rfl rfl rfl rfl rfl rfl rfl ?_
    refine pB rfl rfl (SL_nil (nx (SWP_seq (SWP_region (pB rfl rfl (pB rfl rfl (SL_nil (nx (SWP_ct rfl (SWP_seq (SWP_region ?_)))))))))))
    refine lw (v := .agg _) B6 0 rfl rfl rfl rfl ?_
    refine sw (v := .agg _) B4 0 rfl rfl rfl rfl rfl rfl rfl ?_
    refine pB rfl rfl (SL_nil (nx (SWP_ret (nr ?_))))
    refine fin [_, _] ⟨⟨_, _, rfl, Rd.of_cells (MemO.mem (B := B4)), rfl⟩, rfl, trivial⟩ ?_
    cases (show bl = true by assumption)
    cases (show bd = false by assumption)
    rw [readM_2 (hlm.trans (if_pos rfl)) (hdm.trans (if_neg Bool.noConfusion))]
    exact ⟨_, rfl, ⟨la, lc, L, false, dn, 0⟩, 0, false, rfl, ⟨hL, hLi⟩, rfl, rfl⟩
  refine pu rfl rfl ?_
  refine sw (v := .slice _ _ _) B6 0 rfl rfl rfl rfl rfl rfl rfl ?_
  refine pB rfl rfl (SL_nil (nx (SWP_seq (SWP_region (pB rfl rfl (pB rfl rfl (SL_nil (nx (SWP_ct rfl (SWP_seq (SWP_region ?_)))))))))))
  refine lw (v := .agg _) B6 0 rfl rfl rfl rfl ?_
  refine sw (v := .agg _) B4 0 rfl rfl rfl rfl rfl rfl rfl ?_
  refine pB rfl rfl (SL_nil (nx (SWP_ret (nr ?_))))
  refine fin [_, _] ⟨⟨_, _, rfl, Rd.of_cells (MemO.mem (B := B4)), rfl⟩, rfl, trivial⟩ ?_
  cases (show bl = false by assumption)
  rw [readM_1 (hlm.trans (if_neg Bool.noConfusion))]
  exact ⟨_, rfl, ⟨la, lc, L, false, 0, 0⟩, 0, false, rfl, ⟨hL, hLi⟩, rfl, rfl⟩
end Go.Proofs.YtlgoegjboabgfaaGreatDoor
namespace Go.Proofs.YtlgoegjboabgfaaGreatDoor
open Eng
def zLine (x : LnK) : Line := ⟨none, 0, x.1, none, 0, x.2⟩
def zBet (k : BetM) : Bet := ⟨none, 0, k.1.map zLine, k.2.1, k.2.2.1, k.2.2.2⟩
def zK : BetM := ([], false, 0, 0)
noncomputable def betErrK (g : Game) (k : BetM) : Int := betErr g (zBet k)
def Bet.Is (b : Bet) (k : BetM) : Prop := b.lines.map Line.keyL = k.1 ∧ b.system = k.2.1 ∧ b.draws = k.2.2.1 ∧ b.addons = k.2.2.2
theorem lnErr_z (g : Game) (sys : Bool) (L : List Line) : lnErr g sys (L.map fun x => zLine x.keyL) = lnErr g sys L := by
  unfold lnErr
  rw [List.length_map]
  congr 1
  refine List.map_congr_left fun i _ => ?_
  unfold lnAt
  rw [List.getElem?_map]
  cases h : L[i]? with
  | none => rfl
  | some x =>
    show (if sizeE g sys x ≠ 0 then sizeE g sys x else if canonL g x ∈ ((L.map fun x => zLine x.keyL).take i).map (canonL g) then 6 else 0) = _
    have e : ((L.map fun x => zLine x.keyL).take i).map (canonL g) = (L.take i).map (canonL g) := by
      rw [← List.map_take, List.map_map]; rfl
    rw [e]
theorem totN_z (g : Game) (sys : Bool) (L : List Line) : totN g sys (L.map fun x => zLine x.keyL) = totN g sys L := by
  unfold totN; rw [List.map_map]; rfl
theorem betErr_key {g : Game} {b : Bet} {k : BetM} (h : b.Is k) : betErr g b = betErrK g k := by
  obtain ⟨h1, h2, h3, h4⟩ := h
  have e : (zBet k).lines = b.lines.map fun x => zLine x.keyL := by show k.1.map zLine = _; rw [← h1, List.map_map]; rfl
  unfold betErrK betErr
  rw [e, lnErr_z, totN_z, List.length_map]
  rw [show (zBet k).system = b.system from h2.symm, show (zBet k).draws = b.draws from h3.symm, show (zBet k).addons = b.addons from h4.symm]
noncomputable def parseO (g : Game) (l : List UInt8) : BetM × Int × Nat :=
  if gameErr g ≠ 0 then (zK, gameErr g, 0)
  else if 32768 < l.length then (zK, 3, 0)
  else match (readM (g.addons.map Addon.name) (wordsL l)).1 with
    | none => (zK, 1, posR l (readM (g.addons.map Addon.name) (wordsL l)).2)
    | some k => if betErrK g k ≠ 0 then (zK, betErrK g k, 0) else (k, 0, 0)
def ParseOf (r : Value) (m : Mem) (o : BetM × Int × Nat) : Prop := ∃ bt : Bet, r = .tuple #[bt.val, .int .i64 o.2.1, .int .i64 (o.2.2 : Nat)] ∧ bt.In m ∧ bt.Is o.1
def zeroBet : Bet := ⟨none, 0, [], false, 0, 0⟩
theorem zeroBet_in (m : Mem) : zeroBet.In m := ⟨RL.nil _ _, fun x hx => (by cases hx)⟩
theorem zeroBet_is : zeroBet.Is zK := ⟨rfl, rfl, rfl, rfl⟩
theorem words_len : ∀ l : List UInt8, (wordsL l).length ≤ l.length + 1 ∧ ∀ w ∈ wordsL l, w.length ≤ l.length
  | [] => ⟨by decide, fun w hw => by rw [show wordsL [] = [[]] from rfl, List.mem_singleton] at hw; subst hw; simp⟩
  | b :: r => by
    have ih := words_len r
    by_cases hb : b = 32
    · subst hb
      rw [wordsL_sp]
      refine ⟨by simp only [List.length_cons]; omega, fun w hw => ?_⟩
      rcases List.mem_cons.1 hw with rfl | hw
      · simp
      · have := ih.2 w hw; simp only [List.length_cons]; omega
    · obtain ⟨w, ws, hws⟩ : ∃ w ws, wordsL r = w :: ws := by
        cases h : wordsL r with
        | nil => exact absurd h (wordsL_ne r)
        | cons w ws => exact ⟨w, ws, rfl⟩
      rw [wordsL_ch hb hws]
      rw [hws] at ih
      refine ⟨by have := ih.1; simp only [List.length_cons] at *; omega, fun v hv => ?_⟩
      rcases List.mem_cons.1 hv with rfl | hv
      · have := ih.2 w (List.mem_cons_self ..); simp only [List.length_cons]; omega
      · have := ih.2 v (List.mem_cons_of_mem _ hv); simp only [List.length_cons]; omega
theorem WOk.all {l : List UInt8} (hl : l.length ≤ 40000) : WOk l (wordsL l) := ⟨Suf.all l, fun w hw => by have := (words_len l).2 w hw; omega, by have := (words_len l).1; omega⟩
theorem load0 {m : Mem} {l : List UInt8} {w : Wd} {R : List Wd} (hs : Suf l (w :: R)) (hl : l.length ≤ 1000000) (B : Nat) (hp : posR l (w :: R) = 0) (b : ByteArray) :
    CallsS Tryz.prog 92 [.pointer (some ⟨B, 0, none⟩), .int .i64 0].toArray [(B, Cells 166 [.string (bA l), .int .i64 0, .string b, .int .i64 0, .bool false])] m fun _ σ' m' => σ' = [(B, Cells 166 (scE l (w :: R)))] ∧ m' = m := by
  have e : (0 : Int) = ((posR l (w :: R) : Nat) : Int) := by rw [hp]; rfl
  rw [e]
  exact loadI hs hl B _ _ _ _
set_option maxRecDepth 100000 in
theorem parseS {m : Mem} {g : Game} (hin : g.In m) (l : List UInt8) (hl : l.length ≤ 1000000) : CallsS Tryz.prog 56 [g.val, .string (bA l)].toArray [] m fun r σ' m' => σ' = [] ∧ ParseOf r m' (parseO g l) := by
  refine CallsS.ghost (R' := fun r σ' m' => ParseOf r m' (parseO g l)) ?_ ?h2
  case h2 =>
    rintro r σ' m' hr g0 W hC
    exact ⟨_, m', hC.sublist (List.nil_sublist _), Le.refl _, rfl, hr⟩
  have hsz := bA_size l
  dsimp only [Game.val]
  refine enter Tryz.func56 Tryz.ntmps56 rfl rfl ?_
  refine SWP_seq (SWP_region ?_)
  refine bx (v := .agg _) rfl rfl (fun B2 => ?_)
  refine al rfl rfl (fun B4 => ?_)
  refine pI rfl rfl (pI rfl rfl (SL_nil (nx (SWP_seq (SWP_seq (SWP_region ?_))))))
  refine lw (v := .agg _) B2 0 rfl rfl rfl rfl ?_
  refine SL_call rfl rfl cb91 (CallsS.frame0 (countG hin)) rfl (fun v1_1 σ1_1 m1_1 hl1_1 hR1_1 => ?_)
  obtain ⟨σc, rfl, rfl, hm1_1, z0, rfl⟩ := hR1_1
  have hn1_1 := hm1_1.symm
  subst hn1_1
  refine pu rfl rfl (pI rfl rfl (pI rfl rfl (pI rfl rfl (pI rfl rfl (SL_nil (nx (SWP_seq (SWP_region (pI rfl rfl ?_)))))))))
  refine pc rfl rfl (fun c19 => ?_) (fun c19 => ?_)
  · skip
    refine SL_nil (nx (SWP_ct rfl (SWP_seq (SWP_region (pA rfl rfl (pI rfl rfl ?_))))))
    refine sw (v := .agg _) B4 0 rfl rfl rfl rfl rfl rfl rfl ?_
    refine pI rfl rfl (pI rfl rfl (SL_nil (nx (SWP_ret (nr ?_)))))
    refine fin [_, _, _] ⟨⟨_, _, rfl, Rd.of_cells (MemO.mem (B := B4)), rfl⟩, rfl, rfl, trivial⟩ ?_
    unfold parseO
    rw [if_pos (show gameErr g ≠ 0 by assumption)]
    exact ⟨zeroBet, rfl, zeroBet_in _, zeroBet_is⟩
  refine SL_nil (nx (SWP_cf rfl (SWP_skip (nx (SWP_seq (SWP_seq ?_))))))
  have hz : gameErr g = 0 := Classical.not_not.1 (by assumption)
  have hg := gameOk hz
  refine SWP_region (pS rfl rfl (pu rfl rfl ?_))
  refine pc rfl rfl (fun c24 => ?_) (fun c24 => ?_)
  · skip
    refine SL_nil (nx (SWP_ct rfl (SWP_seq (SWP_region (pA rfl rfl ?_)))))
    refine sw (v := .agg _) B4 0 rfl rfl rfl rfl rfl rfl rfl ?_
    refine pI rfl rfl (pI rfl rfl (SL_nil (nx (SWP_ret (nr ?_)))))
    refine fin [_, _, _] ⟨⟨_, _, rfl, Rd.of_cells (MemO.mem (B := B4)), rfl⟩, rfl, rfl, trivial⟩ ?_
    unfold parseO
    rw [if_neg (fun hh => hh hz), if_pos (by omega)]
    exact ⟨zeroBet, rfl, zeroBet_in _, zeroBet_is⟩
  refine SL_nil (nx (SWP_cf rfl (SWP_skip (nx (SWP_seq ?_)))))
  have hw : WOk l (wordsL l) := WOk.all (by omega)
  obtain ⟨w, R, hwd⟩ : ∃ w R, wordsL l = w :: R := by
    cases h : wordsL l with
    | nil => exact absurd h (wordsL_ne l)
    | cons w R => exact ⟨w, R, rfl⟩
  have hp0 : posR l (w :: R) = 0 := by rw [← hwd]; exact posR_all l
  skip
  refine SWP_region (pS rfl rfl (pA rfl rfl ?_))
  refine bx (v := .agg _) rfl rfl (fun B28 => ?_)
  refine pP rfl rfl (SL_nil (nx (SWP_seq (SWP_region (pP rfl rfl ?_)))))
  refine SL_call rfl rfl cb92 (CallsS.subF [_, _] (load0 (hwd ▸ hw.sf) (by omega) B28 hp0 _) (.refl _)) rfl (fun v7_1 σ7_1 m7_1 hl7_1 hR7_1 => ?_)
  obtain ⟨σz, rfl, rfl, hm7_1⟩ := hR7_1
  have hn7_1 := hm7_1.symm
  subst hn7_1
  rw [List.singleton_append]
  refine SL_nil (nx (SWP_seq (SWP_region (pP rfl rfl ?_))))
  refine lw (v := .agg _) B2 0 rfl rfl rfl rfl ?_
  refine SL_call rfl rfl cb93 (CallsS.subF [_, _] (readS (hwd ▸ hw) (by omega) B28 hin (addons_few hg)) (.refl _)) rfl (fun v8_2 σ8_2 m8_2 hl8_2 hR8_2 => ?_)
  obtain ⟨σz, rfl, rfl, bt, an, bb, rfl, hbt, han, hrm⟩ := hR8_2
  rw [List.singleton_append]
  refine pu rfl rfl (pA rfl rfl (pB rfl rfl ?_))
  refine bsp 36 rfl (fun b36 => ?_) (fun b36 => ?_)
  · skip
    refine al rfl rfl (fun B10 => ?_)
    refine sw (v := .agg _) B10 0 rfl rfl rfl rfl rfl rfl rfl ?_
    refine pB rfl rfl (SL_nil (nx (SWP_seq (SWP_seq (SWP_region (pB rfl rfl (pB rfl rfl (SL_nil (nx (SWP_cf rfl (SWP_skip ?_)))))))))))
    refine nx (SWP_seq (SWP_seq (SWP_region ?_)))
    refine lw (v := .agg _) B2 0 rfl rfl rfl rfl ?_
    refine lw (v := .agg _) B10 0 rfl rfl rfl rfl ?_
    refine SL_pcall rfl rfl cb74 (betI (hin.mono hl8_2) hbt) rfl ?_
    refine pI rfl rfl (SL_nil (nx (SWP_seq (SWP_region (pI rfl rfl ?_)))))
    refine pc rfl rfl (fun c48 => ?_) (fun c48 => ?_)
    · skip
      refine SL_nil (nx (SWP_ct rfl (SWP_seq (SWP_region (pA rfl rfl (pI rfl rfl ?_))))))
      refine sw (v := .agg _) B4 0 rfl rfl rfl rfl rfl rfl rfl ?_
      refine pI rfl rfl (pI rfl rfl (SL_nil (nx (SWP_ret (nr ?_)))))
      refine fin [_, _, _] ⟨⟨_, _, rfl, Rd.of_cells (MemO.mem (B := B4)), rfl⟩, rfl, rfl, trivial⟩ ?_
      unfold parseO
      rw [if_neg (fun hh => hh hz), if_neg (by omega)]
      cases (show bb = true by assumption)
      rw [hwd, hrm.trans (if_pos rfl)]
      have his : bt.Is (bt.lines.map Line.keyL, bt.system, bt.draws, an) := ⟨rfl, rfl, rfl, han⟩
      have hk := betErr_key (g := g) his
      first
        | (show ParseOf _ _ (if betErrK g (bt.lines.map Line.keyL, bt.system, bt.draws, an) ≠ 0 then _ else _)
           rw [if_pos (by rw [← hk]; assumption), ← hk]
           exact ⟨zeroBet, rfl, zeroBet_in _, zeroBet_is⟩)
        | (show ParseOf _ _ (if betErrK g (bt.lines.map Line.keyL, bt.system, bt.draws, an) ≠ 0 then _ else _)
           rw [if_neg (by rw [← hk]; assumption)]
           exact ⟨bt, rfl, hbt, his⟩)
    refine SL_nil (nx (SWP_cf rfl (SWP_skip (nx (SWP_seq (SWP_region ?_))))))
    refine lw (v := .agg _) B10 0 rfl rfl rfl rfl ?_
    refine sw (v := .agg _) B4 0 rfl rfl rfl rfl rfl rfl rfl ?_
    refine pI rfl rfl (pI rfl rfl (SL_nil (nx (SWP_ret ?_))))
    refine fin [_, _, _] ⟨⟨_, _, rfl, Rd.of_cells (MemO.mem (B := B4)), rfl⟩, rfl, rfl, trivial⟩ ?_
    unfold parseO
    rw [if_neg (fun hh => hh hz), if_neg (by omega)]
    cases (show bb = true by assumption)
    rw [hwd, hrm.trans (if_pos rfl)]
    have his : bt.Is (bt.lines.map Line.keyL, bt.system, bt.draws, an) := ⟨rfl, rfl, rfl, han⟩
    have hk := betErr_key (g := g) his
    first
      | (show ParseOf _ _ (if betErrK g (bt.lines.map Line.keyL, bt.system, bt.draws, an) ≠ 0 then _ else _)
         rw [if_pos (by rw [← hk]; assumption), ← hk]
         exact ⟨zeroBet, rfl, zeroBet_in _, zeroBet_is⟩)
      | (show ParseOf _ _ (if betErrK g (bt.lines.map Line.keyL, bt.system, bt.draws, an) ≠ 0 then _ else _)
         rw [if_neg (by rw [← hk]; assumption)]
         exact ⟨bt, rfl, hbt, his⟩)
  refine al rfl rfl (fun B10 => ?_)
  refine sw (v := .agg _) B10 0 rfl rfl rfl rfl rfl rfl rfl ?_
  refine pB rfl rfl (SL_nil (nx (SWP_seq (SWP_seq (SWP_region (pB rfl rfl (pB rfl rfl (SL_nil (nx (SWP_ct rfl (SWP_seq ?_)))))))))))
  refine SWP_drawn [_] [0, 1, 2, 3, 4, 5, 6, 7] (by kernel_rfl) (by kernel_rfl) (Sub.cons _ (Sub.cons2 _ (Sub.nil _))) ?_
  refine pA rfl rfl (pP rfl rfl (pu rfl rfl (pu rfl rfl ?_)))
  refine lw (v := .int .i64 _) B28 1 rfl rfl rfl rfl ?_
  refine sw (v := .agg _) B4 0 rfl rfl rfl rfl rfl rfl rfl ?_
  refine pI rfl rfl (pI rfl rfl (SL_nil (nx (SWP_ret (nr ?_)))))
  refine fin [_, _, _] ⟨⟨_, _, rfl, Rd.of_cells (MemO.mem (B := B4)), rfl⟩, rfl, rfl, trivial⟩ ?_
  unfold parseO
  rw [if_neg (fun hh => hh hz), if_neg (by omega)]
  cases (show bb = false by assumption)
  rw [hwd, hrm.trans (if_neg Bool.noConfusion)]
  exact ⟨zeroBet, rfl, zeroBet_in _, zeroBet_is⟩
end Go.Proofs.YtlgoegjboabgfaaGreatDoor
namespace Go.Proofs.YtlgoegjboabgfaaGreatDoor
open Eng
def decW (n : Int) : Wd := Lib.decDigits n.toNat
def lnTok (x : LnK) : List Wd := x.1.map decW ++ (if x.2 = [] then [] else [43] :: x.2.map decW)
def lnsTok : List LnK → List Wd
  | [] => []
  | [x] => lnTok x
  | x :: y :: r => lnTok x ++ [47] :: lnsTok (y :: r)
def nmAt (ns : List ByteArray) (i : Nat) : Wd := ((ns[i]?).getD ByteArray.empty).data.toList
def addTokF (ns : List ByteArray) (a : Nat) (k n : Nat) : List Wd := ((List.range' k n).filter fun i => a.testBit i).map (nmAt ns)
def addTok (ns : List ByteArray) (a : Nat) : List Wd := addTokF ns a 0 ns.length
def tailTok (ns : List ByteArray) (b : BetM) : List Wd := (if b.2.2.1 ≠ 1 then [[120], decW b.2.2.1] else []) ++ ((if b.2.1 = true then [[115, 121, 115]] else []) ++ ((if b.2.2.2 ≠ 0 then [[42]] else []) ++ addTok ns b.2.2.2))
def toks (ns : List ByteArray) (b : BetM) : List Wd := lnsTok b.1 ++ tailTok ns b
theorem lnsTok_snoc : ∀ (L : List LnK) (x : LnK), L ≠ [] → lnsTok (L ++ [x]) = lnsTok L ++ [47] :: lnTok x
  | [], _, h => absurd rfl h
  | [y], x, _ => rfl
  | y :: z :: r, x, _ => by
    show lnTok y ++ [47] :: lnsTok (z :: r ++ [x]) = _
    rw [lnsTok_snoc (z :: r) x (by simp)]
    simp [lnsTok]
theorem lnsTok_cons (x : LnK) {L : List LnK} (h : L ≠ []) : lnsTok (x :: L) = lnTok x ++ [47] :: lnsTok L := by
  cases L with
  | nil => exact absurd rfl h
  | cons y r => rfl
def Sm (n : Int) : Prop := 0 ≤ n ∧ n < 100
theorem decW_len {n : Int} (h : Sm n) : (decW n).length ≤ 2 := by
  obtain ⟨k, rfl⟩ : ∃ k : Nat, n = k := ⟨n.toNat, by have := h.1; omega⟩
  have h2 := h.2
  unfold decW
  rw [Int.toNat_natCast]
  by_cases hk : k < 10
  · rw [decDigits_1 hk]; show 1 ≤ 2; decide
  · rw [decDigits_2 hk (by omega)]; exact Nat.le_refl _
structure LnSm (x : LnK) : Prop where
  ne : x.1 ≠ []
  m : ∀ n ∈ x.1, Sm n
  b : ∀ n ∈ x.2, Sm n
theorem lnTok_len {x : LnK} (h : x.1 ≠ []) : 1 ≤ (lnTok x).length := by
  have := List.length_pos_iff.2 h
  simp only [lnTok, List.length_append, List.length_map]; omega
theorem lnsTok_len : ∀ (L : List LnK), (∀ x ∈ L, x.1 ≠ []) → L.length ≤ (lnsTok L).length
  | [], _ => Nat.le_refl _
  | [x], h => lnTok_len (h x (List.mem_cons_self ..))
  | x :: y :: r, h => by
    have ih := lnsTok_len (y :: r) (fun z hz => h z (List.mem_cons_of_mem _ hz))
    have := lnTok_len (h x (List.mem_cons_self ..))
    show _ ≤ (lnTok x ++ [47] :: lnsTok (y :: r)).length
    rw [List.length_append]
    simp only [List.length_cons] at *
    omega
end Go.Proofs.YtlgoegjboabgfaaGreatDoor
namespace Go.Proofs.YtlgoegjboabgfaaGreatDoor
open Eng
theorem nmAt_some {ns : List ByteArray} {i : Nat} {w : ByteArray} (h : ns[i]? = some w) : bA (nmAt ns i) = w := by
  unfold nmAt; rw [h]; exact bA_of w
structure BetSm (ns : List ByteArray) (b : BetM) : Prop where
  ne : b.1 ≠ []
  ls : ∀ x ∈ b.1, LnSm x
  d : Sm b.2.2.1
  a : b.2.2.2 < 2 ^ ns.length
theorem toks_ne {ns : List ByteArray} {b : BetM} (h : BetSm ns b) : toks ns b ≠ [] := fun e => by
  have h1 := lnsTok_len b.1 (fun x hx => (h.ls x hx).ne)
  have h2 := List.length_pos_iff.2 h.ne
  have h3 := congrArg List.length e
  simp only [toks, List.length_append, List.length_nil] at h3
  omega
end Go.Proofs.YtlgoegjboabgfaaGreatDoor
namespace Go.Proofs.YtlgoegjboabgfaaGreatDoor
open Eng
theorem parseO_4 {g : Game} {l : List UInt8} (h : gameErr g = 0) (hl : ¬ 32768 < l.length) {k : BetM} {Rf : List Wd} (hr : readM (g.addons.map Addon.name) (wordsL l) = (some k, Rf)) : parseO g l = if betErrK g k ≠ 0 then (zK, betErrK g k, 0) else (k, 0, 0) := by
  unfold parseO; rw [if_neg (fun hh => hh h), if_neg hl, hr]
end Go.Proofs.YtlgoegjboabgfaaGreatDoor
namespace Go.Proofs.YtlgoegjboabgfaaGreatDoor
open Eng
structure LineOk (g : Game) (l : Line) : Prop where
  g0 : gameErr g = 0
  ml : (l.main.length : Int) = g.main
  bl : (l.bonus.length : Int) = g.bonus
  mi : allIn (if g.kind = 2 then 0 else 1) (if g.kind = 2 then g.of - 1 else g.of) l.main
  bi : allIn 1 g.bonusOf l.bonus
  mn : g.kind ≠ 2 → l.main.Nodup
  bn : l.bonus.Nodup
theorem lineOk {g : Game} {l : Line} (h : lineErr g l = 0) : LineOk g l := by
  unfold lineErr at h
  by_cases h1 : gameErr g ≠ 0
  · rw [if_pos h1] at h; exact absurd h h1
  rw [if_neg h1] at h
  by_cases h2 : (l.main.length : Int) ≠ g.main ∨ (l.bonus.length : Int) ≠ g.bonus
  · rw [if_pos h2] at h; exact absurd h (by decide)
  rw [if_neg h2] at h
  by_cases h3 : ¬ allIn (if g.kind = 2 then 0 else 1) (if g.kind = 2 then g.of - 1 else g.of) l.main ∨ ¬ allIn 1 g.bonusOf l.bonus
  · rw [if_pos h3] at h; exact absurd h (by decide)
  rw [if_neg h3] at h
  by_cases h4 : (g.kind ≠ 2 ∧ ¬ l.main.Nodup) ∨ ¬ l.bonus.Nodup
  · rw [if_pos h4] at h; exact absurd h (by decide)
  exact ⟨Classical.not_not.1 h1, by omega, by omega, Classical.byContradiction fun hc => h3 (.inl hc), Classical.byContradiction fun hc => h3 (.inr hc), fun hk => Classical.byContradiction fun hc => h4 (.inl ⟨hk, hc⟩), Classical.byContradiction fun hc => h4 (.inr hc)⟩
def wE (w : Wd) : List Value := [.string (bA w)]
theorem wE_len (w : Wd) : (wE w).length = 1 := rfl
def Bet.key (b : Bet) : BetM := (b.lines.map Line.keyL, b.system, b.draws, b.addons.toNat)
def gNs (g : Game) : List ByteArray := g.addons.map Addon.name
open Classical in
noncomputable def printL (g : Game) (b : Bet) : List UInt8 := if betErr g b = 0 then joinW (toks (gNs g) b.key) else []
structure BetOk (g : Game) (b : Bet) : Prop where
  g0 : gameErr g = 0
  ln : 1 ≤ b.lines.length ∧ b.lines.length ≤ 16
  ls : ∀ x ∈ b.lines, LnSm x.keyL ∧ x.main.length ≤ 14 ∧ x.bonus.length ≤ 4
  dr : 1 ≤ b.draws ∧ b.draws ≤ 32
  ad : 0 ≤ b.addons ∧ b.addons < 2 ^ g.addons.length
theorem sm_of {lo hi : Int} {l : List Int} (h : allIn lo hi l) (h0 : 0 ≤ lo) (h1 : hi < 100) : ∀ n ∈ l, Sm n := fun n hn => ⟨Int.le_trans h0 (h n hn).1, Int.lt_of_le_of_lt (h n hn).2 h1⟩
theorem line_sm {g : Game} {sys : Bool} {x : Line} (h : sizeE g sys x = 0) : LnSm x.keyL ∧ x.main.length ≤ 14 ∧ x.bonus.length ≤ 4 := by
  have hs := size_small h
  refine ⟨?_, hs.1, hs.2.1⟩
  cases sys with
  | true =>
    have h' : sysErr g x = 0 := h
    have ho := sysOk h'
    have hk := sysG_ok ho.g0
    have hg := gameOk hk.1
    have q2 := hg.mx.h2
    have q4 := hg.mx.h4 (by omega)
    have hbo : g.bonusOf < 100 := by
      by_cases h0 : g.bonus = 0
      · have := hg.mx.h8 h0; omega
      · have := hg.mx.h9 h0; omega
    refine ⟨fun e => ?_, sm_of ho.mi (by decide) (by omega), sm_of ho.bi (by decide) hbo⟩
    have e' : x.main = [] := e
    have := ho.ml.1
    rw [e', List.length_nil] at this
    omega
  | false =>
    have h' : lineErr g x = 0 := h
    have ho := lineOk h'
    have hg := gameOk ho.g0
    have q2 := hg.mx.h2
    have q3 := hg.mx.h3
    have q4 := hg.mx.h4
    have hbo : g.bonusOf < 100 := by
      by_cases h0 : g.bonus = 0
      · have := hg.mx.h8 h0; omega
      · have := hg.mx.h9 h0; omega
    have hmi := ho.mi
    refine ⟨fun e => ?_, ?_, sm_of ho.bi (by decide) hbo⟩
    · have e' : x.main = [] := e
      have := ho.ml
      rw [e', List.length_nil] at this
      omega
    · by_cases hk : g.kind = 2
      · rw [if_pos hk, if_pos hk] at hmi
        have := q3 hk
        exact sm_of hmi (by decide) (by omega)
      · rw [if_neg hk, if_neg hk] at hmi
        have := q4 hk
        exact sm_of hmi (by decide) (by omega)
theorem betOk {g : Game} {b : Bet} (h : betErr g b = 0) : BetOk g b := by
  unfold betErr at h
  by_cases h1 : gameErr g ≠ 0
  · rw [if_pos h1] at h; exact absurd h h1
  rw [if_neg h1] at h
  by_cases h2 : ¬ (1 ≤ b.lines.length ∧ b.lines.length ≤ 16)
  · rw [if_pos h2] at h; exact absurd h (by decide)
  rw [if_neg h2] at h
  by_cases h3 : lnErr g b.system b.lines ≠ 0
  · rw [if_pos h3] at h; exact absurd h h3
  rw [if_neg h3] at h
  by_cases h4 : 1024 < totN g b.system b.lines
  · rw [if_pos h4] at h; exact absurd h (by decide)
  rw [if_neg h4] at h
  by_cases h5 : ¬ (1 ≤ b.draws ∧ b.draws ≤ g.draws)
  · rw [if_pos h5] at h; exact absurd h (by decide)
  rw [if_neg h5] at h
  by_cases h6 : ¬ (0 ≤ b.addons ∧ b.addons < 2 ^ g.addons.length)
  · rw [if_pos h6] at h; exact absurd h (by decide)
  have g0 := Classical.not_not.1 h1
  have hd := (gameOk g0).mx.h13
  have h5' := Classical.not_not.1 h5
  refine ⟨g0, Classical.not_not.1 h2, fun x hx => ?_, ⟨h5'.1, by omega⟩, Classical.not_not.1 h6⟩
  obtain ⟨i, hi⟩ := List.mem_iff_getElem?.1 hx
  have h0 := lnErr_zero.1 (Classical.not_not.1 h3) i (List.getElem?_eq_some_iff.1 hi).1
  exact line_sm (sizeE_of_lnAt hi h0)
theorem addons_each {pre : List Addon} : ∀ {l : List Addon}, addonsFrom pre l = 0 → ∀ a ∈ l, addonErr a = 0
  | [], _, _, h => by cases h
  | b :: l, h, a, ha => by
    unfold addonsFrom at h
    by_cases h1 : addonErr b ≠ 0
    · rw [if_pos h1] at h; exact absurd h h1
    rw [if_neg h1] at h
    by_cases h2 : ∃ c ∈ pre, c.name = b.name ∨ c.kind = b.kind
    · rw [if_pos h2] at h; exact absurd h (by decide)
    rw [if_neg h2] at h
    rcases List.mem_cons.1 ha with rfl | ha
    · exact Classical.not_not.1 h1
    · exact addons_each h a ha
theorem ad_from {g : Game} (h : GameOk g) : addonsFrom [] g.addons = 0 := by
  have := h.ad
  unfold addonsErr at this
  split at this
  · cases this
  · exact this
theorem gNs_name {g : Game} (h : GameOk g) : ∀ w ∈ gNs g, nameB w = true := fun w hw => by
  obtain ⟨a, ha, rfl⟩ := List.mem_map.1 hw
  have := addons_each (ad_from h) a ha
  unfold addonErr at this
  by_cases h1 : nameB a.name = false
  · rw [if_pos h1] at this; cases this
  · exact (Bool.not_eq_false _).mp h1
theorem name_ns {w : ByteArray} (h : nameB w = true) : (32 : UInt8) ∉ w.data.toList ∧ w ≠ bA [] ∧ w.data.toList.length ≤ 24 := by
  unfold nameB at h
  simp only [Bool.and_eq_true] at h
  obtain ⟨⟨h1, h2⟩, h3⟩ := h
  have h1' := of_decide_eq_true h1
  refine ⟨fun hm => ?_, fun e => ?_, ?_⟩
  · exact absurd (List.all_eq_true.1 h3 32 hm) (by decide)
  · rw [e] at h1'; exact absurd h1'.1 (by decide)
  · rw [size_list]; exact h1'.2
theorem gNs_len (g : Game) : (gNs g).length = g.addons.length := List.length_map ..
theorem bet_sm {g : Game} {b : Bet} (h : BetOk g b) : BetSm (gNs g) b.key := by
  refine ⟨fun e => ?_, fun x hx => ?_, ⟨by have := h.dr; show 0 ≤ b.draws; omega, by have := h.dr; show b.draws < 100; omega⟩, ?_⟩
  · have h1 := congrArg List.length (show b.lines.map Line.keyL = [] from e)
    rw [List.length_map, List.length_nil] at h1
    have := h.ln; omega
  · obtain ⟨y, hy, rfl⟩ := List.mem_map.1 (show x ∈ b.lines.map Line.keyL from hx)
    exact (h.ls y hy).1
  · show b.addons.toNat < 2 ^ (gNs g).length
    rw [gNs_len]
    have h2 := h.ad
    have h3 : ((2 ^ g.addons.length : Nat) : Int) = 2 ^ g.addons.length := by simp
    omega
theorem fmtW {m : Mem} {n : Int} (h : Sm n) : PureCall Tryz.prog 75 [.int .i64 n] m (.string (bA (decW n))) := by
  obtain ⟨k, rfl⟩ : ∃ k : Nat, n = k := ⟨n.toNat, by have := h.1; omega⟩
  exact fmtI k (by have := h.2; omega)
theorem lnsTok_step {K : List LnK} {i : Nat} {x : LnK} (h : K[i]? = some x) : lnsTok (K.take (i + 1)) = (lnsTok (K.take i) ++ (if 0 < i then [[47]] else [])) ++ lnTok x := by
  rw [take_snocA h]
  cases i with
  | zero => rw [List.take_zero]; rfl
  | succ i =>
    rw [lnsTok_snoc _ _ (fun e => by
      have h1 := congrArg List.length e
      have h2 := (List.getElem?_eq_some_iff.1 h).1
      rw [List.length_take, List.length_nil] at h1; omega), if_pos (by omega), List.append_assoc]
    rfl
theorem lnTok_le {x : Line} (h1 : x.main.length ≤ 14) (h2 : x.bonus.length ≤ 4) : (lnTok x.keyL).length ≤ 19 := by
  have e : (lnTok x.keyL).length = x.main.length + (if x.bonus = [] then [] else [43] :: x.bonus.map decW : List Wd).length := by
    show (x.main.map decW ++ _).length = _
    rw [List.length_append, List.length_map]
    rfl
  rw [e]
  split
  · simp; omega
  · simp; omega
theorem addTokF_snoc (ns : List ByteArray) (a k : Nat) : addTokF ns a 0 (k + 1) = addTokF ns a 0 k ++ (if a.testBit k = true then [nmAt ns k] else []) := by
  unfold addTokF
  rw [show List.range' 0 (k + 1) = List.range' 0 k ++ [k] by rw [List.range'_concat]; simp, List.filter_append, List.map_append]
  by_cases h : a.testBit k = true
  · rw [if_pos h, List.filter_cons, if_pos h]; rfl
  · rw [if_neg h, List.filter_cons, if_neg h]; rfl
theorem addTokF_le (ns : List ByteArray) (a : Nat) : ∀ k, (addTokF ns a 0 k).length ≤ k
  | 0 => Nat.le_refl _
  | k + 1 => by
    rw [addTokF_snoc, List.length_append]
    have := addTokF_le ns a k
    split <;> simp <;> omega
theorem bit_gF : ∀ (a : Fin 16) (i : Fin 4), bits .and .i64 (((a.val : Nat) : Int).fdiv (2 ^ (min ((i.val : Nat) : Int).toNat IntKind.i64.bits))) 1 = if a.val.testBit i.val = true then 1 else 0 := by decide +kernel
theorem bit_g {a i : Nat} (ha : a < 16) (hi : i < 4) : bits .and .i64 (((a : Nat) : Int).fdiv (2 ^ (min ((i : Nat) : Int).toNat IntKind.i64.bits))) 1 = if a.testBit i = true then 1 else 0 := bit_gF ⟨a, ha⟩ ⟨i, hi⟩
theorem bit_is {a i : Nat} : ((if a.testBit i = true then 1 else 0 : Int) = 1) ↔ a.testBit i = true := by
  by_cases h : a.testBit i = true
  · rw [if_pos h]; exact ⟨fun _ => h, fun _ => rfl⟩
  · rw [if_neg h]; exact ⟨fun e => absurd e (by decide), fun e => absurd e h⟩
theorem joinW_len : ∀ (T : List Wd) (n : Nat), (∀ w ∈ T, w.length ≤ n) → (joinW T).length ≤ (n + 1) * T.length
  | [], n, _ => by simp [joinW]
  | [w], n, h => by
    have := h w (List.mem_cons_self ..)
    show w.length ≤ (n + 1) * 1
    omega
  | w :: v :: ws, n, h => by
    have ih := joinW_len (v :: ws) n (fun x hx => h x (List.mem_cons_of_mem _ hx))
    have := h w (List.mem_cons_self ..)
    rw [joinW_cons (by simp), List.length_append, List.length_cons, List.length_cons, Nat.mul_succ]
    omega
theorem lib_join : ∀ (T : List Wd), Lib.join T [32] = joinW T
  | [] => rfl
  | [w] => by show [32].intercalate [w] = w; simp [List.intercalate]
  | w :: v :: ws => by
    have ih := lib_join (v :: ws)
    show [32].intercalate (w :: v :: ws) = w ++ 32 :: joinW (v :: ws)
    rw [← ih]
    show [32].intercalate (w :: v :: ws) = w ++ 32 :: [32].intercalate (v :: ws)
    simp [List.intercalate]
theorem joinI {m : Mem} {a : Option Addr} {c : Nat} {T : List Wd} (h : RL m wE 1 (.slice a T.length c) T) (hne : T ≠ []) (hl : T.length ≤ 1000000) (hb : (joinW T).length ≤ 100000000) : PureCall Tryz.prog 76 [.slice a T.length c, .string (bA [32])] m (.string (bA (joinW T))) := fun σ => by
  refine CallsS.below fun g W hC => ?_
  obtain ⟨a', c', e, hc⟩ := h.full
  cases e
  obtain ⟨w0, hw0⟩ : ∃ w, T[0]? = some w := ⟨_, List.getElem?_eq_getElem (List.length_pos_iff.2 hne)⟩
  obtain ⟨ad, rfl, _, hat0⟩ := h.atA wE_len hw0
  have hcell : ∀ (j : Nat) (w : Wd), T[j]? = some w → W.cell? (ad.add j) = some (.string (bA w)) := fun j w hj => by
    obtain ⟨ad2, e2, _, hat⟩ := h.atA wE_len hj
    cases e2
    have := hC.cell? (hat 0 (.string (bA w)) rfl)
    rw [Nat.mul_one] at this
    exact this
  have h0 := hcell 0 w0 hw0
  have hsp : ad.spot = none := by
    have h1 := hat0 0 (.string (bA w0)) rfl
    unfold Mem.cell at h1
    cases hs : ad.spot with
    | none => rfl
    | some z =>
      have e3 : ((ad.add (0 * 1)).add 0).spot = some z := hs
      rw [e3] at h1
      cases hm : m ((ad.add (0 * 1)).add 0).block with
      | none => rw [hm] at h1; cases h1
      | some o => rw [hm] at h1; cases h1
  have hlt : ad.block < W.heap.size := by
    have h1 : W.cell? (ad.add 0) = some (.string (bA w0)) := h0
    unfold World.cell? at h1
    cases hh : W.heap[(ad.add 0).block]? with
    | none => rw [hh] at h1; cases h1
    | some o => exact (Array.getElem?_eq_some_iff.1 hh).1
  have ead : ad = ⟨ad.block, ad.off, none⟩ := by
    cases ad; simp only at hsp; subst hsp; rfl
  have key := Tryz.strings_Join ad.block ad.off c (T.map bA) (bA [32]) W (fun j x hj => by
    rw [List.getElem?_map] at hj
    cases hw : T[j]? with
    | none => rw [hw] at hj; cases hj
    | some w =>
      rw [hw] at hj
      have := hcell j w hw
      rw [show (Option.map bA (some w)) = some (bA w) from rfl] at hj
      rw [← Option.some.inj hj]
      rw [ead, show (Addr.add ⟨ad.block, ad.off, none⟩ j) = ⟨ad.block, ad.off + j, none⟩ by simp [Addr.add]] at this
      exact this) hlt (by rw [List.length_map]; omega) (by rw [List.length_map]; exact hc) (by
    rw [List.map_map, show (fun x : ByteArray => x.data.toList) ∘ bA = id from by funext w; simp [bA], List.map_id]
    show (Lib.join T [32]).length ≤ _
    rw [lib_join]; omega)
  rw [List.length_map, List.map_map, show (fun x : ByteArray => x.data.toList) ∘ bA = id from by funext w; simp [bA], List.map_id] at key
  rw [← ead] at key
  have e9 : (Lib.join T (bA [32]).data.toList) = joinW T := lib_join T
  rw [e9] at key
  exact key
theorem toks_short {g : Game} {b : Bet} (h : BetOk g b) : ∀ w ∈ toks (gNs g) b.key, w.length ≤ 24 := by
  have hs := bet_sm h
  have hg := gameOk h.g0
  have hln : ∀ x, LnSm x → ∀ w ∈ lnTok x, w.length ≤ 24 := fun x hx w hw => by
    simp only [lnTok, List.mem_append] at hw
    rcases hw with hw | hw
    · obtain ⟨n, hn, rfl⟩ := List.mem_map.1 hw; have := decW_len (hx.m n hn); omega
    · by_cases h2 : x.2 = []
      · rw [if_pos h2] at hw; cases hw
      · rw [if_neg h2] at hw
        rcases List.mem_cons.1 hw with rfl | hw
        · decide
        · obtain ⟨n, hn, rfl⟩ := List.mem_map.1 hw; have := decW_len (hx.b n hn); omega
  have hls : ∀ L : List LnK, (∀ x ∈ L, LnSm x) → ∀ w ∈ lnsTok L, w.length ≤ 24 := by
    intro L
    induction L with
    | nil => exact fun _ w hw => absurd hw (by simp [lnsTok])
    | cons x r ih =>
      intro hL w hw
      cases r with
      | nil => exact hln x (hL x (List.mem_cons_self ..)) w hw
      | cons y r =>
        rw [lnsTok_cons x (by simp)] at hw
        rcases List.mem_append.1 hw with hw | hw
        · exact hln x (hL x (List.mem_cons_self ..)) w hw
        · rcases List.mem_cons.1 hw with rfl | hw
          · decide
          · exact ih (fun z hz => hL z (List.mem_cons_of_mem _ hz)) w hw
  intro w hw
  simp only [toks, tailTok, List.mem_append] at hw
  rcases hw with hw | hw | hw | hw | hw
  · exact hls _ hs.ls w hw
  · by_cases h1 : b.key.2.2.1 ≠ 1
    · rw [if_pos h1] at hw
      rcases List.mem_cons.1 hw with rfl | hw
      · decide
      · rw [List.mem_singleton.1 hw]; have := decW_len hs.d; omega
    · rw [if_neg h1] at hw; cases hw
  · by_cases h1 : b.key.2.1 = true
    · rw [if_pos h1, List.mem_singleton] at hw; subst hw; decide
    · rw [if_neg h1] at hw; cases hw
  · by_cases h1 : b.key.2.2.2 ≠ 0
    · rw [if_pos h1, List.mem_singleton] at hw; subst hw; decide
    · rw [if_neg h1] at hw; cases hw
  · unfold addTok addTokF at hw
    obtain ⟨i, hi, rfl⟩ := List.mem_map.1 hw
    have hi2 := List.mem_range'_1.1 (List.mem_filter.1 hi).1
    obtain ⟨v, hv⟩ : ∃ v, (gNs g)[i]? = some v := ⟨_, List.getElem?_eq_getElem (by omega)⟩
    unfold nmAt
    rw [hv]
    exact (name_ns (gNs_name hg v (List.mem_of_getElem? hv))).2.2
end Go.Proofs.YtlgoegjboabgfaaGreatDoor
