/- drum.Draw. -/
import Derived.Test.YtkopdlglenejmaaDruE
namespace Go.Proofs.Ytkopdlglenejmaa
open Eng

/-- k digits more: the error, the digits. -/
def digN (of : Int) : Nat → Int → List Int → Int × List Int
  | 0, _, A => (0, A)
  | k + 1, s, A => if (belowF of s).2.1 ≠ 0 then ((belowF of s).2.1, []) else digN of k (belowF of s).2.2 (A ++ [(belowF of s).1])
theorem digN_err {of s : Int} {k : Nat} {A : List Int} (h : (belowF of s).2.1 ≠ 0) : digN of (k + 1) s A = ((belowF of s).2.1, []) := if_pos h
theorem digN_ok {of s : Int} {k : Nat} {A : List Int} (h : (belowF of s).2.1 = 0) : digN of (k + 1) s A = digN of k (belowF of s).2.2 (A ++ [(belowF of s).1]) := if_neg (fun hh => hh h)
def sortL (l : List Int) : List Int := l.mergeSort leI
def numF (of main bonus bonusOf extra s : Int) : Int × (List Int × List Int × List Int) :=
  if (sampF of (main + extra) s).1 ≠ 0 then ((sampF of (main + extra) s).1, ([], [], []))
  else if bonus = 0 then (0, (sortL ((sampF of (main + extra) s).2.1.take main.toNat), [], sortL ((sampF of (main + extra) s).2.1.drop main.toNat)))
  else if (sampF bonusOf bonus (sampF of (main + extra) s).2.2).1 ≠ 0 then ((sampF bonusOf bonus (sampF of (main + extra) s).2.2).1, ([], [], []))
  else (0, (sortL ((sampF of (main + extra) s).2.1.take main.toNat), sortL (sampF bonusOf bonus (sampF of (main + extra) s).2.2).2.1, sortL ((sampF of (main + extra) s).2.1.drop main.toNat)))
noncomputable def drawF (g : Game) (s : Int) : Int × (List Int × List Int × List Int) :=
  if gameErr g ≠ 0 then (gameErr g, ([], [], []))
  else if g.kind = 2 then ((digN g.of g.main.toNat s []).1, ((digN g.of g.main.toNat s []).2, [], []))
  else numF g.of g.main g.bonus g.bonusOf g.extra s
theorem sampN_len {n : Int} : ∀ (k i : Nat) (s : Int) (L : List Int), (sampN n k i s L).2.1.length = L.length
  | 0, _, _, _ => rfl
  | k + 1, i, s, L => by
    unfold sampN
    split
    · rfl
    · rw [sampN_len k, swapL_len]
theorem sampF_len {n k s : Int} (h : (sampF n k s).1 = 0) : (sampF n k s).2.1.length = k.toNat ∧ 0 ≤ k ∧ k ≤ n ∧ n ≤ 4096 := by
  unfold sampF at h ⊢
  by_cases h1 : n < 0 ∨ 4096 < n ∨ k < 0 ∨ n < k
  · rw [if_pos h1] at h; exact absurd h (by show ¬ (2 : Int) = 0; decide)
  · rw [if_neg h1] at h ⊢
    by_cases h2 : (sampN n k.toNat 0 s (iotaL n.toNat)).1 ≠ 0
    · rw [if_pos h2] at h; exact absurd h h2
    · rw [if_neg h2]
      refine ⟨?_, by omega, by omega, by omega⟩
      show (List.take _ _).length = _
      rw [List.length_take, sampN_len, iotaL_len]
      omega
theorem permU {α : Type} (c d a : α) (l : List α) : (l ++ [c, d, a]).Perm ([a] ++ (l ++ [c, d])) := by
  refine List.Perm.trans ?_ (List.perm_append_comm (l₁ := l ++ [c, d]) (l₂ := [a]))
  simp
theorem permV {α : Type} (x y z w : α) (a b : List α) : (a ++ (b ++ [x, y, z, w])).Perm ([w] ++ (a ++ (b ++ [x, y, z]))) := by
  refine List.Perm.trans ?_ (List.perm_append_comm (l₁ := a ++ (b ++ [x, y, z])) (l₂ := [w]))
  simp
theorem numF_err {of main bonus bonusOf extra s : Int} (h : (sampF of (main + extra) s).1 ≠ 0) : numF of main bonus bonusOf extra s = ((sampF of (main + extra) s).1, ([], [], [])) := if_pos h
theorem numF_err2 {of main bonus bonusOf extra s : Int} (h : (sampF of (main + extra) s).1 = 0) (h0 : bonus ≠ 0) (h2 : (sampF bonusOf bonus (sampF of (main + extra) s).2.2).1 ≠ 0) : numF of main bonus bonusOf extra s = ((sampF bonusOf bonus (sampF of (main + extra) s).2.2).1, ([], [], [])) :=
  (if_neg (fun hh => hh h)).trans ((if_neg h0).trans (if_pos h2))
theorem numF_one {of main bonus bonusOf extra s : Int} (h : (sampF of (main + extra) s).1 = 0) (h0 : bonus = 0) : numF of main bonus bonusOf extra s = (0, (sortL ((sampF of (main + extra) s).2.1.take main.toNat), [], sortL ((sampF of (main + extra) s).2.1.drop main.toNat))) :=
  (if_neg (fun hh => hh h)).trans (if_pos h0)
theorem numF_two {of main bonus bonusOf extra s : Int} (h : (sampF of (main + extra) s).1 = 0) (h0 : bonus ≠ 0) (h2 : (sampF bonusOf bonus (sampF of (main + extra) s).2.2).1 = 0) : numF of main bonus bonusOf extra s =
    (0, (sortL ((sampF of (main + extra) s).2.1.take main.toNat), sortL (sampF bonusOf bonus (sampF of (main + extra) s).2.2).2.1, sortL ((sampF of (main + extra) s).2.1.drop main.toNat))) :=
  (if_neg (fun hh => hh h)).trans ((if_neg h0).trans (if_neg (fun hh => hh h2)))

set_option maxRecDepth 100000 in
theorem digG {m : Mem} {g : Game} (hmn : 0 ≤ g.main ∧ g.main ≤ 1000) (B : Nat) (s u : Int) : CallsS Try.prog 22 [g.val, .pointer (some ⟨B, 0, none⟩)].toArray [(B, Cells 73 [.int .u64 s, .int .i64 u])] m fun r σ' _ => OwnR r σ' (digN g.of g.main.toNat s []).1 ((digN g.of g.main.toNat s []).2, [], []) := by
  dsimp only [Game.val]
  obtain ⟨mn, hmm⟩ := Int.eq_ofNat_of_zero_le hmn.1
  have hmt : g.main.toNat = mn := by omega
  rw [hmt]
  refine enter Try.func22 Try.ntmps22 rfl rfl ?_
  refine SWP_seq ?_
  refine SWP_region ?_
  refine bx (v := .agg _) rfl rfl (fun B2 => ?_)
  refine al rfl rfl (fun B4 => ?_)
  refine pI rfl rfl ?_
  refine SL_nil ?_
  refine nx ?_
  refine SWP_seq ?_
  refine SWP_region ?_
  refine pu rfl rfl ?_
  refine lw (v := .int .i64 _) B2 3 rfl rfl rfl rfl ?_
  refine mkn (c := mn) (z := .int .i64 0) rfl rfl rfl rfl (by show Value.int .i64 g.main = _; rw [hmm]) (by show Value.int .i64 g.main = _; rw [hmm]) (by show 8 * mn ≤ 281474976710656; omega) (by unfold maxLen; omega) rfl (fun B12 σ12 hown12 => ?_)
  rw [← rep_flat] at hown12
  first | refine pL rfl rfl ?_ | refine pu rfl rfl ?_
  refine SL_nil ?_
  refine nx ?_
  refine SWP_seq ?_
  refine SWP_seq ?_
  refine SWP_region ?_
  first | refine pL rfl rfl ?_ | refine pu rfl rfl ?_
  refine pu rfl rfl ?_
  refine pI rfl rfl ?_
  refine SL_nil ?_
  refine nx ?_
  refine SWP_block ?_
  refine SWP_loop [5, 7, 8, 9, 15, 16, 17, 18, 19, 20, 21, 22, 23, 24, 25, 26, 27, 28, 29, 30, 31, 32, 33] [15]
      (fun vs σ' m' => ∃ (i : Nat) (s1 u1 : Int) (σl : Sig) (A : List Int), vs = [.int .i64 (i : Nat)] ∧ i ≤ mn ∧ A.length = i ∧ digN g.of mn s [] = digN g.of (mn - i) s1 A ∧ OwnS 3 1 (.slice (some ⟨B12, 0, none⟩) mn mn) ((A ++ List.replicate (mn - i) (0 : Int)).flatMap intE) σl ∧ σ' = σl ++ [(B4, Cells 31 [.slice none 0 0, .slice none 0 0, .slice none 0 0, .int .i64 0, .string ⟨#[]⟩]), (B2, Cells 25 g.enc), (B, Cells 73 [.int .u64 s1, .int .i64 u1])] ∧ m = m')
      (fun vs => mn - nOf (vs.getD 0 undef)) rfl ?_ ?_
  · exact ⟨0, s, u, σ12, [], rfl, by omega, rfl, rfl, hown12, rfl, rfl⟩
  intro u0 vs0 σ0 m0 hJ0 _
  obtain ⟨i, s1, u1, σl, A, rfl, hi, hA, hD, hown, rfl, rfl⟩ := hJ0
  refine SWP_seq ?_
  refine SWP_region ?_
  refine pc rfl rfl (fun c16 => ?_) (fun c16 => ?_)
  · skip
    refine SL_nil ?_
    refine nx ?_
    refine SWP_seq ?_
    refine SWP_ct rfl ?_
    refine SWP_skip ?_
    refine nx ?_
    refine SWP_seq ?_
    refine SWP_block ?_
    refine SWP_seq ?_
    refine SWP_region ?_
    first | refine pI rfl rfl ?_ | refine pu rfl rfl ?_
    first | refine pI rfl rfl ?_ | refine pu rfl rfl ?_
    refine SL_nil ?_
    refine nx ?_
    refine SWP_seq ?_
    refine SWP_region ?_
    first | refine pP rfl rfl ?_ | refine pu rfl rfl ?_
    refine pu rfl rfl ?_
    refine lw (v := .int .i64 _) B2 4 rfl rfl rfl rfl ?_
    refine SL_call rfl rfl cb47 (CallsS.subF (σl ++ [(B4, Cells 31 [.slice none 0 0, .slice none 0 0, .slice none 0 0, .int .i64 0, .string ⟨#[]⟩]), (B2, Cells 25 g.enc)]) (belowG B g.of s1 u1) (permU _ _ _ σl)) rfl (fun v5_3 σ5_3 m5_3 hl5_3 hR5_3 => ?_)
    obtain ⟨σz, rfl, rfl, ⟨u2, rfl⟩, hm5_3⟩ := hR5_3
    have hn5_3 := hm5_3.symm
    subst hn5_3
    refine SL_perm (permU _ _ _ σl).symm ?_
    refine pu rfl rfl ?_
    first | refine pI rfl rfl ?_ | refine pu rfl rfl ?_
    first | refine pI rfl rfl ?_ | refine pu rfl rfl ?_
    first | refine pI rfl rfl ?_ | refine pu rfl rfl ?_
    first | refine pI rfl rfl ?_ | refine pu rfl rfl ?_
    refine SL_nil ?_
    refine nx ?_
    refine SWP_seq ?_
    refine SWP_seq ?_
    refine SWP_region ?_
    first | refine pI rfl rfl ?_ | refine pu rfl rfl ?_
    refine pc rfl rfl (fun c26 => ?_) (fun c26 => ?_)
    · skip
      refine SL_nil ?_
      refine nx ?_
      refine SWP_ct rfl ?_
      refine SWP_seq ?_
      refine SWP_region ?_
      refine pA rfl rfl ?_
      first | refine pI rfl rfl ?_ | refine pu rfl rfl ?_
      refine sw (v := .agg _) B4 0 rfl rfl rfl rfl rfl rfl rfl ?_
      first | refine pI rfl rfl ?_ | refine pu rfl rfl ?_
      refine SL_nil ?_
      refine nx ?_
      refine SWP_ret ?_
      refine nr ?_
      refine br ?_
      refine nr ?_
      refine nr ?_
      refine br ?_
      refine nr ?_
      refine fin [_, _] ⟨⟨_, _, rfl, Rd.of_cells (MemO.mem (B := B4)), rfl⟩, rfl, trivial⟩ ?_
      have e : digN g.of mn s [] = ((belowF g.of s1).2.1, []) := hD.trans (by rw [show mn - i = (mn - (i + 1)) + 1 by omega]; exact digN_err (by assumption))
      rw [e]
      exact OwnR.zero _ _
    refine SL_nil ?_
    refine nx ?_
    refine SWP_cf rfl ?_
    refine SWP_skip ?_
    refine nx ?_
    refine SWP_region ?_
    first | refine pL rfl rfl ?_ | refine pu rfl rfl ?_
    first | refine pI rfl rfl ?_ | refine pu rfl rfl ?_
    first | refine pI rfl rfl ?_ | refine pu rfl rfl ?_
    have hlt : i < mn := by omega
    obtain ⟨w0, hw0⟩ : ∃ z, (A ++ List.replicate (mn - i) (0 : Int))[i]? = some z := ⟨_, List.getElem?_eq_getElem (by rw [List.length_append, List.length_replicate]; omega)⟩
    obtain ⟨ad, e12, _, _, hrd⟩ := hown.atN (by omega) intE_len hw0
    cases e12
    refine ia (es := 1) rfl rfl rfl (Nat.mul_one _) rfl rfl (by omega) rfl ?_
    refine stL (σe := σl) (τ := [(B4, Cells 31 [.slice none 0 0, .slice none 0 0, .slice none 0 0, .int .i64 0, .string ⟨#[]⟩]), (B2, Cells 25 g.enc), (B, Cells 73 [.int .u64 (belowF g.of s1).2.2, .int .i64 u2])]) (k := i) (b := w0) (b' := (belowF g.of s1).1) (off := 0) intE_len rfl hown (.refl _) hw0 rfl (q1 _ _) rfl rfl (by show 0 + 1 ≤ 1; omega) rfl rfl (fun σl2 hown2 => ?_)
    have hset : (A ++ List.replicate (mn - i) (0 : Int)).set i (belowF g.of s1).1 = (A ++ [(belowF g.of s1).1]) ++ List.replicate (mn - (i + 1)) 0 := by
      rw [show mn - i = (mn - (i + 1)) + 1 by omega, List.replicate_succ, List.set_append, if_neg (by omega), show i - A.length = 0 by omega, List.set_cons_zero, List.append_assoc]; rfl
    rw [hset] at hown2
    refine SL_nil ?_
    refine nb ?_
    refine nx ?_
    refine SWP_region ?_
    first | refine pw rfl rfl (w64 (by omega) (by omega)) ?_ | refine pu rfl rfl ?_
    refine pI rfl rfl ?_
    refine SL_nil ?_
    refine nx ?_
    refine ⟨by repeat (first | exact Under.upds rfl (Under.hav _ _ _) | exact Under.hav _ _ _ | refine Under.upd rfl ?_), ?_, ?_⟩
    · exact ⟨i + 1, _, u2, σl2, A ++ [(belowF g.of s1).1], rfl, by omega, by rw [List.length_append, hA]; rfl, hD.trans (by rw [show mn - i = (mn - (i + 1)) + 1 by omega]; exact digN_ok (Classical.not_not.1 (by assumption))), hown2, rfl, rfl⟩
    · simp only [L_vals, List.map, List.getD]; show mn - (i + 1) < mn - i; omega
  refine SL_nil ?_
  refine nx ?_
  refine SWP_seq ?_
  refine SWP_cf rfl ?_
  refine SWP_exit ?_
  refine ne ?_
  refine ne ?_
  refine be rfl ?_
  refine nx ?_
  refine SWP_seq ?_
  refine SWP_region ?_
  first | refine pL rfl rfl ?_ | refine pu rfl rfl ?_
  refine pA rfl rfl ?_
  refine sw (v := .agg _) B4 0 rfl rfl rfl rfl rfl rfl rfl ?_
  first | refine pI rfl rfl ?_ | refine pu rfl rfl ?_
  refine SL_nil ?_
  refine nx ?_
  refine SWP_ret ?_
  refine fin [_, _] ⟨⟨_, _, rfl, Rd.of_cells (MemO.mem (B := B4)), rfl⟩, rfl, trivial⟩ ?_
  obtain rfl : i = mn := by omega
  rw [Nat.sub_self] at hD
  rw [Nat.sub_self, List.replicate_zero, List.append_nil] at hown
  have e : digN g.of i s [] = (0, A) := hD
  rw [e]
  exact ⟨_, _, _, [], σl, [], [], _, .refl _, hown, .nil, .nil, rfl⟩

set_option maxRecDepth 100000 in
theorem numbG {m : Mem} {g : Game} (hmn : 0 ≤ g.main ∧ g.main ≤ 1000 ∧ 0 ≤ g.extra ∧ g.extra ≤ 1000) (B : Nat) (s u : Int) : CallsS Try.prog 23 [g.val, .pointer (some ⟨B, 0, none⟩)].toArray [(B, Cells 73 [.int .u64 s, .int .i64 u])] m fun r σ' _ => OwnR r σ' (numF g.of g.main g.bonus g.bonusOf g.extra s).1 (numF g.of g.main g.bonus g.bonusOf g.extra s).2 := by
  dsimp only [Game.val]
  refine enter Try.func23 Try.ntmps23 rfl rfl ?_
  refine SWP_seq ?_
  refine SWP_region ?_
  refine bx (v := .agg _) rfl rfl (fun B2 => ?_)
  refine al rfl rfl (fun B4 => ?_)
  refine pI rfl rfl ?_
  refine SL_nil ?_
  refine nx ?_
  refine SWP_seq ?_
  refine SWP_region ?_
  first | refine pP rfl rfl ?_ | refine pu rfl rfl ?_
  refine pu rfl rfl ?_
  refine lw (v := .int .i64 _) B2 4 rfl rfl rfl rfl ?_
  refine pu rfl rfl ?_
  refine lw (v := .int .i64 _) B2 3 rfl rfl rfl rfl ?_
  refine pu rfl rfl ?_
  refine lw (v := .int .i64 _) B2 7 rfl rfl rfl rfl ?_
  first | refine pw rfl rfl (w64 (by omega) (by omega)) ?_ | refine pu rfl rfl ?_
  refine SL_call rfl rfl cb48 (CallsS.subF ([(B4, Cells 31 [.slice none 0 0, .slice none 0 0, .slice none 0 0, .int .i64 0, .string ⟨#[]⟩]), (B2, Cells 25 g.enc)]) (sampG B g.of (g.main + g.extra) s u) (List.perm_append_comm (l₁ := [_, _]) (l₂ := [_]))) rfl (fun v1_8 σ1_8 m1_8 hl1_8 hR1_8 => ?_)
  obtain ⟨σz1_8, rfl, v1, u1, rfl, hv1, rfl⟩ := hR1_8
  refine SL_perm (List.perm_append_comm (l₁ := [_]) (l₂ := [_, _])) ?_
  obtain ⟨va1, vc1, rfl, hcap1⟩ := hv1.full
  refine pu rfl rfl ?_
  first | refine pL rfl rfl ?_ | refine pu rfl rfl ?_
  first | refine pI rfl rfl ?_ | refine pu rfl rfl ?_
  first | refine pL rfl rfl ?_ | refine pu rfl rfl ?_
  first | refine pI rfl rfl ?_ | refine pu rfl rfl ?_
  refine SL_nil ?_
  refine nx ?_
  refine SWP_seq ?_
  refine SWP_seq ?_
  refine SWP_region ?_
  first | refine pI rfl rfl ?_ | refine pu rfl rfl ?_
  refine pc rfl rfl (fun c22 => ?_) (fun c22 => ?_)
  · skip
    refine SL_nil ?_
    refine nx ?_
    refine SWP_ct rfl ?_
    refine SWP_seq ?_
    refine SWP_region ?_
    refine pA rfl rfl ?_
    first | refine pI rfl rfl ?_ | refine pu rfl rfl ?_
    refine sw (v := .agg _) B4 0 rfl rfl rfl rfl rfl rfl rfl ?_
    first | refine pI rfl rfl ?_ | refine pu rfl rfl ?_
    refine SL_nil ?_
    refine nx ?_
    refine SWP_ret ?_
    refine nr ?_
    refine fin [_, _] ⟨⟨_, _, rfl, Rd.of_cells (MemO.mem (B := B4)), rfl⟩, rfl, trivial⟩ ?_
    rw [numF_err (by assumption)]
    exact OwnR.zero _ _
  refine SL_nil ?_
  refine nx ?_
  refine SWP_cf rfl ?_
  refine SWP_skip ?_
  refine nx ?_
  refine SWP_seq ?_
  refine SWP_region ?_
  refine al rfl rfl (fun B8 => ?_)
  refine SL_nil ?_
  refine nx ?_
  refine SWP_seq ?_
  obtain ⟨hLl, hL0, hL1, hL2⟩ := sampF_len (show (sampF g.of (g.main + g.extra) s).1 = 0 from Classical.not_not.1 (by assumption))
  have hsubA := RL.sub (lo := 0) (hi := g.main.toNat) intE_len hv1 (by omega) (by omega)
  have hsubB := RL.sub (lo := g.main.toNat) (hi := (sampF g.of (g.main + g.extra) s).2.1.length) intE_len hv1 (by omega) (by omega)
  rw [List.drop_zero] at hsubA
  rw [List.take_length] at hsubB
  refine SWP_region ?_
  first | refine pL rfl rfl ?_ | refine pu rfl rfl ?_
  refine pu rfl rfl ?_
  refine lw (v := .int .i64 _) B2 3 rfl rfl rfl rfl ?_
  refine slh (size := 1) rfl rfl rfl rfl rfl (by omega) (by omega) rfl ?_
  refine SL_call rfl rfl cb49 (CallsS.frame0 (sortedG hsubA (by rw [List.length_take]; omega))) rfl (fun v5_4 σ5_4 m5_4 hl5_4 hR5_4 => ?_)
  obtain ⟨σs1, rfl, hm5_4, hs1⟩ := hR5_4
  have hn5_4 := hm5_4.symm
  subst hn5_4
  obtain ⟨sa1, sc1, es1⟩ := hs1.lenL (by omega) intE_len
  subst es1
  refine pu rfl rfl ?_
  refine sw (v := .slice _ _ _) B8 0 rfl rfl rfl rfl rfl rfl rfl ?_
  refine SL_nil ?_
  refine nx ?_
  refine SWP_seq ?_
  refine SWP_region ?_
  first | refine pL rfl rfl ?_ | refine pu rfl rfl ?_
  refine pu rfl rfl ?_
  refine lw (v := .int .i64 _) B2 3 rfl rfl rfl rfl ?_
  refine slo (size := 1) rfl rfl rfl rfl rfl (by omega) (by omega) rfl ?_
  refine SL_call rfl rfl cb49 (CallsS.frame0 (sortedG hsubB (by rw [List.length_drop]; omega))) rfl (fun v6_4 σ6_4 m6_4 hl6_4 hR6_4 => ?_)
  obtain ⟨σs2, rfl, hm6_4, hs2⟩ := hR6_4
  have hn6_4 := hm6_4.symm
  subst hn6_4
  obtain ⟨sa2, sc2, es2⟩ := hs2.lenL (by omega) intE_len
  subst es2
  refine pu rfl rfl ?_
  refine sw (v := .slice _ _ _) B8 2 rfl rfl rfl rfl rfl rfl rfl ?_
  refine SL_nil ?_
  refine nx ?_
  refine SWP_seq ?_
  refine SWP_seq ?_
  refine SWP_region ?_
  refine pu rfl rfl ?_
  refine lw (v := .int .i64 _) B2 5 rfl rfl rfl rfl ?_
  refine pc rfl rfl (fun c39 => ?_) (fun c39 => ?_)
  · skip
    refine SL_nil ?_
    refine nx ?_
    refine SWP_ct rfl ?_
    refine SWP_seq ?_
    refine SWP_region ?_
    first | refine pP rfl rfl ?_ | refine pu rfl rfl ?_
    refine pu rfl rfl ?_
    refine lw (v := .int .i64 _) B2 6 rfl rfl rfl rfl ?_
    refine pu rfl rfl ?_
    refine lw (v := .int .i64 _) B2 5 rfl rfl rfl rfl ?_
    refine SL_call rfl rfl cb48 (CallsS.subF (σs2 ++ (σs1 ++ [_, _, _])) (sampG B g.bonusOf g.bonus (sampF g.of (g.main + g.extra) s).2.2 u1) (permV _ _ _ _ σs2 σs1)) rfl (fun v8_5 σ8_5 m8_5 hl8_5 hR8_5 => ?_)
    obtain ⟨σz8_5, rfl, v2, u2, rfl, hv2, rfl⟩ := hR8_5
    refine SL_perm ((permV _ _ _ _ σs2 σs1).symm) ?_
    obtain ⟨va2, vc2, rfl, hcap2⟩ := hv2.full
    refine pu rfl rfl ?_
    first | refine pL rfl rfl ?_ | refine pu rfl rfl ?_
    first | refine pI rfl rfl ?_ | refine pu rfl rfl ?_
    first | refine pL rfl rfl ?_ | refine pu rfl rfl ?_
    first | refine pI rfl rfl ?_ | refine pu rfl rfl ?_
    refine SL_nil ?_
    refine nx ?_
    refine SWP_seq ?_
    refine SWP_seq ?_
    refine SWP_region ?_
    first | refine pI rfl rfl ?_ | refine pu rfl rfl ?_
    refine pc rfl rfl (fun c50 => ?_) (fun c50 => ?_)
    · skip
      refine SL_nil ?_
      refine nx ?_
      refine SWP_ct rfl ?_
      refine SWP_seq ?_
      refine SWP_region ?_
      refine pA rfl rfl ?_
      first | refine pI rfl rfl ?_ | refine pu rfl rfl ?_
      refine sw (v := .agg _) B4 0 rfl rfl rfl rfl rfl rfl rfl ?_
      first | refine pI rfl rfl ?_ | refine pu rfl rfl ?_
      refine SL_nil ?_
      refine nx ?_
      refine SWP_ret ?_
      refine nr ?_
      refine nr ?_
      refine fin [_, _] ⟨⟨_, _, rfl, Rd.of_cells (MemO.mem (B := B4)), rfl⟩, rfl, trivial⟩ ?_
      rw [numF_err2 (Classical.not_not.1 (by assumption)) (by assumption) (by assumption)]
      exact OwnR.zero _ _
    refine SL_nil ?_
    refine nx ?_
    refine SWP_cf rfl ?_
    refine SWP_skip ?_
    refine nx ?_
    obtain ⟨hLl2, hL02, hL12, hL22⟩ := sampF_len (show (sampF g.bonusOf g.bonus (sampF g.of (g.main + g.extra) s).2.2).1 = 0 from Classical.not_not.1 (by assumption))
    refine SWP_region ?_
    first | refine pL rfl rfl ?_ | refine pu rfl rfl ?_
    refine SL_call rfl rfl cb49 (CallsS.frame0 (sortedG hv2 (by omega))) rfl (fun v11_1 σ11_1 m11_1 hl11_1 hR11_1 => ?_)
    obtain ⟨σs3, rfl, hm11_1, hs3⟩ := hR11_1
    have hn11_1 := hm11_1.symm
    subst hn11_1
    obtain ⟨sa3, sc3, es3⟩ := hs3.lenL (by omega) intE_len
    subst es3
    refine pu rfl rfl ?_
    refine sw (v := .slice _ _ _) B8 1 rfl rfl rfl rfl rfl rfl rfl ?_
    refine SL_nil ?_
    refine nx ?_
    refine SWP_seq ?_
    refine SWP_region ?_
    refine lw (v := .agg _) B8 0 rfl rfl rfl rfl ?_
    refine sw (v := .agg _) B4 0 rfl rfl rfl rfl rfl rfl rfl ?_
    refine pI rfl rfl ?_
    refine SL_nil ?_
    refine nx ?_
    refine SWP_ret ?_
    refine fin [_, _] ⟨⟨_, _, rfl, Rd.of_cells (MemO.mem (B := B4)), rfl⟩, rfl, trivial⟩ ?_
    rw [numF_two (Classical.not_not.1 (by assumption)) (by assumption) (Classical.not_not.1 (by assumption))]
    exact ⟨_, _, _, [], σs1, σs3, σs2, _, permX3 σs3 σs2 σs1 _, hs1, hs3, hs2, rfl⟩
  refine SL_nil ?_
  refine nx ?_
  refine SWP_cf rfl ?_
  refine SWP_skip ?_
  refine nx ?_
  refine SWP_seq ?_
  refine SWP_region ?_
  refine lw (v := .agg _) B8 0 rfl rfl rfl rfl ?_
  refine sw (v := .agg _) B4 0 rfl rfl rfl rfl rfl rfl rfl ?_
  refine pI rfl rfl ?_
  refine SL_nil ?_
  refine nx ?_
  refine SWP_ret ?_
  refine fin [_, _] ⟨⟨_, _, rfl, Rd.of_cells (MemO.mem (B := B4)), rfl⟩, rfl, trivial⟩ ?_
  rw [numF_one (Classical.not_not.1 (by assumption)) (Classical.not_not.1 (by assumption))]
  exact ⟨_, _, _, [], σs1, [], σs2, _, permX σs2 σs1 _, hs1, .nil, hs2, rfl⟩

end Go.Proofs.Ytkopdlglenejmaa

