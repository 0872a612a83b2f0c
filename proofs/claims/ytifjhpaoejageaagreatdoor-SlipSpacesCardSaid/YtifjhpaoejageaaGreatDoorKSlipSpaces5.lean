/- What the claim rests on, part 5: models of the functions in plain Lean and walks through their code; printed by programs. -/
import Derived.Test.YtifjhpaoejageaaGreatDoorKSlipSpaces4
set_option linter.unusedVariables false
set_option linter.unusedSimpArgs false
namespace Go.Proofs.YtifjhpaoejageaaGreatDoor
open Eng
theorem WOk.lines {l : List UInt8} : ∀ (f : Nat) {R : List Wd} (acc : List LnK), WOk l R → WOk l (linesF f R acc).2
  | 0, _, _, h => h
  | f + 1, R, acc, h => by
    rw [linesF]
    split
    · exact h.line
    · split
      · exact WOk.lines f _ h.line.tail
      · exact h.line
def sysM (R : List Wd) : Bool × List Wd := if isW [115, 121, 115] R = true then (true, R.tail) else (false, R)
abbrev BetM := List LnK × Bool × Int × Nat
def readM (ns : List ByteArray) (R : List Wd) : Option BetM × List Wd :=
  match (linesM R).1 with
  | none => (none, (linesM R).2)
  | some L => match (drawsM (linesM R).2).1 with
    | none => (none, (drawsM (linesM R).2).2)
    | some d => match (addonsM ns (sysM (drawsM (linesM R).2).2).2).1 with
      | none => (none, (addonsM ns (sysM (drawsM (linesM R).2).2).2).2)
      | some a => if (addonsM ns (sysM (drawsM (linesM R).2).2).2).2 = [] then (some (L, (sysM (drawsM (linesM R).2).2).1, d, a), []) else (none, (addonsM ns (sysM (drawsM (linesM R).2).2).2).2)
theorem readM_1 {ns : List ByteArray} {R : List Wd} (h : (linesM R).1 = none) : readM ns R = (none, (linesM R).2) := by unfold readM; rw [h]
theorem readM_2 {ns : List ByteArray} {R : List Wd} {L : List LnK} (h : (linesM R).1 = some L) (h2 : (drawsM (linesM R).2).1 = none) : readM ns R = (none, (drawsM (linesM R).2).2) := by unfold readM; rw [h, h2]
theorem readM_3 {ns : List ByteArray} {R R3 : List Wd} {L : List LnK} {d : Int} {s : Bool} (h : (linesM R).1 = some L) (h2 : (drawsM (linesM R).2).1 = some d) (h3 : sysM (drawsM (linesM R).2).2 = (s, R3)) (h4 : (addonsM ns R3).1 = none) : readM ns R = (none, (addonsM ns R3).2) := by
  unfold readM; rw [h, h2, h3]
  show (match (addonsM ns R3).1 with | none => _ | some a => _) = _
  rw [h4]
theorem readM_4 {ns : List ByteArray} {R R3 : List Wd} {L : List LnK} {d : Int} {s : Bool} {a : Nat} (h : (linesM R).1 = some L) (h2 : (drawsM (linesM R).2).1 = some d) (h3 : sysM (drawsM (linesM R).2).2 = (s, R3)) (h4 : (addonsM ns R3).1 = some a) : readM ns R = if (addonsM ns R3).2 = [] then (some (L, s, d, a), []) else (none, (addonsM ns R3).2) := by
  unfold readM; rw [h, h2, h3]
  show (match (addonsM ns R3).1 with | none => _ | some a => _) = _
  rw [h4]
theorem sysM_0 {R : List Wd} (h : isW [115, 121, 115] R = false) : sysM R = (false, R) := if_neg (by rw [h]; exact Bool.noConfusion)
theorem sysM_1 {R R' : List Wd} (h : R = [115, 121, 115] :: R') : sysM R = (true, R') := by subst h; exact if_pos (by simp [isW])
theorem permD {α : Type} (a b c d : α) : [a, b, c, d].Perm [d, a, b, c] := by
  classical
  rw [List.perm_iff_count]
  intro y
  simp only [List.count_cons, List.count_nil]
  omega
def ReadRes (o : Option BetM) (r : Value) (m : Mem) : Prop := ∃ (bt : Bet) (n : Nat) (b : Bool), r = .tuple #[bt.val, .bool b] ∧ bt.In m ∧ bt.addons = n ∧ o = if b = true then some (bt.lines.map Line.keyL, bt.system, bt.draws, n) else none
set_option maxRecDepth 100000 in
theorem readS {m : Mem} {l : List UInt8} {R : List Wd} (hw : WOk l R) (hl : l.length ≤ 1000000) (B : Nat) {g : Game} (hin : g.In m) (h4 : g.addons.length ≤ 4) : CallsS Tryz.prog 21 [.pointer (some ⟨B, 0, none⟩), g.val].toArray [(B, Cells 55 (scE l (R)))] m fun r σ' m' => σ' = [(B, Cells 55 (scE l ((readM (g.addons.map Addon.name) R).2)))] ∧ ReadRes (readM (g.addons.map Addon.name) R).1 r m' := by
  refine CallsS.ghost (R' := fun r σ' m' => ∃ τ, σ' = ((B, Cells 55 (scE l ((readM (g.addons.map Addon.name) R).2)))) :: τ ∧ ReadRes (readM (g.addons.map Addon.name) R).1 r m') ?_ ?h2
  case h2 =>
    rintro r σ' m' ⟨τ, rfl, hr⟩ g0 W hC
    exact ⟨_, m', hC.sublist (List.Sublist.cons_cons _ (List.nil_sublist _)), Le.refl _, rfl, hr⟩
  have hw1 : WOk l (linesM R).2 := WOk.lines _ _ hw
  have hw2 := hw1.draws
  dsimp only [Game.val]
  refine enter Tryz.func21 Tryz.ntmps21 rfl rfl ?_
  refine SWP_seq (SWP_region ?_)
  refine bx (v := .agg _) rfl rfl (fun B3 => ?_)
  refine al rfl rfl (fun B4 => ?_)
  refine pB rfl rfl ?_
  refine SL_nil (nx (SWP_seq (SWP_region ?_)))
  refine al rfl rfl (fun B6 => ?_)
  refine SL_nil (nx (SWP_seq (SWP_region ?_)))
  refine pB rfl rfl ?_
  refine SL_nil (nx (SWP_seq (SWP_seq (SWP_region ?_))))
  first | refine pP rfl rfl ?_ | refine pu rfl rfl ?_
  refine SL_call rfl rfl cb42 (CallsS.subF [_, _, _] (linesS hw hl B) (permD _ _ _ _)) rfl (fun v3_1 σ3_1 m3_1 hl3_1 hR3_1 => ?_)
  obtain ⟨σz, rfl, rfl, L, la, lc, bl, rfl, hL, hLi, hlm⟩ := hR3_1
  rw [List.singleton_append]
  refine pu rfl rfl ?_
  first | refine pL rfl rfl ?_ | refine pu rfl rfl ?_
  first | refine pB rfl rfl ?_ | refine pu rfl rfl ?_
  refine bsp 12 rfl (fun b12 => ?_) (fun b12 => ?_)
  · skip
    refine pu rfl rfl ?_
    refine sw (v := .slice _ _ _) B6 0 rfl rfl rfl rfl rfl rfl rfl ?_
    first | refine pB rfl rfl ?_ | refine pu rfl rfl ?_
    refine SL_nil (nx (SWP_seq (SWP_region ?_)))
    first | refine pB rfl rfl ?_ | refine pu rfl rfl ?_
    refine pB rfl rfl ?_
    refine SL_nil (nx (SWP_cf rfl (SWP_skip (nx (SWP_seq (SWP_seq (SWP_region ?_)))))))
    first | refine pP rfl rfl ?_ | refine pu rfl rfl ?_
    refine SL_call rfl rfl cb43 (CallsS.subF [_, _, _] (drawsS hw1 hl B) (.refl _)) rfl (fun v6_1 σ6_1 m6_1 hl6_1 hR6_1 => ?_)
    obtain ⟨σz, rfl, rfl, hm6_1, dn, bd, rfl, hdm⟩ := hR6_1
    have hn6_1 := hm6_1.symm
    subst hn6_1
    rw [List.singleton_append]
    refine pu rfl rfl ?_
    first | refine pI rfl rfl ?_ | refine pu rfl rfl ?_
    first | refine pB rfl rfl ?_ | refine pu rfl rfl ?_
    refine bsp 21 rfl (fun b21 => ?_) (fun b21 => ?_)
    · skip
      refine pu rfl rfl ?_
      refine sw (v := .int .i64 _) B6 2 rfl rfl rfl rfl rfl rfl rfl ?_
      first | refine pB rfl rfl ?_ | refine pu rfl rfl ?_
      refine SL_nil (nx (SWP_seq (SWP_region ?_)))
      first | refine pB rfl rfl ?_ | refine pu rfl rfl ?_
      refine pB rfl rfl ?_
      refine SL_nil (nx (SWP_cf rfl (SWP_skip (nx (SWP_seq (SWP_seq (SWP_region ?_)))))))
      first | refine pP rfl rfl ?_ | refine pu rfl rfl ?_
      refine SL_pcallS rfl rfl cb44 (CallsS.pureIn (isI B [115, 121, 115]) ⟨[_, _, _], .refl _⟩) rfl ?_
      refine bsp 27 rfl (fun b27 => ?_) (fun b27 => ?_)
      · skip
        refine SL_nil (nx (SWP_ct rfl (SWP_seq (SWP_region ?_))))
        refine pu rfl rfl ?_
        refine sw (v := .bool _) B6 1 rfl rfl rfl rfl rfl rfl rfl ?_
        refine SL_nil (nx ?_)
        obtain ⟨R4, hR4⟩ : ∃ R4, (drawsM (linesM R).2).2 = [115, 121, 115] :: R4 := ⟨_, isW_cons (by assumption)⟩
        have hsy := sysM_1 hR4
        have hs4 := hw2.sf
        have hw4 : WOk l R4 := by have h5 := hw2.tail; rw [hR4] at h5; exact h5
        rw [hR4] at hs4
        rw [hR4]
        refine SWP_region ?_
        first | refine pP rfl rfl ?_ | refine pu rfl rfl ?_
        refine SL_call rfl rfl cb45 (CallsS.subF [_, _, _] (advI hs4 hl B) (.refl _)) rfl (fun v11_1 σ11_1 m11_1 hl11_1 hR11_1 => ?_)
        obtain ⟨σz, rfl, rfl, hm11_1⟩ := hR11_1
        have hn11_1 := hm11_1.symm
        subst hn11_1
        rw [List.singleton_append]
        refine SL_nil (nx (SWP_seq (SWP_seq ?_)))
        have hall : ∃ (s : Bool) (R3 : List Wd), sysM (drawsM (linesM R).2).2 = (s, R3) ∧ WOk l R3 := ⟨_, _, by first | exact hsy | exact sysM_0 (by assumption), by first | exact hw4 | exact hw2⟩
        have hw4 := (show WOk l _ by first | exact hw4 | exact hw2)
        have hsy := (show sysM (drawsM (linesM R).2).2 = _ by first | exact hsy | exact sysM_0 (by assumption))
        refine SWP_region ?_
        first | refine pP rfl rfl ?_ | refine pu rfl rfl ?_
        refine lw (v := .agg _) B3 0 rfl rfl rfl rfl ?_
        refine SL_call rfl rfl cb46 (CallsS.subF [_, _, _] (addonsS hw4 hl B (hin.mono hl3_1) h4) (.refl _)) rfl (fun v12_2 σ12_2 m12_2 hl12_2 hR12_2 => ?_)
        obtain ⟨σz, rfl, rfl, hm12_2, an, ba, rfl, ham⟩ := hR12_2
        have hn12_2 := hm12_2.symm
        subst hn12_2
        rw [List.singleton_append]
        refine pu rfl rfl ?_
        first | refine pI rfl rfl ?_ | refine pu rfl rfl ?_
        first | refine pB rfl rfl ?_ | refine pu rfl rfl ?_
        refine bsp 36 rfl (fun b36 => ?_) (fun b36 => ?_)
        · skip
          refine pu rfl rfl ?_
          refine sw (v := .int .i64 _) B6 3 rfl rfl rfl rfl rfl rfl rfl ?_
          first | refine pB rfl rfl ?_ | refine pu rfl rfl ?_
          refine SL_nil (nx (SWP_seq (SWP_region ?_)))
          first | refine pB rfl rfl ?_ | refine pu rfl rfl ?_
          refine pB rfl rfl ?_
          refine SL_nil (nx (SWP_cf rfl (SWP_skip (nx (SWP_seq ?_)))))
          refine SWP_drawn [_, _] [0, 1, 2, 3, 4, 5, 6] (by kernel_rfl) (by kernel_rfl) (Sub.cons2 _ (Sub.cons2 _ (Sub.nil _))) ?_
          refine lw (v := .agg _) B6 0 rfl rfl rfl rfl ?_
          first | refine pP rfl rfl ?_ | refine pu rfl rfl ?_
          refine pu rfl rfl ?_
          refine pu rfl rfl ?_
          refine lw (v := .bool _) B 4 rfl rfl rfl rfl ?_
          refine sw (v := .agg _) B4 0 rfl rfl rfl rfl rfl rfl rfl ?_
          refine pB rfl rfl ?_
          refine SL_nil (nx (SWP_ret ?_))
          refine fin [_, _] ⟨⟨_, _, rfl, Rd.of_cells (MemO.mem (B := B4)), rfl⟩, rfl, trivial⟩ ?_
          first
            | (cases (show bl = false by assumption)
               rw [readM_1 (hlm.trans (if_neg Bool.noConfusion))]
               exact ⟨_, rfl, ⟨la, lc, L, false, 0, 0⟩, 0, false, rfl, ⟨hL, hLi⟩, rfl, rfl⟩)
            | (cases (show bl = true by assumption)
               cases (show bd = false by assumption)
               rw [readM_2 (hlm.trans (if_pos rfl)) (hdm.trans (if_neg Bool.noConfusion))]
               exact ⟨_, rfl, ⟨la, lc, L, false, dn, 0⟩, 0, false, rfl, ⟨hL, hLi⟩, rfl, rfl⟩)
            | (cases (show bl = true by assumption)
               cases (show bd = true by assumption)
               cases (show ba = false by assumption)
               rw [readM_3 (hlm.trans (if_pos rfl)) (hdm.trans (if_pos rfl)) hsy (ham.trans (if_neg Bool.noConfusion))]
               exact ⟨_, rfl, ⟨la, lc, L, _, dn, an⟩, an, false, rfl, ⟨hL, hLi⟩, rfl, rfl⟩)
            | (cases (show bl = true by assumption)
               cases (show bd = true by assumption)
               cases (show ba = true by assumption)
               have h := readM_4 (hlm.trans (if_pos rfl)) (hdm.trans (if_pos rfl)) hsy (ham.trans (if_pos rfl))
               rw [h]
               clear h
               generalize (addonsM (List.map Addon.name g.addons) _).2 = X
               cases X with
               | nil => exact ⟨_, rfl, ⟨la, lc, L, _, dn, an⟩, an, true, rfl, ⟨hL, hLi⟩, rfl, rfl⟩
               | cons w X => exact ⟨_, rfl, ⟨la, lc, L, _, dn, an⟩, an, false, rfl, ⟨hL, hLi⟩, rfl, rfl⟩)
        refine pu rfl rfl ?_
        refine sw (v := .int .i64 _) B6 3 rfl rfl rfl rfl rfl rfl rfl ?_
        first | refine pB rfl rfl ?_ | refine pu rfl rfl ?_
        refine SL_nil (nx (SWP_seq (SWP_region ?_)))
        first | refine pB rfl rfl ?_ | refine pu rfl rfl ?_
        refine pB rfl rfl ?_
        refine SL_nil (nx (SWP_ct rfl (SWP_seq (SWP_region ?_))))
        refine lw (v := .agg _) B6 0 rfl rfl rfl rfl ?_
        refine sw (v := .agg _) B4 0 rfl rfl rfl rfl rfl rfl rfl ?_
        refine pB rfl rfl ?_
        refine SL_nil (nx (SWP_ret (nr ?_)))
        refine fin [_, _] ⟨⟨_, _, rfl, Rd.of_cells (MemO.mem (B := B4)), rfl⟩, rfl, trivial⟩ ?_
        first
          | (cases (show bl = false by assumption)
             rw [readM_1 (hlm.trans (if_neg Bool.noConfusion))]
             exact ⟨_, rfl, ⟨la, lc, L, false, 0, 0⟩, 0, false, rfl, ⟨hL, hLi⟩, rfl, rfl⟩)
          | (cases (show bl = true by assumption)
             cases (show bd = false by assumption)
             rw [readM_2 (hlm.trans (if_pos rfl)) (hdm.trans (if_neg Bool.noConfusion))]
             exact ⟨_, rfl, ⟨la, lc, L, false, dn, 0⟩, 0, false, rfl, ⟨hL, hLi⟩, rfl, rfl⟩)
          | (cases (show bl = true by assumption)
             cases (show bd = true by assumption)
             cases (show ba = false by assumption)
             rw [readM_3 (hlm.trans (if_pos rfl)) (hdm.trans (if_pos rfl)) hsy (ham.trans (if_neg Bool.noConfusion))]
             exact ⟨_, rfl, ⟨la, lc, L, _, dn, an⟩, an, false, rfl, ⟨hL, hLi⟩, rfl, rfl⟩)
          | (cases (show bl = true by assumption)
             cases (show bd = true by assumption)
             cases (show ba = true by assumption)
             have h := readM_4 (hlm.trans (if_pos rfl)) (hdm.trans (if_pos rfl)) hsy (ham.trans (if_pos rfl))
             rw [h]
             clear h
             generalize (addonsM (List.map Addon.name g.addons) _).2 = X
             cases X with
             | nil => exact ⟨_, rfl, ⟨la, lc, L, _, dn, an⟩, an, true, rfl, ⟨hL, hLi⟩, rfl, rfl⟩
             | cons w X => exact ⟨_, rfl, ⟨la, lc, L, _, dn, an⟩, an, false, rfl, ⟨hL, hLi⟩, rfl, rfl⟩)
      refine SL_nil (nx (SWP_cf rfl (SWP_skip (nx (SWP_seq (SWP_seq ?_))))))
      have hall : ∃ (s : Bool) (R3 : List Wd), sysM (drawsM (linesM R).2).2 = (s, R3) ∧ WOk l R3 := ⟨_, _, by first | exact hsy | exact sysM_0 (by assumption), by first | exact hw4 | exact hw2⟩
      have hw4 := (show WOk l _ by first | exact hw4 | exact hw2)
      have hsy := (show sysM (drawsM (linesM R).2).2 = _ by first | exact hsy | exact sysM_0 (by assumption))
      refine SWP_region ?_
      first | refine pP rfl rfl ?_ | refine pu rfl rfl ?_
      refine lw (v := .agg _) B3 0 rfl rfl rfl rfl ?_
      refine SL_call rfl rfl cb46 (CallsS.subF [_, _, _] (addonsS hw4 hl B (hin.mono hl3_1) h4) (.refl _)) rfl (fun v12_2 σ12_2 m12_2 hl12_2 hR12_2 => ?_)
      obtain ⟨σz, rfl, rfl, hm12_2, an, ba, rfl, ham⟩ := hR12_2
      have hn12_2 := hm12_2.symm
      subst hn12_2
      rw [List.singleton_append]
      refine pu rfl rfl ?_
      first | refine pI rfl rfl ?_ | refine pu rfl rfl ?_
      first | refine pB rfl rfl ?_ | refine pu rfl rfl ?_
      refine bsp 36 rfl (fun b36 => ?_) (fun b36 => ?_)
      · skip
        refine pu rfl rfl ?_
        refine sw (v := .int .i64 _) B6 3 rfl rfl rfl rfl rfl rfl rfl ?_
        first | refine pB rfl rfl ?_ | refine pu rfl rfl ?_
        refine SL_nil (nx (SWP_seq (SWP_region ?_)))
        first | refine pB rfl rfl ?_ | refine pu rfl rfl ?_
        refine pB rfl rfl ?_
        refine SL_nil (nx (SWP_cf rfl (SWP_skip (nx (SWP_seq ?_)))))
        refine SWP_drawn [_, _] [0, 1, 2, 3, 4, 5, 6] (by kernel_rfl) (by kernel_rfl) (Sub.cons2 _ (Sub.cons2 _ (Sub.nil _))) ?_
        refine lw (v := .agg _) B6 0 rfl rfl rfl rfl ?_
        first | refine pP rfl rfl ?_ | refine pu rfl rfl ?_
        refine pu rfl rfl ?_
        refine pu rfl rfl ?_
        refine lw (v := .bool _) B 4 rfl rfl rfl rfl ?_
        refine sw (v := .agg _) B4 0 rfl rfl rfl rfl rfl rfl rfl ?_
        refine pB rfl rfl ?_
        refine SL_nil (nx (SWP_ret ?_))
        refine fin [_, _] ⟨⟨_, _, rfl, Rd.of_cells (MemO.mem (B := B4)), rfl⟩, rfl, trivial⟩ ?_
        first
          | (cases (show bl = false by assumption)
             rw [readM_1 (hlm.trans (if_neg Bool.noConfusion))]
             exact ⟨_, rfl, ⟨la, lc, L, false, 0, 0⟩, 0, false, rfl, ⟨hL, hLi⟩, rfl, rfl⟩)
          | (cases (show bl = true by assumption)
             cases (show bd = false by assumption)
             rw [readM_2 (hlm.trans (if_pos rfl)) (hdm.trans (if_neg Bool.noConfusion))]
             exact ⟨_, rfl, ⟨la, lc, L, false, dn, 0⟩, 0, false, rfl, ⟨hL, hLi⟩, rfl, rfl⟩)
          | (cases (show bl = true by assumption)
             cases (show bd = true by assumption)
             cases (show ba = false by assumption)
             rw [readM_3 (hlm.trans (if_pos rfl)) (hdm.trans (if_pos rfl)) hsy (ham.trans (if_neg Bool.noConfusion))]
             exact ⟨_, rfl, ⟨la, lc, L, _, dn, an⟩, an, false, rfl, ⟨hL, hLi⟩, rfl, rfl⟩)
          | (cases (show bl = true by assumption)
             cases (show bd = true by assumption)
             cases (show ba = true by assumption)
             have h := readM_4 (hlm.trans (if_pos rfl)) (hdm.trans (if_pos rfl)) hsy (ham.trans (if_pos rfl))
             rw [h]
             clear h
             generalize (addonsM (List.map Addon.name g.addons) _).2 = X
             cases X with
             | nil => exact ⟨_, rfl, ⟨la, lc, L, _, dn, an⟩, an, true, rfl, ⟨hL, hLi⟩, rfl, rfl⟩
             | cons w X => exact ⟨_, rfl, ⟨la, lc, L, _, dn, an⟩, an, false, rfl, ⟨hL, hLi⟩, rfl, rfl⟩)
      refine pu rfl rfl ?_
      refine sw (v := .int .i64 _) B6 3 rfl rfl rfl rfl rfl rfl rfl ?_
      first | refine pB rfl rfl ?_ | refine pu rfl rfl ?_
      refine SL_nil (nx (SWP_seq (SWP_region ?_)))
      first | refine pB rfl rfl ?_ | refine pu rfl rfl ?_
      refine pB rfl rfl ?_
      refine SL_nil (nx (SWP_ct rfl (SWP_seq (SWP_region ?_))))
      refine lw (v := .agg _) B6 0 rfl rfl rfl rfl ?_
      refine sw (v := .agg _) B4 0 rfl rfl rfl rfl rfl rfl rfl ?_
      refine pB rfl rfl ?_
      refine SL_nil (nx (SWP_ret (nr ?_)))
      refine fin [_, _] ⟨⟨_, _, rfl, Rd.of_cells (MemO.mem (B := B4)), rfl⟩, rfl, trivial⟩ ?_
      first
        | (cases (show bl = false by assumption)
           rw [readM_1 (hlm.trans (if_neg Bool.noConfusion))]
           exact ⟨_, rfl, ⟨la, lc, L, false, 0, 0⟩, 0, false, rfl, ⟨hL, hLi⟩, rfl, rfl⟩)
        | (cases (show bl = true by assumption)
           cases (show bd = false by assumption)
           rw [readM_2 (hlm.trans (if_pos rfl)) (hdm.trans (if_neg Bool.noConfusion))]
           exact ⟨_, rfl, ⟨la, lc, L, false, dn, 0⟩, 0, false, rfl, ⟨hL, hLi⟩, rfl, rfl⟩)
        | (cases (show bl = true by assumption)
           cases (show bd = true by assumption)
           cases (show ba = false by assumption)
           rw [readM_3 (hlm.trans (if_pos rfl)) (hdm.trans (if_pos rfl)) hsy (ham.trans (if_neg Bool.noConfusion))]
           exact ⟨_, rfl, ⟨la, lc, L, _, dn, an⟩, an, false, rfl, ⟨hL, hLi⟩, rfl, rfl⟩)
        | (cases (show bl = true by assumption)
           cases (show bd = true by assumption)
           cases (show ba = true by assumption)
           have h := readM_4 (hlm.trans (if_pos rfl)) (hdm.trans (if_pos rfl)) hsy (ham.trans (if_pos rfl))
           rw [h]
           clear h
           generalize (addonsM (List.map Addon.name g.addons) _).2 = X
           cases X with
           | nil => exact ⟨_, rfl, ⟨la, lc, L, _, dn, an⟩, an, true, rfl, ⟨hL, hLi⟩, rfl, rfl⟩
           | cons w X => exact ⟨_, rfl, ⟨la, lc, L, _, dn, an⟩, an, false, rfl, ⟨hL, hLi⟩, rfl, rfl⟩)
    refine pu rfl rfl ?_
    refine sw (v := .int .i64 _) B6 2 rfl rfl rfl rfl rfl rfl rfl ?_
    first | refine pB rfl rfl ?_ | refine pu rfl rfl ?_
    refine SL_nil (nx (SWP_seq (SWP_region ?_)))
    first | refine pB rfl rfl ?_ | refine pu rfl rfl ?_
    refine pB rfl rfl ?_
    refine SL_nil (nx (SWP_ct rfl (SWP_seq (SWP_region ?_))))
    refine lw (v := .agg _) B6 0 rfl rfl rfl rfl ?_
    refine sw (v := .agg _) B4 0 rfl rfl rfl rfl rfl rfl rfl ?_
    refine pB rfl rfl ?_
    refine SL_nil (nx (SWP_ret (nr ?_)))
    refine fin [_, _] ⟨⟨_, _, rfl, Rd.of_cells (MemO.mem (B := B4)), rfl⟩, rfl, trivial⟩ ?_
    first
      | (cases (show bl = false by assumption)
         rw [readM_1 (hlm.trans (if_neg Bool.noConfusion))]
         exact ⟨_, rfl, ⟨la, lc, L, false, 0, 0⟩, 0, false, rfl, ⟨hL, hLi⟩, rfl, rfl⟩)
      | (cases (show bl = true by assumption)
         cases (show bd = false by assumption)
         rw [readM_2 (hlm.trans (if_pos rfl)) (hdm.trans (if_neg Bool.noConfusion))]
         exact ⟨_, rfl, ⟨la, lc, L, false, dn, 0⟩, 0, false, rfl, ⟨hL, hLi⟩, rfl, rfl⟩)
      | (cases (show bl = true by assumption)
         cases (show bd = true by assumption)
         cases (show ba = false by assumption)
         rw [readM_3 (hlm.trans (if_pos rfl)) (hdm.trans (if_pos rfl)) hsy (ham.trans (if_neg Bool.noConfusion))]
         exact ⟨_, rfl, ⟨la, lc, L, _, dn, an⟩, an, false, rfl, ⟨hL, hLi⟩, rfl, rfl⟩)
      | (cases (show bl = true by assumption)
         cases (show bd = true by assumption)
         cases (show ba = true by assumption)
         have h := readM_4 (hlm.trans (if_pos rfl)) (hdm.trans (if_pos rfl)) hsy (ham.trans (if_pos rfl))
         rw [h]
         clear h
         generalize (addonsM (List.map Addon.name g.addons) _).2 = X
         cases X with
         | nil => exact ⟨_, rfl, ⟨la, lc, L, _, dn, an⟩, an, true, rfl, ⟨hL, hLi⟩, rfl, rfl⟩
         | cons w X => exact ⟨_, rfl, ⟨la, lc, L, _, dn, an⟩, an, false, rfl, ⟨hL, hLi⟩, rfl, rfl⟩)
  refine pu rfl rfl ?_
  refine sw (v := .slice _ _ _) B6 0 rfl rfl rfl rfl rfl rfl rfl ?_
  first | refine pB rfl rfl ?_ | refine pu rfl rfl ?_
  refine SL_nil (nx (SWP_seq (SWP_region ?_)))
  first | refine pB rfl rfl ?_ | refine pu rfl rfl ?_
  refine pB rfl rfl ?_
  refine SL_nil (nx (SWP_ct rfl (SWP_seq (SWP_region ?_))))
  refine lw (v := .agg _) B6 0 rfl rfl rfl rfl ?_
  refine sw (v := .agg _) B4 0 rfl rfl rfl rfl rfl rfl rfl ?_
  refine pB rfl rfl ?_
  refine SL_nil (nx (SWP_ret (nr ?_)))
  refine fin [_, _] ⟨⟨_, _, rfl, Rd.of_cells (MemO.mem (B := B4)), rfl⟩, rfl, trivial⟩ ?_
  first
    | (cases (show bl = false by assumption)
       rw [readM_1 (hlm.trans (if_neg Bool.noConfusion))]
       exact ⟨_, rfl, ⟨la, lc, L, false, 0, 0⟩, 0, false, rfl, ⟨hL, hLi⟩, rfl, rfl⟩)
    | (cases (show bl = true by assumption)
       cases (show bd = false by assumption)
       rw [readM_2 (hlm.trans (if_pos rfl)) (hdm.trans (if_neg Bool.noConfusion))]
       exact ⟨_, rfl, ⟨la, lc, L, false, dn, 0⟩, 0, false, rfl, ⟨hL, hLi⟩, rfl, rfl⟩)
    | (cases (show bl = true by assumption)
       cases (show bd = true by assumption)
       cases (show ba = false by assumption)
       rw [readM_3 (hlm.trans (if_pos rfl)) (hdm.trans (if_pos rfl)) hsy (ham.trans (if_neg Bool.noConfusion))]
       exact ⟨_, rfl, ⟨la, lc, L, _, dn, an⟩, an, false, rfl, ⟨hL, hLi⟩, rfl, rfl⟩)
    | (cases (show bl = true by assumption)
       cases (show bd = true by assumption)
       cases (show ba = true by assumption)
       have h := readM_4 (hlm.trans (if_pos rfl)) (hdm.trans (if_pos rfl)) hsy (ham.trans (if_pos rfl))
       rw [h]
       clear h
       generalize (addonsM (List.map Addon.name g.addons) _).2 = X
       cases X with
       | nil => exact ⟨_, rfl, ⟨la, lc, L, _, dn, an⟩, an, true, rfl, ⟨hL, hLi⟩, rfl, rfl⟩
       | cons w X => exact ⟨_, rfl, ⟨la, lc, L, _, dn, an⟩, an, false, rfl, ⟨hL, hLi⟩, rfl, rfl⟩)
end Go.Proofs.YtifjhpaoejageaaGreatDoor
namespace Go.Proofs.YtifjhpaoejageaaGreatDoor
open Eng
def zLine (x : LnK) : Line := ⟨none, 0, x.1, none, 0, x.2⟩
def zBet (k : BetM) : Bet := ⟨none, 0, k.1.map zLine, k.2.1, k.2.2.1, k.2.2.2⟩
def zK : BetM := ([], false, 0, 0)
noncomputable def betErrK (g : Game) (k : BetM) : Int := betErr g (zBet k)
def Bet.Is (b : Bet) (k : BetM) : Prop := b.lines.map Line.keyL = k.1 ∧ b.system = k.2.1 ∧ b.draws = k.2.2.1 ∧ b.addons = k.2.2.2
theorem lnErr_z (g : Game) (sys : Bool) (L : List Line) : lnErr g sys (L.map fun x => zLine x.keyL) = lnErr g sys L := by
  unfold lnErr
  rw [List.length_map]
  congr 1
  refine List.map_congr_left fun i _ => ?_
  unfold lnAt
  rw [List.getElem?_map]
  cases h : L[i]? with
  | none => rfl
  | some x =>
    show (if sizeE g sys x ≠ 0 then sizeE g sys x else if canonL g x ∈ ((L.map fun x => zLine x.keyL).take i).map (canonL g) then 6 else 0) = _
    have e : ((L.map fun x => zLine x.keyL).take i).map (canonL g) = (L.take i).map (canonL g) := by
      rw [← List.map_take, List.map_map]; rfl
    rw [e]
theorem totN_z (g : Game) (sys : Bool) (L : List Line) : totN g sys (L.map fun x => zLine x.keyL) = totN g sys L := by
  unfold totN; rw [List.map_map]; rfl
theorem betErr_key {g : Game} {b : Bet} {k : BetM} (h : b.Is k) : betErr g b = betErrK g k := by
  obtain ⟨h1, h2, h3, h4⟩ := h
  have e : (zBet k).lines = b.lines.map fun x => zLine x.keyL := by show k.1.map zLine = _; rw [← h1, List.map_map]; rfl
  unfold betErrK betErr
  rw [e, lnErr_z, totN_z, List.length_map]
  rw [show (zBet k).system = b.system from h2.symm, show (zBet k).draws = b.draws from h3.symm, show (zBet k).addons = b.addons from h4.symm]
noncomputable def parseO (g : Game) (l : List UInt8) : BetM × Int × Nat :=
  if gameErr g ≠ 0 then (zK, gameErr g, 0)
  else if 32768 < l.length then (zK, 3, 0)
  else match (readM (g.addons.map Addon.name) (wordsL l)).1 with
    | none => (zK, 1, posR l (readM (g.addons.map Addon.name) (wordsL l)).2)
    | some k => if betErrK g k ≠ 0 then (zK, betErrK g k, 0) else (k, 0, 0)
def ParseOf (r : Value) (m : Mem) (o : BetM × Int × Nat) : Prop := ∃ bt : Bet, r = .tuple #[bt.val, .int .i64 o.2.1, .int .i64 (o.2.2 : Nat)] ∧ bt.In m ∧ bt.Is o.1
def zeroBet : Bet := ⟨none, 0, [], false, 0, 0⟩
theorem zeroBet_in (m : Mem) : zeroBet.In m := ⟨RL.nil _ _, fun x hx => (by cases hx)⟩
theorem zeroBet_is : zeroBet.Is zK := ⟨rfl, rfl, rfl, rfl⟩
theorem words_len : ∀ l : List UInt8, (wordsL l).length ≤ l.length + 1 ∧ ∀ w ∈ wordsL l, w.length ≤ l.length
  | [] => ⟨by decide, fun w hw => by rw [show wordsL [] = [[]] from rfl, List.mem_singleton] at hw; subst hw; simp⟩
  | b :: r => by
    have ih := words_len r
    by_cases hb : b = 32
    · subst hb
      rw [wordsL_sp]
      refine ⟨by simp only [List.length_cons]; omega, fun w hw => ?_⟩
      rcases List.mem_cons.1 hw with rfl | hw
      · simp
      · have := ih.2 w hw; simp only [List.length_cons]; omega
    · obtain ⟨w, ws, hws⟩ : ∃ w ws, wordsL r = w :: ws := by
        cases h : wordsL r with
        | nil => exact absurd h (wordsL_ne r)
        | cons w ws => exact ⟨w, ws, rfl⟩
      rw [wordsL_ch hb hws]
      rw [hws] at ih
      refine ⟨by have := ih.1; simp only [List.length_cons] at *; omega, fun v hv => ?_⟩
      rcases List.mem_cons.1 hv with rfl | hv
      · have := ih.2 w (List.mem_cons_self ..); simp only [List.length_cons]; omega
      · have := ih.2 v (List.mem_cons_of_mem _ hv); simp only [List.length_cons]; omega
theorem WOk.all {l : List UInt8} (hl : l.length ≤ 40000) : WOk l (wordsL l) := ⟨Suf.all l, fun w hw => by have := (words_len l).2 w hw; omega, by have := (words_len l).1; omega⟩
theorem load0 {m : Mem} {l : List UInt8} {w : Wd} {R : List Wd} (hs : Suf l (w :: R)) (hl : l.length ≤ 1000000) (B : Nat) (hp : posR l (w :: R) = 0) (b : ByteArray) :
    CallsS Tryz.prog 20 [.pointer (some ⟨B, 0, none⟩), .int .i64 0].toArray [(B, Cells 55 [.string (bA l), .int .i64 0, .string b, .int .i64 0, .bool false])] m fun _ σ' m' => σ' = [(B, Cells 55 (scE l (w :: R)))] ∧ m' = m := by
  have e : (0 : Int) = ((posR l (w :: R) : Nat) : Int) := by rw [hp]; rfl
  rw [e]
  exact loadI hs hl B _ _ _ _
set_option maxRecDepth 100000 in
theorem parseS {m : Mem} {g : Game} (hin : g.In m) (l : List UInt8) (hl : l.length ≤ 1000000) : CallsS Tryz.prog 11 [g.val, .string (bA l)].toArray [] m fun r σ' m' => σ' = [] ∧ ParseOf r m' (parseO g l) := by
  refine CallsS.ghost (R' := fun r σ' m' => ParseOf r m' (parseO g l)) ?_ ?h2
  case h2 =>
    rintro r σ' m' hr g0 W hC
    exact ⟨_, m', hC.sublist (List.nil_sublist _), Le.refl _, rfl, hr⟩
  have hsz := bA_size l
  dsimp only [Game.val]
  refine enter Tryz.func11 Tryz.ntmps11 rfl rfl ?_
  refine SWP_seq (SWP_region ?_)
  refine bx (v := .agg _) rfl rfl (fun B2 => ?_)
  refine al rfl rfl (fun B4 => ?_)
  refine pI rfl rfl ?_
  refine pI rfl rfl ?_
  refine SL_nil (nx (SWP_seq (SWP_seq (SWP_region ?_))))
  refine lw (v := .agg _) B2 0 rfl rfl rfl rfl ?_
  refine SL_call rfl rfl cb19 (CallsS.frame0 (countG hin)) rfl (fun v1_1 σ1_1 m1_1 hl1_1 hR1_1 => ?_)
  obtain ⟨σc, rfl, rfl, hm1_1, z0, rfl⟩ := hR1_1
  have hn1_1 := hm1_1.symm
  subst hn1_1
  refine pu rfl rfl ?_
  first | refine pI rfl rfl ?_ | refine pu rfl rfl ?_
  first | refine pI rfl rfl ?_ | refine pu rfl rfl ?_
  first | refine pI rfl rfl ?_ | refine pu rfl rfl ?_
  first | refine pI rfl rfl ?_ | refine pu rfl rfl ?_
  refine SL_nil (nx (SWP_seq (SWP_region ?_)))
  first | refine pI rfl rfl ?_ | refine pu rfl rfl ?_
  refine pc rfl rfl (fun c19 => ?_) (fun c19 => ?_)
  · skip
    refine SL_nil (nx (SWP_ct rfl (SWP_seq (SWP_region ?_))))
    refine pA rfl rfl ?_
    first | refine pI rfl rfl ?_ | refine pu rfl rfl ?_
    refine sw (v := .agg _) B4 0 rfl rfl rfl rfl rfl rfl rfl ?_
    first | refine pI rfl rfl ?_ | refine pu rfl rfl ?_
    refine pI rfl rfl ?_
    refine SL_nil (nx (SWP_ret (nr ?_)))
    refine fin [_, _, _] ⟨⟨_, _, rfl, Rd.of_cells (MemO.mem (B := B4)), rfl⟩, rfl, rfl, trivial⟩ ?_
    unfold parseO
    first
      | (rw [if_pos (show gameErr g ≠ 0 by assumption)]
         exact ⟨zeroBet, rfl, zeroBet_in _, zeroBet_is⟩)
      | (rw [if_neg (fun hh => hh hz), if_pos (by omega)]
         exact ⟨zeroBet, rfl, zeroBet_in _, zeroBet_is⟩)
      | (rw [if_neg (fun hh => hh hz), if_neg (by omega)]
         cases (show bb = false by assumption)
         rw [hwd, hrm.trans (if_neg Bool.noConfusion)]
         exact ⟨zeroBet, rfl, zeroBet_in _, zeroBet_is⟩)
      | (rw [if_neg (fun hh => hh hz), if_neg (by omega)]
         cases (show bb = true by assumption)
         rw [hwd, hrm.trans (if_pos rfl)]
         have his : bt.Is (bt.lines.map Line.keyL, bt.system, bt.draws, an) := ⟨rfl, rfl, rfl, han⟩
         have hk := betErr_key (g := g) his
         first
           | (show ParseOf _ _ (if betErrK g (bt.lines.map Line.keyL, bt.system, bt.draws, an) ≠ 0 then _ else _)
              rw [if_pos (by rw [← hk]; assumption), ← hk]
              exact ⟨zeroBet, rfl, zeroBet_in _, zeroBet_is⟩)
           | (show ParseOf _ _ (if betErrK g (bt.lines.map Line.keyL, bt.system, bt.draws, an) ≠ 0 then _ else _)
              rw [if_neg (by rw [← hk]; assumption)]
              exact ⟨bt, rfl, hbt, his⟩))
  refine SL_nil (nx (SWP_cf rfl (SWP_skip (nx (SWP_seq (SWP_seq ?_))))))
  have hz : gameErr g = 0 := Classical.not_not.1 (by assumption)
  have hg := gameOk hz
  refine SWP_region ?_
  first | refine pS rfl rfl ?_ | refine pu rfl rfl ?_
  refine pu rfl rfl ?_
  refine pc rfl rfl (fun c24 => ?_) (fun c24 => ?_)
  · skip
    refine SL_nil (nx (SWP_ct rfl (SWP_seq (SWP_region ?_))))
    refine pA rfl rfl ?_
    refine sw (v := .agg _) B4 0 rfl rfl rfl rfl rfl rfl rfl ?_
    refine pI rfl rfl ?_
    refine pI rfl rfl ?_
    refine SL_nil (nx (SWP_ret (nr ?_)))
    refine fin [_, _, _] ⟨⟨_, _, rfl, Rd.of_cells (MemO.mem (B := B4)), rfl⟩, rfl, rfl, trivial⟩ ?_
    unfold parseO
    first
      | (rw [if_pos (show gameErr g ≠ 0 by assumption)]
         exact ⟨zeroBet, rfl, zeroBet_in _, zeroBet_is⟩)
      | (rw [if_neg (fun hh => hh hz), if_pos (by omega)]
         exact ⟨zeroBet, rfl, zeroBet_in _, zeroBet_is⟩)
      | (rw [if_neg (fun hh => hh hz), if_neg (by omega)]
         cases (show bb = false by assumption)
         rw [hwd, hrm.trans (if_neg Bool.noConfusion)]
         exact ⟨zeroBet, rfl, zeroBet_in _, zeroBet_is⟩)
      | (rw [if_neg (fun hh => hh hz), if_neg (by omega)]
         cases (show bb = true by assumption)
         rw [hwd, hrm.trans (if_pos rfl)]
         have his : bt.Is (bt.lines.map Line.keyL, bt.system, bt.draws, an) := ⟨rfl, rfl, rfl, han⟩
         have hk := betErr_key (g := g) his
         first
           | (show ParseOf _ _ (if betErrK g (bt.lines.map Line.keyL, bt.system, bt.draws, an) ≠ 0 then _ else _)
              rw [if_pos (by rw [← hk]; assumption), ← hk]
              exact ⟨zeroBet, rfl, zeroBet_in _, zeroBet_is⟩)
           | (show ParseOf _ _ (if betErrK g (bt.lines.map Line.keyL, bt.system, bt.draws, an) ≠ 0 then _ else _)
              rw [if_neg (by rw [← hk]; assumption)]
              exact ⟨bt, rfl, hbt, his⟩))
  refine SL_nil (nx (SWP_cf rfl (SWP_skip (nx (SWP_seq ?_)))))
  have hw : WOk l (wordsL l) := WOk.all (by omega)
  obtain ⟨w, R, hwd⟩ : ∃ w R, wordsL l = w :: R := by
    cases h : wordsL l with
    | nil => exact absurd h (wordsL_ne l)
    | cons w R => exact ⟨w, R, rfl⟩
  have hp0 : posR l (w :: R) = 0 := by rw [← hwd]; exact posR_all l
  skip
  refine SWP_region ?_
  first | refine pS rfl rfl ?_ | refine pu rfl rfl ?_
  refine pA rfl rfl ?_
  refine bx (v := .agg _) rfl rfl (fun B28 => ?_)
  refine pP rfl rfl ?_
  refine SL_nil (nx (SWP_seq (SWP_region ?_)))
  refine pP rfl rfl ?_
  refine SL_call rfl rfl cb20 (CallsS.subF [_, _] (load0 (hwd ▸ hw.sf) (by omega) B28 hp0 _) (.refl _)) rfl (fun v7_1 σ7_1 m7_1 hl7_1 hR7_1 => ?_)
  obtain ⟨σz, rfl, rfl, hm7_1⟩ := hR7_1
  have hn7_1 := hm7_1.symm
  subst hn7_1
  rw [List.singleton_append]
  refine SL_nil (nx (SWP_seq (SWP_region ?_)))
  refine pP rfl rfl ?_
  refine lw (v := .agg _) B2 0 rfl rfl rfl rfl ?_
  refine SL_call rfl rfl cb21 (CallsS.subF [_, _] (readS (hwd ▸ hw) (by omega) B28 hin (addons_few hg)) (.refl _)) rfl (fun v8_2 σ8_2 m8_2 hl8_2 hR8_2 => ?_)
  obtain ⟨σz, rfl, rfl, bt, an, bb, rfl, hbt, han, hrm⟩ := hR8_2
  rw [List.singleton_append]
  refine pu rfl rfl ?_
  first | refine pA rfl rfl ?_ | refine pu rfl rfl ?_
  first | refine pB rfl rfl ?_ | refine pu rfl rfl ?_
  refine bsp 36 rfl (fun b36 => ?_) (fun b36 => ?_)
  · skip
    refine al rfl rfl (fun B10 => ?_)
    refine sw (v := .agg _) B10 0 rfl rfl rfl rfl rfl rfl rfl ?_
    first | refine pB rfl rfl ?_ | refine pu rfl rfl ?_
    refine SL_nil (nx (SWP_seq (SWP_seq (SWP_region ?_))))
    first | refine pB rfl rfl ?_ | refine pu rfl rfl ?_
    refine pB rfl rfl ?_
    refine SL_nil (nx (SWP_cf rfl (SWP_skip (nx (SWP_seq (SWP_seq (SWP_region ?_)))))))
    refine lw (v := .agg _) B2 0 rfl rfl rfl rfl ?_
    refine lw (v := .agg _) B10 0 rfl rfl rfl rfl ?_
    refine SL_pcall rfl rfl cb22 (betI (hin.mono hl8_2) hbt) rfl ?_
    first | refine pI rfl rfl ?_ | refine pu rfl rfl ?_
    refine SL_nil (nx (SWP_seq (SWP_region ?_)))
    first | refine pI rfl rfl ?_ | refine pu rfl rfl ?_
    refine pc rfl rfl (fun c48 => ?_) (fun c48 => ?_)
    · skip
      refine SL_nil (nx (SWP_ct rfl (SWP_seq (SWP_region ?_))))
      refine pA rfl rfl ?_
      first | refine pI rfl rfl ?_ | refine pu rfl rfl ?_
      refine sw (v := .agg _) B4 0 rfl rfl rfl rfl rfl rfl rfl ?_
      first | refine pI rfl rfl ?_ | refine pu rfl rfl ?_
      refine pI rfl rfl ?_
      refine SL_nil (nx (SWP_ret (nr ?_)))
      refine fin [_, _, _] ⟨⟨_, _, rfl, Rd.of_cells (MemO.mem (B := B4)), rfl⟩, rfl, rfl, trivial⟩ ?_
      unfold parseO
      first
        | (rw [if_pos (show gameErr g ≠ 0 by assumption)]
           exact ⟨zeroBet, rfl, zeroBet_in _, zeroBet_is⟩)
        | (rw [if_neg (fun hh => hh hz), if_pos (by omega)]
           exact ⟨zeroBet, rfl, zeroBet_in _, zeroBet_is⟩)
        | (rw [if_neg (fun hh => hh hz), if_neg (by omega)]
           cases (show bb = false by assumption)
           rw [hwd, hrm.trans (if_neg Bool.noConfusion)]
           exact ⟨zeroBet, rfl, zeroBet_in _, zeroBet_is⟩)
        | (rw [if_neg (fun hh => hh hz), if_neg (by omega)]
           cases (show bb = true by assumption)
           rw [hwd, hrm.trans (if_pos rfl)]
           have his : bt.Is (bt.lines.map Line.keyL, bt.system, bt.draws, an) := ⟨rfl, rfl, rfl, han⟩
           have hk := betErr_key (g := g) his
           first
             | (show ParseOf _ _ (if betErrK g (bt.lines.map Line.keyL, bt.system, bt.draws, an) ≠ 0 then _ else _)
                rw [if_pos (by rw [← hk]; assumption), ← hk]
                exact ⟨zeroBet, rfl, zeroBet_in _, zeroBet_is⟩)
             | (show ParseOf _ _ (if betErrK g (bt.lines.map Line.keyL, bt.system, bt.draws, an) ≠ 0 then _ else _)
                rw [if_neg (by rw [← hk]; assumption)]
                exact ⟨bt, rfl, hbt, his⟩))
    refine SL_nil (nx (SWP_cf rfl (SWP_skip (nx (SWP_seq (SWP_region ?_))))))
    refine lw (v := .agg _) B10 0 rfl rfl rfl rfl ?_
    refine sw (v := .agg _) B4 0 rfl rfl rfl rfl rfl rfl rfl ?_
    refine pI rfl rfl ?_
    refine pI rfl rfl ?_
    refine SL_nil (nx (SWP_ret ?_))
    refine fin [_, _, _] ⟨⟨_, _, rfl, Rd.of_cells (MemO.mem (B := B4)), rfl⟩, rfl, rfl, trivial⟩ ?_
    unfold parseO
    first
      | (rw [if_pos (show gameErr g ≠ 0 by assumption)]
         exact ⟨zeroBet, rfl, zeroBet_in _, zeroBet_is⟩)
      | (rw [if_neg (fun hh => hh hz), if_pos (by omega)]
         exact ⟨zeroBet, rfl, zeroBet_in _, zeroBet_is⟩)
      | (rw [if_neg (fun hh => hh hz), if_neg (by omega)]
         cases (show bb = false by assumption)
         rw [hwd, hrm.trans (if_neg Bool.noConfusion)]
         exact ⟨zeroBet, rfl, zeroBet_in _, zeroBet_is⟩)
      | (rw [if_neg (fun hh => hh hz), if_neg (by omega)]
         cases (show bb = true by assumption)
         rw [hwd, hrm.trans (if_pos rfl)]
         have his : bt.Is (bt.lines.map Line.keyL, bt.system, bt.draws, an) := ⟨rfl, rfl, rfl, han⟩
         have hk := betErr_key (g := g) his
         first
           | (show ParseOf _ _ (if betErrK g (bt.lines.map Line.keyL, bt.system, bt.draws, an) ≠ 0 then _ else _)
              rw [if_pos (by rw [← hk]; assumption), ← hk]
              exact ⟨zeroBet, rfl, zeroBet_in _, zeroBet_is⟩)
           | (show ParseOf _ _ (if betErrK g (bt.lines.map Line.keyL, bt.system, bt.draws, an) ≠ 0 then _ else _)
              rw [if_neg (by rw [← hk]; assumption)]
              exact ⟨bt, rfl, hbt, his⟩))
  refine al rfl rfl (fun B10 => ?_)
  refine sw (v := .agg _) B10 0 rfl rfl rfl rfl rfl rfl rfl ?_
  first | refine pB rfl rfl ?_ | refine pu rfl rfl ?_
  refine SL_nil (nx (SWP_seq (SWP_seq (SWP_region ?_))))
  first | refine pB rfl rfl ?_ | refine pu rfl rfl ?_
  refine pB rfl rfl ?_
  refine SL_nil (nx (SWP_ct rfl (SWP_seq ?_)))
  refine SWP_drawn [_] [0, 1, 2, 3, 4, 5, 6, 7] (by kernel_rfl) (by kernel_rfl) (Sub.cons _ (Sub.cons2 _ (Sub.nil _))) ?_
  refine pA rfl rfl ?_
  refine pP rfl rfl ?_
  refine pu rfl rfl ?_
  refine pu rfl rfl ?_
  refine lw (v := .int .i64 _) B28 1 rfl rfl rfl rfl ?_
  refine sw (v := .agg _) B4 0 rfl rfl rfl rfl rfl rfl rfl ?_
  refine pI rfl rfl ?_
  refine pI rfl rfl ?_
  refine SL_nil (nx (SWP_ret (nr ?_)))
  refine fin [_, _, _] ⟨⟨_, _, rfl, Rd.of_cells (MemO.mem (B := B4)), rfl⟩, rfl, rfl, trivial⟩ ?_
  unfold parseO
  first
    | (rw [if_pos (show gameErr g ≠ 0 by assumption)]
       exact ⟨zeroBet, rfl, zeroBet_in _, zeroBet_is⟩)
    | (rw [if_neg (fun hh => hh hz), if_pos (by omega)]
       exact ⟨zeroBet, rfl, zeroBet_in _, zeroBet_is⟩)
    | (rw [if_neg (fun hh => hh hz), if_neg (by omega)]
       cases (show bb = false by assumption)
       rw [hwd, hrm.trans (if_neg Bool.noConfusion)]
       exact ⟨zeroBet, rfl, zeroBet_in _, zeroBet_is⟩)
    | (rw [if_neg (fun hh => hh hz), if_neg (by omega)]
       cases (show bb = true by assumption)
       rw [hwd, hrm.trans (if_pos rfl)]
       have his : bt.Is (bt.lines.map Line.keyL, bt.system, bt.draws, an) := ⟨rfl, rfl, rfl, han⟩
       have hk := betErr_key (g := g) his
       first
         | (show ParseOf _ _ (if betErrK g (bt.lines.map Line.keyL, bt.system, bt.draws, an) ≠ 0 then _ else _)
            rw [if_pos (by rw [← hk]; assumption), ← hk]
            exact ⟨zeroBet, rfl, zeroBet_in _, zeroBet_is⟩)
         | (show ParseOf _ _ (if betErrK g (bt.lines.map Line.keyL, bt.system, bt.draws, an) ≠ 0 then _ else _)
            rw [if_neg (by rw [← hk]; assumption)]
            exact ⟨bt, rfl, hbt, his⟩))
end Go.Proofs.YtifjhpaoejageaaGreatDoor
namespace Go.Proofs.YtifjhpaoejageaaGreatDoor
open Eng
def decW (n : Int) : Wd := Lib.decDigits n.toNat
def lnTok (x : LnK) : List Wd := x.1.map decW ++ (if x.2 = [] then [] else [43] :: x.2.map decW)
def lnsTok : List LnK → List Wd
  | [] => []
  | [x] => lnTok x
  | x :: y :: r => lnTok x ++ [47] :: lnsTok (y :: r)
def nmAt (ns : List ByteArray) (i : Nat) : Wd := ((ns[i]?).getD ByteArray.empty).data.toList
def addTokF (ns : List ByteArray) (a : Nat) (k n : Nat) : List Wd := ((List.range' k n).filter fun i => a.testBit i).map (nmAt ns)
def addTok (ns : List ByteArray) (a : Nat) : List Wd := addTokF ns a 0 ns.length
def tailTok (ns : List ByteArray) (b : BetM) : List Wd := (if b.2.2.1 ≠ 1 then [[120], decW b.2.2.1] else []) ++ ((if b.2.1 = true then [[115, 121, 115]] else []) ++ ((if b.2.2.2 ≠ 0 then [[42]] else []) ++ addTok ns b.2.2.2))
def toks (ns : List ByteArray) (b : BetM) : List Wd := lnsTok b.1 ++ tailTok ns b
theorem lnsTok_snoc : ∀ (L : List LnK) (x : LnK), L ≠ [] → lnsTok (L ++ [x]) = lnsTok L ++ [47] :: lnTok x
  | [], _, h => absurd rfl h
  | [y], x, _ => rfl
  | y :: z :: r, x, _ => by
    show lnTok y ++ [47] :: lnsTok (z :: r ++ [x]) = _
    rw [lnsTok_snoc (z :: r) x (by simp)]
    simp [lnsTok]
theorem lnsTok_cons (x : LnK) {L : List LnK} (h : L ≠ []) : lnsTok (x :: L) = lnTok x ++ [47] :: lnsTok L := by
  cases L with
  | nil => exact absurd rfl h
  | cons y r => rfl
def Sm (n : Int) : Prop := 0 ≤ n ∧ n < 100
theorem numW_1 : ∀ n : Fin 10, numW [UInt8.ofNat (48 + n.val)] = some ((n.val : Nat) : Int) := by decide +kernel
theorem numW_2 : ∀ a b : Fin 10, a.val ≠ 0 → numW [UInt8.ofNat (48 + a.val), UInt8.ofNat (48 + b.val)] = some ((10 * a.val + b.val : Nat) : Int) := by decide +kernel
theorem numW_dec {n : Int} (h : Sm n) : numW (decW n) = some n := by
  obtain ⟨k, rfl⟩ : ∃ k : Nat, n = k := ⟨n.toNat, by have := h.1; omega⟩
  have h2 := h.2
  unfold decW
  rw [Int.toNat_natCast]
  by_cases hk : k < 10
  · rw [decDigits_1 hk]; exact numW_1 ⟨k, hk⟩
  · rw [decDigits_2 hk (by omega)]
    have := numW_2 ⟨k / 10, by omega⟩ ⟨k % 10, by omega⟩ (by show k / 10 ≠ 0; omega)
    rw [show 10 * (k / 10) + k % 10 = k by omega] at this
    exact this
theorem decW_ns {n : Int} (h : Sm n) : (32 : UInt8) ∉ decW n := fun hm => by
  have h1 := numW_dec h
  unfold numW at h1
  by_cases hc : (decW n).length ≤ 9 ∧ decB (decW n) = true
  · have := List.all_eq_true.1 (decB_all hc.2) 32 hm
    exact absurd this (by decide)
  · rw [if_neg hc] at h1; cases h1
theorem decW_len {n : Int} (h : Sm n) : (decW n).length ≤ 2 := by
  obtain ⟨k, rfl⟩ : ∃ k : Nat, n = k := ⟨n.toNat, by have := h.1; omega⟩
  have h2 := h.2
  unfold decW
  rw [Int.toNat_natCast]
  by_cases hk : k < 10
  · rw [decDigits_1 hk]; show 1 ≤ 2; decide
  · rw [decDigits_2 hk (by omega)]; exact Nat.le_refl _
theorem takeN_nums : ∀ (N : List Int) (R : List Wd), (∀ n ∈ N, Sm n) → numV R = none → takeN (N.map decW ++ R) = (N, R)
  | [], R, _, h => takeN_none (by show (numV R).isSome = false; rw [h]; rfl)
  | n :: N, R, hN, h => by
    have ih := takeN_nums N R (fun x hx => hN x (List.mem_cons_of_mem _ hx)) h
    show takeN (decW n :: (N.map decW ++ R)) = _
    rw [takeN, numW_dec (hN n (List.mem_cons_self ..)), ih]
structure LnSm (x : LnK) : Prop where
  ne : x.1 ≠ []
  m : ∀ n ∈ x.1, Sm n
  b : ∀ n ∈ x.2, Sm n
theorem isW_self (x : Wd) (R : List Wd) : isW x (x :: R) = true := decide_eq_true rfl
theorem lineM_tok {x : LnK} (h : LnSm x) {R : List Wd} (h1 : numV R = none) (h2 : isW [43] R = false) : lineM (lnTok x ++ R) = (some x, R) := by
  obtain ⟨N, M⟩ := x
  by_cases hM : M = []
  · subst hM
    have e : lnTok (N, []) ++ R = N.map decW ++ R := by simp [lnTok]
    have ht := takeN_nums N R h.m h1
    rw [e, lineM_1 (by rw [ht]; exact h.ne) (by rw [ht]; exact h2), ht]
  · have e : lnTok (N, M) ++ R = N.map decW ++ ([43] :: (M.map decW ++ R)) := by simp [lnTok, hM]
    have ht := takeN_nums N ([43] :: (M.map decW ++ R)) h.m (by show numW [43] = none; decide)
    have ht2 := takeN_nums M R h.b h1
    rw [e, lineM_3 (by rw [ht]; exact h.ne) (by rw [ht]; exact isW_self _ _) (by rw [ht]; show (takeN (M.map decW ++ R)).1 ≠ []; rw [ht2]; exact hM), ht]
    show (some (N, (takeN (M.map decW ++ R)).1), (takeN (M.map decW ++ R)).2) = _
    rw [ht2]
theorem linesF_tok : ∀ (L : List LnK) (f : Nat) (acc : List LnK) (R : List Wd), L ≠ [] → L.length ≤ f → (∀ x ∈ L, LnSm x) → numV R = none → isW [43] R = false → isW [47] R = false → linesF f (lnsTok L ++ R) acc = (some (acc ++ L), R)
  | [], _, _, _, h, _, _, _, _, _ => absurd rfl h
  | [x], 0, _, _, _, h, _, _, _, _ => absurd h (by simp)
  | [x], f + 1, acc, R, _, _, hx, h1, h2, h3 => by
    have e := lineM_tok (hx x (List.mem_cons_self ..)) h1 h2
    show linesF (f + 1) (lnTok x ++ R) acc = _
    exact linesF_1 e h3
  | x :: y :: r, 0, _, _, _, h, _, _, _, _ => absurd h (by simp)
  | x :: y :: r, f + 1, acc, R, _, hf, hx, h1, h2, h3 => by
    have e : lnsTok (x :: y :: r) ++ R = lnTok x ++ ([47] :: (lnsTok (y :: r) ++ R)) := by simp [lnsTok]
    have el := lineM_tok (R := [47] :: (lnsTok (y :: r) ++ R)) (hx x (List.mem_cons_self ..)) (by show numW [47] = none; decide) (by show decide (([47] : Wd) = [43]) = false; decide)
    rw [e, linesF_2 el (isW_self _ _)]
    show linesF f (lnsTok (y :: r) ++ R) (acc ++ [x]) = _
    rw [linesF_tok (y :: r) f (acc ++ [x]) R (by simp) (by simp only [List.length_cons] at *; omega) (fun z hz => hx z (List.mem_cons_of_mem _ hz)) h1 h2 h3]
    simp
theorem lnTok_len {x : LnK} (h : x.1 ≠ []) : 1 ≤ (lnTok x).length := by
  have := List.length_pos_iff.2 h
  simp only [lnTok, List.length_append, List.length_map]; omega
theorem lnsTok_len : ∀ (L : List LnK), (∀ x ∈ L, x.1 ≠ []) → L.length ≤ (lnsTok L).length
  | [], _ => Nat.le_refl _
  | [x], h => lnTok_len (h x (List.mem_cons_self ..))
  | x :: y :: r, h => by
    have ih := lnsTok_len (y :: r) (fun z hz => h z (List.mem_cons_of_mem _ hz))
    have := lnTok_len (h x (List.mem_cons_self ..))
    show _ ≤ (lnTok x ++ [47] :: lnsTok (y :: r)).length
    rw [List.length_append]
    simp only [List.length_cons] at *
    omega
theorem numW_120 : numW [120] = none := by decide
theorem drawsM_tok {d : Int} (h : Sm d) {R : List Wd} (h1 : isW [120] R = false) : drawsM ((if d ≠ 1 then [[120], decW d] else []) ++ R) = (some d, R) := by
  by_cases hd : d = 1
  · subst hd
    rw [if_neg (by decide), List.nil_append]
    exact drawsM_0 h1
  · rw [if_pos hd]
    have hn : numV (decW d :: R) = some d := numW_dec h
    have := drawsM_3 (R := [120] :: decW d :: R) (R4 := decW d :: R) rfl (by rw [hn]; rfl) (by rw [hn]; exact hd)
    rw [hn] at this
    exact this
theorem sysM_tok {s : Bool} {R : List Wd} (h1 : isW [115, 121, 115] R = false) : sysM ((if s = true then [[115, 121, 115]] else []) ++ R) = (s, R) := by
  cases s with
  | false => exact sysM_0 h1
  | true => exact sysM_1 rfl
end Go.Proofs.YtifjhpaoejageaaGreatDoor
namespace Go.Proofs.YtifjhpaoejageaaGreatDoor
open Eng
theorem nmAt_some {ns : List ByteArray} {i : Nat} {w : ByteArray} (h : ns[i]? = some w) : bA (nmAt ns i) = w := by
  unfold nmAt; rw [h]; exact bA_of w
def Dis (ns : List ByteArray) : Prop := ∀ (i j : Nat) (w : ByteArray), ns[i]? = some w → ns[j]? = some w → i = j
theorem addTokF_succ (ns : List ByteArray) (a k n : Nat) : addTokF ns a k (n + 1) = if a.testBit k = true then nmAt ns k :: addTokF ns a (k + 1) n else addTokF ns a (k + 1) n := by
  unfold addTokF
  rw [List.range'_succ, List.filter_cons]
  by_cases h : a.testBit k = true
  · rw [if_pos h, if_pos h]; rfl
  · rw [if_neg h, if_neg h]
theorem addF_tok {ns : List ByteArray} (hd : Dis ns) {a : Nat} (ha : a < 2 ^ ns.length) : ∀ (n k p : Nat), k + n = ns.length → p ≤ k → addF ns (addTokF ns a k n) p (a % 2 ^ k) = (if a = 0 then none else some a, [])
  | 0, k, p, hk, _ => by
    have e : k = ns.length := by omega
    subst e
    rw [Nat.mod_eq_of_lt ha]
    rfl
  | n + 1, k, p, hk, hp => by
    have hm : a % 2 ^ (k + 1) = a % 2 ^ k + 2 ^ k * (a.testBit k).toNat := by rw [Nat.mod_pow_succ, Nat.toNat_testBit]
    rw [addTokF_succ]
    by_cases hb : a.testBit k = true
    · rw [if_pos hb]
      obtain ⟨w, hw⟩ : ∃ w, ns[k]? = some w := ⟨_, List.getElem?_eq_getElem (by omega)⟩
      have hf : findFrom ns p (bA (nmAt ns k)) = some k := by
        rw [nmAt_some hw]
        exact findFrom_some hp hw (fun j _ h2 h3 => by have := hd _ _ _ h3 hw; omega)
      rw [addF_some hf]
      rw [hb] at hm
      have := addF_tok hd ha n (k + 1) (k + 1) (by omega) (Nat.le_refl _)
      rw [hm] at this
      simpa using this
    · rw [if_neg hb]
      have hb' : a.testBit k = false := by simpa using hb
      rw [hb'] at hm
      have := addF_tok hd ha n (k + 1) p (by omega) (by omega)
      rw [hm] at this
      simpa using this
theorem addTokF_none {ns : List ByteArray} {a : Nat} : ∀ (n k : Nat), (∀ j, k ≤ j → j < k + n → a.testBit j = false) → addTokF ns a k n = []
  | 0, _, _ => rfl
  | n + 1, k, h => by
    rw [addTokF_succ, if_neg (by rw [h k (Nat.le_refl _) (by omega)]; exact Bool.noConfusion)]
    exact addTokF_none n (k + 1) (fun j h1 h2 => h j (by omega) (by omega))
theorem findFrom_get {ns : List ByteArray} {k i : Nat} {w : ByteArray} (h : findFrom ns k w = some i) : k ≤ i ∧ i < ns.length ∧ ns[i]? = some w := by
  unfold findFrom at h
  have h1 := List.find?_some h
  have h2 := List.mem_of_find?_eq_some h
  rw [List.mem_range'_1] at h2
  have h3 : ns[i]? = some w := of_decide_eq_true h1
  exact ⟨h2.1, (List.getElem?_eq_some_iff.1 h3).1, h3⟩
theorem addTok_zero (ns : List ByteArray) : addTok ns 0 = [] := addTokF_none _ _ fun j _ _ => Nat.zero_testBit j
theorem addonsM_tok {ns : List ByteArray} (hd : Dis ns) {a : Nat} (ha : a < 2 ^ ns.length) : addonsM ns ((if a ≠ 0 then [[42]] else []) ++ addTok ns a) = (some a, []) := by
  by_cases h : a = 0
  · subst h
    rw [if_neg (by decide), addTok_zero]
    exact addonsM_0 rfl
  · rw [if_pos h]
    show addonsM ns ([42] :: addTok ns a) = _
    rw [addonsM_1]
    have := addF_tok hd ha ns.length 0 0 (by omega) (Nat.le_refl _)
    rw [if_neg h, show a % 2 ^ 0 = 0 by rw [Nat.pow_zero, Nat.mod_one]] at this
    exact this
structure BetSm (ns : List ByteArray) (b : BetM) : Prop where
  ne : b.1 ≠ []
  ls : ∀ x ∈ b.1, LnSm x
  d : Sm b.2.2.1
  a : b.2.2.2 < 2 ^ ns.length
theorem tail_head {ns : List ByteArray} (b : BetM) : numV (tailTok ns b) = none ∧ isW [43] (tailTok ns b) = false ∧ isW [47] (tailTok ns b) = false := by
  obtain ⟨L, s, d, a⟩ := b
  unfold tailTok
  by_cases hd : d ≠ 1
  · rw [if_pos hd]; exact ⟨numW_120, rfl, rfl⟩
  · rw [if_neg hd, List.nil_append]
    cases s with
    | true => exact ⟨by show numW [115, 121, 115] = none; decide, rfl, rfl⟩
    | false =>
      show numV ([] ++ _) = none ∧ isW [43] ([] ++ _) = false ∧ isW [47] ([] ++ _) = false
      rw [List.nil_append]
      by_cases ha : a ≠ 0
      · rw [if_pos ha]; exact ⟨by show numW [42] = none; decide, rfl, rfl⟩
      · have : a = 0 := Classical.not_not.1 ha
        subst this
        rw [if_neg ha, addTok_zero]; exact ⟨rfl, rfl, rfl⟩
theorem tail_head2 {ns : List ByteArray} (s : Bool) (a : Nat) : isW [120] ((if s = true then [[115, 121, 115]] else []) ++ ((if a ≠ 0 then [[42]] else []) ++ addTok ns a)) = false := by
  cases s with
  | true => rfl
  | false =>
    rw [if_neg Bool.noConfusion, List.nil_append]
    by_cases ha : a ≠ 0
    · rw [if_pos ha]; rfl
    · have : a = 0 := Classical.not_not.1 ha
      subst this
      rw [if_neg ha, addTok_zero]; rfl
theorem tail_head3 {ns : List ByteArray} (a : Nat) : isW [115, 121, 115] ((if a ≠ 0 then [[42]] else []) ++ addTok ns a) = false := by
  by_cases ha : a ≠ 0
  · rw [if_pos ha]; rfl
  · have : a = 0 := Classical.not_not.1 ha
    subst this
    rw [if_neg ha, addTok_zero]; rfl
theorem readM_tok {ns : List ByteArray} (hd : Dis ns) {b : BetM} (h : BetSm ns b) : readM ns (toks ns b) = (some b, []) := by
  have ht := tail_head (ns := ns) b
  have hlen := lnsTok_len b.1 (fun x hx => (h.ls x hx).ne)
  have hl : linesM (toks ns b) = (some b.1, tailTok ns b) := by
    unfold linesM toks
    rw [linesF_tok b.1 _ [] (tailTok ns b) h.ne (by rw [List.length_append]; omega) h.ls ht.1 ht.2.1 ht.2.2]
    rfl
  have hdr : drawsM (tailTok ns b) = (some b.2.2.1, (if b.2.1 = true then [[115, 121, 115]] else []) ++ ((if b.2.2.2 ≠ 0 then [[42]] else []) ++ addTok ns b.2.2.2)) := drawsM_tok h.d (tail_head2 _ _)
  have hsy : sysM ((if b.2.1 = true then [[115, 121, 115]] else []) ++ ((if b.2.2.2 ≠ 0 then [[42]] else []) ++ addTok ns b.2.2.2)) = (b.2.1, (if b.2.2.2 ≠ 0 then [[42]] else []) ++ addTok ns b.2.2.2) := sysM_tok (tail_head3 _)
  have had := addonsM_tok hd h.a
  have := readM_4 (ns := ns) (R := toks ns b) (L := b.1) (d := b.2.2.1) (s := b.2.1) (a := b.2.2.2) (R3 := (if b.2.2.2 ≠ 0 then [[42]] else []) ++ addTok ns b.2.2.2) (by rw [hl]) (by rw [hl, hdr]) (by rw [hl, hdr, hsy]) (by rw [had])
  rw [this, had]
  exact if_pos rfl
theorem takeN_empty : ∀ (R : List Wd), [] ∈ R → [] ∈ (takeN R).2
  | [], h => h
  | w :: R, h => by
    rw [takeN]
    cases hw : numW w with
    | none => exact h
    | some n =>
      rcases List.mem_cons.1 h with e | h
      · rw [← e, numW_nil] at hw; cases hw
      · exact takeN_empty R h
theorem tail_empty {x : Wd} {R : List Wd} (hx : x ≠ []) (h : isW x R = true) (he : [] ∈ R) : [] ∈ R.tail := by
  have e := isW_cons h
  rw [e] at he
  rcases List.mem_cons.1 he with e | he
  · exact absurd e.symm hx
  · exact he
theorem lineM_empty {R : List Wd} (h : [] ∈ R) : [] ∈ (lineM R).2 := by
  by_cases h1 : (takeN R).1 = []
  · rw [lineM_0 h1]; exact takeN_empty R h
  cases h2 : isW [43] (takeN R).2 with
  | false => rw [lineM_1 h1 h2]; exact takeN_empty R h
  | true =>
    have h3 := takeN_empty _ (tail_empty (by decide) h2 (takeN_empty R h))
    by_cases h4 : (takeN (takeN R).2.tail).1 = []
    · rw [lineM_2 h1 h2 h4]; exact h3
    · rw [lineM_3 h1 h2 h4]; exact h3
theorem linesF_empty : ∀ (f : Nat) (R : List Wd) (acc : List LnK), [] ∈ R → [] ∈ (linesF f R acc).2
  | 0, _, _, h => h
  | f + 1, R, acc, h => by
    cases hl : (lineM R).1 with
    | none =>
      have e : lineM R = (none, (lineM R).2) := by rw [← hl]
      rw [linesF_0 e]; exact lineM_empty h
    | some x =>
      have e : lineM R = (some x, (lineM R).2) := by rw [← hl]
      cases h47 : isW [47] (lineM R).2 with
      | false => rw [linesF_1 e h47]; exact lineM_empty h
      | true => rw [linesF_2 e h47]; exact linesF_empty f _ _ (tail_empty (by decide) h47 (lineM_empty h))
theorem drawsM_empty {R : List Wd} (h : [] ∈ R) : [] ∈ (drawsM R).2 := by
  cases hx : isW [120] R with
  | false => rw [drawsM_0 hx]; exact h
  | true =>
    have h1 := tail_empty (by decide) hx h
    have e := isW_cons hx
    cases h2 : (numV R.tail).isSome with
    | false => rw [drawsM_1 e h2]; exact h1
    | true =>
      by_cases h3 : (numV R.tail).getD 0 = 1
      · rw [drawsM_2 e h2 h3]; exact h1
      · rw [drawsM_3 e h2 h3]
        cases ht : R.tail with
        | nil => rw [ht] at h2; cases h2
        | cons w R3 =>
          rw [ht] at h1 h2
          rcases List.mem_cons.1 h1 with e1 | h1
          · rw [← e1] at h2; exact absurd (show (numW []).isSome = true from h2) (by decide)
          · exact h1
theorem sysM_empty {R : List Wd} (h : [] ∈ R) : [] ∈ (sysM R).2 := by
  cases hx : isW [115, 121, 115] R with
  | false => rw [sysM_0 hx]; exact h
  | true => rw [sysM_1 (isW_cons hx)]; exact tail_empty (by decide) hx h
theorem addF_empty {ns : List ByteArray} (hn : ∀ w ∈ ns, w ≠ bA []) : ∀ (R : List Wd) (k b : Nat), [] ∈ R → [] ∈ (addF ns R k b).2
  | [], _, _, h => absurd h (by simp)
  | w :: R, k, b, h => by
    cases hf : findFrom ns k (bA w) with
    | none => rw [addF_none hf]; exact h
    | some i =>
      rw [addF_some hf]
      rcases List.mem_cons.1 h with e | h
      · obtain ⟨_, _, h3⟩ := findFrom_get hf
        rw [← e] at h3
        exact absurd rfl (hn _ (List.mem_of_getElem? h3))
      · exact addF_empty hn R _ _ h
theorem readM_empty {ns : List ByteArray} (hn : ∀ w ∈ ns, w ≠ bA []) {R : List Wd} (h : [] ∈ R) : (readM ns R).1 = none := by
  have h1 : [] ∈ (linesM R).2 := linesF_empty _ _ _ h
  have h2 := drawsM_empty h1
  have h3 := sysM_empty h2
  cases hl : (linesM R).1 with
  | none => rw [readM_1 hl]
  | some L =>
  cases hr : (drawsM (linesM R).2).1 with
  | none => rw [readM_2 hl hr]
  | some d =>
  cases ha : (addonsM ns (sysM (drawsM (linesM R).2).2).2).1 with
  | none => exact congrArg Prod.fst (readM_3 (ns := ns) (R3 := (sysM (drawsM (linesM R).2).2).2) (s := (sysM (drawsM (linesM R).2).2).1) hl hr rfl ha)
  | some a =>
  have e4 := readM_4 (ns := ns) (R3 := (sysM (drawsM (linesM R).2).2).2) (s := (sysM (drawsM (linesM R).2).2).1) hl hr rfl ha
  rw [e4]
  have h4 : [] ∈ (addonsM ns (sysM (drawsM (linesM R).2).2).2).2 := by
    cases hx : isW [42] (sysM (drawsM (linesM R).2).2).2 with
    | false => rw [addonsM_0 hx]; exact h3
    | true =>
      have e := isW_cons hx
      have h5 := tail_empty (by decide) hx h3
      rw [e, addonsM_1]
      exact addF_empty hn _ _ _ h5
  rw [if_neg (fun e => by rw [e] at h4; cases h4)]
theorem words_twice : ∀ (a b : List UInt8), [] ∈ wordsL (a ++ 32 :: 32 :: b)
  | [], b => by
    show [] ∈ wordsL (32 :: 32 :: b)
    rw [wordsL_sp]; exact List.mem_cons_self ..
  | c :: a, b => by
    have ih := words_twice a b
    show [] ∈ wordsL (c :: (a ++ 32 :: 32 :: b))
    by_cases hc : c = 32
    · subst hc; rw [wordsL_sp]; exact List.mem_cons_of_mem _ ih
    · obtain ⟨w, ws, hws⟩ : ∃ w ws, wordsL (a ++ 32 :: 32 :: b) = w :: ws := by
        cases h : wordsL (a ++ 32 :: 32 :: b) with
        | nil => exact absurd h (wordsL_ne _)
        | cons w ws => exact ⟨w, ws, rfl⟩
      rw [wordsL_ch hc hws]
      rw [hws] at ih
      rcases List.mem_cons.1 ih with e | ih
      · cases a with
        | nil =>
          rw [List.nil_append, wordsL_sp, wordsL_sp] at hws
          cases hws
          exact List.mem_cons_of_mem _ (List.mem_cons_self ..)
        | cons c2 a =>
          by_cases h2 : c2 = 32
          · subst h2
            rw [List.cons_append, wordsL_sp] at hws
            cases hws
            exact List.mem_cons_of_mem _ (words_twice a b)
          · exfalso
            obtain ⟨w', ws', hws'⟩ : ∃ w ws, wordsL (a ++ 32 :: 32 :: b) = w :: ws := by
              cases h : wordsL (a ++ 32 :: 32 :: b) with
              | nil => exact absurd h (wordsL_ne _)
              | cons w ws => exact ⟨w, ws, rfl⟩
            rw [List.cons_append, wordsL_ch h2 hws'] at hws
            rw [← (List.cons.inj hws).1] at e
            cases e
      · exact List.mem_cons_of_mem _ ih
theorem words_end : ∀ (a : List UInt8), [] ∈ wordsL (a ++ [32])
  | [] => by
    show [] ∈ wordsL (32 :: [])
    rw [wordsL_sp]; exact List.mem_cons_self ..
  | c :: a => by
    have ih := words_end a
    show [] ∈ wordsL (c :: (a ++ [32]))
    by_cases hc : c = 32
    · subst hc; rw [wordsL_sp]; exact List.mem_cons_of_mem _ ih
    · obtain ⟨w, ws, hws⟩ : ∃ w ws, wordsL (a ++ [32]) = w :: ws := by
        cases h : wordsL (a ++ [32]) with
        | nil => exact absurd h (wordsL_ne _)
        | cons w ws => exact ⟨w, ws, rfl⟩
      rw [wordsL_ch hc hws]
      rw [hws] at ih
      rcases List.mem_cons.1 ih with e | ih
      · cases a with
        | nil =>
          rw [List.nil_append, wordsL_sp] at hws
          cases hws
          exact List.mem_cons_of_mem _ (by rw [show wordsL [] = [[]] from rfl]; exact List.mem_cons_self ..)
        | cons c2 a =>
          by_cases h2 : c2 = 32
          · subst h2
            rw [List.cons_append, wordsL_sp] at hws
            cases hws
            exact List.mem_cons_of_mem _ (words_end a)
          · exfalso
            obtain ⟨w', ws', hws'⟩ : ∃ w ws, wordsL (a ++ [32]) = w :: ws := by
              cases h : wordsL (a ++ [32]) with
              | nil => exact absurd h (wordsL_ne _)
              | cons w ws => exact ⟨w, ws, rfl⟩
            rw [List.cons_append, wordsL_ch h2 hws'] at hws
            rw [← (List.cons.inj hws).1] at e
            cases e
      · exact List.mem_cons_of_mem _ ih
theorem readM_front {ns : List ByteArray} (R : List Wd) : readM ns ([] :: R) = (none, [] :: R) := by
  have e1 : takeN ([] :: R) = ([], [] :: R) := takeN_none rfl
  have e2 : lineM ([] :: R) = (none, [] :: R) := by rw [lineM_0 (by rw [e1]), e1]
  have e3 : linesM ([] :: R) = (none, [] :: R) := linesF_0 e2
  rw [readM_1 (by rw [e3]), e3]
theorem tok_ns {ns : List ByteArray} (hn : ∀ w ∈ ns, (32 : UInt8) ∉ w.data.toList) {b : BetM} (h : BetSm ns b) : ∀ w ∈ toks ns b, (32 : UInt8) ∉ w := by
  have hln : ∀ x, LnSm x → ∀ w ∈ lnTok x, (32 : UInt8) ∉ w := fun x hx w hw => by
    simp only [lnTok, List.mem_append] at hw
    rcases hw with hw | hw
    · obtain ⟨n, hn, rfl⟩ := List.mem_map.1 hw; exact decW_ns (hx.m n hn)
    · by_cases h2 : x.2 = []
      · rw [if_pos h2] at hw; cases hw
      · rw [if_neg h2] at hw
        rcases List.mem_cons.1 hw with rfl | hw
        · decide
        · obtain ⟨n, hn, rfl⟩ := List.mem_map.1 hw; exact decW_ns (hx.b n hn)
  have hls : ∀ L : List LnK, (∀ x ∈ L, LnSm x) → ∀ w ∈ lnsTok L, (32 : UInt8) ∉ w := by
    intro L
    induction L with
    | nil => exact fun _ w hw => absurd hw (by simp [lnsTok])
    | cons x r ih =>
      intro hL w hw
      cases r with
      | nil => exact hln x (hL x (List.mem_cons_self ..)) w hw
      | cons y r =>
        rw [lnsTok_cons x (by simp)] at hw
        rcases List.mem_append.1 hw with hw | hw
        · exact hln x (hL x (List.mem_cons_self ..)) w hw
        · rcases List.mem_cons.1 hw with rfl | hw
          · decide
          · exact ih (fun z hz => hL z (List.mem_cons_of_mem _ hz)) w hw
  intro w hw
  simp only [toks, tailTok, List.mem_append] at hw
  rcases hw with hw | hw | hw | hw | hw
  · exact hls _ h.ls w hw
  · by_cases h1 : b.2.2.1 ≠ 1
    · rw [if_pos h1] at hw
      rcases List.mem_cons.1 hw with rfl | hw
      · decide
      · rw [List.mem_singleton.1 hw]; exact decW_ns h.d
    · rw [if_neg h1] at hw; cases hw
  · by_cases h1 : b.2.1 = true
    · rw [if_pos h1, List.mem_singleton] at hw; subst hw; decide
    · rw [if_neg h1] at hw; cases hw
  · by_cases h1 : b.2.2.2 ≠ 0
    · rw [if_pos h1, List.mem_singleton] at hw; subst hw; decide
    · rw [if_neg h1] at hw; cases hw
  · unfold addTok addTokF at hw
    obtain ⟨i, hi, rfl⟩ := List.mem_map.1 hw
    have hi2 := List.mem_range'_1.1 (List.mem_filter.1 hi).1
    obtain ⟨v, hv⟩ : ∃ v, ns[i]? = some v := ⟨_, List.getElem?_eq_getElem (by omega)⟩
    unfold nmAt
    rw [hv]
    exact hn v (List.mem_of_getElem? hv)
theorem toks_ne {ns : List ByteArray} {b : BetM} (h : BetSm ns b) : toks ns b ≠ [] := fun e => by
  have h1 := lnsTok_len b.1 (fun x hx => (h.ls x hx).ne)
  have h2 := List.length_pos_iff.2 h.ne
  have h3 := congrArg List.length e
  simp only [toks, List.length_append, List.length_nil] at h3
  omega
theorem words_toks {ns : List ByteArray} (hn : ∀ w ∈ ns, (32 : UInt8) ∉ w.data.toList) {b : BetM} (h : BetSm ns b) : wordsL (joinW (toks ns b)) = toks ns b := words_join _ (toks_ne h) (tok_ns hn h)
end Go.Proofs.YtifjhpaoejageaaGreatDoor
namespace Go.Proofs.YtifjhpaoejageaaGreatDoor
open Eng
theorem drop_next {W R : List Wd} {k : Nat} {w : Wd} (h : W.drop k = w :: R) : W.drop (k + 1) = R ∧ k < W.length := by
  refine ⟨?_, ?_⟩
  · rw [← List.drop_drop, h]; rfl
  · have := congrArg List.length h
    rw [List.length_drop, List.length_cons] at this
    omega
end Go.Proofs.YtifjhpaoejageaaGreatDoor
namespace Go.Proofs.YtifjhpaoejageaaGreatDoor
open Eng
theorem tail_drop {l : List UInt8} {R : List Wd} {k : Nat} {w : Wd} (h : (wordsL l).drop k = R) (hw : isW w R = true) : (wordsL l).drop (k + 1) = R.tail := (drop_next (h.trans (isW_cons hw))).1
end Go.Proofs.YtifjhpaoejageaaGreatDoor
namespace Go.Proofs.YtifjhpaoejageaaGreatDoor
open Eng
def Dead (ns : List ByteArray) (l : List UInt8) (wr : Int) : Prop := ∃ Rf, readM ns (wordsL l) = (none, Rf) ∧ wr = ((posR l Rf : Nat) : Int)
theorem Dead.ge {ns : List ByteArray} {l : List UInt8} {wr : Int} (h : Dead ns l wr) : 0 ≤ wr := by obtain ⟨_, _, rfl⟩ := h; exact Int.natCast_nonneg _
def St1 (ns : List ByteArray) (l : List UInt8) (L : List Line) (k : Nat) (wr : Int) : Prop := Dead ns l wr ∨ (wr = -1 ∧ ∃ R1, linesM (wordsL l) = (some (L.map Line.keyL), R1) ∧ (wordsL l).drop k = R1)
def St2 (ns : List ByteArray) (l : List UInt8) (L : List Line) (d : Int) (k : Nat) (wr : Int) : Prop := Dead ns l wr ∨ (wr = -1 ∧ ∃ R1 R2, linesM (wordsL l) = (some (L.map Line.keyL), R1) ∧ drawsM R1 = (some d, R2) ∧ (wordsL l).drop k = R2)
def St3 (ns : List ByteArray) (l : List UInt8) (L : List Line) (s : Bool) (d : Int) (k : Nat) (wr : Int) : Prop := Dead ns l wr ∨ (wr = -1 ∧ ∃ R1 R2 R3, linesM (wordsL l) = (some (L.map Line.keyL), R1) ∧ drawsM R1 = (some d, R2) ∧ sysM R2 = (s, R3) ∧ (wordsL l).drop k = R3)
def St4 (ns : List ByteArray) (l : List UInt8) (L : List Line) (s : Bool) (d : Int) (a : Int) (k : Nat) (wr : Int) : Prop := Dead ns l wr ∨ (wr = -1 ∧ ∃ R1 R2 R3 R4 an, linesM (wordsL l) = (some (L.map Line.keyL), R1) ∧ drawsM R1 = (some d, R2) ∧ sysM R2 = (s, R3) ∧ addonsM ns R3 = (some an, R4) ∧ a = ((an : Nat) : Int) ∧ (wordsL l).drop k = R4)
def ReadW (ns : List ByteArray) (l : List UInt8) (bt : Bet) (wr : Int) : Prop := Dead ns l wr ∨ (wr = -1 ∧ ∃ bk, readM ns (wordsL l) = (some bk, []) ∧ bt.Is bk)
theorem wlt {wr : Int} {x : Wd} {R : List Wd} (h : (if wr < 0 then isW x R else false) = true) : wr < 0 ∧ isW x R = true := by
  by_cases hw : wr < 0
  · rw [if_pos hw] at h; exact ⟨hw, h⟩
  · rw [if_neg hw] at h; cases h
theorem wlf {wr : Int} {x : Wd} {R : List Wd} (h : (if wr < 0 then isW x R else false) = false) (hw : wr = -1) : isW x R = false := by rw [if_pos (by omega)] at h; exact h
theorem St1.on {ns : List ByteArray} {l : List UInt8} {L : List Line} {k : Nat} {wr : Int} (h : St1 ns l L k wr) {x : Wd} (hc : (if wr < 0 then isW x ((wordsL l).drop k) else false) = true) : wr = -1 ∧ linesM (wordsL l) = (some (L.map Line.keyL), (wordsL l).drop k) ∧ isW x ((wordsL l).drop k) = true := by
  obtain ⟨hw, hx⟩ := wlt hc
  rcases h with h | ⟨h1, R1, h2, h3⟩
  · have := h.ge; omega
  · exact ⟨h1, by rw [h3]; exact h2, hx⟩
theorem St2.on {ns : List ByteArray} {l : List UInt8} {L : List Line} {d : Int} {k : Nat} {wr : Int} (h : St2 ns l L d k wr) {x : Wd} (hc : (if wr < 0 then isW x ((wordsL l).drop k) else false) = true) : wr = -1 ∧ (∃ R1, linesM (wordsL l) = (some (L.map Line.keyL), R1) ∧ drawsM R1 = (some d, (wordsL l).drop k)) ∧ isW x ((wordsL l).drop k) = true := by
  obtain ⟨hw, hx⟩ := wlt hc
  rcases h with h | ⟨h1, R1, R2, h2, h3, h4⟩
  · have := h.ge; omega
  · exact ⟨h1, ⟨R1, h2, by rw [h4]; exact h3⟩, hx⟩
theorem St3.on {ns : List ByteArray} {l : List UInt8} {L : List Line} {s : Bool} {d : Int} {k : Nat} {wr : Int} (h : St3 ns l L s d k wr) {x : Wd} (hc : (if wr < 0 then isW x ((wordsL l).drop k) else false) = true) : wr = -1 ∧ (∃ R1 R2, linesM (wordsL l) = (some (L.map Line.keyL), R1) ∧ drawsM R1 = (some d, R2) ∧ sysM R2 = (s, (wordsL l).drop k)) ∧ isW x ((wordsL l).drop k) = true := by
  obtain ⟨hw, hx⟩ := wlt hc
  rcases h with h | ⟨h1, R1, R2, R3, h2, h3, h4, h5⟩
  · have := h.ge; omega
  · exact ⟨h1, ⟨R1, R2, h2, h3, by rw [h5]; exact h4⟩, hx⟩
theorem St1.skip {ns : List ByteArray} {l : List UInt8} {L : List Line} {k : Nat} {wr : Int} (h : St1 ns l L k wr) (hc : (if wr < 0 then isW [120] ((wordsL l).drop k) else false) = false) : St2 ns l L 1 k wr := by
  rcases h with h | ⟨h1, R1, h2, h3⟩
  · exact .inl h
  · have hx := wlf hc h1
    rw [h3] at hx
    exact .inr ⟨h1, R1, R1, h2, drawsM_0 hx, h3⟩
theorem St2.skip {ns : List ByteArray} {l : List UInt8} {L : List Line} {d : Int} {k : Nat} {wr : Int} (h : St2 ns l L d k wr) (hc : (if wr < 0 then isW [115, 121, 115] ((wordsL l).drop k) else false) = false) : St3 ns l L false d k wr := by
  rcases h with h | ⟨h1, R1, R2, h2, h3, h4⟩
  · exact .inl h
  · have hx := wlf hc h1
    rw [h4] at hx
    exact .inr ⟨h1, R1, R2, R2, h2, h3, sysM_0 hx, h4⟩
theorem St2.sys {ns : List ByteArray} {l : List UInt8} {L : List Line} {d : Int} {k : Nat} {wr : Int} (h : St2 ns l L d k wr) (hc : (if wr < 0 then isW [115, 121, 115] ((wordsL l).drop k) else false) = true) : St3 ns l L true d (k + 1) wr := by
  obtain ⟨h1, ⟨R1, h2, h3⟩, hx⟩ := h.on hc
  have e := isW_cons hx
  exact .inr ⟨h1, R1, _, _, h2, h3, sysM_1 e, tail_drop rfl hx⟩
theorem St3.skip {ns : List ByteArray} {l : List UInt8} {L : List Line} {s : Bool} {d : Int} {k : Nat} {wr : Int} (h : St3 ns l L s d k wr) (hc : (if wr < 0 then isW [42] ((wordsL l).drop k) else false) = false) : St4 ns l L s d 0 k wr := by
  rcases h with h | ⟨h1, R1, R2, R3, h2, h3, h4, h5⟩
  · exact .inl h
  · have hx := wlf hc h1
    rw [h5] at hx
    exact .inr ⟨h1, R1, R2, R3, R3, 0, h2, h3, h4, addonsM_0 hx, rfl, h5⟩
theorem St4.done {ns : List ByteArray} {l : List UInt8} {L : List Line} {s : Bool} {d a : Int} {k : Nat} {wr : Int} (h : St4 ns l L s d a k wr) (hk : (wordsL l).drop k = []) {la : Option Addr} {lc : Nat} : ReadW ns l ⟨la, lc, L, s, d, a⟩ wr := by
  rcases h with h | ⟨h1, R1, R2, R3, R4, an, h2, h3, h4, h5, h6, h7⟩
  · exact .inl h
  · refine .inr ⟨h1, (L.map Line.keyL, s, d, an), ?_, rfl, rfl, rfl, h6⟩
    rw [readM_4 (ns := ns) (R := wordsL l) (R3 := R3) (L := L.map Line.keyL) (d := d) (s := s) (a := an) (by rw [h2]) (by rw [h2]; show (drawsM R1).1 = _; rw [h3]) (by rw [h2]; show sysM (drawsM R1).2 = _; rw [h3]; exact h4) (by rw [h5]), h5]
    exact if_pos (h7.symm.trans hk)
end Go.Proofs.YtifjhpaoejageaaGreatDoor
namespace Go.Proofs.YtifjhpaoejageaaGreatDoor
open Eng
theorem parseO_3 {g : Game} {l : List UInt8} (h : gameErr g = 0) (hl : ¬ 32768 < l.length) {Rf : List Wd} (hr : readM (g.addons.map Addon.name) (wordsL l) = (none, Rf)) : parseO g l = (zK, 1, posR l Rf) := by
  unfold parseO; rw [if_neg (fun hh => hh h), if_neg hl, hr]
theorem parseO_4 {g : Game} {l : List UInt8} (h : gameErr g = 0) (hl : ¬ 32768 < l.length) {k : BetM} {Rf : List Wd} (hr : readM (g.addons.map Addon.name) (wordsL l) = (some k, Rf)) : parseO g l = if betErrK g k ≠ 0 then (zK, betErrK g k, 0) else (k, 0, 0) := by
  unfold parseO; rw [if_neg (fun hh => hh h), if_neg hl, hr]
end Go.Proofs.YtifjhpaoejageaaGreatDoor
namespace Go.Proofs.YtifjhpaoejageaaGreatDoor
open Eng
structure LineOk (g : Game) (l : Line) : Prop where
  g0 : gameErr g = 0
  ml : (l.main.length : Int) = g.main
  bl : (l.bonus.length : Int) = g.bonus
  mi : allIn (if g.kind = 2 then 0 else 1) (if g.kind = 2 then g.of - 1 else g.of) l.main
  bi : allIn 1 g.bonusOf l.bonus
  mn : g.kind ≠ 2 → l.main.Nodup
  bn : l.bonus.Nodup
theorem lineOk {g : Game} {l : Line} (h : lineErr g l = 0) : LineOk g l := by
  unfold lineErr at h
  by_cases h1 : gameErr g ≠ 0
  · rw [if_pos h1] at h; exact absurd h h1
  rw [if_neg h1] at h
  by_cases h2 : (l.main.length : Int) ≠ g.main ∨ (l.bonus.length : Int) ≠ g.bonus
  · rw [if_pos h2] at h; exact absurd h (by decide)
  rw [if_neg h2] at h
  by_cases h3 : ¬ allIn (if g.kind = 2 then 0 else 1) (if g.kind = 2 then g.of - 1 else g.of) l.main ∨ ¬ allIn 1 g.bonusOf l.bonus
  · rw [if_pos h3] at h; exact absurd h (by decide)
  rw [if_neg h3] at h
  by_cases h4 : (g.kind ≠ 2 ∧ ¬ l.main.Nodup) ∨ ¬ l.bonus.Nodup
  · rw [if_pos h4] at h; exact absurd h (by decide)
  exact ⟨Classical.not_not.1 h1, by omega, by omega, Classical.byContradiction fun hc => h3 (.inl hc), Classical.byContradiction fun hc => h3 (.inr hc), fun hk => Classical.byContradiction fun hc => h4 (.inl ⟨hk, hc⟩), Classical.byContradiction fun hc => h4 (.inr hc)⟩
def wE (w : Wd) : List Value := [.string (bA w)]
theorem wE_len (w : Wd) : (wE w).length = 1 := rfl
def Bet.key (b : Bet) : BetM := (b.lines.map Line.keyL, b.system, b.draws, b.addons.toNat)
def gNs (g : Game) : List ByteArray := g.addons.map Addon.name
open Classical in
noncomputable def printL (g : Game) (b : Bet) : List UInt8 := if betErr g b = 0 then joinW (toks (gNs g) b.key) else []
structure BetOk (g : Game) (b : Bet) : Prop where
  g0 : gameErr g = 0
  ln : 1 ≤ b.lines.length ∧ b.lines.length ≤ 16
  ls : ∀ x ∈ b.lines, LnSm x.keyL ∧ x.main.length ≤ 14 ∧ x.bonus.length ≤ 4
  dr : 1 ≤ b.draws ∧ b.draws ≤ 32
  ad : 0 ≤ b.addons ∧ b.addons < 2 ^ g.addons.length
theorem sm_of {lo hi : Int} {l : List Int} (h : allIn lo hi l) (h0 : 0 ≤ lo) (h1 : hi < 100) : ∀ n ∈ l, Sm n := fun n hn => ⟨Int.le_trans h0 (h n hn).1, Int.lt_of_le_of_lt (h n hn).2 h1⟩
theorem line_sm {g : Game} {sys : Bool} {x : Line} (h : sizeE g sys x = 0) : LnSm x.keyL ∧ x.main.length ≤ 14 ∧ x.bonus.length ≤ 4 := by
  have hs := size_small h
  refine ⟨?_, hs.1, hs.2.1⟩
  cases sys with
  | true =>
    have h' : sysErr g x = 0 := h
    have ho := sysOk h'
    have hk := sysG_ok ho.g0
    have hg := gameOk hk.1
    have q2 := hg.mx.h2
    have q4 := hg.mx.h4 (by omega)
    have hbo : g.bonusOf < 100 := by
      by_cases h0 : g.bonus = 0
      · have := hg.mx.h8 h0; omega
      · have := hg.mx.h9 h0; omega
    refine ⟨fun e => ?_, sm_of ho.mi (by decide) (by omega), sm_of ho.bi (by decide) hbo⟩
    have e' : x.main = [] := e
    have := ho.ml.1
    rw [e', List.length_nil] at this
    omega
  | false =>
    have h' : lineErr g x = 0 := h
    have ho := lineOk h'
    have hg := gameOk ho.g0
    have q2 := hg.mx.h2
    have q3 := hg.mx.h3
    have q4 := hg.mx.h4
    have hbo : g.bonusOf < 100 := by
      by_cases h0 : g.bonus = 0
      · have := hg.mx.h8 h0; omega
      · have := hg.mx.h9 h0; omega
    have hmi := ho.mi
    refine ⟨fun e => ?_, ?_, sm_of ho.bi (by decide) hbo⟩
    · have e' : x.main = [] := e
      have := ho.ml
      rw [e', List.length_nil] at this
      omega
    · by_cases hk : g.kind = 2
      · rw [if_pos hk, if_pos hk] at hmi
        have := q3 hk
        exact sm_of hmi (by decide) (by omega)
      · rw [if_neg hk, if_neg hk] at hmi
        have := q4 hk
        exact sm_of hmi (by decide) (by omega)
theorem betOk {g : Game} {b : Bet} (h : betErr g b = 0) : BetOk g b := by
  unfold betErr at h
  by_cases h1 : gameErr g ≠ 0
  · rw [if_pos h1] at h; exact absurd h h1
  rw [if_neg h1] at h
  by_cases h2 : ¬ (1 ≤ b.lines.length ∧ b.lines.length ≤ 16)
  · rw [if_pos h2] at h; exact absurd h (by decide)
  rw [if_neg h2] at h
  by_cases h3 : lnErr g b.system b.lines ≠ 0
  · rw [if_pos h3] at h; exact absurd h h3
  rw [if_neg h3] at h
  by_cases h4 : 1024 < totN g b.system b.lines
  · rw [if_pos h4] at h; exact absurd h (by decide)
  rw [if_neg h4] at h
  by_cases h5 : ¬ (1 ≤ b.draws ∧ b.draws ≤ g.draws)
  · rw [if_pos h5] at h; exact absurd h (by decide)
  rw [if_neg h5] at h
  by_cases h6 : ¬ (0 ≤ b.addons ∧ b.addons < 2 ^ g.addons.length)
  · rw [if_pos h6] at h; exact absurd h (by decide)
  have g0 := Classical.not_not.1 h1
  have hd := (gameOk g0).mx.h13
  have h5' := Classical.not_not.1 h5
  refine ⟨g0, Classical.not_not.1 h2, fun x hx => ?_, ⟨h5'.1, by omega⟩, Classical.not_not.1 h6⟩
  obtain ⟨i, hi⟩ := List.mem_iff_getElem?.1 hx
  have h0 := lnErr_zero.1 (Classical.not_not.1 h3) i (List.getElem?_eq_some_iff.1 hi).1
  exact line_sm (sizeE_of_lnAt hi h0)
theorem addons_each {pre : List Addon} : ∀ {l : List Addon}, addonsFrom pre l = 0 → ∀ a ∈ l, addonErr a = 0
  | [], _, _, h => by cases h
  | b :: l, h, a, ha => by
    unfold addonsFrom at h
    by_cases h1 : addonErr b ≠ 0
    · rw [if_pos h1] at h; exact absurd h h1
    rw [if_neg h1] at h
    by_cases h2 : ∃ c ∈ pre, c.name = b.name ∨ c.kind = b.kind
    · rw [if_pos h2] at h; exact absurd h (by decide)
    rw [if_neg h2] at h
    rcases List.mem_cons.1 ha with rfl | ha
    · exact Classical.not_not.1 h1
    · exact addons_each h a ha
theorem addons_pre {pre : List Addon} : ∀ {l : List Addon}, addonsFrom pre l = 0 → ∀ a ∈ l, ∀ c ∈ pre, c.name ≠ a.name
  | [], _, _, h, _, _ => by cases h
  | b :: l, h, a, ha, c, hc => by
    unfold addonsFrom at h
    by_cases h1 : addonErr b ≠ 0
    · rw [if_pos h1] at h; exact absurd h h1
    rw [if_neg h1] at h
    by_cases h2 : ∃ c ∈ pre, c.name = b.name ∨ c.kind = b.kind
    · rw [if_pos h2] at h; exact absurd h (by decide)
    rw [if_neg h2] at h
    rcases List.mem_cons.1 ha with rfl | ha
    · exact fun e => h2 ⟨c, hc, .inl e⟩
    · exact addons_pre h a ha c (List.mem_append_left _ hc)
theorem addons_dis {pre : List Addon} : ∀ {l : List Addon}, addonsFrom pre l = 0 → ∀ (i j : Nat) (w : ByteArray), (l.map Addon.name)[i]? = some w → (l.map Addon.name)[j]? = some w → i = j
  | [], _, i, _, _, h, _ => by simp at h
  | b :: l, h, i, j, w, hi, hj => by
    have hh := h
    unfold addonsFrom at h
    by_cases h1 : addonErr b ≠ 0
    · rw [if_pos h1] at h; exact absurd h h1
    rw [if_neg h1] at h
    by_cases h2 : ∃ c ∈ pre, c.name = b.name ∨ c.kind = b.kind
    · rw [if_pos h2] at h; exact absurd h (by decide)
    rw [if_neg h2] at h
    have hno : ∀ k, (l.map Addon.name)[k]? ≠ some b.name := fun k hk => by
      rw [List.getElem?_map] at hk
      cases ha : l[k]? with
      | none => rw [ha] at hk; cases hk
      | some a =>
        rw [ha] at hk
        exact addons_pre h a (List.mem_of_getElem? ha) b (List.mem_append_right _ (List.mem_cons_self ..)) (Option.some.inj hk).symm
    cases i with
    | zero =>
      cases j with
      | zero => rfl
      | succ j =>
        have hi' : some b.name = some w := hi
        have hj' : (l.map Addon.name)[j]? = some w := hj
        rw [← hi'] at hj'
        exact absurd hj' (hno j)
    | succ i =>
      cases j with
      | zero =>
        have hi' : (l.map Addon.name)[i]? = some w := hi
        have hj' : some b.name = some w := hj
        rw [← hj'] at hi'
        exact absurd hi' (hno i)
      | succ j => rw [addons_dis h i j w hi hj]
theorem ad_from {g : Game} (h : GameOk g) : addonsFrom [] g.addons = 0 := by
  have := h.ad
  unfold addonsErr at this
  split at this
  · cases this
  · exact this
theorem gNs_dis {g : Game} (h : GameOk g) : Dis (gNs g) := addons_dis (ad_from h)
theorem gNs_name {g : Game} (h : GameOk g) : ∀ w ∈ gNs g, nameB w = true := fun w hw => by
  obtain ⟨a, ha, rfl⟩ := List.mem_map.1 hw
  have := addons_each (ad_from h) a ha
  unfold addonErr at this
  by_cases h1 : nameB a.name = false
  · rw [if_pos h1] at this; cases this
  · exact (Bool.not_eq_false _).mp h1
theorem name_ns {w : ByteArray} (h : nameB w = true) : (32 : UInt8) ∉ w.data.toList ∧ w ≠ bA [] ∧ w.data.toList.length ≤ 24 := by
  unfold nameB at h
  simp only [Bool.and_eq_true] at h
  obtain ⟨⟨h1, h2⟩, h3⟩ := h
  have h1' := of_decide_eq_true h1
  refine ⟨fun hm => ?_, fun e => ?_, ?_⟩
  · exact absurd (List.all_eq_true.1 h3 32 hm) (by decide)
  · rw [e] at h1'; exact absurd h1'.1 (by decide)
  · rw [size_list]; exact h1'.2
theorem gNs_len (g : Game) : (gNs g).length = g.addons.length := List.length_map ..
theorem bet_sm {g : Game} {b : Bet} (h : BetOk g b) : BetSm (gNs g) b.key := by
  refine ⟨fun e => ?_, fun x hx => ?_, ⟨by have := h.dr; show 0 ≤ b.draws; omega, by have := h.dr; show b.draws < 100; omega⟩, ?_⟩
  · have h1 := congrArg List.length (show b.lines.map Line.keyL = [] from e)
    rw [List.length_map, List.length_nil] at h1
    have := h.ln; omega
  · obtain ⟨y, hy, rfl⟩ := List.mem_map.1 (show x ∈ b.lines.map Line.keyL from hx)
    exact (h.ls y hy).1
  · show b.addons.toNat < 2 ^ (gNs g).length
    rw [gNs_len]
    have h2 := h.ad
    have h3 : ((2 ^ g.addons.length : Nat) : Int) = 2 ^ g.addons.length := by simp
    omega
theorem fmtW {m : Mem} {n : Int} (h : Sm n) : PureCall Tryz.prog 26 [.int .i64 n] m (.string (bA (decW n))) := by
  obtain ⟨k, rfl⟩ : ∃ k : Nat, n = k := ⟨n.toNat, by have := h.1; omega⟩
  exact fmtI k (by have := h.2; omega)
theorem lnsTok_step {K : List LnK} {i : Nat} {x : LnK} (h : K[i]? = some x) : lnsTok (K.take (i + 1)) = (lnsTok (K.take i) ++ (if 0 < i then [[47]] else [])) ++ lnTok x := by
  rw [take_snocA h]
  cases i with
  | zero => rw [List.take_zero]; rfl
  | succ i =>
    rw [lnsTok_snoc _ _ (fun e => by
      have h1 := congrArg List.length e
      have h2 := (List.getElem?_eq_some_iff.1 h).1
      rw [List.length_take, List.length_nil] at h1; omega), if_pos (by omega), List.append_assoc]
    rfl
theorem lnTok_le {x : Line} (h1 : x.main.length ≤ 14) (h2 : x.bonus.length ≤ 4) : (lnTok x.keyL).length ≤ 19 := by
  have e : (lnTok x.keyL).length = x.main.length + (if x.bonus = [] then [] else [43] :: x.bonus.map decW : List Wd).length := by
    show (x.main.map decW ++ _).length = _
    rw [List.length_append, List.length_map]
    rfl
  rw [e]
  split
  · simp; omega
  · simp; omega
theorem addTokF_snoc (ns : List ByteArray) (a k : Nat) : addTokF ns a 0 (k + 1) = addTokF ns a 0 k ++ (if a.testBit k = true then [nmAt ns k] else []) := by
  unfold addTokF
  rw [show List.range' 0 (k + 1) = List.range' 0 k ++ [k] by rw [List.range'_concat]; simp, List.filter_append, List.map_append]
  by_cases h : a.testBit k = true
  · rw [if_pos h, List.filter_cons, if_pos h]; rfl
  · rw [if_neg h, List.filter_cons, if_neg h]; rfl
theorem addTokF_le (ns : List ByteArray) (a : Nat) : ∀ k, (addTokF ns a 0 k).length ≤ k
  | 0 => Nat.le_refl _
  | k + 1 => by
    rw [addTokF_snoc, List.length_append]
    have := addTokF_le ns a k
    split <;> simp <;> omega
theorem bit_gF : ∀ (a : Fin 16) (i : Fin 4), bits .and .i64 (((a.val : Nat) : Int).fdiv (2 ^ (min ((i.val : Nat) : Int).toNat IntKind.i64.bits))) 1 = if a.val.testBit i.val = true then 1 else 0 := by decide +kernel
theorem bit_g {a i : Nat} (ha : a < 16) (hi : i < 4) : bits .and .i64 (((a : Nat) : Int).fdiv (2 ^ (min ((i : Nat) : Int).toNat IntKind.i64.bits))) 1 = if a.testBit i = true then 1 else 0 := bit_gF ⟨a, ha⟩ ⟨i, hi⟩
theorem bit_is {a i : Nat} : ((if a.testBit i = true then 1 else 0 : Int) = 1) ↔ a.testBit i = true := by
  by_cases h : a.testBit i = true
  · rw [if_pos h]; exact ⟨fun _ => h, fun _ => rfl⟩
  · rw [if_neg h]; exact ⟨fun e => absurd e (by decide), fun e => absurd e h⟩
theorem joinW_len : ∀ (T : List Wd) (n : Nat), (∀ w ∈ T, w.length ≤ n) → (joinW T).length ≤ (n + 1) * T.length
  | [], n, _ => by simp [joinW]
  | [w], n, h => by
    have := h w (List.mem_cons_self ..)
    show w.length ≤ (n + 1) * 1
    omega
  | w :: v :: ws, n, h => by
    have ih := joinW_len (v :: ws) n (fun x hx => h x (List.mem_cons_of_mem _ hx))
    have := h w (List.mem_cons_self ..)
    rw [joinW_cons (by simp), List.length_append, List.length_cons, List.length_cons, Nat.mul_succ]
    omega
theorem lib_join : ∀ (T : List Wd), Lib.join T [32] = joinW T
  | [] => rfl
  | [w] => by show [32].intercalate [w] = w; simp [List.intercalate]
  | w :: v :: ws => by
    have ih := lib_join (v :: ws)
    show [32].intercalate (w :: v :: ws) = w ++ 32 :: joinW (v :: ws)
    rw [← ih]
    show [32].intercalate (w :: v :: ws) = w ++ 32 :: [32].intercalate (v :: ws)
    simp [List.intercalate]
theorem joinI {m : Mem} {a : Option Addr} {c : Nat} {T : List Wd} (h : RL m wE 1 (.slice a T.length c) T) (hne : T ≠ []) (hl : T.length ≤ 1000000) (hb : (joinW T).length ≤ 100000000) : PureCall Tryz.prog 27 [.slice a T.length c, .string (bA [32])] m (.string (bA (joinW T))) := fun σ => by
  refine CallsS.below fun g W hC => ?_
  obtain ⟨a', c', e, hc⟩ := h.full
  cases e
  obtain ⟨w0, hw0⟩ : ∃ w, T[0]? = some w := ⟨_, List.getElem?_eq_getElem (List.length_pos_iff.2 hne)⟩
  obtain ⟨ad, rfl, _, hat0⟩ := h.atA wE_len hw0
  have hcell : ∀ (j : Nat) (w : Wd), T[j]? = some w → W.cell? (ad.add j) = some (.string (bA w)) := fun j w hj => by
    obtain ⟨ad2, e2, _, hat⟩ := h.atA wE_len hj
    cases e2
    have := hC.cell? (hat 0 (.string (bA w)) rfl)
    rw [Nat.mul_one] at this
    exact this
  have h0 := hcell 0 w0 hw0
  have hsp : ad.spot = none := by
    have h1 := hat0 0 (.string (bA w0)) rfl
    unfold Mem.cell at h1
    cases hs : ad.spot with
    | none => rfl
    | some z =>
      have e3 : ((ad.add (0 * 1)).add 0).spot = some z := hs
      rw [e3] at h1
      cases hm : m ((ad.add (0 * 1)).add 0).block with
      | none => rw [hm] at h1; cases h1
      | some o => rw [hm] at h1; cases h1
  have hlt : ad.block < W.heap.size := by
    have h1 : W.cell? (ad.add 0) = some (.string (bA w0)) := h0
    unfold World.cell? at h1
    cases hh : W.heap[(ad.add 0).block]? with
    | none => rw [hh] at h1; cases h1
    | some o => exact (Array.getElem?_eq_some_iff.1 hh).1
  have ead : ad = ⟨ad.block, ad.off, none⟩ := by
    cases ad; simp only at hsp; subst hsp; rfl
  have key := Tryz.strings_Join ad.block ad.off c (T.map bA) (bA [32]) W (fun j x hj => by
    rw [List.getElem?_map] at hj
    cases hw : T[j]? with
    | none => rw [hw] at hj; cases hj
    | some w =>
      rw [hw] at hj
      have := hcell j w hw
      rw [show (Option.map bA (some w)) = some (bA w) from rfl] at hj
      rw [← Option.some.inj hj]
      rw [ead, show (Addr.add ⟨ad.block, ad.off, none⟩ j) = ⟨ad.block, ad.off + j, none⟩ by simp [Addr.add]] at this
      exact this) hlt (by rw [List.length_map]; omega) (by rw [List.length_map]; exact hc) (by
    rw [List.map_map, show (fun x : ByteArray => x.data.toList) ∘ bA = id from by funext w; simp [bA], List.map_id]
    show (Lib.join T [32]).length ≤ _
    rw [lib_join]; omega)
  rw [List.length_map, List.map_map, show (fun x : ByteArray => x.data.toList) ∘ bA = id from by funext w; simp [bA], List.map_id] at key
  rw [← ead] at key
  have e9 : (Lib.join T (bA [32]).data.toList) = joinW T := lib_join T
  rw [e9] at key
  exact key
theorem toks_short {g : Game} {b : Bet} (h : BetOk g b) : ∀ w ∈ toks (gNs g) b.key, w.length ≤ 24 := by
  have hs := bet_sm h
  have hg := gameOk h.g0
  have hln : ∀ x, LnSm x → ∀ w ∈ lnTok x, w.length ≤ 24 := fun x hx w hw => by
    simp only [lnTok, List.mem_append] at hw
    rcases hw with hw | hw
    · obtain ⟨n, hn, rfl⟩ := List.mem_map.1 hw; have := decW_len (hx.m n hn); omega
    · by_cases h2 : x.2 = []
      · rw [if_pos h2] at hw; cases hw
      · rw [if_neg h2] at hw
        rcases List.mem_cons.1 hw with rfl | hw
        · decide
        · obtain ⟨n, hn, rfl⟩ := List.mem_map.1 hw; have := decW_len (hx.b n hn); omega
  have hls : ∀ L : List LnK, (∀ x ∈ L, LnSm x) → ∀ w ∈ lnsTok L, w.length ≤ 24 := by
    intro L
    induction L with
    | nil => exact fun _ w hw => absurd hw (by simp [lnsTok])
    | cons x r ih =>
      intro hL w hw
      cases r with
      | nil => exact hln x (hL x (List.mem_cons_self ..)) w hw
      | cons y r =>
        rw [lnsTok_cons x (by simp)] at hw
        rcases List.mem_append.1 hw with hw | hw
        · exact hln x (hL x (List.mem_cons_self ..)) w hw
        · rcases List.mem_cons.1 hw with rfl | hw
          · decide
          · exact ih (fun z hz => hL z (List.mem_cons_of_mem _ hz)) w hw
  intro w hw
  simp only [toks, tailTok, List.mem_append] at hw
  rcases hw with hw | hw | hw | hw | hw
  · exact hls _ hs.ls w hw
  · by_cases h1 : b.key.2.2.1 ≠ 1
    · rw [if_pos h1] at hw
      rcases List.mem_cons.1 hw with rfl | hw
      · decide
      · rw [List.mem_singleton.1 hw]; have := decW_len hs.d; omega
    · rw [if_neg h1] at hw; cases hw
  · by_cases h1 : b.key.2.1 = true
    · rw [if_pos h1, List.mem_singleton] at hw; subst hw; decide
    · rw [if_neg h1] at hw; cases hw
  · by_cases h1 : b.key.2.2.2 ≠ 0
    · rw [if_pos h1, List.mem_singleton] at hw; subst hw; decide
    · rw [if_neg h1] at hw; cases hw
  · unfold addTok addTokF at hw
    obtain ⟨i, hi, rfl⟩ := List.mem_map.1 hw
    have hi2 := List.mem_range'_1.1 (List.mem_filter.1 hi).1
    obtain ⟨v, hv⟩ : ∃ v, (gNs g)[i]? = some v := ⟨_, List.getElem?_eq_getElem (by omega)⟩
    unfold nmAt
    rw [hv]
    exact (name_ns (gNs_name hg v (List.mem_of_getElem? hv))).2.2
end Go.Proofs.YtifjhpaoejageaaGreatDoor
namespace Go.Proofs.YtifjhpaoejageaaGreatDoor
open Eng
theorem ite_len {c : Prop} [Decidable c] {l : List Wd} {n : Nat} (h : l.length ≤ n) : (if c then l else []).length ≤ n := by
  split
  · exact h
  · exact Nat.zero_le _
set_option maxRecDepth 100000 in
theorem printG {m : Mem} {g : Game} {b : Bet} (hin : g.In m) (hb : b.In m) : PureCall Tryz.prog 15 [g.val, b.val] m (.tuple #[.string (bA (printL g b)), .int .i64 (betErr g b)]) := by
  refine CallsS.pure ?_
  dsimp only [Game.val, Bet.val]
  refine enter Tryz.func15 Tryz.ntmps15 rfl rfl ?_
  refine SWP_seq (SWP_region ?_)
  refine bx (v := .agg _) rfl rfl (fun B2 => ?_)
  refine bx (v := .agg _) rfl rfl (fun B3 => ?_)
  refine pS rfl rfl ?_
  refine pI rfl rfl ?_
  refine SL_nil (nx (SWP_seq (SWP_seq (SWP_region ?_))))
  refine lw (v := .agg _) B2 0 rfl rfl rfl rfl ?_
  refine lw (v := .agg _) B3 0 rfl rfl rfl rfl ?_
  refine SL_pcall rfl rfl cb22 (betI hin hb) rfl ?_
  first | refine pI rfl rfl ?_ | refine pu rfl rfl ?_
  refine SL_nil (nx (SWP_seq (SWP_region ?_)))
  first | refine pI rfl rfl ?_ | refine pu rfl rfl ?_
  refine pc rfl rfl (fun c20 => ?_) (fun c20 => ?_)
  · skip
    refine SL_nil (nx (SWP_ct rfl (SWP_seq (SWP_region ?_))))
    first | refine pI rfl rfl ?_ | refine pu rfl rfl ?_
    refine pS rfl rfl ?_
    first | refine pI rfl rfl ?_ | refine pu rfl rfl ?_
    refine SL_nil (nx (SWP_ret (nr ?_)))
    refine fin [_, _] ⟨rfl, rfl, trivial⟩ ?_
    unfold printL
    rw [if_neg (by assumption)]
    rfl
  refine SL_nil (nx (SWP_cf rfl (SWP_skip (nx (SWP_seq ?_)))))
  have hz : betErr g b = 0 := Classical.not_not.1 (by assumption)
  have hok := betOk hz
  have hln := hok.ln
  have hdr : Sm b.draws := (bet_sm hok).d
  have hKl : (b.lines.map Line.keyL).length = b.lines.length := List.length_map ..
  refine SWP_region ?_
  refine pL rfl rfl ?_
  refine SL_nil (nx (SWP_seq (SWP_seq (SWP_region ?_))))
  refine pu rfl rfl ?_
  refine lw (v := .slice _ _ _) B3 0 rfl rfl rfl rfl ?_
  refine pu rfl rfl ?_
  refine pI rfl rfl ?_
  refine SL_nil (nx (SWP_block ?_))
  refine SWP_loop [7, 8, 9, 11, 13, 25, 26, 27, 28, 29, 30, 31, 32, 33, 34, 35, 36, 37, 38, 39, 40, 41, 42, 43, 44, 45, 46, 47, 48, 49, 50, 51, 52, 53, 54, 55, 56, 57, 58, 59, 60, 61, 62, 63, 64, 65, 66, 67, 68] [7, 25]
      (fun vs σ' m' => ∃ (i : Nat) (a : Option Addr) (c : Nat) (σe : Sig), vs = [.slice a ((lnsTok ((b.lines.map Line.keyL).take i))).length c, .int .i64 (i : Nat)] ∧ i ≤ b.lines.length ∧ OwnS 9 1 (.slice a ((lnsTok ((b.lines.map Line.keyL).take i))).length c) (((lnsTok ((b.lines.map Line.keyL).take i))).flatMap wE) σe ∧ ((lnsTok ((b.lines.map Line.keyL).take i))).length ≤ 20 * i ∧ σ' = (B3, Cells 30 b.enc) :: (B2, Cells 25 g.enc) :: σe ∧ m = m')
      (fun vs => b.lines.length - nOf (vs.getD 1 undef)) rfl ?_ ?_
  · exact ⟨0, none, 0, [], rfl, by omega, .nil, Nat.le_refl _, rfl, rfl⟩
  intro u0 vs0 σ0 m0 hJ0 _
  obtain ⟨i, a, c, σe, rfl, hi, hown, hBl, rfl, rfl⟩ := hJ0
  refine SWP_seq (SWP_region ?_)
  refine pc rfl rfl (fun c26 => ?_) (fun c26 => ?_)
  · skip
    refine SL_nil (nx (SWP_seq (SWP_ct rfl (SWP_skip (nx (SWP_seq (SWP_block (SWP_seq ?_))))))))
    obtain ⟨x, hxi⟩ : ∃ x, b.lines[i]? = some x := ⟨_, List.getElem?_eq_getElem (by omega)⟩
    have hx := hok.ls x (List.mem_of_getElem? hxi)
    have hxin := hb.each x (List.mem_of_getElem? hxi)
    obtain ⟨ad, e0, _, hat⟩ := hb.ls.atA Line.enc_len hxi
    have hKi : (b.lines.map Line.keyL)[i]? = some x.keyL := by rw [List.getElem?_map, hxi]; rfl
    have hp3 : (if 0 < i then [[47]] else [] : List Wd).length ≤ 1 := by split <;> simp
    have hTBl : (lnsTok ((b.lines.map Line.keyL).take i) ++ (if 0 < i then [[47]] else [])).length ≤ 20 * i + 1 := by rw [List.length_append]; omega
    refine SWP_region ?_
    first | refine pI rfl rfl ?_ | refine pu rfl rfl ?_
    refine ia (es := 2) (ad := ad) rfl rfl rfl rfl (by show Value.slice b.la _ _ = _; rw [e0]) rfl (by omega) rfl ?_
    refine ldA (v := x.val) rfl hat rfl rfl ?_
    refine al rfl rfl (fun B9 => ?_)
    first | refine pI rfl rfl ?_ | refine pu rfl rfl ?_
    refine swE B9 0 x.enc rfl rfl rfl rfl rfl rfl rfl rfl ?_
    refine SL_nil (nx ?_)
    refine SWP_merge1 [7, 30, 31, 32, 33, 34] [7]
        (fun vs σ' m' => ∃ (a : Option Addr) (c : Nat) (σe : Sig), vs = [.slice a ((lnsTok ((b.lines.map Line.keyL).take i) ++ (if 0 < i then [[47]] else []))).length c] ∧ OwnS 9 1 (.slice a ((lnsTok ((b.lines.map Line.keyL).take i) ++ (if 0 < i then [[47]] else []))).length c) (((lnsTok ((b.lines.map Line.keyL).take i) ++ (if 0 < i then [[47]] else []))).flatMap wE) σe ∧ σ' = (B9, Cells 50 x.enc) :: (B3, Cells 30 b.enc) :: (B2, Cells 25 g.enc) :: σe ∧ m = m')
        rfl ?_ ?_
    · skip
      refine SWP_seq (SWP_region ?_)
      first | refine pI rfl rfl ?_ | refine pu rfl rfl ?_
      refine pc rfl rfl (fun c31 => ?_) (fun c31 => ?_)
      · skip
        refine SL_nil (nx (SWP_ct rfl (SWP_region ?_)))
        first | refine pL rfl rfl ?_ | refine pu rfl rfl ?_
        refine bs (cs := [.string (bA [47])]) rfl rfl rfl rfl rfl (fun B99 => ?_)
        refine ap (e := 9) (size := 1) (bytes := 16) rfl rfl rfl rfl rfl rfl rfl hown (List.perm_append_comm (l₁ := [_, _, _, _]) (l₂ := σe)) rfl (Rd.of_cells (.head _)) rfl rfl (by rw [flatMap_len wE_len]; omega) rfl rfl (fun v99 σ9 hown9 => ?_)
        refine SL_weak (List.Sublist.append_left (List.sublist_cons_self _ _) _) ?_
        refine SL_perm (σ' := _ :: _ :: _ :: σ9) (List.perm_append_comm (l₂ := [_, _, _])) ?_
        have hown8 : OwnS 9 1 v99 (((lnsTok ((b.lines.map Line.keyL).take i)) ++ [[47]]).flatMap wE) σ9 := by rw [List.flatMap_append]; exact hown9
        obtain ⟨a5, c5, e5⟩ := hown8.lenL (by omega) wE_len
        subst e5
        first | refine pL rfl rfl ?_ | refine pu rfl rfl ?_
        refine SL_nil (nx ?_)
        refine ⟨by repeat (first | with_reducible exact Under.refl _ _ | exact Under.upds rfl (Under.hav _ _ _) | exact Under.hav _ _ _ | refine Under.upd rfl ?_ | refine Under.upds rfl ?_ | refine Under.hav2 rfl ?_), ?_⟩
        first
        | (refine ⟨a5, c5, σ9, ?_⟩
           rw [if_pos (show 0 < i by omega)]
           exact ⟨rfl, hown8, rfl, rfl⟩)
        | (refine ⟨a, c, σe, ?_⟩
           rw [if_neg (show ¬ 0 < i by omega), List.append_nil]
           exact ⟨rfl, hown, rfl, rfl⟩)
      refine SL_nil (nx (SWP_cf rfl (SWP_skip (nx ?_))))
      refine ⟨by repeat (first | with_reducible exact Under.refl _ _ | exact Under.upds rfl (Under.hav _ _ _) | exact Under.hav _ _ _ | refine Under.upd rfl ?_ | refine Under.upds rfl ?_ | refine Under.hav2 rfl ?_), ?_⟩
      first
      | (refine ⟨a5, c5, σ9, ?_⟩
         rw [if_pos (show 0 < i by omega)]
         exact ⟨rfl, hown8, rfl, rfl⟩)
      | (refine ⟨a, c, σe, ?_⟩
         rw [if_neg (show ¬ 0 < i by omega), List.append_nil]
         exact ⟨rfl, hown, rfl, rfl⟩)
    intro uM0 vM0 σM0 mM0 hM0 _
    obtain ⟨a, c, σe, rfl, hown, rfl, rfl⟩ := hM0
    refine SWP_seq (SWP_seq (SWP_region ?_))
    refine pu rfl rfl ?_
    refine lw (v := .slice x.ma x.main.length x.mc) B9 0 rfl rfl rfl rfl ?_
    refine pu rfl rfl ?_
    first | refine pI rfl rfl ?_ | refine pu rfl rfl ?_
    refine SL_nil (nx (SWP_block ?_))
    refine SWP_loop [7, 11, 38, 39, 40, 41, 42, 43, 44, 45, 46, 47] [7, 38]
        (fun vs σ' m' => ∃ (j : Nat) (a : Option Addr) (c : Nat) (σe : Sig), vs = [.slice a ((lnsTok ((b.lines.map Line.keyL).take i) ++ (if 0 < i then [[47]] else [])) ++ (x.main.take j).map decW).length c, .int .i64 (j : Nat)] ∧ j ≤ x.main.length ∧ OwnS 9 1 (.slice a ((lnsTok ((b.lines.map Line.keyL).take i) ++ (if 0 < i then [[47]] else [])) ++ (x.main.take j).map decW).length c) (((lnsTok ((b.lines.map Line.keyL).take i) ++ (if 0 < i then [[47]] else [])) ++ (x.main.take j).map decW).flatMap wE) σe ∧ σ' = (B9, Cells 50 x.enc) :: (B3, Cells 30 b.enc) :: (B2, Cells 25 g.enc) :: σe ∧ m = m')
        (fun vs => x.main.length - nOf (vs.getD 1 undef)) rfl ?_ ?_
    · exact ⟨0, a, c, σe, by rw [List.take_zero, List.map_nil, List.append_nil]; rfl, by omega, by rw [List.take_zero, List.map_nil, List.append_nil]; exact hown, rfl, rfl⟩
    intro u1 vs1 σ1 m1 hJ1 _
    obtain ⟨j, a, c, σe, rfl, hj, hown, rfl, rfl⟩ := hJ1
    have hTl : ((lnsTok ((b.lines.map Line.keyL).take i) ++ (if 0 < i then [[47]] else [])) ++ (x.main.take j).map decW).length ≤ 20 * i + 20 := by simp only [List.length_append, List.length_map, List.length_take]; omega
    refine SWP_seq (SWP_region ?_)
    refine pc rfl rfl (fun c39 => ?_) (fun c39 => ?_)
    · skip
      refine SL_nil (nx (SWP_seq (SWP_ct rfl (SWP_skip (nx (SWP_seq (SWP_block (SWP_seq (SWP_region ?_)))))))))
      obtain ⟨n, hn⟩ : ∃ n, x.main[j]? = some n := ⟨_, List.getElem?_eq_getElem (by omega)⟩
      obtain ⟨ad9, e9, _, hat9⟩ := hxin.mn.atI hn
      refine ia (es := 1) (ad := ad9) rfl rfl rfl (Nat.mul_one _) (by show Value.slice x.ma _ _ = _; rw [e9]) rfl (by omega) rfl ?_
      refine ldA (v := .int .i64 n) rfl hat9 rfl rfl ?_
      first | refine pI rfl rfl ?_ | refine pu rfl rfl ?_
      refine SL_nil (nx (SWP_region ?_))
      first | refine pL rfl rfl ?_ | refine pu rfl rfl ?_
      first | refine pI rfl rfl ?_ | refine pu rfl rfl ?_
      refine SL_pcall rfl rfl cb26 (fmtW (hx.1.m n (List.mem_of_getElem? hn))) rfl ?_
      refine bs (cs := [.string (bA (decW n))]) rfl rfl rfl rfl rfl (fun B99 => ?_)
      refine ap (e := 9) (size := 1) (bytes := 16) rfl rfl rfl rfl rfl rfl rfl hown (List.perm_append_comm (l₁ := [_, _, _, _]) (l₂ := σe)) rfl (Rd.of_cells (.head _)) rfl rfl (by rw [flatMap_len wE_len]; omega) rfl rfl (fun v99 σ9 hown9 => ?_)
      refine SL_weak (List.Sublist.append_left (List.sublist_cons_self _ _) _) ?_
      refine SL_perm (σ' := _ :: _ :: _ :: σ9) (List.perm_append_comm (l₂ := [_, _, _])) ?_
      have hown8 : OwnS 9 1 v99 (((lnsTok ((b.lines.map Line.keyL).take i) ++ (if 0 < i then [[47]] else [])) ++ (x.main.take j).map decW ++ [decW n]).flatMap wE) σ9 := by rw [List.flatMap_append]; exact hown9
      obtain ⟨a5, c5, e5⟩ := hown8.lenL (by omega) wE_len
      subst e5
      first | refine pL rfl rfl ?_ | refine pu rfl rfl ?_
      refine SL_nil (nb (nx (SWP_region ?_)))
      first | refine pw rfl rfl (w64 (by omega) (by omega)) ?_ | refine pu rfl rfl ?_
      refine pI rfl rfl ?_
      refine SL_nil (nx ?_)
      refine ⟨by repeat (first | exact Under.upds rfl (Under.hav _ _ _) | exact Under.hav _ _ _ | refine Under.upd rfl ?_ | refine Under.upds rfl ?_ | refine Under.hav2 rfl ?_), ?_, ?_⟩
      · have e1 : ((lnsTok ((b.lines.map Line.keyL).take i) ++ (if 0 < i then [[47]] else [])) ++ (x.main.take j).map decW) ++ [decW n] = (lnsTok ((b.lines.map Line.keyL).take i) ++ (if 0 < i then [[47]] else [])) ++ (x.main.take (j + 1)).map decW := by rw [take_snocA hn, List.map_append]; simp only [List.append_assoc, List.map_cons, List.map_nil]
        rw [e1] at hown8
        rw [e1]
        exact ⟨j + 1, a5, c5, σ9, rfl, by omega, hown8, rfl, rfl⟩
      · simp only [L_vals, List.map, List.getD]; show x.main.length - (j + 1) < x.main.length - j; omega
    refine SL_nil (nx (SWP_seq (SWP_cf rfl (SWP_exit (ne (ne (be rfl (nx ?_))))))))
    have hj1 : j = x.main.length := by omega
    subst hj1
    rw [List.take_length] at hown hTl
    rw [List.take_length]
    refine SWP_merge1 [7, 48, 49, 50, 51, 52, 53, 54] [7]
        (fun vs σ' m' => ∃ (a : Option Addr) (c : Nat) (σe : Sig), vs = [.slice a ((lnsTok ((b.lines.map Line.keyL).take i) ++ (if 0 < i then [[47]] else [])) ++ x.main.map decW ++ (if x.bonus = [] then [] else [[43]])).length c] ∧ OwnS 9 1 (.slice a ((lnsTok ((b.lines.map Line.keyL).take i) ++ (if 0 < i then [[47]] else [])) ++ x.main.map decW ++ (if x.bonus = [] then [] else [[43]])).length c) (((lnsTok ((b.lines.map Line.keyL).take i) ++ (if 0 < i then [[47]] else [])) ++ x.main.map decW ++ (if x.bonus = [] then [] else [[43]])).flatMap wE) σe ∧ σ' = (B9, Cells 50 x.enc) :: (B3, Cells 30 b.enc) :: (B2, Cells 25 g.enc) :: σe ∧ m = m')
        rfl ?_ ?_
    · skip
      refine SWP_seq (SWP_region ?_)
      refine pu rfl rfl ?_
      refine lw (v := .slice x.ba x.bonus.length x.bc) B9 1 rfl rfl rfl rfl ?_
      refine pu rfl rfl ?_
      refine pc rfl rfl (fun c51 => ?_) (fun c51 => ?_)
      · skip
        refine SL_nil (nx (SWP_ct rfl (SWP_region ?_)))
        first | refine pL rfl rfl ?_ | refine pu rfl rfl ?_
        refine bs (cs := [.string (bA [43])]) rfl rfl rfl rfl rfl (fun B99 => ?_)
        refine ap (e := 9) (size := 1) (bytes := 16) rfl rfl rfl rfl rfl rfl rfl hown (List.perm_append_comm (l₁ := [_, _, _, _]) (l₂ := σe)) rfl (Rd.of_cells (.head _)) rfl rfl (by rw [flatMap_len wE_len]; omega) rfl rfl (fun v99 σ9 hown9 => ?_)
        refine SL_weak (List.Sublist.append_left (List.sublist_cons_self _ _) _) ?_
        refine SL_perm (σ' := _ :: _ :: _ :: σ9) (List.perm_append_comm (l₂ := [_, _, _])) ?_
        have hown8 : OwnS 9 1 v99 (((lnsTok ((b.lines.map Line.keyL).take i) ++ (if 0 < i then [[47]] else [])) ++ x.main.map decW ++ [[43]]).flatMap wE) σ9 := by rw [List.flatMap_append]; exact hown9
        obtain ⟨a5, c5, e5⟩ := hown8.lenL (by omega) wE_len
        subst e5
        first | refine pL rfl rfl ?_ | refine pu rfl rfl ?_
        refine SL_nil (nx ?_)
        refine ⟨by repeat (first | with_reducible exact Under.refl _ _ | exact Under.upds rfl (Under.hav _ _ _) | exact Under.hav _ _ _ | refine Under.upd rfl ?_ | refine Under.upds rfl ?_ | refine Under.hav2 rfl ?_), ?_⟩
        first
        | (refine ⟨a5, c5, σ9, ?_⟩
           rw [if_neg (show ¬ x.bonus = [] from fun e => by have h0 := congrArg List.length e; rw [List.length_nil] at h0; omega)]
           exact ⟨rfl, hown8, rfl, rfl⟩)
        | (refine ⟨a, c, σe, ?_⟩
           rw [if_pos (show x.bonus = [] from List.eq_nil_of_length_eq_zero (by omega)), List.append_nil]
           exact ⟨rfl, hown, rfl, rfl⟩)
      refine SL_nil (nx (SWP_cf rfl (SWP_skip (nx ?_))))
      refine ⟨by repeat (first | with_reducible exact Under.refl _ _ | exact Under.upds rfl (Under.hav _ _ _) | exact Under.hav _ _ _ | refine Under.upd rfl ?_ | refine Under.upds rfl ?_ | refine Under.hav2 rfl ?_), ?_⟩
      first
      | (refine ⟨a5, c5, σ9, ?_⟩
         rw [if_neg (show ¬ x.bonus = [] from fun e => by have h0 := congrArg List.length e; rw [List.length_nil] at h0; omega)]
         exact ⟨rfl, hown8, rfl, rfl⟩)
      | (refine ⟨a, c, σe, ?_⟩
         rw [if_pos (show x.bonus = [] from List.eq_nil_of_length_eq_zero (by omega)), List.append_nil]
         exact ⟨rfl, hown, rfl, rfl⟩)
    intro uM1 vM1 σM1 mM1 hM1 _
    obtain ⟨a, c, σe, rfl, hown, rfl, rfl⟩ := hM1
    refine SWP_seq (SWP_region ?_)
    refine pu rfl rfl ?_
    refine lw (v := .slice x.ba x.bonus.length x.bc) B9 1 rfl rfl rfl rfl ?_
    refine pu rfl rfl ?_
    first | refine pI rfl rfl ?_ | refine pu rfl rfl ?_
    refine SL_nil (nx (SWP_block ?_))
    refine SWP_loop [7, 13, 58, 59, 60, 61, 62, 63, 64, 65, 66, 67] [7, 58]
        (fun vs σ' m' => ∃ (j : Nat) (a : Option Addr) (c : Nat) (σe : Sig), vs = [.slice a (((lnsTok ((b.lines.map Line.keyL).take i) ++ (if 0 < i then [[47]] else [])) ++ x.main.map decW ++ (if x.bonus = [] then [] else [[43]])) ++ (x.bonus.take j).map decW).length c, .int .i64 (j : Nat)] ∧ j ≤ x.bonus.length ∧ OwnS 9 1 (.slice a (((lnsTok ((b.lines.map Line.keyL).take i) ++ (if 0 < i then [[47]] else [])) ++ x.main.map decW ++ (if x.bonus = [] then [] else [[43]])) ++ (x.bonus.take j).map decW).length c) ((((lnsTok ((b.lines.map Line.keyL).take i) ++ (if 0 < i then [[47]] else [])) ++ x.main.map decW ++ (if x.bonus = [] then [] else [[43]])) ++ (x.bonus.take j).map decW).flatMap wE) σe ∧ σ' = (B9, Cells 50 x.enc) :: (B3, Cells 30 b.enc) :: (B2, Cells 25 g.enc) :: σe ∧ m = m')
        (fun vs => x.bonus.length - nOf (vs.getD 1 undef)) rfl ?_ ?_
    · exact ⟨0, a, c, σe, by rw [List.take_zero, List.map_nil, List.append_nil]; rfl, by omega, by rw [List.take_zero, List.map_nil, List.append_nil]; exact hown, rfl, rfl⟩
    intro u2 vs2 σ2 m2 hJ2 _
    obtain ⟨j, a, c, σe, rfl, hj, hown, rfl, rfl⟩ := hJ2
    have hp4 : (if x.bonus = [] then [] else [[43]] : List Wd).length ≤ 1 := by split <;> simp
    have hTl : (((lnsTok ((b.lines.map Line.keyL).take i) ++ (if 0 < i then [[47]] else [])) ++ x.main.map decW ++ (if x.bonus = [] then [] else [[43]])) ++ (x.bonus.take j).map decW).length ≤ 20 * i + 40 := by simp only [List.length_append, List.length_map, List.length_take]; omega
    refine SWP_seq (SWP_region ?_)
    refine pc rfl rfl (fun c59 => ?_) (fun c59 => ?_)
    · skip
      refine SL_nil (nx (SWP_seq (SWP_ct rfl (SWP_skip (nx (SWP_seq (SWP_block (SWP_seq (SWP_region ?_)))))))))
      obtain ⟨n, hn⟩ : ∃ n, x.bonus[j]? = some n := ⟨_, List.getElem?_eq_getElem (by omega)⟩
      obtain ⟨ad9, e9, _, hat9⟩ := hxin.bn.atI hn
      refine ia (es := 1) (ad := ad9) rfl rfl rfl (Nat.mul_one _) (by show Value.slice x.ba _ _ = _; rw [e9]) rfl (by omega) rfl ?_
      refine ldA (v := .int .i64 n) rfl hat9 rfl rfl ?_
      first | refine pI rfl rfl ?_ | refine pu rfl rfl ?_
      refine SL_nil (nx (SWP_region ?_))
      first | refine pL rfl rfl ?_ | refine pu rfl rfl ?_
      first | refine pI rfl rfl ?_ | refine pu rfl rfl ?_
      refine SL_pcall rfl rfl cb26 (fmtW (hx.1.b n (List.mem_of_getElem? hn))) rfl ?_
      refine bs (cs := [.string (bA (decW n))]) rfl rfl rfl rfl rfl (fun B99 => ?_)
      refine ap (e := 9) (size := 1) (bytes := 16) rfl rfl rfl rfl rfl rfl rfl hown (List.perm_append_comm (l₁ := [_, _, _, _]) (l₂ := σe)) rfl (Rd.of_cells (.head _)) rfl rfl (by rw [flatMap_len wE_len]; omega) rfl rfl (fun v99 σ9 hown9 => ?_)
      refine SL_weak (List.Sublist.append_left (List.sublist_cons_self _ _) _) ?_
      refine SL_perm (σ' := _ :: _ :: _ :: σ9) (List.perm_append_comm (l₂ := [_, _, _])) ?_
      have hown8 : OwnS 9 1 v99 ((((lnsTok ((b.lines.map Line.keyL).take i) ++ (if 0 < i then [[47]] else [])) ++ x.main.map decW ++ (if x.bonus = [] then [] else [[43]])) ++ (x.bonus.take j).map decW ++ [decW n]).flatMap wE) σ9 := by rw [List.flatMap_append]; exact hown9
      obtain ⟨a5, c5, e5⟩ := hown8.lenL (by omega) wE_len
      subst e5
      first | refine pL rfl rfl ?_ | refine pu rfl rfl ?_
      refine SL_nil (nb (nx (SWP_region ?_)))
      first | refine pw rfl rfl (w64 (by omega) (by omega)) ?_ | refine pu rfl rfl ?_
      refine pI rfl rfl ?_
      refine SL_nil (nx ?_)
      refine ⟨by repeat (first | exact Under.upds rfl (Under.hav _ _ _) | exact Under.hav _ _ _ | refine Under.upd rfl ?_ | refine Under.upds rfl ?_ | refine Under.hav2 rfl ?_), ?_, ?_⟩
      · have e1 : (((lnsTok ((b.lines.map Line.keyL).take i) ++ (if 0 < i then [[47]] else [])) ++ x.main.map decW ++ (if x.bonus = [] then [] else [[43]])) ++ (x.bonus.take j).map decW) ++ [decW n] = ((lnsTok ((b.lines.map Line.keyL).take i) ++ (if 0 < i then [[47]] else [])) ++ x.main.map decW ++ (if x.bonus = [] then [] else [[43]])) ++ (x.bonus.take (j + 1)).map decW := by rw [take_snocA hn, List.map_append]; simp only [List.append_assoc, List.map_cons, List.map_nil]
        rw [e1] at hown8
        rw [e1]
        exact ⟨j + 1, a5, c5, σ9, rfl, by omega, hown8, rfl, rfl⟩
      · simp only [L_vals, List.map, List.getD]; show x.bonus.length - (j + 1) < x.bonus.length - j; omega
    refine SL_nil (nx (SWP_seq (SWP_cf rfl (SWP_exit (ne (ne (be rfl (nb (nx ?_)))))))))
    refine SWP_weak (List.sublist_cons_self _ _) ?_
    refine SWP_region ?_
    first | refine pw rfl rfl (w64 (by omega) (by omega)) ?_ | refine pu rfl rfl ?_
    refine pI rfl rfl ?_
    refine SL_nil (nx ?_)
    refine ⟨by repeat (first | exact Under.upds rfl (Under.hav _ _ _) | exact Under.hav _ _ _ | refine Under.upd rfl ?_ | refine Under.upds rfl ?_ | refine Under.hav2 rfl ?_), ?_, ?_⟩
    · have hj2 : j = x.bonus.length := by omega
      subst hj2
      rw [List.take_length] at hown
      rw [List.take_length]
      have e1 : ((lnsTok ((b.lines.map Line.keyL).take i) ++ (if 0 < i then [[47]] else [])) ++ x.main.map decW ++ (if x.bonus = [] then [] else [[43]])) ++ x.bonus.map decW = (lnsTok ((b.lines.map Line.keyL).take (i + 1))) := by
        rw [lnsTok_step hKi]
        show _ = (lnsTok ((b.lines.map Line.keyL).take i) ++ (if 0 < i then [[47]] else [])) ++ (x.main.map decW ++ (if x.bonus = [] then [] else [43] :: x.bonus.map decW))
        by_cases hb0 : x.bonus = []
        · rw [if_pos hb0, if_pos hb0, hb0]; simp only [List.append_assoc, List.append_nil, List.map_nil]
        · rw [if_neg hb0, if_neg hb0]; simp only [List.append_assoc, List.singleton_append]
      rw [e1] at hown
      rw [e1]
      refine ⟨i + 1, a, c, σe, rfl, by omega, hown, ?_, rfl, rfl⟩
      rw [lnsTok_step hKi, List.length_append]
      have := lnTok_le hx.2.1 hx.2.2
      have := hTBl
      omega
    · simp only [L_vals, List.map, List.getD]; show b.lines.length - (i + 1) < b.lines.length - i; omega
  refine SL_nil (nx (SWP_seq (SWP_cf rfl (SWP_exit (ne (ne (be rfl (nx ?_))))))))
  have hi1 : i = (b.lines.map Line.keyL).length := by omega
  subst hi1
  rw [List.take_length] at hown hBl
  rw [List.take_length]
  have hU0 : (lnsTok (b.lines.map Line.keyL)).length ≤ 320 := by omega
  have hU1 : (lnsTok (b.lines.map Line.keyL) ++ (if b.draws ≠ 1 then [[120], decW b.draws] else [])).length ≤ 322 := by rw [List.length_append]; have := ite_len (c := b.draws ≠ 1) (l := [[120], decW b.draws]) (n := 2) (Nat.le_refl _); omega
  have hU2 : ((lnsTok (b.lines.map Line.keyL) ++ (if b.draws ≠ 1 then [[120], decW b.draws] else [])) ++ (if b.system = true then [[115, 121, 115]] else [])).length ≤ 323 := by rw [List.length_append]; have := ite_len (c := b.system = true) (l := [[115, 121, 115]]) (n := 1) (Nat.le_refl _); omega
  have hU3 : (((lnsTok (b.lines.map Line.keyL) ++ (if b.draws ≠ 1 then [[120], decW b.draws] else [])) ++ (if b.system = true then [[115, 121, 115]] else [])) ++ (if b.addons.toNat ≠ 0 then [[42]] else [])).length ≤ 324 := by rw [List.length_append]; have := ite_len (c := b.addons.toNat ≠ 0) (l := [[42]]) (n := 1) (Nat.le_refl _); omega
  have hgl := addons_few (gameOk hok.g0)
  refine SWP_merge1 [7, 69, 70, 71, 72, 73, 74, 75, 76, 77] [7]
      (fun vs σ' m' => ∃ (a : Option Addr) (c : Nat) (σe : Sig), vs = [.slice a (lnsTok (b.lines.map Line.keyL) ++ (if b.draws ≠ 1 then [[120], decW b.draws] else [])).length c] ∧ OwnS 9 1 (.slice a (lnsTok (b.lines.map Line.keyL) ++ (if b.draws ≠ 1 then [[120], decW b.draws] else [])).length c) ((lnsTok (b.lines.map Line.keyL) ++ (if b.draws ≠ 1 then [[120], decW b.draws] else [])).flatMap wE) σe ∧ σ' = (B3, Cells 30 b.enc) :: (B2, Cells 25 g.enc) :: σe ∧ m = m')
      rfl ?_ ?_
  · skip
    refine SWP_seq (SWP_region ?_)
    refine pu rfl rfl ?_
    refine lw (v := .int .i64 _) B3 2 rfl rfl rfl rfl ?_
    refine pc rfl rfl (fun c71 => ?_) (fun c71 => ?_)
    · skip
      refine SL_nil (nx (SWP_ct rfl (SWP_region ?_)))
      first | refine pL rfl rfl ?_ | refine pu rfl rfl ?_
      refine pu rfl rfl ?_
      refine lw (v := .int .i64 _) B3 2 rfl rfl rfl rfl ?_
      refine SL_pcall rfl rfl cb26 (fmtW hdr) rfl ?_
      refine bs (cs := [.string (bA [120]), .string (bA (decW b.draws))]) rfl rfl rfl rfl rfl (fun B99 => ?_)
      refine ap (e := 9) (size := 1) (bytes := 16) rfl rfl rfl rfl rfl rfl rfl hown (List.perm_append_comm (l₁ := [_, _, _]) (l₂ := σe)) rfl (Rd.of_cells (.head _)) rfl rfl (by rw [flatMap_len wE_len]; omega) rfl rfl (fun v99 σ9 hown9 => ?_)
      refine SL_weak (List.Sublist.append_left (List.sublist_cons_self _ _) _) ?_
      refine SL_perm (σ' := _ :: _ :: σ9) (List.perm_append_comm (l₂ := [_, _])) ?_
      have hown8 : OwnS 9 1 v99 ((lnsTok (b.lines.map Line.keyL) ++ [[120], decW b.draws]).flatMap wE) σ9 := by rw [List.flatMap_append]; exact hown9
      obtain ⟨a5, c5, e5⟩ := hown8.lenL (by omega) wE_len
      subst e5
      first | refine pL rfl rfl ?_ | refine pu rfl rfl ?_
      refine SL_nil (nx ?_)
      refine ⟨by repeat (first | with_reducible exact Under.refl _ _ | exact Under.upds rfl (Under.hav _ _ _) | exact Under.hav _ _ _ | refine Under.upd rfl ?_ | refine Under.upds rfl ?_ | refine Under.hav2 rfl ?_), ?_⟩
      first
      | (refine ⟨a5, c5, σ9, ?_⟩
         rw [if_pos (show b.draws ≠ 1 by assumption)]
         exact ⟨rfl, hown8, rfl, rfl⟩)
      | (refine ⟨a, c, σe, ?_⟩
         rw [if_neg (show ¬ b.draws ≠ 1 by assumption), List.append_nil]
         exact ⟨rfl, hown, rfl, rfl⟩)
    refine SL_nil (nx (SWP_cf rfl (SWP_skip (nx ?_))))
    refine ⟨by repeat (first | with_reducible exact Under.refl _ _ | exact Under.upds rfl (Under.hav _ _ _) | exact Under.hav _ _ _ | refine Under.upd rfl ?_ | refine Under.upds rfl ?_ | refine Under.hav2 rfl ?_), ?_⟩
    first
    | (refine ⟨a5, c5, σ9, ?_⟩
       rw [if_pos (show b.draws ≠ 1 by assumption)]
       exact ⟨rfl, hown8, rfl, rfl⟩)
    | (refine ⟨a, c, σe, ?_⟩
       rw [if_neg (show ¬ b.draws ≠ 1 by assumption), List.append_nil]
       exact ⟨rfl, hown, rfl, rfl⟩)
  intro uM2 vM2 σM2 mM2 hM2 _
  obtain ⟨a, c, σe, rfl, hown, rfl, rfl⟩ := hM2
  refine SWP_merge1 [7, 78, 79, 80, 81, 82] [7]
      (fun vs σ' m' => ∃ (a : Option Addr) (c : Nat) (σe : Sig), vs = [.slice a ((lnsTok (b.lines.map Line.keyL) ++ (if b.draws ≠ 1 then [[120], decW b.draws] else [])) ++ (if b.system = true then [[115, 121, 115]] else [])).length c] ∧ OwnS 9 1 (.slice a ((lnsTok (b.lines.map Line.keyL) ++ (if b.draws ≠ 1 then [[120], decW b.draws] else [])) ++ (if b.system = true then [[115, 121, 115]] else [])).length c) (((lnsTok (b.lines.map Line.keyL) ++ (if b.draws ≠ 1 then [[120], decW b.draws] else [])) ++ (if b.system = true then [[115, 121, 115]] else [])).flatMap wE) σe ∧ σ' = (B3, Cells 30 b.enc) :: (B2, Cells 25 g.enc) :: σe ∧ m = m')
      rfl ?_ ?_
  · skip
    refine SWP_seq (SWP_region ?_)
    refine pu rfl rfl ?_
    refine lw (v := .bool _) B3 1 rfl rfl rfl rfl ?_
    refine bsp 79 rfl (fun b79 => ?_) (fun b79 => ?_)
    · skip
      refine SL_nil (nx (SWP_ct rfl (SWP_region ?_)))
      first | refine pL rfl rfl ?_ | refine pu rfl rfl ?_
      refine bs (cs := [.string (bA [115, 121, 115])]) rfl rfl rfl rfl rfl (fun B99 => ?_)
      refine ap (e := 9) (size := 1) (bytes := 16) rfl rfl rfl rfl rfl rfl rfl hown (List.perm_append_comm (l₁ := [_, _, _]) (l₂ := σe)) rfl (Rd.of_cells (.head _)) rfl rfl (by rw [flatMap_len wE_len]; omega) rfl rfl (fun v99 σ9 hown9 => ?_)
      refine SL_weak (List.Sublist.append_left (List.sublist_cons_self _ _) _) ?_
      refine SL_perm (σ' := _ :: _ :: σ9) (List.perm_append_comm (l₂ := [_, _])) ?_
      have hown8 : OwnS 9 1 v99 ((lnsTok (b.lines.map Line.keyL) ++ (if b.draws ≠ 1 then [[120], decW b.draws] else []) ++ [[115, 121, 115]]).flatMap wE) σ9 := by rw [List.flatMap_append]; exact hown9
      obtain ⟨a5, c5, e5⟩ := hown8.lenL (by omega) wE_len
      subst e5
      first | refine pL rfl rfl ?_ | refine pu rfl rfl ?_
      refine SL_nil (nx ?_)
      refine ⟨by repeat (first | with_reducible exact Under.refl _ _ | exact Under.upds rfl (Under.hav _ _ _) | exact Under.hav _ _ _ | refine Under.upd rfl ?_ | refine Under.upds rfl ?_ | refine Under.hav2 rfl ?_), ?_⟩
      first
      | (refine ⟨a5, c5, σ9, ?_⟩
         rw [if_pos (show b.system = true by assumption)]
         exact ⟨rfl, hown8, rfl, rfl⟩)
      | (refine ⟨a, c, σe, ?_⟩
         rw [if_neg (show ¬ b.system = true by rw [show b.system = false by assumption]; exact Bool.noConfusion), List.append_nil]
         exact ⟨rfl, hown, rfl, rfl⟩)
    refine SL_nil (nx (SWP_cf rfl (SWP_skip (nx ?_))))
    refine ⟨by repeat (first | with_reducible exact Under.refl _ _ | exact Under.upds rfl (Under.hav _ _ _) | exact Under.hav _ _ _ | refine Under.upd rfl ?_ | refine Under.upds rfl ?_ | refine Under.hav2 rfl ?_), ?_⟩
    first
    | (refine ⟨a5, c5, σ9, ?_⟩
       rw [if_pos (show b.system = true by assumption)]
       exact ⟨rfl, hown8, rfl, rfl⟩)
    | (refine ⟨a, c, σe, ?_⟩
       rw [if_neg (show ¬ b.system = true by rw [show b.system = false by assumption]; exact Bool.noConfusion), List.append_nil]
       exact ⟨rfl, hown, rfl, rfl⟩)
  intro uM3 vM3 σM3 mM3 hM3 _
  obtain ⟨a, c, σe, rfl, hown, rfl, rfl⟩ := hM3
  refine SWP_merge1 [7, 83, 84, 85, 86, 87, 88] [7]
      (fun vs σ' m' => ∃ (a : Option Addr) (c : Nat) (σe : Sig), vs = [.slice a (((lnsTok (b.lines.map Line.keyL) ++ (if b.draws ≠ 1 then [[120], decW b.draws] else [])) ++ (if b.system = true then [[115, 121, 115]] else [])) ++ (if b.addons.toNat ≠ 0 then [[42]] else [])).length c] ∧ OwnS 9 1 (.slice a (((lnsTok (b.lines.map Line.keyL) ++ (if b.draws ≠ 1 then [[120], decW b.draws] else [])) ++ (if b.system = true then [[115, 121, 115]] else [])) ++ (if b.addons.toNat ≠ 0 then [[42]] else [])).length c) ((((lnsTok (b.lines.map Line.keyL) ++ (if b.draws ≠ 1 then [[120], decW b.draws] else [])) ++ (if b.system = true then [[115, 121, 115]] else [])) ++ (if b.addons.toNat ≠ 0 then [[42]] else [])).flatMap wE) σe ∧ σ' = (B3, Cells 30 b.enc) :: (B2, Cells 25 g.enc) :: σe ∧ m = m')
      rfl ?_ ?_
  · skip
    refine SWP_seq (SWP_region ?_)
    refine pu rfl rfl ?_
    refine lw (v := .int .i64 _) B3 3 rfl rfl rfl rfl ?_
    refine pc rfl rfl (fun c85 => ?_) (fun c85 => ?_)
    · skip
      refine SL_nil (nx (SWP_ct rfl (SWP_region ?_)))
      first | refine pL rfl rfl ?_ | refine pu rfl rfl ?_
      refine bs (cs := [.string (bA [42])]) rfl rfl rfl rfl rfl (fun B99 => ?_)
      refine ap (e := 9) (size := 1) (bytes := 16) rfl rfl rfl rfl rfl rfl rfl hown (List.perm_append_comm (l₁ := [_, _, _]) (l₂ := σe)) rfl (Rd.of_cells (.head _)) rfl rfl (by rw [flatMap_len wE_len]; omega) rfl rfl (fun v99 σ9 hown9 => ?_)
      refine SL_weak (List.Sublist.append_left (List.sublist_cons_self _ _) _) ?_
      refine SL_perm (σ' := _ :: _ :: σ9) (List.perm_append_comm (l₂ := [_, _])) ?_
      have hown8 : OwnS 9 1 v99 (((lnsTok (b.lines.map Line.keyL) ++ (if b.draws ≠ 1 then [[120], decW b.draws] else [])) ++ (if b.system = true then [[115, 121, 115]] else []) ++ [[42]]).flatMap wE) σ9 := by rw [List.flatMap_append]; exact hown9
      obtain ⟨a5, c5, e5⟩ := hown8.lenL (by omega) wE_len
      subst e5
      first | refine pL rfl rfl ?_ | refine pu rfl rfl ?_
      refine SL_nil (nx ?_)
      refine ⟨by repeat (first | with_reducible exact Under.refl _ _ | exact Under.upds rfl (Under.hav _ _ _) | exact Under.hav _ _ _ | refine Under.upd rfl ?_ | refine Under.upds rfl ?_ | refine Under.hav2 rfl ?_), ?_⟩
      first
      | (refine ⟨a5, c5, σ9, ?_⟩
         rw [if_pos (show b.addons.toNat ≠ 0 by have := hok.ad; omega)]
         exact ⟨rfl, hown8, rfl, rfl⟩)
      | (refine ⟨a, c, σe, ?_⟩
         rw [if_neg (show ¬ b.addons.toNat ≠ 0 by omega), List.append_nil]
         exact ⟨rfl, hown, rfl, rfl⟩)
    refine SL_nil (nx (SWP_cf rfl (SWP_skip (nx ?_))))
    refine ⟨by repeat (first | with_reducible exact Under.refl _ _ | exact Under.upds rfl (Under.hav _ _ _) | exact Under.hav _ _ _ | refine Under.upd rfl ?_ | refine Under.upds rfl ?_ | refine Under.hav2 rfl ?_), ?_⟩
    first
    | (refine ⟨a5, c5, σ9, ?_⟩
       rw [if_pos (show b.addons.toNat ≠ 0 by have := hok.ad; omega)]
       exact ⟨rfl, hown8, rfl, rfl⟩)
    | (refine ⟨a, c, σe, ?_⟩
       rw [if_neg (show ¬ b.addons.toNat ≠ 0 by omega), List.append_nil]
       exact ⟨rfl, hown, rfl, rfl⟩)
  intro uM4 vM4 σM4 mM4 hM4 _
  obtain ⟨a, c, σe, rfl, hown, rfl, rfl⟩ := hM4
  refine SWP_seq (SWP_seq (SWP_region ?_))
  refine pu rfl rfl ?_
  refine lw (v := .slice _ _ _) B2 20 rfl rfl rfl rfl ?_
  refine pu rfl rfl ?_
  first | refine pI rfl rfl ?_ | refine pu rfl rfl ?_
  refine SL_nil (nx (SWP_block ?_))
  refine SWP_loop [7, 14, 15, 92, 93, 94, 95, 96, 97, 98, 99, 100, 101, 102, 103, 104, 105, 106, 107, 108] [7, 92]
      (fun vs σ' m' => ∃ (i : Nat) (a : Option Addr) (c : Nat) (σe : Sig), vs = [.slice a ((((lnsTok (b.lines.map Line.keyL) ++ (if b.draws ≠ 1 then [[120], decW b.draws] else [])) ++ (if b.system = true then [[115, 121, 115]] else [])) ++ (if b.addons.toNat ≠ 0 then [[42]] else [])) ++ addTokF (gNs g) b.addons.toNat 0 (i)).length c, .int .i64 (i : Nat)] ∧ i ≤ g.addons.length ∧ OwnS 9 1 (.slice a ((((lnsTok (b.lines.map Line.keyL) ++ (if b.draws ≠ 1 then [[120], decW b.draws] else [])) ++ (if b.system = true then [[115, 121, 115]] else [])) ++ (if b.addons.toNat ≠ 0 then [[42]] else [])) ++ addTokF (gNs g) b.addons.toNat 0 (i)).length c) (((((lnsTok (b.lines.map Line.keyL) ++ (if b.draws ≠ 1 then [[120], decW b.draws] else [])) ++ (if b.system = true then [[115, 121, 115]] else [])) ++ (if b.addons.toNat ≠ 0 then [[42]] else [])) ++ addTokF (gNs g) b.addons.toNat 0 (i)).flatMap wE) σe ∧ σ' = (B3, Cells 30 b.enc) :: (B2, Cells 25 g.enc) :: σe ∧ m = m')
      (fun vs => g.addons.length - nOf (vs.getD 1 undef)) rfl ?_ ?_
  · exact ⟨0, a, c, σe, by rw [show addTokF (gNs g) b.addons.toNat 0 0 = [] from rfl, List.append_nil]; rfl, by omega, by rw [show addTokF (gNs g) b.addons.toNat 0 0 = [] from rfl, List.append_nil]; exact hown, rfl, rfl⟩
  intro u3 vs3 σ3 m3 hJ3 _
  obtain ⟨i, a, c, σe, rfl, hi, hown, rfl, rfl⟩ := hJ3
  have hTl : ((((lnsTok (b.lines.map Line.keyL) ++ (if b.draws ≠ 1 then [[120], decW b.draws] else [])) ++ (if b.system = true then [[115, 121, 115]] else [])) ++ (if b.addons.toNat ≠ 0 then [[42]] else [])) ++ addTokF (gNs g) b.addons.toNat 0 (i)).length ≤ 400 := by have := addTokF_le (gNs g) b.addons.toNat i; rw [List.length_append]; omega
  have hadn : b.addons = ((b.addons.toNat : Nat) : Int) := by have := hok.ad; omega
  have ha16 : b.addons.toNat < 16 := by
    have h1 := (bet_sm hok).a
    have h2 : 2 ^ (gNs g).length ≤ 2 ^ 4 := Nat.pow_le_pow_right (by decide) (by rw [gNs_len]; exact hgl)
    exact Nat.lt_of_lt_of_le h1 h2
  refine SWP_seq (SWP_region ?_)
  refine pc rfl rfl (fun c93 => ?_) (fun c93 => ?_)
  · skip
    refine SL_nil (nx (SWP_seq (SWP_ct rfl (SWP_skip (nx (SWP_seq (SWP_block (SWP_seq ?_))))))))
    obtain ⟨a1, hai⟩ : ∃ a, g.addons[i]? = some a := ⟨_, List.getElem?_eq_getElem (by omega)⟩
    obtain ⟨ad, e0, _, hat⟩ := hin.ads.atA Addon.enc_len hai
    have hnm : (gNs g)[i]? = some a1.name := by show (g.addons.map Addon.name)[i]? = _; rw [List.getElem?_map, hai]; rfl
    refine SWP_region ?_
    first | refine pI rfl rfl ?_ | refine pu rfl rfl ?_
    refine ia (es := 6) (ad := ad) rfl rfl rfl rfl (by show Value.slice g.aa _ _ = _; rw [e0]) rfl (by omega) rfl ?_
    refine ldA (v := a1.val) rfl hat rfl rfl ?_
    refine al rfl rfl (fun B15 => ?_)
    first | refine pI rfl rfl ?_ | refine pu rfl rfl ?_
    refine swE B15 0 a1.enc rfl rfl rfl rfl rfl rfl rfl rfl ?_
    refine SL_nil (nx (SWP_seq (SWP_region ?_)))
    refine pu rfl rfl ?_
    refine lw (v := .int .i64 _) B3 3 rfl rfl rfl rfl ?_
    first | refine pI rfl rfl ?_ | refine pu rfl rfl ?_
    refine pshr (k := .i64) rfl rfl (by omega) rfl rfl ?_
    refine pu (v := .int .i64 (bits .and .i64 (((b.addons.toNat : Nat) : Int).fdiv (2 ^ (min ((i : Nat) : Int).toNat IntKind.i64.bits))) 1)) (by rw [← hadn]; rfl) rfl ?_
    rw [bit_g ha16 (by omega)]
    refine pc rfl rfl (fun c102 => ?_) (fun c102 => ?_)
    · skip
      refine SL_nil (nx (SWP_ct rfl (SWP_region ?_)))
      first | refine pL rfl rfl ?_ | refine pu rfl rfl ?_
      refine pu rfl rfl ?_
      refine lw (v := .string a1.name) B15 0 rfl rfl rfl rfl ?_
      refine bs (cs := [.string (bA (nmAt (gNs g) i))]) rfl rfl rfl (by rw [nmAt_some hnm]; rfl) rfl (fun B99 => ?_)
      refine ap (e := 9) (size := 1) (bytes := 16) rfl rfl rfl rfl rfl rfl rfl hown (List.perm_append_comm (l₁ := [_, _, _, _]) (l₂ := σe)) rfl (Rd.of_cells (.head _)) rfl rfl (by rw [flatMap_len wE_len]; omega) rfl rfl (fun v99 σ9 hown9 => ?_)
      refine SL_weak (List.Sublist.append_left (List.sublist_cons_self _ _) _) ?_
      refine SL_perm (σ' := _ :: _ :: _ :: σ9) (List.perm_append_comm (l₂ := [_, _, _])) ?_
      have hown8 : OwnS 9 1 v99 (((((lnsTok (b.lines.map Line.keyL) ++ (if b.draws ≠ 1 then [[120], decW b.draws] else [])) ++ (if b.system = true then [[115, 121, 115]] else [])) ++ (if b.addons.toNat ≠ 0 then [[42]] else [])) ++ addTokF (gNs g) b.addons.toNat 0 (i) ++ [nmAt (gNs g) i]).flatMap wE) σ9 := by rw [List.flatMap_append]; exact hown9
      obtain ⟨a5, c5, e5⟩ := hown8.lenL (by omega) wE_len
      subst e5
      first | refine pL rfl rfl ?_ | refine pu rfl rfl ?_
      refine SL_nil (nb (nx ?_))
      refine SWP_weak (List.sublist_cons_self _ _) ?_
      refine SWP_region ?_
      first | refine pw rfl rfl (w64 (by omega) (by omega)) ?_ | refine pu rfl rfl ?_
      refine pI rfl rfl ?_
      refine SL_nil (nx ?_)
      refine ⟨by repeat (first | exact Under.upds rfl (Under.hav _ _ _) | exact Under.hav _ _ _ | refine Under.upd rfl ?_ | refine Under.upds rfl ?_ | refine Under.hav2 rfl ?_), ?_, ?_⟩
      · first
          | (have e1 : ((((lnsTok (b.lines.map Line.keyL) ++ (if b.draws ≠ 1 then [[120], decW b.draws] else [])) ++ (if b.system = true then [[115, 121, 115]] else [])) ++ (if b.addons.toNat ≠ 0 then [[42]] else [])) ++ addTokF (gNs g) b.addons.toNat 0 (i)) ++ [nmAt (gNs g) i] = (((lnsTok (b.lines.map Line.keyL) ++ (if b.draws ≠ 1 then [[120], decW b.draws] else [])) ++ (if b.system = true then [[115, 121, 115]] else [])) ++ (if b.addons.toNat ≠ 0 then [[42]] else [])) ++ addTokF (gNs g) b.addons.toNat 0 (i + 1) := by rw [addTokF_snoc, if_pos (bit_is.1 (by assumption)), List.append_assoc]
             rw [e1] at hown8
             rw [e1]
             exact ⟨i + 1, a5, c5, σ9, rfl, by omega, hown8, rfl, rfl⟩)
          | (have e1 : (((lnsTok (b.lines.map Line.keyL) ++ (if b.draws ≠ 1 then [[120], decW b.draws] else [])) ++ (if b.system = true then [[115, 121, 115]] else [])) ++ (if b.addons.toNat ≠ 0 then [[42]] else [])) ++ addTokF (gNs g) b.addons.toNat 0 (i) = (((lnsTok (b.lines.map Line.keyL) ++ (if b.draws ≠ 1 then [[120], decW b.draws] else [])) ++ (if b.system = true then [[115, 121, 115]] else [])) ++ (if b.addons.toNat ≠ 0 then [[42]] else [])) ++ addTokF (gNs g) b.addons.toNat 0 (i + 1) := by rw [addTokF_snoc, if_neg (fun h => absurd (bit_is.2 h) (by assumption)), List.append_nil]
             rw [e1] at hown
             rw [e1]
             exact ⟨i + 1, a, c, σe, rfl, by omega, hown, rfl, rfl⟩)
      · simp only [L_vals, List.map, List.getD]; show g.addons.length - (i + 1) < g.addons.length - i; omega
    refine SL_nil (nx (SWP_cf rfl (SWP_skip (nb (nx ?_)))))
    refine SWP_weak (List.sublist_cons_self _ _) ?_
    refine SWP_region ?_
    first | refine pw rfl rfl (w64 (by omega) (by omega)) ?_ | refine pu rfl rfl ?_
    refine pI rfl rfl ?_
    refine SL_nil (nx ?_)
    refine ⟨by repeat (first | exact Under.upds rfl (Under.hav _ _ _) | exact Under.hav _ _ _ | refine Under.upd rfl ?_ | refine Under.upds rfl ?_ | refine Under.hav2 rfl ?_), ?_, ?_⟩
    · first
        | (have e1 : ((((lnsTok (b.lines.map Line.keyL) ++ (if b.draws ≠ 1 then [[120], decW b.draws] else [])) ++ (if b.system = true then [[115, 121, 115]] else [])) ++ (if b.addons.toNat ≠ 0 then [[42]] else [])) ++ addTokF (gNs g) b.addons.toNat 0 (i)) ++ [nmAt (gNs g) i] = (((lnsTok (b.lines.map Line.keyL) ++ (if b.draws ≠ 1 then [[120], decW b.draws] else [])) ++ (if b.system = true then [[115, 121, 115]] else [])) ++ (if b.addons.toNat ≠ 0 then [[42]] else [])) ++ addTokF (gNs g) b.addons.toNat 0 (i + 1) := by rw [addTokF_snoc, if_pos (bit_is.1 (by assumption)), List.append_assoc]
           rw [e1] at hown8
           rw [e1]
           exact ⟨i + 1, a5, c5, σ9, rfl, by omega, hown8, rfl, rfl⟩)
        | (have e1 : (((lnsTok (b.lines.map Line.keyL) ++ (if b.draws ≠ 1 then [[120], decW b.draws] else [])) ++ (if b.system = true then [[115, 121, 115]] else [])) ++ (if b.addons.toNat ≠ 0 then [[42]] else [])) ++ addTokF (gNs g) b.addons.toNat 0 (i) = (((lnsTok (b.lines.map Line.keyL) ++ (if b.draws ≠ 1 then [[120], decW b.draws] else [])) ++ (if b.system = true then [[115, 121, 115]] else [])) ++ (if b.addons.toNat ≠ 0 then [[42]] else [])) ++ addTokF (gNs g) b.addons.toNat 0 (i + 1) := by rw [addTokF_snoc, if_neg (fun h => absurd (bit_is.2 h) (by assumption)), List.append_nil]
           rw [e1] at hown
           rw [e1]
           exact ⟨i + 1, a, c, σe, rfl, by omega, hown, rfl, rfl⟩)
    · simp only [L_vals, List.map, List.getD]; show g.addons.length - (i + 1) < g.addons.length - i; omega
  refine SL_nil (nx (SWP_seq (SWP_cf rfl (SWP_exit (ne (ne (be rfl (nx (SWP_seq ?_)))))))))
  obtain rfl : i = g.addons.length := by omega
  have eT : (((lnsTok (b.lines.map Line.keyL) ++ (if b.draws ≠ 1 then [[120], decW b.draws] else [])) ++ (if b.system = true then [[115, 121, 115]] else [])) ++ (if b.addons.toNat ≠ 0 then [[42]] else [])) ++ addTokF (gNs g) b.addons.toNat 0 (g.addons.length) = toks (gNs g) b.key := by
    rw [← gNs_len g]
    show _ = lnsTok (b.lines.map Line.keyL) ++ ((if b.draws ≠ 1 then [[120], decW b.draws] else []) ++ ((if b.system = true then [[115, 121, 115]] else []) ++ ((if b.addons.toNat ≠ 0 then [[42]] else []) ++ addTokF (gNs g) b.addons.toNat 0 (gNs g).length)))
    simp only [List.append_assoc]
  rw [eT] at hown hTl
  rw [eT]
  refine SWP_region ?_
  refine SL_perm (List.perm_append_comm (l₁ := [_, _])) ?_
  refine SL_freezeL (by omega) wE_len hown (fun m9 hl9 hb9 => ?_)
  refine pu rfl rfl ?_
  refine SL_pcall rfl rfl cb27 (joinI hb9 (toks_ne (bet_sm hok)) (by omega) (by have := joinW_len (toks (gNs g) b.key) 24 (toks_short hok); omega)) rfl ?_
  first | refine pS rfl rfl ?_ | refine pu rfl rfl ?_
  first | refine pI rfl rfl ?_ | refine pu rfl rfl ?_
  refine SL_nil (nx (SWP_ret ?_))
  refine fin [_, _] ⟨rfl, rfl, trivial⟩ ?_
  unfold printL
  rw [if_pos hz, hz]
  rfl
end Go.Proofs.YtifjhpaoejageaaGreatDoor
namespace Go.Proofs.YtifjhpaoejageaaGreatDoor
open Eng
def g14T : List Tier := [⟨3, 0, 0, 0, 1, 1⟩]
def g14 (B : Nat) : Game := ⟨⟨#[97]⟩, 1, 1, 3, 3, 0, 0, 0, 1, 3, 1, 0, 0, 0, 1, 0, 0, 1, 0, 0, none, 0, [], some ⟨B, 0, none⟩, 1, g14T⟩
def T17 : List UInt8 := [49, 32, 50, 32, 51, 32, 52, 32, 47, 32, 53, 32, 54, 32, 55, 32, 56, 32, 120, 32, 50, 32, 115, 121, 115, 32, 42, 32, 112, 108, 117, 115, 32, 106, 111, 107, 101, 114]
def V17 : List UInt8 := [49, 32, 50, 32, 51, 32, 42, 32, 106, 111, 107, 101, 114, 32, 112, 108, 117, 115]
def K17 : BetM := ([([1, 2, 3, 4], []), ([5, 6, 7, 8], [])], true, 2, 3)
def ads17 (F P : Nat) : List Addon := [⟨⟨#[112, 108, 117, 115]⟩, 1, 0, some ⟨F, 0, none⟩, 1, [2], 0, none, 0, []⟩, ⟨⟨#[106, 111, 107, 101, 114]⟩, 2, 0, none, 0, [], 1, some ⟨P, 0, none⟩, 1, [5]⟩]
def g17a (B : Nat) : Game := { g14 B with of := 20 }
def g17b (B : Nat) : Game := { g17a B with system := 6 }
def g17c (B : Nat) : Game := { g17b B with draws := 3 }
def g17 (B A F P : Nat) : Game := { g17c B with aa := some ⟨A, 0, none⟩, ac := 2, addons := ads17 F P }
theorem g17_ok (B A F P : Nat) : GameOk (g17 B A F P) := by
  refine ⟨by kernel_rfl, .inl rfl, ⟨?_, ?_, ?_, ?_, ?_, ?_, ?_, ?_, ?_, ?_, ?_, ?_, ?_, ?_, ?_, ?_⟩, ⟨?_, ?_, ?_, ?_, ?_, ?_, ?_, ?_, ?_, ?_⟩, by kernel_rfl, by kernel_rfl⟩ <;> exact of_decide_eq_true (by kernel_rfl)
theorem g17_zero (B A F P : Nat) : gameErr (g17 B A F P) = 0 := by
  have h := g17_ok B A F P
  unfold gameErr
  rw [if_neg (by rw [h.name]; exact Bool.noConfusion), if_neg (by have := h.kind; omega), okE_t ⟨h.mx, h.tm⟩, if_neg (by rw [h.ad]; decide)]
  exact h.tr
theorem g17_sys (B A F P : Nat) (M : List Int) (h1 : M.length = 4) (h2 : allIn 1 20 M) (h3 : M.Nodup) : sysErr (g17 B A F P) (zLine (M, [])) = 0 := by
  have e0 : sysG (g17 B A F P) = 0 := by
    unfold sysG
    rw [if_neg (fun hh => hh (g17_zero B A F P))]
    exact if_neg (fun hh => hh rfl)
  unfold sysErr
  rw [if_neg (fun hh => hh e0)]
  rw [if_neg (fun hh => hh ⟨⟨by show (3 : Int) < (M.length : Nat); omega, by show ((M.length : Nat) : Int) ≤ 6; omega⟩, rfl⟩)]
  rw [if_neg (fun hh => hh ⟨h2, fun x hx => absurd hx (by show ¬ x ∈ ([] : List Int); simp)⟩)]
  exact if_neg (fun hh => hh ⟨h3, List.nodup_nil⟩)
theorem g17_bet (B A F P : Nat) : betErrK (g17 B A F P) K17 = 0 := by
  have s1 := g17_sys B A F P [1, 2, 3, 4] rfl (by decide) (by decide)
  have s2 := g17_sys B A F P [5, 6, 7, 8] rfl (by decide) (by decide)
  have hL : (zBet K17).lines = [zLine ([1, 2, 3, 4], []), zLine ([5, 6, 7, 8], [])] := rfl
  have c1 : canonL (g17 B A F P) (zLine ([1, 2, 3, 4], [])) = ([1, 2, 3, 4], []) := by
    show (([1, 2, 3, 4] : List Int).mergeSort leI, ([] : List Int).mergeSort leI) = _
    rw [← pw_eq (X := [1, 2, 3, 4]) (by decide) (List.Perm.refl _), List.mergeSort_nil]
  have c2 : canonL (g17 B A F P) (zLine ([5, 6, 7, 8], [])) = ([5, 6, 7, 8], []) := by
    show (([5, 6, 7, 8] : List Int).mergeSort leI, ([] : List Int).mergeSort leI) = _
    rw [← pw_eq (X := [5, 6, 7, 8]) (by decide) (List.Perm.refl _), List.mergeSort_nil]
  have e2 : lnErr (g17 B A F P) true (zBet K17).lines = 0 := by
    rw [hL]
    refine lnErr_zero.2 fun j hj => ?_
    rcases j with _ | _ | j
    · rw [lnAt_some rfl]
      refine (if_neg (fun hh => hh s1)).trans (if_neg ?_)
      simp
    · rw [lnAt_some rfl]
      refine (if_neg (fun hh => hh s2)).trans (if_neg ?_)
      show canonL _ _ ∉ [canonL _ _]
      rw [c1, c2]; decide
    · simp only [List.length_cons, List.length_nil] at hj; omega
  have e3 : totN (g17 B A F P) true (zBet K17).lines = 8 := by
    rw [hL]
    show [sizeN _ _ _, sizeN _ _ _].sum = 8
    have z1 : sizeN (g17 B A F P) true (zLine ([1, 2, 3, 4], [])) = 4 := (if_pos rfl).trans ((if_neg (fun hh => hh s1)).trans rfl)
    have z2 : sizeN (g17 B A F P) true (zLine ([5, 6, 7, 8], [])) = 4 := (if_pos rfl).trans ((if_neg (fun hh => hh s2)).trans rfl)
    rw [z1, z2]; rfl
  unfold betErrK betErr
  rw [if_neg (fun hh => hh (g17_zero B A F P)), if_neg (fun hh => hh (by rw [hL]; decide))]
  rw [if_neg (fun hh => hh e2), if_neg (by rw [show (zBet K17).system = true from rfl, e3]; decide)]
  rw [if_neg (fun hh => hh (by show (1 : Int) ≤ 2 ∧ (2 : Int) ≤ 3; decide))]
  exact if_neg (fun hh => hh (by show (0 : Int) ≤ 3 ∧ (3 : Int) < 2 ^ 2; decide))
def ns17 : List ByteArray := [⟨#[112, 108, 117, 115]⟩, ⟨#[106, 111, 107, 101, 114]⟩]
theorem ns17_of (B A F P : Nat) : (g17 B A F P).addons.map Addon.name = ns17 := rfl
theorem read17 : readM ns17 (wordsL T17) = (some K17, []) := by kernel_rfl
theorem read17b : readM ns17 (wordsL V17) = (none, [[112, 108, 117, 115]]) := by kernel_rfl
theorem parse17 (B A F P : Nat) : parseO (g17 B A F P) T17 = (K17, 0, 0) := by
  rw [parseO_4 (g17_zero B A F P) (by decide) (by rw [ns17_of]; exact read17)]
  exact if_neg (fun hh => hh (g17_bet B A F P))
theorem parse17b (B A F P : Nat) : parseO (g17 B A F P) V17 = (zK, 1, 14) := by
  rw [parseO_3 (g17_zero B A F P) (by decide) (by rw [ns17_of]; exact read17b)]
  have : posR V17 [[112, 108, 117, 115]] = 14 := by decide +kernel
  rw [this]
theorem print17 (B A F P : Nat) {b : Bet} (h : b.Is K17) : betErr (g17 B A F P) b = 0 ∧ printL (g17 B A F P) b = T17 := by
  have h1 : betErr (g17 B A F P) b = 0 := (betErr_key h).trans (g17_bet B A F P)
  refine ⟨h1, ?_⟩
  unfold printL
  rw [if_pos h1]
  have e : b.key = K17 := by
    obtain ⟨q1, q2, q3, q4⟩ := h
    unfold Bet.key
    rw [q1, q2, q3, q4]; rfl
  rw [e]
  show joinW (toks ns17 K17) = T17
  decide +kernel
theorem g17_in {m : Mem} {B A F P : Nat} (h1 : (g14 B).In m) (h2 : At m ⟨A, 0, none⟩ ((ads17 F P).flatMap Addon.enc)) (h3 : At m ⟨F, 0, none⟩ (([2] : List Int).flatMap intE)) (h4 : At m ⟨P, 0, none⟩ (([5] : List Int).flatMap intE)) : (g17 B A F P).In m :=
by
  refine ⟨RL.of_at Addon.enc_len (ads17 F P) rfl rfl h2, fun a ha => ?_, h1.trs⟩
  rcases List.mem_cons.1 ha with rfl | ha
  · exact ⟨RL.of_at intE_len [2] rfl rfl h3, RL.nil _ _⟩
  · rcases List.mem_cons.1 ha with rfl | ha
    · exact ⟨RL.nil _ _, RL.of_at intE_len [5] rfl rfl h4⟩
    · cases ha
def Bet.ki (b : Bet) : List LnK × Bool × Int × Int := (b.lines.map Line.keyL, b.system, b.draws, b.addons)
theorem ki_is {a b : Bet} {k : BetM} (ha : a.Is k) (hb : b.Is k) : a.ki = b.ki := by
  obtain ⟨a1, a2, a3, a4⟩ := ha
  obtain ⟨b1, b2, b3, b4⟩ := hb
  unfold Bet.ki
  rw [a1, a2, a3, a4, b1, b2, b3, b4]
set_option maxRecDepth 100000 in
theorem game14 {m : Mem} : CallsS Tryz.prog 18 ([] : List Value).toArray [] m fun r σ' m' => σ' = [] ∧ ∃ B, r = (g14 B).val ∧ (g14 B).In m' := by
  refine CallsS.ghost (R' := fun r σ' m' => ∃ B, r = (g14 B).val ∧ (g14 B).In m') ?_ ?h2
  case h2 =>
    rintro r σ' m' hr g0 W hC
    exact ⟨_, m', hC.sublist (List.nil_sublist _), Le.refl _, rfl, hr⟩
  refine enter Tryz.func18 Tryz.ntmps18 rfl rfl ?_
  refine SWP_seq (SWP_region ?_)
  refine al rfl rfl (fun B0 => ?_)
  refine SL_nil (nx (SWP_seq (SWP_region ?_)))
  refine pu (v := .agg (Tier.enc ⟨3, 0, 0, 0, 1, 1⟩).toArray) (by kernel_rfl) rfl ?_
  refine bs (cs := (g14T).flatMap Tier.enc) rfl rfl rfl (by kernel_rfl) rfl (fun B2 => ?_)
  refine SL_freeze (fun m2 hl2 hat2 => ?_)
  refine pu (v := (g14 B2).val) (by kernel_rfl) rfl ?_
  refine swE B0 0 (g14 B2).enc (v := (g14 B2).val) rfl rfl rfl rfl (by kernel_rfl) (by kernel_rfl) (by kernel_rfl) (by kernel_rfl) ?_
  refine SL_nil (nx (SWP_ret ?_))
  refine fin [_] ⟨⟨_, _, rfl, Rd.of_cells (MemO.mem (B := B0)), rfl⟩, trivial⟩ ?_
  exact ⟨B2, by kernel_rfl, ⟨RL.nil _ _, fun a h => (by cases h), RL.of_at Tier.enc_len g14T rfl rfl hat2⟩⟩
set_option maxRecDepth 100000 in
theorem few17 {m : Mem} {g : Game} (hin : g.In m) : CallsS Tryz.prog 9 [g.val].toArray [] m fun r _ _ => ∃ b, r = .bool b := by
  dsimp only [Game.val]
  have hsm := hin.ads.small
  refine enter Tryz.func9 Tryz.ntmps9 rfl rfl ?_
  refine SWP_seq (SWP_region ?_)
  refine bx (v := .agg _) rfl rfl (fun B1 => ?_)
  refine pB rfl rfl ?_
  refine SL_nil (nx (SWP_seq (SWP_seq (SWP_region ?_))))
  refine pu rfl rfl ?_
  refine lw (v := .slice _ _ _) B1 20 rfl rfl rfl rfl ?_
  refine pu rfl rfl ?_
  refine pc rfl rfl (fun c7 => ?_) (fun c7 => ?_)
  · skip
    refine pB rfl rfl ?_
    refine SL_no rfl rfl ?_
    refine SL_no rfl rfl ?_
    refine SL_no rfl rfl ?_
    refine SL_no rfl rfl ?_
    refine pB rfl rfl ?_
    refine SL_nil (nx (SWP_ct rfl (SWP_seq (SWP_region ?_))))
    refine pB rfl rfl ?_
    refine SL_nil (nx (SWP_ret (nr ?_)))
    refine fin [_] ⟨rfl, trivial⟩ ?_
    exact ⟨_, rfl⟩
  refine pB rfl rfl ?_
  refine SL_yes rfl ?_
  refine pu rfl rfl ?_
  refine SL_yes rfl ?_
  refine lw (v := .slice _ _ _) B1 21 rfl rfl rfl rfl ?_
  refine SL_yes rfl ?_
  refine pu rfl rfl ?_
  refine SL_yes rfl ?_
  refine pc rfl rfl (fun c12 => ?_) (fun c12 => ?_)
  · skip
    refine pB rfl rfl ?_
    refine SL_nil (nx (SWP_ct rfl (SWP_seq (SWP_region ?_))))
    refine pB rfl rfl ?_
    refine SL_nil (nx (SWP_ret (nr ?_)))
    refine fin [_] ⟨rfl, trivial⟩ ?_
    exact ⟨_, rfl⟩
  refine pB rfl rfl ?_
  refine SL_nil (nx (SWP_cf rfl (SWP_skip (nx (SWP_seq (SWP_seq (SWP_region ?_)))))))
  refine pu rfl rfl ?_
  refine lw (v := .slice _ _ _) B1 20 rfl rfl rfl rfl ?_
  refine pu rfl rfl ?_
  refine pI rfl rfl ?_
  refine SL_nil (nx (SWP_block ?_))
  refine SWP_loop [2, 3, 17, 18, 19, 20, 21, 22, 23, 24, 25, 26, 27, 28, 29, 30, 31, 32, 33, 34, 35, 36, 37, 38] [17]
      (fun vs σ' m' => ∃ (i : Nat), vs = [.int .i64 (i : Nat)] ∧ i ≤ g.addons.length ∧ σ' = [(B1, Cells 25 g.enc)] ∧ m = m')
      (fun vs => g.addons.length - nOf (vs.getD 0 undef)) rfl ?_ ?_
  · exact ⟨0, rfl, by omega, rfl, rfl⟩
  intro u0 vs0 σ0 m0 hJ0 _
  obtain ⟨i, rfl, hi, rfl, rfl⟩ := hJ0
  refine SWP_seq (SWP_region ?_)
  refine pc rfl rfl (fun c18 => ?_) (fun c18 => ?_)
  · skip
    refine SL_nil (nx (SWP_seq (SWP_ct rfl (SWP_skip (nx (SWP_seq (SWP_block (SWP_seq (SWP_region ?_)))))))))
    first | refine pI rfl rfl ?_ | refine pu rfl rfl ?_
    first | refine pI rfl rfl ?_ | refine pu rfl rfl ?_
    refine SL_nil (nx (SWP_seq ?_))
    obtain ⟨a, ha⟩ : ∃ a, g.addons[i]? = some a := ⟨_, List.getElem?_eq_getElem (by omega)⟩
    obtain ⟨ad, e0, _, hat⟩ := hin.ads.atA Addon.enc_len ha
    refine SWP_region ?_
    refine pu rfl rfl ?_
    refine lw (v := .slice _ _ _) B1 20 rfl rfl rfl rfl ?_
    first | refine pI rfl rfl ?_ | refine pu rfl rfl ?_
    refine ia (es := 6) (ad := ad) rfl rfl rfl rfl (by show Value.slice g.aa _ _ = _; rw [e0]) rfl (by omega) rfl ?_
    refine pu rfl rfl ?_
    refine ldF (v := .slice _ _ _) rfl rfl (by assumption) rfl rfl ?_
    refine pu rfl rfl ?_
    refine pc rfl rfl (fun c27 => ?_) (fun c27 => ?_)
    · skip
      refine pB rfl rfl ?_
      refine SL_no rfl rfl ?_
      refine SL_no rfl rfl ?_
      refine SL_no rfl rfl ?_
      refine SL_no rfl rfl ?_
      refine SL_no rfl rfl ?_
      refine SL_no rfl rfl ?_
      refine SL_no rfl rfl ?_
      refine SL_no rfl rfl ?_
      refine pB rfl rfl ?_
      refine SL_nil (nx (SWP_ct rfl (SWP_seq (SWP_region ?_))))
      refine pB rfl rfl ?_
      refine SL_nil (nx (SWP_ret (br (nr (nr (br (nr ?_)))))))
      refine fin [_] ⟨rfl, trivial⟩ ?_
      exact ⟨_, rfl⟩
    refine pB rfl rfl ?_
    refine SL_yes rfl ?_
    refine pu rfl rfl ?_
    refine SL_yes rfl ?_
    refine lw (v := .slice _ _ _) B1 20 rfl rfl rfl rfl ?_
    refine SL_yes rfl ?_
    first | refine pI rfl rfl ?_ | refine pu rfl rfl ?_
    refine SL_yes rfl ?_
    refine ia (es := 6) (ad := ad) rfl rfl rfl rfl (by show Value.slice g.aa _ _ = _; rw [e0]) rfl (by omega) rfl ?_
    refine SL_yes rfl ?_
    refine pu rfl rfl ?_
    refine SL_yes rfl ?_
    refine ldF (v := .slice _ _ _) rfl rfl (by assumption) rfl rfl ?_
    refine SL_yes rfl ?_
    refine pu rfl rfl ?_
    refine SL_yes rfl ?_
    refine pc rfl rfl (fun c36 => ?_) (fun c36 => ?_)
    · skip
      refine pB rfl rfl ?_
      refine SL_nil (nx (SWP_ct rfl (SWP_seq (SWP_region ?_))))
      refine pB rfl rfl ?_
      refine SL_nil (nx (SWP_ret (br (nr (nr (br (nr ?_)))))))
      refine fin [_] ⟨rfl, trivial⟩ ?_
      exact ⟨_, rfl⟩
    refine pB rfl rfl ?_
    refine SL_nil (nx (SWP_cf rfl (SWP_skip (nb (nx (SWP_region ?_))))))
    first | refine pw rfl rfl (w64 (by omega) (by omega)) ?_ | refine pu rfl rfl ?_
    refine pI rfl rfl ?_
    refine SL_nil (nx ?_)
    refine ⟨by repeat (first | exact Under.upds rfl (Under.hav _ _ _) | exact Under.hav _ _ _ | refine Under.upd rfl ?_), ?_, ?_⟩
    · exact ⟨i + 1, rfl, by omega, rfl, rfl⟩
    · simp only [L_vals, List.map, List.getD]; show g.addons.length - (i + 1) < g.addons.length - i; omega
  refine SL_nil (nx (SWP_seq (SWP_cf rfl (SWP_exit (ne (ne (be rfl (nx (SWP_seq (SWP_region ?_))))))))))
  refine pB rfl rfl ?_
  refine SL_nil (nx (SWP_ret ?_))
  refine fin [_] ⟨rfl, trivial⟩ ?_
  exact ⟨_, rfl⟩
set_option maxRecDepth 100000 in
set_option maxHeartbeats 800000 in
theorem lives17 {m : Mem} : PureCall Tryz.prog 10 [] m (.bool true) := by
  refine CallsS.pure ?_
  refine enter Tryz.func10 Tryz.ntmps10 rfl rfl ?_
  refine SWP_seq (SWP_region ?_)
  refine pB rfl rfl ?_
  refine SL_nil (nx (SWP_seq (SWP_region ?_)))
  refine SL_call rfl rfl cb18 (game14) rfl (fun v1_0 σ1_0 m1_0 hl1_0 hR1_0 => ?_)
  obtain ⟨rfl, BG, rfl, hinG⟩ := hR1_0
  refine al rfl rfl (fun B1 => ?_)
  refine swE B1 0 (g14 BG).enc (v := (g14 BG).val) rfl rfl rfl rfl (by kernel_rfl) (by kernel_rfl) (by kernel_rfl) (by kernel_rfl) ?_
  refine SL_nil (nx (SWP_seq (SWP_region ?_)))
  refine pu rfl rfl ?_
  refine swE B1 4 (g17a BG).enc (v := .int .i64 20) rfl rfl rfl rfl rfl rfl rfl rfl ?_
  refine pu rfl rfl ?_
  refine swE B1 9 (g17b BG).enc (v := .int .i64 6) rfl rfl rfl rfl rfl rfl rfl rfl ?_
  refine pu rfl rfl ?_
  refine swE B1 8 (g17c BG).enc (v := .int .i64 3) rfl rfl rfl rfl rfl rfl rfl rfl ?_
  refine SL_nil (nx (SWP_seq (SWP_region ?_)))
  refine bs (cs := (([2] : List Int)).flatMap intE) rfl rfl rfl (by kernel_rfl) rfl (fun B14 => ?_)
  refine SL_freeze (fun m14 hl14 hat14 => ?_)
  refine pu (v := .agg #[.string ⟨#[112, 108, 117, 115]⟩, .int .i64 1, .int .i64 0, .slice (some ⟨B14, 0, none⟩) 1 1, .int .i64 0, .slice none 0 0]) (by kernel_rfl) rfl ?_
  refine bs (cs := (([5] : List Int)).flatMap intE) rfl rfl rfl (by kernel_rfl) rfl (fun B16 => ?_)
  refine SL_freeze (fun m16 hl16 hat16 => ?_)
  refine pu (v := .agg #[.string ⟨#[106, 111, 107, 101, 114]⟩, .int .i64 2, .int .i64 0, .slice none 0 0, .int .i64 1, .slice (some ⟨B16, 0, none⟩) 1 1]) (by kernel_rfl) rfl ?_
  refine bs (cs := ((ads17 B14 B16)).flatMap Addon.enc) rfl rfl rfl (by kernel_rfl) rfl (fun B18 => ?_)
  refine SL_freeze (fun m18 hl18 hat18 => ?_)
  refine pu rfl rfl ?_
  refine swE B1 20 (g17 BG B18 B14 B16).enc (v := .slice (some ⟨B18, 0, none⟩) 2 2) rfl rfl rfl rfl rfl rfl rfl rfl ?_
  have hin17 : (g17 BG B18 B14 B16).In m18 := g17_in ((((hinG.mono hl14).mono hl16)).mono hl18) hat18 ((hat14.mono hl16).mono hl18) (hat16.mono hl18)
  refine SL_nil (nx (SWP_seq (SWP_region ?_)))
  refine lw (v := (g17 BG B18 B14 B16).val) B1 0 rfl rfl rfl rfl ?_
  refine SL_call rfl rfl cb11 (CallsS.frame0 (parseS hin17 T17 (by decide))) rfl (fun v4_1 σ4_1 m4_1 hl4_1 hR4_1 => ?_)
  obtain ⟨σa, rfl, rfl, bt, rfl, hbt, his⟩ := hR4_1
  rw [parse17] at his
  rw [parse17]
  rw [List.nil_append]
  have hpr := print17 BG B18 B14 B16 his
  obtain ⟨la, lc, L, s, d, ad0⟩ := bt
  obtain ⟨hk1, hk2, hk3, hk4⟩ := his
  obtain rfl : s = true := hk2
  obtain rfl : d = 2 := hk3
  obtain rfl : ad0 = 3 := hk4
  have hk1 : L.map Line.keyL = [([1, 2, 3, 4], []), ([5, 6, 7, 8], [])] := hk1
  dsimp only [Bet.val]
  have hL2 : L.length = 2 := by have h9 := congrArg List.length hk1; rw [List.length_map] at h9; exact h9
  obtain ⟨x, hx⟩ : ∃ x, L[1]? = some x := ⟨_, List.getElem?_eq_getElem (by omega)⟩
  have hx4 : x.main.length = 4 := by
    have h9 := congrArg (fun z : List LnK => z[1]?) hk1
    simp only [List.getElem?_map, hx, Option.map_some] at h9
    have h8 := congrArg Prod.fst (Option.some.inj h9)
    exact congrArg List.length h8
  obtain ⟨ad, e0, _, hat⟩ := hbt.ls.atA Line.enc_len hx
  refine pu rfl rfl ?_
  first | refine pA rfl rfl ?_ | refine pu rfl rfl ?_
  first | refine pI rfl rfl ?_ | refine pu rfl rfl ?_
  first | refine pI rfl rfl ?_ | refine pu rfl rfl ?_
  refine al rfl rfl (fun B2 => ?_)
  refine swE B2 0 [.slice la L.length lc, .bool true, .int .i64 2, .int .i64 3] (v := .agg #[.slice la L.length lc, .bool true, .int .i64 2, .int .i64 3]) rfl rfl rfl rfl rfl rfl rfl rfl ?_
  first | refine pI rfl rfl ?_ | refine pu rfl rfl ?_
  first | refine pI rfl rfl ?_ | refine pu rfl rfl ?_
  refine SL_nil (nx (SWP_seq (SWP_seq (SWP_region ?_))))
  first | refine pI rfl rfl ?_ | refine pu rfl rfl ?_
  refine pn rfl rfl (fun hh => hh rfl) ?_
  refine pB rfl rfl ?_
  refine SL_yes rfl ?_
  first | refine pI rfl rfl ?_ | refine pu rfl rfl ?_
  refine SL_yes rfl ?_
  refine pn rfl rfl (fun hh => hh rfl) ?_
  refine pB rfl rfl ?_
  refine pB rfl rfl ?_
  refine SL_yes rfl ?_
  refine pu rfl rfl ?_
  refine SL_yes rfl ?_
  refine lw (v := .bool true) B2 1 rfl rfl rfl rfl ?_
  refine SL_yes rfl ?_
  refine pB rfl rfl ?_
  refine pB rfl rfl ?_
  refine pB rfl rfl ?_
  refine SL_yes rfl ?_
  refine pu rfl rfl ?_
  refine SL_yes rfl ?_
  refine lw (v := .int .i64 _) B2 2 rfl rfl rfl rfl ?_
  refine SL_yes rfl ?_
  refine pn rfl rfl (fun hh => hh rfl) ?_
  refine pB rfl rfl ?_
  refine pB rfl rfl ?_
  refine SL_yes rfl ?_
  refine pu rfl rfl ?_
  refine SL_yes rfl ?_
  refine lw (v := .int .i64 _) B2 3 rfl rfl rfl rfl ?_
  refine SL_yes rfl ?_
  refine pn rfl rfl (fun hh => hh rfl) ?_
  refine pB rfl rfl ?_
  refine pB rfl rfl ?_
  refine SL_yes rfl ?_
  refine pu rfl rfl ?_
  refine SL_yes rfl ?_
  refine lw (v := .slice _ _ _) B2 0 rfl rfl rfl rfl ?_
  refine SL_yes rfl ?_
  refine pu rfl rfl ?_
  refine SL_yes rfl ?_
  refine pn rfl rfl (by omega) ?_
  refine pB rfl rfl ?_
  refine pB rfl rfl ?_
  refine SL_yes rfl ?_
  refine pu rfl rfl ?_
  refine SL_yes rfl ?_
  refine lw (v := .slice _ _ _) B2 0 rfl rfl rfl rfl ?_
  refine SL_yes rfl ?_
  refine ia (es := 2) (k := 1) (ad := ad) rfl rfl rfl rfl (by show Value.slice la _ _ = _; rw [show la = some ad from e0]) rfl (by omega) rfl ?_
  refine SL_yes rfl ?_
  refine pu rfl rfl ?_
  refine SL_yes rfl ?_
  refine ldF (v := .slice x.ma x.main.length x.mc) rfl rfl hat rfl rfl ?_
  refine SL_yes rfl ?_
  refine pu rfl rfl ?_
  refine SL_yes rfl ?_
  refine pn rfl rfl (by omega) ?_
  refine pB rfl rfl ?_
  refine SL_nil (nx (SWP_cf rfl (SWP_skip (nx (SWP_seq (SWP_region ?_))))))
  refine lw (v := (g17 BG B18 B14 B16).val) B1 0 rfl rfl rfl rfl ?_
  refine lw (v := (Bet.mk la lc L true 2 3).val) B2 0 rfl rfl rfl rfl ?_
  refine SL_pcall rfl rfl cb15 (printG (hin17.mono hl4_1) hbt) rfl ?_
  rw [hpr.1, hpr.2]
  refine pu rfl rfl ?_
  first | refine pS rfl rfl ?_ | refine pu rfl rfl ?_
  first | refine pI rfl rfl ?_ | refine pu rfl rfl ?_
  first | refine pS rfl rfl ?_ | refine pu rfl rfl ?_
  first | refine pI rfl rfl ?_ | refine pu rfl rfl ?_
  refine SL_nil (nx (SWP_seq (SWP_region ?_)))
  refine lw (v := (g17 BG B18 B14 B16).val) B1 0 rfl rfl rfl rfl ?_
  refine SL_call rfl rfl cb11 (CallsS.frame0 (parseS (hin17.mono hl4_1) V17 (by decide))) rfl (fun v8_1 σ8_1 m8_1 hl8_1 hR8_1 => ?_)
  obtain ⟨σa, rfl, rfl, bt2, rfl, hbt2, his2⟩ := hR8_1
  rw [parse17b]
  rw [List.nil_append]
  refine pu rfl rfl ?_
  first | refine pA rfl rfl ?_ | refine pu rfl rfl ?_
  first | refine pI rfl rfl ?_ | refine pu rfl rfl ?_
  first | refine pI rfl rfl ?_ | refine pu rfl rfl ?_
  refine al rfl rfl (fun B7 => ?_)
  refine swE B7 0 bt2.enc (v := bt2.val) rfl rfl rfl rfl rfl rfl rfl rfl ?_
  first | refine pI rfl rfl ?_ | refine pu rfl rfl ?_
  first | refine pI rfl rfl ?_ | refine pu rfl rfl ?_
  refine SL_nil (nx (SWP_seq (SWP_region ?_)))
  first | refine pI rfl rfl ?_ | refine pu rfl rfl ?_
  refine pt rfl rfl (rfl) ?_
  refine pB rfl rfl ?_
  refine SL_yes rfl ?_
  first | refine pS rfl rfl ?_ | refine pu rfl rfl ?_
  refine SL_yes rfl ?_
  refine pt rfl rfl (rfl) ?_
  refine pB rfl rfl ?_
  refine pB rfl rfl ?_
  refine SL_yes rfl ?_
  first | refine pI rfl rfl ?_ | refine pu rfl rfl ?_
  refine SL_yes rfl ?_
  refine pt rfl rfl (rfl) ?_
  refine pB rfl rfl ?_
  refine pB rfl rfl ?_
  refine SL_yes rfl ?_
  first | refine pI rfl rfl ?_ | refine pu rfl rfl ?_
  refine SL_yes rfl ?_
  refine pt rfl rfl (rfl) ?_
  refine pB rfl rfl ?_
  refine pB rfl rfl ?_
  refine SL_nil (nx (SWP_ret ?_))
  refine fin [_] ⟨rfl, trivial⟩ ?_
  rfl
end Go.Proofs.YtifjhpaoejageaaGreatDoor
namespace Go.Proofs.YtifjhpaoejageaaGreatDoor
namespace Eng
section
variable {P : Program} {T : TyTab} [TyOk P T] {n : Nat} {md : Mode} {Q : APost} {f : Fr} {σ : Sig} {m : Mem} {ops : Array Oper} {rest : List Oper} {ty : TypeId} {pos : String} {after : Array Edge} {d : Nat}
theorem ssh {t : TypeId} {s : ByteArray} {x hi : Operand} {k : IntKind} {i : Int} {ag : Bool} {ts tb : Nat} {tz : Value} (ht : tyGet T t = some ⟨.str, ag, ts, tb, tz⟩)
    (hx : ev f x = .string s) (hhi : ev f hi = .int k i) (h0 : 0 ≤ i) (h1 : i ≤ s.size) (hdn : Nat.blt d n = true)
    (h : SL P n md ops Q rest (upd f d (.string (s.extract 0 i.toNat))) σ m) : SL P n md ops Q (⟨some d, .slice t x none (some hi) none, ty, pos, after, none⟩ :: rest) f σ m :=
  SL_same rfl rfl hdn (fun g W _ => by
    obtain ⟨dd, hd1, hd2, _⟩ := (TyOk.get (P := P) ht).desc
    obtain rfl : dd = .string := by cases dd <;> simp [DescOk] at hd2 ⊢
    have h3 := run_slice_string_h (P := P) W t s hd1 k i h0 h1
    have h4 := run_sliceAt_string (P := P) W t (.string s) none (some (.int k i)) none hd1
    rw [h3] at h4
    simp [execOp, hx, hhi, h4]) h
end
end Eng
end Go.Proofs.YtifjhpaoejageaaGreatDoor
namespace Go.Proofs.YtifjhpaoejageaaGreatDoor
open Eng
theorem lnsTok_le : ∀ (L : List LnK), (∀ x ∈ L, (lnTok x).length ≤ 19) → (lnsTok L).length ≤ 20 * L.length
  | [], _ => Nat.le_refl _
  | [x], h => by have := h x (List.mem_cons_self ..); show (lnTok x).length ≤ 20 * 1; omega
  | x :: y :: r, h => by
    have ih := lnsTok_le (y :: r) (fun z hz => h z (List.mem_cons_of_mem _ hz))
    have := h x (List.mem_cons_self ..)
    rw [lnsTok_cons x (by simp), List.length_append, List.length_cons]
    simp only [List.length_cons] at *
    omega
theorem toks_few {g : Game} {b : Bet} (h : BetOk g b) : (toks (gNs g) b.key).length ≤ 328 := by
  have h1 : (lnsTok b.key.1).length ≤ 20 * b.key.1.length := lnsTok_le _ (fun x hx => by
    obtain ⟨y, hy, rfl⟩ := List.mem_map.1 (show x ∈ b.lines.map Line.keyL from hx)
    exact lnTok_le (h.ls y hy).2.1 (h.ls y hy).2.2)
  have h2 : b.key.1.length = b.lines.length := List.length_map ..
  have h3 := h.ln
  have h4 : (addTok (gNs g) b.key.2.2.2).length ≤ (gNs g).length := addTokF_le _ _ _
  have h5 := addons_few (gameOk h.g0)
  have h6 := gNs_len g
  unfold toks tailTok
  simp only [List.length_append]
  have e1 := ite_len (c := b.key.2.2.1 ≠ 1) (l := [[120], decW b.key.2.2.1]) (n := 2) (Nat.le_refl _)
  have e2 := ite_len (c := b.key.2.1 = true) (l := [[115, 121, 115]]) (n := 1) (Nat.le_refl _)
  have e3 := ite_len (c := b.key.2.2.2 ≠ 0) (l := [[42]]) (n := 1) (Nat.le_refl _)
  omega
theorem toks_size {g : Game} {b : Bet} (h : BetOk g b) : (joinW (toks (gNs g) b.key)).length ≤ 8200 := by
  have h1 := joinW_len _ 24 (toks_short h)
  have h2 := toks_few h
  omega
theorem key_is {g : Game} {b : Bet} (h : BetOk g b) : b.Is b.key := ⟨rfl, rfl, rfl, by have := h.ad; show b.addons = ((b.addons.toNat : Nat) : Int); omega⟩
theorem names_ns {g : Game} (h : GameOk g) : ∀ w ∈ gNs g, (32 : UInt8) ∉ w.data.toList := fun w hw => (name_ns (gNs_name h w hw)).1
theorem names_ne {g : Game} (h : GameOk g) : ∀ w ∈ gNs g, w ≠ bA [] := fun w hw => (name_ns (gNs_name h w hw)).2.1
theorem printL_ok {g : Game} {b : Bet} (h : betErr g b = 0) : printL g b = joinW (toks (gNs g) b.key) := by unfold printL; exact if_pos h
theorem round_trip {g : Game} {b : Bet} (h : betErr g b = 0) : parseO g (printL g b) = (b.key, 0, 0) := by
  have ho := betOk h
  have hg := gameOk ho.g0
  have hs := bet_sm ho
  have hsz := toks_size ho
  rw [printL_ok h]
  have hr : readM (g.addons.map Addon.name) (wordsL (joinW (toks (gNs g) b.key))) = (some b.key, []) := by
    rw [words_toks (names_ns hg) hs]
    exact readM_tok (gNs_dis hg) hs
  rw [parseO_4 ho.g0 (by omega) hr]
  exact if_neg (fun hh => hh ((betErr_key (key_is ho)).symm.trans h))
theorem apart {g : Game} {a b : Bet} (ha : betErr g a = 0) (hb : betErr g b = 0) : bA (printL g a) = bA (printL g b) ↔ a.ki = b.ki := by
  rw [bA_inj]
  constructor
  · intro h
    have h1 := round_trip ha
    have h2 := round_trip hb
    rw [h, h2] at h1
    have hk : b.key = a.key := congrArg Prod.fst h1
    exact ki_is (key_is (betOk ha)) (by rw [← hk]; exact key_is (betOk hb))
  · intro h
    unfold Bet.ki at h
    simp only [Prod.mk.injEq] at h
    have e : a.key = b.key := by unfold Bet.key; rw [h.1, h.2.1, h.2.2.1, h.2.2.2]
    rw [printL_ok ha, printL_ok hb, e]
theorem parse_bad {g : Game} {l : List UInt8} (h0 : gameErr g = 0) (hl : l.length ≤ 32768) (he : [] ∈ wordsL l) : (parseO g l).2.1 = 1 := by
  obtain ⟨o, Rf, hr⟩ : ∃ o Rf, readM (g.addons.map Addon.name) (wordsL l) = (o, Rf) := ⟨_, _, rfl⟩
  have h1 : (readM (gNs g) (wordsL l)).1 = none := readM_empty (names_ne (gameOk h0)) he
  have h2 : o = none := by
    have : (readM (g.addons.map Addon.name) (wordsL l)).1 = none := h1
    rw [hr] at this; exact this
  subst h2
  rw [parseO_3 h0 (by omega) hr]
theorem parse_front {g : Game} {l : List UInt8} (h0 : gameErr g = 0) (hl : l.length ≤ 30000) : parseO g ([32] ++ l) = (zK, 1, 0) := by
  have hw : wordsL ([32] ++ l) = [] :: wordsL l := wordsL_sp l
  have hr : readM (g.addons.map Addon.name) (wordsL ([32] ++ l)) = (none, wordsL ([32] ++ l)) := by
    rw [hw]; exact readM_front _
  rw [parseO_3 h0 (by rw [List.length_append]; simp; omega) hr, posR_all]
theorem twice_in {l : List UInt8} {k : Nat} (h : l[k]? = some 32) : [] ∈ wordsL ((l.take k ++ [32]) ++ l.drop k) := by
  have hk := List.getElem?_eq_some_iff.1 h
  rw [List.drop_eq_getElem_cons hk.1, hk.2, List.append_assoc]
  exact words_twice _ _
set_option maxRecDepth 100000 in
theorem lawSlipSpaces {m : Mem} {g : Game} (hin : g.In m) (l : List UInt8) (q : Nat) (hq : q ≤ 65535) : CallsS Tryz.prog 8 [g.val, .string (bA l), .int .u16 (q : Nat)].toArray [] m fun r _ _ => r = .bool true := by
  dsimp only [Game.val]
  have hsz := bA_size l
  refine enter Tryz.func8 Tryz.ntmps8 rfl rfl ?_
  refine SWP_seq (SWP_region ?_)
  refine bx (v := .agg _) rfl rfl (fun B3 => ?_)
  refine pB rfl rfl ?_
  refine SL_nil (nx (SWP_seq (SWP_seq (SWP_region ?_))))
  refine lw (v := .agg _) B3 0 rfl rfl rfl rfl ?_
  refine SL_call rfl rfl cb9 (CallsS.forget (few17 hin)) rfl (fun v1_1 σ1_1 m1_1 hl1_1 hR1_1 => ?_)
  obtain ⟨rfl, hm1_1, bf, rfl⟩ := hR1_1
  have hn1_1 := hm1_1.symm
  subst hn1_1
  refine bsp 21 rfl (fun b21 => ?_) (fun b21 => ?_)
  · skip
    refine pB rfl rfl ?_
    refine pB rfl rfl ?_
    refine SL_yes rfl ?_
    first | refine pS rfl rfl ?_ | refine pu rfl rfl ?_
    refine SL_yes rfl ?_
    refine pu rfl rfl ?_
    refine SL_yes rfl ?_
    refine pc rfl rfl (fun c26 => ?_) (fun c26 => ?_)
    · skip
      refine pB rfl rfl ?_
      refine SL_nil (nx (SWP_ct rfl (SWP_seq (SWP_region ?_))))
      refine SL_pcall rfl rfl cb10 (lives17) rfl ?_
      first | refine pB rfl rfl ?_ | refine pu rfl rfl ?_
      refine SL_nil (nx (SWP_ret (nr ?_)))
      refine fin [_] ⟨rfl, trivial⟩ ?_
      rfl
    refine pB rfl rfl ?_
    refine SL_nil (nx (SWP_cf rfl (SWP_skip (nx (SWP_seq (SWP_seq (SWP_region ?_)))))))
    refine lw (v := .agg _) B3 0 rfl rfl rfl rfl ?_
    refine SL_call rfl rfl cb17 (CallsS.frame0 (checkR hin)) rfl (fun v3_1 σ3_1 m3_1 hl3_1 hR3_1 => ?_)
    obtain ⟨σc, rfl, rfl, hm3_1, s0, rfl⟩ := hR3_1
    have hn3_1 := hm3_1.symm
    subst hn3_1
    rw [List.nil_append]
    refine pu rfl rfl ?_
    first | refine pI rfl rfl ?_ | refine pu rfl rfl ?_
    first | refine pS rfl rfl ?_ | refine pu rfl rfl ?_
    first | refine pI rfl rfl ?_ | refine pu rfl rfl ?_
    first | refine pS rfl rfl ?_ | refine pu rfl rfl ?_
    refine SL_nil (nx (SWP_seq (SWP_region ?_)))
    first | refine pI rfl rfl ?_ | refine pu rfl rfl ?_
    refine pc rfl rfl (fun c35 => ?_) (fun c35 => ?_)
    · skip
      refine SL_nil (nx (SWP_ct rfl (SWP_seq (SWP_region ?_))))
      refine SL_pcall rfl rfl cb10 (lives17) rfl ?_
      first | refine pB rfl rfl ?_ | refine pu rfl rfl ?_
      refine SL_nil (nx (SWP_ret (nr ?_)))
      refine fin [_] ⟨rfl, trivial⟩ ?_
      rfl
    refine SL_nil (nx (SWP_cf rfl (SWP_skip (nx (SWP_seq (SWP_seq ?_))))))
    have hz : gameErr g = 0 := Classical.not_not.1 (by assumption)
    refine SWP_region ?_
    refine pI rfl rfl ?_
    refine SL_nil (nx (SWP_block ?_))
    refine SWP_loop [6, 9, 10, 11, 12, 13, 37, 38, 39, 40, 41, 42, 43, 44, 45, 46, 47, 48, 49, 50, 51, 52, 53, 54, 55, 56, 57, 58, 59, 60, 61, 62, 63, 64, 65, 66, 67, 68, 69, 70, 71, 72] [9]
        (fun vs σ' m' => ∃ (i : Nat), vs = [.int .i64 (i : Nat)] ∧ i ≤ l.length ∧ σ' = [(B3, Cells 25 g.enc)] ∧ m = m')
        (fun vs => l.length - nOf (vs.getD 0 undef)) rfl ?_ ?_
    · exact ⟨0, rfl, by omega, rfl, rfl⟩
    intro u0 vs0 σ0 m0 hJ0 _
    obtain ⟨i, rfl, hi, rfl, rfl⟩ := hJ0
    refine SWP_seq (SWP_seq (SWP_region ?_))
    first | refine pI rfl rfl ?_ | refine pu rfl rfl ?_
    first | refine pS rfl rfl ?_ | refine pu rfl rfl ?_
    refine pu rfl rfl ?_
    refine pc rfl rfl (fun c40 => ?_) (fun c40 => ?_)
    · skip
      refine SL_nil (nx (SWP_ct rfl (SWP_skip (nx (SWP_seq (SWP_block (SWP_seq ?_)))))))
      obtain ⟨k, hkd⟩ : ∃ k, k = (i + q) % l.length := ⟨_, rfl⟩
      have hkl : k < l.length := by rw [hkd]; exact Nat.mod_lt _ (by omega)
      obtain ⟨b0, hb0⟩ : ∃ b, l[k]? = some b := ⟨_, List.getElem?_eq_getElem hkl⟩
      refine SWP_region ?_
      first | refine pI rfl rfl ?_ | refine pu rfl rfl ?_
      first | refine pI rfl rfl ?_ | refine pu rfl rfl ?_
      refine pu (v := .int .i64 (q : Nat)) (by show some (Value.int .i64 (IntKind.wrap .i64 (q : Nat))) = _; rw [w64 (by omega) (by omega)]) rfl ?_
      refine pw rfl rfl (w64 (by omega) (by omega)) ?_
      first | refine pS rfl rfl ?_ | refine pu rfl rfl ?_
      refine pu rfl rfl ?_
      refine prm rfl rfl (by omega) (show (((i : Nat) : Int) + (q : Nat)).tmod ((bA l).size : Nat) = ((k : Nat) : Int) by rw [hsz, Int.tmod_eq_emod_of_nonneg (by omega), hkd]; first | exact (Int.natCast_emod _ _).symm | simp) rfl ?_
      first | refine pI rfl rfl ?_ | refine pu rfl rfl ?_
      refine SL_nil (nx (SWP_seq (SWP_region ?_)))
      first | refine pS rfl rfl ?_ | refine pu rfl rfl ?_
      first | refine pI rfl rfl ?_ | refine pu rfl rfl ?_
      refine ixs (k := k) rfl rfl rfl hb0 rfl ?_
      refine pc rfl rfl (fun c53 => ?_) (fun c53 => ?_)
      · skip
        refine SL_nil (nx (SWP_ct rfl (SWP_seq ?_)))
        have hk32 : l[k]? = some 32 := by rw [hb0]; exact congrArg some ((byte_eq (n := 32) (by decide)).1 (by assumption))
        refine SWP_tree [(B3, Cells 25 g.enc)] 18 (.one 0 (.one 1 (.one 2 (.one 3 (.one 4 (.one 5 (.one 6 (.one 7 (.one 8 (.fork (.alt 9 (.one 10 (.one 11 (.one 12 (.one 13 (.one 14 (.one 15 (.one 16 (.one 17 (.fin))))))))) (.alt 14 (.one 9 (.one 10 (.one 11 (.one 12 (.one 13 (.one 15 (.one 16 (.one 17 (.fin))))))))) (.none))))))))))))) (by kernel_rfl) (by kernel_rfl) (Sub.refl _) ?_
        refine T1 rfl ?_
        refine lw (v := .agg _) B3 0 rfl rfl rfl rfl ?_
        refine SL_nil ?_
        refine T1 rfl ?_
        first | refine pS rfl rfl ?_ | refine pu rfl rfl ?_
        refine SL_nil ?_
        refine T1 rfl ?_
        first | refine pI rfl rfl ?_ | refine pu rfl rfl ?_
        refine SL_nil ?_
        refine T1 rfl ?_
        refine ssh rfl rfl rfl (by omega) (by omega) rfl ?_
        rw [show (bA l).extract 0 ((k : Nat) : Int).toNat = bA (l.take k) by rw [bA_ext, Int.toNat_natCast]; simp]
        refine SL_nil ?_
        refine T1 rfl ?_
        refine sadd (a := bA (l.take k)) (b := bA [32]) rfl rfl (by rw [bA_size, bA_size, List.length_take]; simp only [List.length_cons, List.length_nil]; omega) rfl ?_
        rw [bA_app]
        refine SL_nil ?_
        refine T1 rfl ?_
        first | refine pS rfl rfl ?_ | refine pu rfl rfl ?_
        refine SL_nil ?_
        refine T1 rfl ?_
        first | refine pI rfl rfl ?_ | refine pu rfl rfl ?_
        refine SL_nil ?_
        refine T1 rfl ?_
        refine ssl rfl rfl rfl (by omega) (by omega) rfl ?_
        rw [show (bA l).extract ((k : Nat) : Int).toNat (bA l).size = bA (l.drop k) by rw [bA_ext, Int.toNat_natCast, hsz, List.take_of_length_le (by rw [List.length_drop]; exact Nat.le_refl _)]]
        refine SL_nil ?_
        refine T1 rfl ?_
        refine sadd (a := bA (l.take k ++ [32])) (b := bA (l.drop k)) rfl rfl (by rw [bA_size, bA_size, List.length_append, List.length_take, List.length_drop]; simp only [List.length_cons, List.length_nil]; omega) rfl ?_
        rw [bA_app]
        refine SL_nil ?_
        refine TF ?_
        refine TA rfl ?_ ?_
        · skip
          refine SL_call rfl rfl cb11 (CallsS.frame0 (parseS hin ((l.take k ++ [32]) ++ l.drop k) (by rw [List.length_append, List.length_append, List.length_take, List.length_drop]; simp only [List.length_cons, List.length_nil]; omega))) rfl (fun v11_9 σ11_9 m11_9 hl11_9 hR11_9 => ?_)
          obtain ⟨σx, rfl, rfl, x, rfl, hx, ix⟩ := hR11_9
          rw [parse_bad hz (by rw [List.length_append, List.length_append, List.length_take, List.length_drop]; simp only [List.length_cons, List.length_nil]; omega) (twice_in hk32)]
          refine SL_nil ?_
          refine T1 rfl ?_
          refine pu rfl rfl ?_
          refine SL_nil ?_
          refine T1 rfl ?_
          first | refine pA rfl rfl ?_ | refine pu rfl rfl ?_
          refine SL_nil ?_
          refine T1 rfl ?_
          first | refine pI rfl rfl ?_ | refine pu rfl rfl ?_
          refine SL_nil ?_
          refine T1 rfl ?_
          first | refine pI rfl rfl ?_ | refine pu rfl rfl ?_
          refine SL_nil ?_
          refine T1 rfl ?_
          refine al rfl rfl (fun B11 => ?_)
          refine SL_nil ?_
          refine T1 rfl ?_
          refine swE B11 0 x.enc (v := x.val) rfl rfl rfl rfl rfl rfl rfl rfl ?_
          refine SL_nil ?_
          refine T1 rfl ?_
          first | refine pI rfl rfl ?_ | refine pu rfl rfl ?_
          refine SL_nil ?_
          refine T1 rfl ?_
          first | refine pI rfl rfl ?_ | refine pu rfl rfl ?_
          refine SL_nil (nx (SWP_seq (SWP_region ?_)))
          first | refine pI rfl rfl ?_ | refine pu rfl rfl ?_
          refine pt rfl rfl (rfl) ?_
          refine pB rfl rfl ?_
          refine SL_yes rfl ?_
          refine SL_pcall rfl rfl cb10 (lives17) rfl ?_
          refine pB rfl rfl ?_
          refine pB rfl rfl ?_
          refine SL_nil (nx (SWP_ret (br (nr (nr (br (nr ?_)))))))
          refine fin [_] ⟨rfl, trivial⟩ ?_
          rfl
        refine TA rfl ?_ ?_
        · skip
          refine al rfl rfl (fun B11 => ?_)
          refine SL_nil ?_
          refine T1 rfl ?_
          refine SL_call rfl rfl cb11 (CallsS.frame0 (parseS hin ((l.take k ++ [32]) ++ l.drop k) (by rw [List.length_append, List.length_append, List.length_take, List.length_drop]; simp only [List.length_cons, List.length_nil]; omega))) rfl (fun v11_9 σ11_9 m11_9 hl11_9 hR11_9 => ?_)
          obtain ⟨σx, rfl, rfl, x, rfl, hx, ix⟩ := hR11_9
          rw [parse_bad hz (by rw [List.length_append, List.length_append, List.length_take, List.length_drop]; simp only [List.length_cons, List.length_nil]; omega) (twice_in hk32)]
          refine SL_nil ?_
          refine T1 rfl ?_
          refine pu rfl rfl ?_
          refine SL_nil ?_
          refine T1 rfl ?_
          first | refine pA rfl rfl ?_ | refine pu rfl rfl ?_
          refine SL_nil ?_
          refine T1 rfl ?_
          first | refine pI rfl rfl ?_ | refine pu rfl rfl ?_
          refine SL_nil ?_
          refine T1 rfl ?_
          first | refine pI rfl rfl ?_ | refine pu rfl rfl ?_
          refine SL_nil ?_
          refine T1 rfl ?_
          refine swE B11 0 x.enc (v := x.val) rfl rfl rfl rfl rfl rfl rfl rfl ?_
          refine SL_nil ?_
          refine T1 rfl ?_
          first | refine pI rfl rfl ?_ | refine pu rfl rfl ?_
          refine SL_nil ?_
          refine T1 rfl ?_
          first | refine pI rfl rfl ?_ | refine pu rfl rfl ?_
          refine SL_nil (nx (SWP_seq (SWP_region ?_)))
          first | refine pI rfl rfl ?_ | refine pu rfl rfl ?_
          refine pt rfl rfl (rfl) ?_
          refine pB rfl rfl ?_
          refine SL_yes rfl ?_
          refine SL_pcall rfl rfl cb10 (lives17) rfl ?_
          refine pB rfl rfl ?_
          refine pB rfl rfl ?_
          refine SL_nil (nx (SWP_ret (br (nr (nr (br (nr ?_)))))))
          refine fin [_] ⟨rfl, trivial⟩ ?_
          rfl
        exact True.intro
      refine SL_nil (nx (SWP_cf rfl (SWP_skip (nb (nx (SWP_region ?_))))))
      first | refine pI rfl rfl ?_ | refine pu rfl rfl ?_
      first | refine pw rfl rfl (w64 (by omega) (by omega)) ?_ | refine pu rfl rfl ?_
      refine pI rfl rfl ?_
      refine SL_nil (nx ?_)
      refine ⟨by repeat (first | exact Under.upds rfl (Under.hav _ _ _) | exact Under.hav _ _ _ | refine Under.upd rfl ?_), ?_, ?_⟩
      · exact ⟨i + 1, rfl, by omega, rfl, rfl⟩
      · simp only [L_vals, List.map, List.getD]; show l.length - (i + 1) < l.length - i; omega
    refine SL_nil (nx (SWP_cf rfl (SWP_exit (ne (ne (be rfl (nx (SWP_seq (SWP_region ?_)))))))))
    refine lw (v := .agg _) B3 0 rfl rfl rfl rfl ?_
    first | refine pS rfl rfl ?_ | refine pu rfl rfl ?_
    refine sadd (a := bA [32]) (b := bA l) rfl rfl (by rw [bA_size, bA_size]; simp only [List.length_cons, List.length_nil]; omega) rfl ?_
    rw [bA_app]
    refine SL_call rfl rfl cb11 (CallsS.frame0 (parseS hin ([32] ++ l) (by rw [List.length_append]; simp only [List.length_cons, List.length_nil]; omega))) rfl (fun v13_3 σ13_3 m13_3 hl13_3 hR13_3 => ?_)
    obtain ⟨σx, rfl, rfl, x, rfl, hx, ix⟩ := hR13_3
    rw [parse_front hz (by omega)]
    refine pu rfl rfl ?_
    first | refine pA rfl rfl ?_ | refine pu rfl rfl ?_
    first | refine pI rfl rfl ?_ | refine pu rfl rfl ?_
    first | refine pI rfl rfl ?_ | refine pu rfl rfl ?_
    refine al rfl rfl (fun B14 => ?_)
    refine swE B14 0 x.enc (v := x.val) rfl rfl rfl rfl rfl rfl rfl rfl ?_
    first | refine pI rfl rfl ?_ | refine pu rfl rfl ?_
    first | refine pI rfl rfl ?_ | refine pu rfl rfl ?_
    refine SL_nil (nx (SWP_seq (SWP_region ?_)))
    refine lw (v := .agg _) B3 0 rfl rfl rfl rfl ?_
    first | refine pS rfl rfl ?_ | refine pu rfl rfl ?_
    refine sadd (a := bA l) (b := bA [32]) rfl rfl (by rw [bA_size, bA_size]; simp only [List.length_cons, List.length_nil]; omega) rfl ?_
    rw [bA_app]
    refine SL_call rfl rfl cb11 (CallsS.frame0 (parseS (hin.mono hl13_3) (l ++ [32]) (by rw [List.length_append]; simp only [List.length_cons, List.length_nil]; omega))) rfl (fun v14_3 σ14_3 m14_3 hl14_3 hR14_3 => ?_)
    obtain ⟨σy, rfl, rfl, y, rfl, hy, iy⟩ := hR14_3
    rw [parse_bad hz (by rw [List.length_append]; simp only [List.length_cons, List.length_nil]; omega) (words_end l)]
    refine pu rfl rfl ?_
    first | refine pA rfl rfl ?_ | refine pu rfl rfl ?_
    first | refine pI rfl rfl ?_ | refine pu rfl rfl ?_
    first | refine pI rfl rfl ?_ | refine pu rfl rfl ?_
    refine al rfl rfl (fun B17 => ?_)
    refine swE B17 0 y.enc (v := y.val) rfl rfl rfl rfl rfl rfl rfl rfl ?_
    first | refine pI rfl rfl ?_ | refine pu rfl rfl ?_
    first | refine pI rfl rfl ?_ | refine pu rfl rfl ?_
    refine SL_nil (nx (SWP_seq (SWP_region ?_)))
    first | refine pI rfl rfl ?_ | refine pu rfl rfl ?_
    refine pt rfl rfl (rfl) ?_
    refine pB rfl rfl ?_
    refine SL_yes rfl ?_
    first | refine pI rfl rfl ?_ | refine pu rfl rfl ?_
    refine SL_yes rfl ?_
    refine pt rfl rfl (rfl) ?_
    refine pB rfl rfl ?_
    refine pB rfl rfl ?_
    refine SL_yes rfl ?_
    first | refine pI rfl rfl ?_ | refine pu rfl rfl ?_
    refine SL_yes rfl ?_
    refine pt rfl rfl (rfl) ?_
    refine pB rfl rfl ?_
    refine pB rfl rfl ?_
    refine SL_yes rfl ?_
    refine SL_pcall rfl rfl cb10 (lives17) rfl ?_
    refine pB rfl rfl ?_
    refine pB rfl rfl ?_
    refine SL_nil (nx (SWP_ret ?_))
    refine fin [_] ⟨rfl, trivial⟩ ?_
    rfl
  refine pB rfl rfl ?_
  refine pB rfl rfl ?_
  refine SL_no rfl rfl ?_
  refine SL_no rfl rfl ?_
  refine SL_no rfl rfl ?_
  refine pB rfl rfl ?_
  refine SL_nil (nx (SWP_ct rfl (SWP_seq (SWP_region ?_))))
  refine SL_pcall rfl rfl cb10 (lives17) rfl ?_
  first | refine pB rfl rfl ?_ | refine pu rfl rfl ?_
  refine SL_nil (nx (SWP_ret (nr ?_)))
  refine fin [_] ⟨rfl, trivial⟩ ?_
  rfl
end Go.Proofs.YtifjhpaoejageaaGreatDoor
namespace Go.Proofs.YtifjhpaoejageaaGreatDoor
open Eng
theorem u16_of {n : Int} (h : (Lit.int .u16 n).wf = true) : 0 ≤ n ∧ n < 65536 := by
  simp only [Lit.wf, Bool.and_eq_true, decide_eq_true_eq] at h
  have h1 : IntKind.u16.min = 0 := by decide
  have h2 : IntKind.u16.max = 65535 := by decide
  rw [h1, h2] at h
  omega
theorem lawSlipSpaces2 {m : Mem} {g : Game} (hin : g.In m) (s : ByteArray) {n : Int} (w : (Lit.int .u16 n).wf = true) : CallsS Tryz.prog 8 [g.val, .string s, .int .u16 n].toArray [] m fun r _ _ => r = .bool true := by
  have h0 := u16_of w
  obtain ⟨q, rfl⟩ : ∃ q : Nat, n = q := ⟨n.toNat, by omega⟩
  have h := lawSlipSpaces hin s.data.toList q (by omega)
  rwa [bA_of] at h
end Go.Proofs.YtifjhpaoejageaaGreatDoor
