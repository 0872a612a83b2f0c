/- What the claim rests on, part 6: models of the functions in plain Lean and walks through their code; printed by programs. -/
import Derived.ProofKit
import Derived.OpenShut
import Derived.Deep.Slices
import Derived.Deep.Fields
import Derived.ChangeSame
import Derived.Test.YtlgoegjboabgfaaGreatDoorProg
import Derived.KernelRfl
import Derived.Test.YtlgoegjboabgfaaGreatDoorKSaleErrors5
set_option linter.unusedVariables false
set_option linter.unusedSimpArgs false
namespace Go.Proofs.YtlgoegjboabgfaaGreatDoor
open Eng
def vE (v : Value) : List Value := [v]
theorem vE_len (v : Value) : (vE v).length = 1 := rfl
theorem cancelP {m : Mem} {R : Reg} {Bp : Nat} (hok : R.Ok m) (hB : R.B = Bp) (a : Int) (n : ByteArray) (t : Int) : CallsS Tryz.prog 17 [.pointer (some ⟨Bp, 0, none⟩), .int .i64 a, .string n, .int .i64 t].toArray R.sig m fun r σ' m' => CanOf R a n t r σ' m' := by
  subst hB
  exact cancelR hok a n t
theorem ticketsP {m : Mem} {R : Reg} {Bp : Nat} (hok : R.Ok m) (hB : R.B = Bp) (n : ByteArray) (d : Int) : CallsS Tryz.prog 19 [.pointer (some ⟨Bp, 0, none⟩), .string n, .int .i64 d].toArray R.sig m fun r σ' m' => σ' = R.sig ∧ TksOf R n d r m' := by
  subst hB
  exact ticketsR hok n d
structure Left (R R' : Reg) (e : Int) (m : Mem) : Prop where
  ok : R'.Ok m
  B : R'.B = R.B
  no : e ≠ 0 → R'.ts = R.ts
theorem left_can {R : Reg} {m m' : Mem} (hok : R.Ok m) (hl : Le m m') {a t : Int} {n : ByteArray} {r : Value} {σ : Sig} (h : CanOf R a n t r σ m') : ∃ (R' : Reg) (p e : Int), σ = R'.sig ∧ r = .tuple #[.int .i64 p, .int .i64 e] ∧ Left R R' e m' := by
  rcases h with ⟨_, h2, h3⟩ | ⟨i, tk, g, _, _, _, ⟨h4, h5, h6⟩ | ⟨h4, h5, st, h6, h7⟩⟩
  · exact ⟨R, _, _, h3, h2, hok.mono hl, rfl, fun _ => rfl⟩
  · exact ⟨R, _, _, h6, h5, hok.mono hl, rfl, fun _ => rfl⟩
  · exact ⟨_, _, _, h6, h5, h7, rfl, fun h => absurd rfl h⟩
theorem left_sell {R : Reg} {n : ByteArray} {l : List UInt8} {a b p t : Int} {r : Value} {σ : Sig} {m : Mem} (h : SellOf R n l a b p t r σ m) : ∃ (R' : Reg) (x : Rc) (e : Int), σ = R'.sig ∧ r = .tuple #[x.val, .int .i64 e] ∧ Left R R' e m := by
  obtain ⟨R', h1, ⟨h2, h3, h4⟩ | ⟨h2, g, bt, a', q, z, _, _, _, _, _, _, _, _, _, h5, h6⟩⟩ := h
  · exact ⟨R', _, _, h1, h3, h4.ok, h4.B, fun _ => h4.ts⟩
  · exact ⟨R', _, _, h1, h5, h6.ok, h6.B, fun h => absurd rfl h⟩
theorem left_acc {R : Reg} {x : Rc} {p t : Int} {r : Value} {σ : Sig} {m : Mem} (h : AccOf R x p t r σ m) : ∃ (R' : Reg) (e : Int), σ = R'.sig ∧ r = .int .i64 e ∧ Left R R' e m := by
  obtain ⟨R', h1, h2, ⟨h3, h4⟩ | ⟨h3, g, bt, a', q, z, _, _, _, _, _, _, _, _, _, _, _, _, h6⟩⟩ := h
  · exact ⟨R', _, h1, h2, h4.ok, h4.B, fun _ => h4.ts⟩
  · exact ⟨R', _, h1, h2, h6.ok, h6.B, fun h => absurd h3 h⟩
theorem permErr (X E Y : Sig) (b : Nat × Chk) : (E ++ ((b :: X) ++ Y)).Perm (b :: (X ++ (E ++ Y))) := by
  classical
  rw [List.perm_iff_count]
  intro y
  simp only [List.count_cons, List.count_append, List.cons_append]
  omega
theorem TksOf.mono {R : Reg} {n : ByteArray} {d : Int} {r : Value} {m m' : Mem} (h : TksOf R n d r m) (hl : Le m m') : TksOf R n d r m' := by
  obtain ⟨a, c, L, h1, h2, h3, h4⟩ := h
  exact ⟨a, c, L, h1, h2.mono hl, fun t ht => (h3 t ht).mono hl, h4⟩
theorem tks_same {m : Mem} {R R2 : Reg} {n : ByteArray} {d : Int} {v w : Value} (hts : R2.ts = R.ts) (h1 : TksOf R2 n d v m) (h2 : TksOf R n d w m) : PureCall Tryz.prog 28 [v, w] m (.bool true) := by
  obtain ⟨a, c, L, rfl, e2, e3, e4⟩ := h1
  obtain ⟨a', c', L', rfl, f2, f3, f4⟩ := h2
  refine sameTks e2 f2 e3 f3 (e4.trans (Eq.trans ?_ f4.symm))
  unfold Reg.of
  rw [hts]
set_option maxRecDepth 100000 in
set_option maxHeartbeats 4000000 in
theorem lawSaleErrors {m : Mem} (hT : TabM m) {g0 : Game} (hin : g0.In m) {av : Value} {acts : List Act} (hl : RL m Act.enc 14 av acts) (hA : ∀ a ∈ acts, a.Ok) : CallsS Tryz.prog 6 [g0.val, av].toArray [] m fun v _ _ => v = .bool true := by
  obtain ⟨aa, ac, rfl⟩ := hl.len
  have hsm := hl.small
  dsimp only [Game.val]
  refine enter Tryz.func6 Tryz.ntmps6 rfl rfl ?_
  refine SWP_seq (SWP_region ?_)
  refine bx (v := .agg _) rfl rfl (fun B2 => ?_)
  refine pB rfl rfl ?_
  refine SL_nil (nx (SWP_seq (SWP_region ?_)))
  refine lw (v := g0.val) B2 0 rfl rfl rfl rfl ?_
  refine SL_call rfl rfl cb25 (CallsS.keep0 (smallI hin)) rfl (fun v1_1 σ1_1 m1_1 hl1_1 hR1_1 => ?_)
  obtain ⟨rfl, g1, rfl, hin1⟩ := hR1_1
  have hT1 := hT.mono hl1_1
  have hlm := hl1_1
  refine swE B2 0 g1.enc (v := g1.val) rfl rfl rfl rfl (by kernel_rfl) (by kernel_rfl) (by kernel_rfl) (by kernel_rfl) ?_
  refine SL_nil (nx (SWP_seq (SWP_region ?_)))
  refine SL_call rfl rfl cb12 (CallsS.frame0 (newR 3)) rfl (fun v2_0 σ2_0 m2_0 hl2_0 hR2_0 => ?_)
  obtain ⟨σn, rfl, R0, rfl, rfl, hm2_0, hF, hkey⟩ := hR2_0
  have hn2_0 := hm2_0.symm
  subst hn2_0
  refine pP rfl rfl ?_
  refine SL_nil (nx (SWP_seq (SWP_seq (SWP_region ?_))))
  refine pP rfl rfl ?_
  refine pu (v := .bool false) rfl rfl ?_
  refine SL_nil (nx (SWP_cf rfl (SWP_skip (nx (SWP_seq (SWP_region ?_))))))
  refine pP rfl rfl ?_
  refine lw (v := g1.val) B2 0 rfl rfl rfl rfl ?_
  refine SL_call rfl rfl cb13 (CallsS.subF [_] (addR hF hin1) (.refl _)) rfl (fun v5_2 σ5_2 m5_2 hl5_2 hR5_2 => ?_)
  obtain ⟨σa, rfl, R1, rfl, e, rfl, hA1⟩ := hR5_2
  have hlA := hl5_2
  refine SL_nil (nx (SWP_seq (SWP_seq (SWP_region ?_))))
  refine pI rfl rfl ?_
  refine SL_nil (nx (SWP_block ?_))
  refine SWP_loop [4, 6, 7, 8, 9, 10, 11, 12, 21, 22, 23, 24, 25, 26, 27, 28, 29, 30, 31, 32, 33, 34, 35, 36, 37, 38, 39, 40, 41, 42, 43, 44, 45, 46, 47, 48, 49, 50, 51, 52, 53, 54, 55, 56, 57, 58, 59, 60, 61, 62, 63, 64, 65, 66, 67, 68, 69, 70, 71, 72, 73, 74, 75, 76, 77, 78, 79, 80, 81, 82, 83, 84, 85, 86, 87, 88, 89, 90, 91, 92, 93, 94, 95, 96, 97, 98, 99, 100, 101, 102, 103, 104, 105, 106, 107, 108, 109, 110, 111, 112, 113] [6]
      (fun vs σ' m' => ∃ (i : Nat) (R : Reg), vs = [.int .i64 (i : Nat)] ∧ i ≤ acts.length ∧ R.Ok m' ∧ R.B = R0.B ∧ σ' = R.sig ++ [(B2, Cells 31 g1.enc)] ∧ Le m1_1 m')
      (fun vs => acts.length - nOf (vs.getD 0 undef)) rfl ?_ ?_
  · exact ⟨0, R1, rfl, by omega, hA1.ok, hA1.B, rfl, hlA⟩
  intro u0 vs0 σ0 m0 hJ0 _
  obtain ⟨i, R, rfl, hi, hok, hB, rfl, hle⟩ := hJ0
  refine SWP_seq (SWP_seq (SWP_region ?_))
  refine pI rfl rfl ?_
  refine pL rfl rfl ?_
  refine pu rfl rfl ?_
  refine pc rfl rfl (fun c24 => ?_) (fun c24 => ?_)
  · skip
    refine pB rfl rfl ?_
    refine SL_yes rfl ?_
    refine pI rfl rfl ?_
    refine SL_yes rfl ?_
    refine pc rfl rfl (fun c27 => ?_) (fun c27 => ?_)
    · skip
      refine pB rfl rfl ?_
      refine SL_nil (nx (SWP_ct rfl (SWP_skip (nx (SWP_seq (SWP_block (SWP_seq ?_)))))))
      obtain ⟨a, hai⟩ : ∃ a, acts[i]? = some a := ⟨_, List.getElem?_eq_getElem (by omega)⟩
      obtain ⟨ad, e0, _, hat⟩ := hl.atA Act.enc_len hai
      have haO := hA a (List.mem_of_getElem? hai)
      refine SWP_region ?_
      refine pL rfl rfl ?_
      refine pI rfl rfl ?_
      refine ia (es := 14) (ad := ad) rfl rfl rfl rfl (by show Value.slice aa _ _ = _; rw [e0]) rfl (by omega) rfl ?_
      refine ldA (v := a.val) rfl (hat.mono (hlm.trans hle)) rfl rfl ?_
      refine SL_pcall rfl rfl cb27 (shortI a) rfl ?_
      refine al rfl rfl (fun B7 => ?_)
      refine swE B7 0 (shortA a).enc (v := (shortA a).val) rfl rfl rfl rfl (by kernel_rfl) (by kernel_rfl) (by kernel_rfl) (by kernel_rfl) ?_
      refine SL_nil (nx (SWP_seq (SWP_region ?_)))
      refine pP rfl rfl ?_
      refine SL_call rfl rfl cb26 (CallsS.subF ((B7, Cells 63 (shortA a).enc) :: [(B2, Cells 31 g1.enc)]) (lenP hB) (permX [(B7, Cells 63 (shortA a).enc)] R.sig [(B2, Cells 31 g1.enc)])) rfl (fun v10_1 σ10_1 m10_1 hl10_1 hR10_1 => ?_)
      obtain ⟨σb, rfl, rfl, rfl, hm10_1⟩ := hR10_1
      have hn10_1 := hm10_1.symm
      subst hn10_1
      refine pI rfl rfl ?_
      refine SL_nil (nx (SWP_seq (SWP_region ?_)))
      refine pL rfl rfl ?_
      refine SL_nil (nx (SWP_seq (SWP_seq (SWP_region ?_))))
      refine pI rfl rfl ?_
      refine SL_nil (nx (SWP_block ?_))
      refine SWP_loop [9, 10, 38, 39, 40, 41, 42, 43, 44, 45, 46, 47, 48, 49] [9, 10]
          (fun vs σ' m' => ∃ (k : Nat) (v : Value) (σe : Sig) (W : List Value), vs = [v, .int .i64 ((k + 1 : Nat) : Int)] ∧ k ≤ 4 ∧ W.length = k ∧ OwnS 42 1 v (W.flatMap vE) σe ∧ (∀ (j : Nat) (w : Value), W[j]? = some w → TksOf R g1.name ((j + 1 : Nat) : Int) w m') ∧ σ' = R.sig ++ (σe ++ ((B7, Cells 63 (shortA a).enc) :: [(B2, Cells 31 g1.enc)])) ∧ Le m0 m')
          (fun vs => 5 - nOf (vs.getD 1 undef)) rfl ?_ ?_
      · exact ⟨0, _, [], [], rfl, by omega, rfl, .nil, fun _ _ h => (by cases h), rfl, Le.refl _⟩
      intro u1 vs1 σ1 m1 hJ1 _
      obtain ⟨k, v, σe, W, rfl, hk, hWl, hown, hW, rfl, hle1⟩ := hJ1
      obtain ⟨va, vc, rfl⟩ := OwnS.lenL (by decide) vE_len hown
      refine SWP_seq (SWP_seq (SWP_region ?_))
      refine pI rfl rfl ?_
      refine pc rfl rfl (fun c39 => ?_) (fun c39 => ?_)
      · skip
        refine SL_nil (nx (SWP_ct rfl (SWP_skip (nx (SWP_seq (SWP_block (SWP_region ?_)))))))
        refine pL rfl rfl ?_
        refine pP rfl rfl ?_
        refine pu rfl rfl ?_
        refine lw (v := .string g1.name) B2 0 rfl rfl rfl rfl ?_
        refine pI rfl rfl ?_
        refine SL_call rfl rfl cb19 (CallsS.subF _ (ticketsP (hok.mono hle1) hB g1.name (((k + 1 : Nat) : Nat) : Int)) (.refl _)) rfl (fun v15_5 σ15_5 m15_5 hl15_5 hR15_5 => ?_)
        obtain ⟨σt, rfl, rfl, hTk⟩ := hR15_5
        obtain ⟨qa, qc, qL, hqe, _⟩ := id hTk
        subst hqe
        refine bs rfl rfl rfl rfl rfl (fun B48 => ?_)
        refine ap (e := 42) (size := 1) (bytes := 24) (k := 1) (news := vE (.slice qa qL.length qc)) rfl rfl rfl rfl rfl rfl rfl hown (permX (_ :: R.sig) σe _) rfl (Rd.of_cells (.head _)) rfl rfl (by rw [flatMap_len vE_len]; omega) rfl rfl (fun v49 σ49 hown49 => ?_)
        refine SL_perm (permErr _ _ _ _) ?_
        refine pu rfl rfl ?_
        refine SL_nil (nb (nx ?_))
        refine SWP_weak (.cons _ (.refl _)) ?_
        refine SWP_region ?_
        refine pI rfl rfl ?_
        refine pw rfl rfl (w64 (by omega) (by omega)) ?_
        refine pI rfl rfl ?_
        refine SL_nil (nx ?_)
        refine ⟨by repeat (first | exact Under.upds rfl (Under.hav _ _ _) | exact Under.hav _ _ _ | refine Under.upd rfl ?_ | refine Under.upds rfl ?_ | refine Under.hav2 rfl ?_), ?_, ?_⟩
        · refine ⟨k + 1, _, σ49, W ++ [.slice qa qL.length qc], rfl, by omega, by rw [List.length_append, hWl]; rfl, ?_, fun j w hj => ?_, rfl, hle1.trans hl15_5⟩
          · rw [List.flatMap_append, List.flatMap_cons, List.flatMap_nil, List.append_nil]; exact hown49
          · rcases Nat.lt_or_ge j W.length with h | h
            · rw [List.getElem?_append_left h] at hj
              exact (hW j w hj).mono hl15_5
            · rw [List.getElem?_append_right h] at hj
              obtain rfl : j = k := by
                have := (List.getElem?_eq_some_iff.1 hj).1
                simp only [List.length_cons, List.length_nil] at this
                omega
              rw [hWl, Nat.sub_self] at hj
              cases hj
              exact hTk
        · simp only [L_vals, List.map, List.getD]; show 5 - (k + 1 + 1) < 5 - (k + 1); omega
      refine SL_nil (nx (SWP_cf rfl (SWP_exit (ne (ne (be rfl (nx (SWP_seq (SWP_region ?_)))))))))
      refine pI rfl rfl ?_
      refine SL_nil (nx ?_)
      refine SWP_merge1 [11, 50, 51, 52, 53, 54, 55, 56, 57, 58, 59, 60, 61, 62, 63, 64, 65, 66, 67, 68, 69, 70, 71, 72, 73, 74, 75, 76, 77, 78, 79, 80, 81, 82, 83, 84, 85, 86, 87, 88, 89, 90, 91] [11]
          (fun vs σ' m' => ∃ (R2 : Reg) (e2 : Int), vs = [.int .i64 e2] ∧ Left R R2 e2 m' ∧ σ' = R2.sig ++ (σe ++ ((B7, Cells 63 (shortA a).enc) :: [(B2, Cells 31 g1.enc)])) ∧ Le m1 m')
          rfl ?_ ?_
      · skip
        refine SWP_seq (SWP_region ?_)
        refine pu rfl rfl ?_
        refine lw (v := .int .i64 _) B7 0 rfl rfl rfl rfl ?_
        refine SL_nil (nx (SWP_block (SWP_seq (SWP_region ?_))))
        refine pc rfl rfl (fun c70 => ?_) (fun c70 => ?_)
        · skip
          refine pB rfl rfl ?_
          refine SL_nil (nx (SWP_ct rfl (SWP_region ?_)))
          refine pP rfl rfl ?_
          refine pu rfl rfl ?_
          refine lw (v := (shortR a.rc).val) B7 7 rfl rfl rfl rfl ?_
          refine pu rfl rfl ?_
          refine lw (v := .int .i64 _) B7 5 rfl rfl rfl rfl ?_
          refine pu rfl rfl ?_
          refine lw (v := .int .i64 _) B7 6 rfl rfl rfl rfl ?_
          refine SL_call rfl rfl cb22 (CallsS.subF _ (acceptP (hT1.mono (hle.trans hle1)) (hok.mono hle1) hB (shortR_ok haO.f haO.p haO.a) _ _) (.refl _)) rfl (fun v20_7 σ20_7 m20_7 hl20_7 hR20_7 => ?_)
          obtain ⟨σa, rfl, hAO⟩ := hR20_7
          obtain ⟨R2, e2, rfl, rfl, hLf⟩ := left_acc hAO
          refine pI rfl rfl ?_
          refine SL_nil (nb (nx ?_))
          refine ⟨by repeat (first | with_reducible exact Under.refl _ _ | exact Under.upds rfl (Under.hav _ _ _) | exact Under.hav _ _ _ | refine Under.upd rfl ?_ | refine Under.upds rfl ?_ | refine Under.hav2 rfl ?_), ?_⟩
          exact ⟨R2, e2, rfl, hLf, rfl, by assumption⟩
        · skip
          refine pB rfl rfl ?_
          refine SL_nil (nx (SWP_cf rfl (SWP_seq (SWP_region ?_))))
          refine pc rfl rfl (fun c80 => ?_) (fun c80 => ?_)
          · skip
            refine pB rfl rfl ?_
            refine SL_nil (nx (SWP_ct rfl (SWP_region ?_)))
            refine pP rfl rfl ?_
            refine pu rfl rfl ?_
            refine lw (v := .int .i64 _) B7 3 rfl rfl rfl rfl ?_
            refine pu rfl rfl ?_
            refine lw (v := .string (cutS 120 a.text)) B7 2 rfl rfl rfl rfl ?_
            refine pu rfl rfl ?_
            refine lw (v := .int .i64 _) B7 6 rfl rfl rfl rfl ?_
            refine SL_call rfl rfl cb17 (CallsS.subF _ (cancelP (hok.mono hle1) hB _ (cutS 120 a.text) _) (.refl _)) rfl (fun v22_7 σ22_7 m22_7 hl22_7 hR22_7 => ?_)
            obtain ⟨σa, rfl, hCO⟩ := hR22_7
            obtain ⟨R2, p2, e2, rfl, rfl, hLf⟩ := left_can (hok.mono hle1) hl22_7 hCO
            refine pu rfl rfl ?_
            refine pI rfl rfl ?_
            refine pI rfl rfl ?_
            refine pI rfl rfl ?_
            refine SL_nil (nb (nx ?_))
            refine ⟨by repeat (first | with_reducible exact Under.refl _ _ | exact Under.upds rfl (Under.hav _ _ _) | exact Under.hav _ _ _ | refine Under.upd rfl ?_ | refine Under.upds rfl ?_ | refine Under.hav2 rfl ?_), ?_⟩
            exact ⟨R2, e2, rfl, hLf, rfl, by assumption⟩
          · skip
            refine pB rfl rfl ?_
            refine SL_nil (nx (SWP_cf rfl (SWP_region ?_)))
            refine pP rfl rfl ?_
            refine pu rfl rfl ?_
            refine lw (v := .string (shortA a).game) B7 1 rfl rfl rfl rfl ?_
            refine pu rfl rfl ?_
            refine lw (v := .string (cutS 120 a.text)) B7 2 rfl rfl rfl rfl ?_
            refine pu rfl rfl ?_
            refine lw (v := .int .i64 _) B7 3 rfl rfl rfl rfl ?_
            refine pu rfl rfl ?_
            refine lw (v := .int .i64 _) B7 4 rfl rfl rfl rfl ?_
            refine pu rfl rfl ?_
            refine lw (v := .int .i64 _) B7 5 rfl rfl rfl rfl ?_
            refine pu rfl rfl ?_
            refine lw (v := .int .i64 _) B7 6 rfl rfl rfl rfl ?_
            refine SL_call rfl rfl cb15 (CallsS.subF _ (sellP (hT1.mono (hle.trans hle1)) (hok.mono hle1) hB (shortA a).game (cutS 120 a.text) (by have := cutS_len 120 a.text; omega) _ _ _ _) (.refl _)) rfl (fun v18_13 σ18_13 m18_13 hl18_13 hR18_13 => ?_)
            obtain ⟨σa, rfl, hSO⟩ := hR18_13
            obtain ⟨R2, x2, e2, rfl, rfl, hLf⟩ := left_sell hSO
            refine pu rfl rfl ?_
            refine pu (v := x2.val) rfl rfl ?_
            refine pI rfl rfl ?_
            refine pI rfl rfl ?_
            refine SL_nil (nb (nx ?_))
            refine ⟨by repeat (first | with_reducible exact Under.refl _ _ | exact Under.upds rfl (Under.hav _ _ _) | exact Under.hav _ _ _ | refine Under.upd rfl ?_ | refine Under.upds rfl ?_ | refine Under.hav2 rfl ?_), ?_⟩
            exact ⟨R2, e2, rfl, hLf, rfl, by assumption⟩
      intro uM0 vM0 σM0 mM0 hM0 _
      obtain ⟨R2, e2, rfl, hLf, rfl, hle2⟩ := hM0
      refine SWP_seq (SWP_seq (SWP_region ?_))
      refine pI rfl rfl ?_
      refine pc rfl rfl (fun c93 => ?_) (fun c93 => ?_)
      · skip
        refine SL_nil (nx (SWP_ct rfl (SWP_exit (ne (be rfl (nx ?_))))))
        refine SWP_weak (List.Sublist.append_left ((List.Sublist.cons _ (List.Sublist.refl _)).trans (List.sublist_append_right _ _)) _) ?_
        refine SWP_region ?_
        refine pI rfl rfl ?_
        refine pw rfl rfl (w64 (by omega) (by omega)) ?_
        refine pI rfl rfl ?_
        refine SL_nil (nx ?_)
        refine ⟨by repeat (first | exact Under.upds rfl (Under.hav _ _ _) | exact Under.hav _ _ _ | refine Under.upd rfl ?_ | refine Under.upds rfl ?_ | refine Under.hav2 rfl ?_), ?_, ?_⟩
        · exact ⟨i + 1, R2, rfl, by omega, hLf.ok, hLf.B.trans hB, rfl, hle.trans (hle1.trans hle2)⟩
        · simp only [L_vals, List.map, List.getD]; show acts.length - (i + 1) < acts.length - i; omega
      refine SL_nil (nx (SWP_cf rfl (SWP_skip (nx (SWP_seq (SWP_seq (SWP_region ?_)))))))
      refine pI rfl rfl ?_
      refine SL_nil (nx (SWP_block ?_))
      refine SWP_loop [4, 12, 94, 95, 96, 97, 98, 99, 100, 101, 102, 103, 104, 105, 106, 107, 108, 109] [12]
          (fun vs σ' m' => ∃ (q : Nat), vs = [.int .i64 ((q + 1 : Nat) : Int)] ∧ q ≤ 4 ∧ σ' = R2.sig ++ (σe ++ ((B7, Cells 63 (shortA a).enc) :: [(B2, Cells 31 g1.enc)])) ∧ Le mM0 m')
          (fun vs => 5 - nOf (vs.getD 0 undef)) rfl ?_ ?_
      · exact ⟨0, rfl, by omega, rfl, Le.refl _⟩
      intro u2 vs2 σ2 m2 hJ2 _
      obtain ⟨q, rfl, hq, rfl, hle3⟩ := hJ2
      refine SWP_seq (SWP_seq (SWP_region ?_))
      refine pI rfl rfl ?_
      refine pc rfl rfl (fun c95 => ?_) (fun c95 => ?_)
      · skip
        refine SL_nil (nx (SWP_ct rfl (SWP_skip (nx (SWP_seq (SWP_block (SWP_seq ?_)))))))
        obtain ⟨w, hwq⟩ : ∃ w, W[q]? = some w := ⟨_, List.getElem?_eq_getElem (by omega)⟩
        obtain ⟨adw, ew, _, hltw, hrdw⟩ := OwnS.atN (by decide) vE_len hown hwq
        cases ew
        refine SWP_drawn (σe ++ ((B7, Cells 63 (shortA a).enc) :: [(B2, Cells 31 g1.enc)])) [0, 1, 2, 3, 5, 6, 7, 8, 9, 4, 10, 11] (by kernel_rfl) (by kernel_rfl) (Sub.left _ (Sub.refl _)) ?_
        refine pP rfl rfl ?_
        refine pu rfl rfl ?_
        refine lw (v := .string g1.name) B2 0 rfl rfl rfl rfl ?_
        refine pI rfl rfl ?_
        refine pL rfl rfl ?_
        refine pI rfl rfl ?_
        refine pw rfl rfl (w64 (by omega) (by omega)) ?_
        refine resay 105 (.int .i64 ((q : Nat) : Int)) (congrArg (Value.int .i64) (show ((q + 1 : Nat) : Int) - 1 = ((q : Nat) : Int) by omega)) ?_
        refine ia (es := 1) (ad := adw) (k := q) rfl rfl rfl (Nat.mul_one _) rfl rfl (by omega) rfl ?_
        refine ldO (off := 0) (cs := vE w) (p := adw.add (q * 1)) (v := w) (hrdw _ _ (fun c hc => List.mem_append_left _ hc)) rfl (q1 _ _) rfl rfl ?_
        refine SL_call rfl rfl cb19 (CallsS.subF _ (ticketsP (hLf.ok.mono hle3) (hLf.B.trans hB) g1.name (((q + 1 : Nat) : Nat) : Int)) (.refl _)) rfl (fun v27_4 σ27_4 m27_4 hl27_4 hR27_4 => ?_) (hk := fun _ _ _ _ ⟨σ₁, e, _⟩ => e ▸ Sub.left σ₁ (Sub.refl _))
        obtain ⟨σt, rfl, rfl, hTk⟩ := hR27_4
        refine SL_pcall rfl rfl cb28 (tks_same (hLf.no (by assumption)) hTk ((hW q w hwq).mono (hle2.trans (hle3.trans hl27_4)))) rfl ?_
        refine pB rfl rfl ?_
        refine SL_nil (nx (SWP_cf rfl (SWP_skip (nb (nx (SWP_region ?_))))))
        refine pI rfl rfl ?_
        refine pw rfl rfl (w64 (by omega) (by omega)) ?_
        refine pI rfl rfl ?_
        refine SL_nil (nx ?_)
        refine ⟨by repeat (first | exact Under.upds rfl (Under.hav _ _ _) | exact Under.hav _ _ _ | refine Under.upd rfl ?_ | refine Under.upds rfl ?_ | refine Under.hav2 rfl ?_), ?_, ?_⟩
        · exact ⟨q + 1, rfl, by omega, rfl, hle3.trans hl27_4⟩
        · simp only [L_vals, List.map, List.getD]; show 5 - (q + 1 + 1) < 5 - (q + 1); omega
      refine SL_nil (nx (SWP_cf rfl (SWP_exit (ne (ne (be rfl (nx (SWP_seq (SWP_region ?_)))))))))
      refine pP rfl rfl ?_
      refine SL_call rfl rfl cb26 (CallsS.subF _ (lenP (hLf.B.trans hB)) (.refl _)) rfl (fun v29_1 σ29_1 m29_1 hl29_1 hR29_1 => ?_)
      obtain ⟨σb, rfl, rfl, rfl, hm29_1⟩ := hR29_1
      have hn29_1 := hm29_1.symm
      subst hn29_1
      refine pI rfl rfl ?_
      refine pn rfl rfl (fun hh => hh (by rw [hLf.no (by assumption)])) ?_
      refine SL_nil (nx (SWP_cf rfl (SWP_skip (nb (nx ?_)))))
      refine SWP_weak (List.Sublist.append_left ((List.Sublist.cons _ (List.Sublist.refl _)).trans (List.sublist_append_right _ _)) _) ?_
      refine SWP_region ?_
      refine pI rfl rfl ?_
      refine pw rfl rfl (w64 (by omega) (by omega)) ?_
      refine pI rfl rfl ?_
      refine SL_nil (nx ?_)
      refine ⟨by repeat (first | exact Under.upds rfl (Under.hav _ _ _) | exact Under.hav _ _ _ | refine Under.upd rfl ?_ | refine Under.upds rfl ?_ | refine Under.hav2 rfl ?_), ?_, ?_⟩
      · exact ⟨i + 1, R2, rfl, by omega, hLf.ok.mono hle3, hLf.B.trans hB, rfl, hle.trans (hle1.trans (hle2.trans hle3))⟩
      · simp only [L_vals, List.map, List.getD]; show acts.length - (i + 1) < acts.length - i; omega
    refine pB rfl rfl ?_
    refine SL_nil (nx (SWP_cf rfl (SWP_exit (ne (ne (be rfl (nx (SWP_seq (SWP_region ?_)))))))))
    refine SL_pcall rfl rfl cb20 (works25) rfl ?_
    refine pB rfl rfl ?_
    refine SL_nil (nx (SWP_ret ?_))
    refine fin [_] ⟨rfl, trivial⟩ ?_
    rfl
  refine pB rfl rfl ?_
  refine SL_no rfl rfl ?_
  refine SL_no rfl rfl ?_
  refine pB rfl rfl ?_
  refine SL_nil (nx (SWP_cf rfl (SWP_exit (ne (ne (be rfl (nx (SWP_seq (SWP_region ?_)))))))))
  refine SL_pcall rfl rfl cb20 (works25) rfl ?_
  refine pB rfl rfl ?_
  refine SL_nil (nx (SWP_ret ?_))
  refine fin [_] ⟨rfl, trivial⟩ ?_
  rfl
end Go.Proofs.YtlgoegjboabgfaaGreatDoor
namespace Go.Proofs.YtlgoegjboabgfaaGreatDoor
namespace Eng
open Go.RowKit Go.ChangeShapes Go.WideShapes Go.ChangeAt Go.Deep
open Go.ChangeMaps (open_string shut_string)
def allMem (W : World) : Mem := fun k => W.heap[k]?
theorem allMem_cell (W : World) (p : Addr) : (allMem W).cell p = W.cell? p := by
  unfold Mem.cell allMem World.cell?
  cases W.heap[p.block]? with
  | none => rfl
  | some o => cases o <;> simp [objCell]
theorem conc_all (W : World) : Conc ⟨fun _ => none, allMem W, W⟩ W (allMem W) [] :=
  ⟨rfl, rfl, rfl, Le.refl _, fun _ _ h => h, fun _ _ h => (by cases h), fun _ h => (by cases h), List.nodup_nil⟩
theorem below_of {W W' : World} {g : Gh} {m' : Mem} {σ' : Sig} (hw : g.w0 = W) (hC : Conc g W' m' σ') (hl : Le (allMem W) m') : Below W.heap.size W W' := by
  subst hw
  have hb : ∀ k, k < g.w0.heap.size → W'.heap[k]? = g.w0.heap[k]? := fun k hk => by
    have : g.w0.heap[k]? = some g.w0.heap[k] := Array.getElem?_eq_getElem hk
    rw [this]
    exact hC.imm _ _ (hl _ _ this)
  refine ⟨hC.os, hC.tape, hC.output, ?_, hb⟩
  rcases Nat.eq_zero_or_pos g.w0.heap.size with h0 | h0
  · omega
  · have h1 := hb (g.w0.heap.size - 1) (Nat.sub_lt h0 Nat.one_pos)
    have h3 : g.w0.heap[g.w0.heap.size - 1]? = some g.w0.heap[g.w0.heap.size - 1] := Array.getElem?_eq_getElem _
    rw [h3] at h1
    have h2 := (Array.getElem?_eq_some_iff.1 h1).1
    exact Nat.le_of_pred_lt h2
theorem top {P : Program} {F : FuncId} {args : List Value} {W : World} (h : CallsS P F args.toArray [] (allMem W) fun v _ _ => v = .bool true) :
    Calls P F args.toArray W fun e W' => e = .returned (.bool true) ∧ Below W.heap.size W W' :=
  (h _ W (conc_all W)).mono fun _ _ ⟨_, _, _, he, hC, hl, hv⟩ => ⟨by rw [he, hv], below_of rfl hC hl⟩
section
variable {H : Type} {enc : TypeId × Value → H} {P : Program}
theorem trodAll_below (hl : laidOutB P = true) {W W' : World} (hb : Below W.heap.size W W') : ∀ {ts : List TypeId} {vs : List Value} {ds : List (DataW H)} {ps : List MemPlace},
    ts.all (fun t => P.readableRec t && decide (t < P.types.size)) = true → DataW.TrodAll enc P W 0 (fun _ => true) true ts vs ds ps → (∀ x ∈ ps, x.block < W.heap.size) →
    DataW.TrodAll enc P W' 0 (fun b => decide (b < W.heap.size)) true ts vs ds ps
  | [], [], [], _, _, h, _ => h
  | t :: ts, v :: vs, d :: ds, ps, ht, h, hlt => by
    obtain ⟨p, q, h1, h2, rfl⟩ := h
    simp only [List.all_cons, Bool.and_eq_true] at ht
    exact ⟨p, q, Below.trod hl ht.1.1 (of_decide_eq_true ht.1.2) h1 hb (fun x hx => hlt x (List.mem_append_left _ hx)),
      trodAll_below hl hb ht.2 h2 (fun x hx => hlt x (List.mem_append_right _ hx)), rfl⟩
  | [], [], _ :: _, _, _, h, _ => h.elim
  | [], _ :: _, _, _, _, h, _ => h.elim
  | _ :: _, [], _, _, _, h, _ => h.elim
  | _ :: _, _ :: _, [], _, _, h, _ => h.elim
theorem post_law {f : Func} {s : ChangeSpec} {W W' : World} {args : Array Value} {ds gs : List (DataW H)} {ps : List MemPlace} {tb : Nat} (hl : laidOutB P = true) (hvars : s.vars = []) (hW : DataW.Whole enc P f.params.toList s.vars false W args.toList ds gs ps)
    (hp : f.params.toList.all (fun t => P.readableRec t && decide (t < P.types.size)) = true) (hrt : f.resultTypes = #[tb]) (htb : P.underlying tb = some .bool)
    (hres : (s.fn H (ds ++ gs)).results = [.lit (.bool true)]) (hargs : (s.fn H (ds ++ gs)).args = ds) (hv : (s.fn H (ds ++ gs)).vars = []) (hb : Below W.heap.size W W') :
    s.post enc P f false true false false W args (.bool true) W' := by
  have hW' := hW
  obtain ⟨p, q, hA, hV, rfl, _, _⟩ := hW
  have hlt : ∀ x ∈ p ++ q, x.block < W.heap.size := fun x hx => hW'.lt x hx
  refine ⟨ds, gs, p ++ q, [], p, [], hW', ?_, ?_, ?_, hb.frame _, fun h => (by cases h)⟩
  · rw [hres, hrt]
    exact trodAll_mk1 (shut_bool htb true)
  · rw [hargs]
    exact trodAll_below hl hb hp hA (fun x hx => hlt x (List.mem_append_left _ hx))
  · rw [hv, hvars]
    rfl
theorem open_list {α : Type} {en : α → List Value} {size : Nat} {Ok : α → Prop} (hen : ∀ x, (en x).length = size) {W : World} {tS tE : TypeId} {fuel : Nat} {v : Value} {x : DataW H × List MemPlace} (ht : P.underlying tS = some (.slice tE)) (hC : P.cellsOf tE = size)
    (hel : ∀ n cs y, DataW.trod enc P W 0 (fun _ => true) true n tE cs = some y → ∃ a : α, cs = en a ∧ Ok a) (h : DataW.trod enc P W 0 (fun _ => true) true fuel tS [v] = some x) :
    ∃ l : List α, RL (allMem W) en size v l ∧ ∀ a ∈ l, Ok a := by
  rcases open_slice ht h with ⟨h0, _⟩ | ⟨ad, len, cap, mm, n, D, Pl, h0, _, hlc, hcm, hmm, _, hf⟩
  · simp only [List.cons.injEq, and_true] at h0
    subst h0
    exact ⟨[], RL.nil _ _, fun _ h => (by cases h)⟩
  · simp only [List.cons.injEq, and_true] at h0
    subst h0
    simp only [if_true] at hmm
    have hall : ∀ i, i < len → ∃ a : α, Ok a ∧ ∀ j u, (en a)[j]? = some u → W.cell? (ad.add (i * size + j)) = some u := fun i hi' => by
      obtain ⟨cs, h1, h2⟩ := hf i (by omega)
      obtain ⟨_, h3, h4⟩ := World.cells?_some h1
      obtain ⟨a, rfl, hok⟩ := hel _ _ _ h2
      refine ⟨a, hok, fun j u hj => ?_⟩
      have hj' := (List.getElem?_eq_some_iff.1 hj).1
      rw [← add_add, ← hj, ← h4 j (by omega), hC]
    have key : ∀ n, n ≤ len → ∃ l : List α, l.length = n ∧ (∀ a ∈ l, Ok a) ∧ ∀ i (a : α), l[i]? = some a → ∀ j u, (en a)[j]? = some u → W.cell? (ad.add (i * size + j)) = some u := by
      intro n
      induction n with
      | zero => exact fun _ => ⟨[], rfl, fun _ h => (by cases h), fun i b hb => by simp at hb⟩
      | succ n ih =>
        intro hn
        obtain ⟨l, hl1, hl3, hl2⟩ := ih (by omega)
        obtain ⟨b, hok, hb⟩ := hall n (by omega)
        refine ⟨l ++ [b], by simp [hl1], fun a ha => ?_, fun i c hc => ?_⟩
        · rcases List.mem_append.1 ha with ha | ha
          · exact hl3 a ha
          · rw [List.mem_singleton.1 ha]; exact hok
        · by_cases hi' : i < n
          · rw [List.getElem?_append_left (by omega)] at hc
            exact hl2 i c hc
          · rw [List.getElem?_append_right (by omega)] at hc
            have hi2 : i = n := by
              have := (List.getElem?_eq_some_iff.1 hc).1
              simp at this; omega
            subst hi2
            rw [hl1] at hc
            simp only [Nat.sub_self, List.getElem?_cons_zero, Option.some.injEq] at hc
            subst hc
            exact hb
    obtain ⟨l, rfl, hl3, hl2⟩ := key len (Nat.le_refl _)
    refine ⟨l, ⟨some ad, cap, rfl, flatMap_len hen l, hlc, hcm, fun e => (by cases e), fun ad' e j u hj => ?_⟩, hl3⟩
    cases e
    rw [allMem_cell]
    have hjl : j < l.length * size := by
      have := (List.getElem?_eq_some_iff.1 hj).1
      rwa [flatMap_len hen] at this
    have hs : 0 < size := Nat.pos_of_ne_zero fun e => by rw [e] at hjl; simp at hjl
    have hd : j / size < l.length := (Nat.div_lt_iff_lt_mul hs).2 hjl
    have hb : l[j / size]? = some l[j / size] := List.getElem?_eq_getElem hd
    have hm : j % size < size := Nat.mod_lt _ hs
    have := hl2 _ _ hb (j % size) u (by
      have h3 := flatMap_seg hen l (j / size) _ hb
      rw [← h3, List.getElem?_take, if_pos hm, List.getElem?_drop, ← hj]
      congr 1; exact Nat.div_add_mod' j size)
    rw [Nat.div_add_mod'] at this
    exact this
end
end Eng
end Go.Proofs.YtlgoegjboabgfaaGreatDoor
namespace Go.Proofs.YtlgoegjboabgfaaGreatDoor
open Eng
theorem cells3 : Tryz.prog.cellsOf 3 = 1 := by kernel_rfl
theorem open_el3 {H : Type} {enc : TypeId × Value → H} {W : World} (n : Nat) (cs : List Value) (y : DataW H × List MemPlace) (h : DataW.trod enc Tryz.prog W 0 (fun _ => true) true n 3 cs = some y) : ∃ b : Int, cs = intE b ∧ (Lit.int .i64 b).wf = true := by
  obtain ⟨n0, e0, _, w0⟩ := DataW.trod_int Tryz.underlying3 h
  exact ⟨n0, e0, w0⟩
def Tier.OkM (m : Mem) : Tier → Prop
  | ⟨n0, n1, n2, n3, n4, n5⟩ => (Lit.int .i64 n0).wf = true ∧ (Lit.int .i64 n1).wf = true ∧ (Lit.int .i64 n2).wf = true ∧ (Lit.int .i64 n3).wf = true ∧ (Lit.int .i64 n4).wf = true ∧ (Lit.int .i64 n5).wf = true
theorem cells_Tier : Tryz.prog.cellsOf 102 = 6 := by kernel_rfl
set_option maxRecDepth 100000 in
theorem open_Tier {H : Type} {enc : TypeId × Value → H} {W : World} (n : Nat) (cs : List Value) (y : DataW H × List MemPlace) (h : DataW.trod enc Tryz.prog W 0 (fun _ => true) true n 102 cs = some y) : ∃ b : Tier, cs = b.enc ∧ b.OkM (allMem W) := by
  obtain ⟨xs, k, _, _, hlen, hxs, hf⟩ := DataW.trod_struct Tryz.underlying102 h
  rw [cells_Tier] at hlen
  match cs, hlen with
  | [v0, v1, v2, v3, v4, v5], _ =>
  match xs, hxs with
  | [y0, y1, y2, y3, y4, y5], _ =>
    have f0 : DataW.trod enc Tryz.prog W 0 (fun _ => true) true k 3 [v0] = some y0 := by
      have := hf 0 _ rfl
      have e0 : List.take (Tryz.prog.cellsOf 3) (List.drop 0 [v0, v1, v2, v3, v4, v5]) = [v0] := by rw [cells3]; rfl
      rw [← e0]; exact this
    have f1 : DataW.trod enc Tryz.prog W 0 (fun _ => true) true k 3 [v1] = some y1 := by
      have := hf 1 _ rfl
      have e0 : List.take (Tryz.prog.cellsOf 3) (List.drop 1 [v0, v1, v2, v3, v4, v5]) = [v1] := by rw [cells3]; rfl
      rw [← e0]; exact this
    have f2 : DataW.trod enc Tryz.prog W 0 (fun _ => true) true k 3 [v2] = some y2 := by
      have := hf 2 _ rfl
      have e0 : List.take (Tryz.prog.cellsOf 3) (List.drop 2 [v0, v1, v2, v3, v4, v5]) = [v2] := by rw [cells3]; rfl
      rw [← e0]; exact this
    have f3 : DataW.trod enc Tryz.prog W 0 (fun _ => true) true k 3 [v3] = some y3 := by
      have := hf 3 _ rfl
      have e0 : List.take (Tryz.prog.cellsOf 3) (List.drop 3 [v0, v1, v2, v3, v4, v5]) = [v3] := by rw [cells3]; rfl
      rw [← e0]; exact this
    have f4 : DataW.trod enc Tryz.prog W 0 (fun _ => true) true k 3 [v4] = some y4 := by
      have := hf 4 _ rfl
      have e0 : List.take (Tryz.prog.cellsOf 3) (List.drop 4 [v0, v1, v2, v3, v4, v5]) = [v4] := by rw [cells3]; rfl
      rw [← e0]; exact this
    have f5 : DataW.trod enc Tryz.prog W 0 (fun _ => true) true k 3 [v5] = some y5 := by
      have := hf 5 _ rfl
      have e0 : List.take (Tryz.prog.cellsOf 3) (List.drop 5 [v0, v1, v2, v3, v4, v5]) = [v5] := by rw [cells3]; rfl
      rw [← e0]; exact this
    obtain ⟨n0, e0, _, w0⟩ := DataW.trod_int Tryz.underlying3 f0
    obtain rfl : v0 = _ := (List.cons.inj e0).1
    obtain ⟨n1, e1, _, w1⟩ := DataW.trod_int Tryz.underlying3 f1
    obtain rfl : v1 = _ := (List.cons.inj e1).1
    obtain ⟨n2, e2, _, w2⟩ := DataW.trod_int Tryz.underlying3 f2
    obtain rfl : v2 = _ := (List.cons.inj e2).1
    obtain ⟨n3, e3, _, w3⟩ := DataW.trod_int Tryz.underlying3 f3
    obtain rfl : v3 = _ := (List.cons.inj e3).1
    obtain ⟨n4, e4, _, w4⟩ := DataW.trod_int Tryz.underlying3 f4
    obtain rfl : v4 = _ := (List.cons.inj e4).1
    obtain ⟨n5, e5, _, w5⟩ := DataW.trod_int Tryz.underlying3 f5
    obtain rfl : v5 = _ := (List.cons.inj e5).1
    exact ⟨⟨n0, n1, n2, n3, n4, n5⟩, rfl, ⟨w0, w1, w2, w3, w4, w5⟩⟩
theorem cells9 : Tryz.prog.cellsOf 9 = 1 := by kernel_rfl
theorem cells111 : Tryz.prog.cellsOf 111 = 1 := by kernel_rfl
def Addon.OkM (m : Mem) : Addon → Prop
  | ⟨n0, n1, n2, a3, c3, l3, n4, a5, c5, l5⟩ => n0.size ≤ maxLen ∧ (Lit.int .i64 n1).wf = true ∧ (Lit.int .i64 n2).wf = true ∧ (RL m intE 1 (.slice a3 l3.length c3) l3 ∧ ∀ x ∈ l3, (Lit.int .i64 x).wf = true) ∧ (Lit.int .i64 n4).wf = true ∧ (RL m intE 1 (.slice a5 l5.length c5) l5 ∧ ∀ x ∈ l5, (Lit.int .i64 x).wf = true)
theorem cells_Addon : Tryz.prog.cellsOf 122 = 6 := by kernel_rfl
set_option maxRecDepth 100000 in
theorem open_Addon {H : Type} {enc : TypeId × Value → H} {W : World} (n : Nat) (cs : List Value) (y : DataW H × List MemPlace) (h : DataW.trod enc Tryz.prog W 0 (fun _ => true) true n 122 cs = some y) : ∃ b : Addon, cs = b.enc ∧ b.OkM (allMem W) := by
  obtain ⟨xs, k, _, _, hlen, hxs, hf⟩ := DataW.trod_struct Tryz.underlying122 h
  rw [cells_Addon] at hlen
  match cs, hlen with
  | [v0, v1, v2, v3, v4, v5], _ =>
  match xs, hxs with
  | [y0, y1, y2, y3, y4, y5], _ =>
    have f0 : DataW.trod enc Tryz.prog W 0 (fun _ => true) true k 9 [v0] = some y0 := by
      have := hf 0 _ rfl
      have e0 : List.take (Tryz.prog.cellsOf 9) (List.drop 0 [v0, v1, v2, v3, v4, v5]) = [v0] := by rw [cells9]; rfl
      rw [← e0]; exact this
    have f1 : DataW.trod enc Tryz.prog W 0 (fun _ => true) true k 3 [v1] = some y1 := by
      have := hf 1 _ rfl
      have e0 : List.take (Tryz.prog.cellsOf 3) (List.drop 1 [v0, v1, v2, v3, v4, v5]) = [v1] := by rw [cells3]; rfl
      rw [← e0]; exact this
    have f2 : DataW.trod enc Tryz.prog W 0 (fun _ => true) true k 3 [v2] = some y2 := by
      have := hf 2 _ rfl
      have e0 : List.take (Tryz.prog.cellsOf 3) (List.drop 2 [v0, v1, v2, v3, v4, v5]) = [v2] := by rw [cells3]; rfl
      rw [← e0]; exact this
    have f3 : DataW.trod enc Tryz.prog W 0 (fun _ => true) true k 111 [v3] = some y3 := by
      have := hf 3 _ rfl
      have e0 : List.take (Tryz.prog.cellsOf 111) (List.drop 3 [v0, v1, v2, v3, v4, v5]) = [v3] := by rw [cells111]; rfl
      rw [← e0]; exact this
    have f4 : DataW.trod enc Tryz.prog W 0 (fun _ => true) true k 3 [v4] = some y4 := by
      have := hf 4 _ rfl
      have e0 : List.take (Tryz.prog.cellsOf 3) (List.drop 4 [v0, v1, v2, v3, v4, v5]) = [v4] := by rw [cells3]; rfl
      rw [← e0]; exact this
    have f5 : DataW.trod enc Tryz.prog W 0 (fun _ => true) true k 111 [v5] = some y5 := by
      have := hf 5 _ rfl
      have e0 : List.take (Tryz.prog.cellsOf 111) (List.drop 5 [v0, v1, v2, v3, v4, v5]) = [v5] := by rw [cells111]; rfl
      rw [← e0]; exact this
    obtain ⟨n0, e0, _, w0⟩ := DataW.trod_string Tryz.underlying9 f0
    obtain rfl : v0 = _ := (List.cons.inj e0).1
    obtain ⟨n1, e1, _, w1⟩ := DataW.trod_int Tryz.underlying3 f1
    obtain rfl : v1 = _ := (List.cons.inj e1).1
    obtain ⟨n2, e2, _, w2⟩ := DataW.trod_int Tryz.underlying3 f2
    obtain rfl : v2 = _ := (List.cons.inj e2).1
    obtain ⟨l3, hl3, w3⟩ := open_list (v := v3) intE_len Tryz.underlying111 cells3 open_el3 f3
    obtain ⟨a3, c3, rfl⟩ := hl3.len
    obtain ⟨n4, e4, _, w4⟩ := DataW.trod_int Tryz.underlying3 f4
    obtain rfl : v4 = _ := (List.cons.inj e4).1
    obtain ⟨l5, hl5, w5⟩ := open_list (v := v5) intE_len Tryz.underlying111 cells3 open_el3 f5
    obtain ⟨a5, c5, rfl⟩ := hl5.len
    exact ⟨⟨n0, n1, n2, a3, c3, l3, n4, a5, c5, l5⟩, rfl, ⟨w0, w1, w2, ⟨hl3, w3⟩, w4, ⟨hl5, w5⟩⟩⟩
theorem cells28 : Tryz.prog.cellsOf 28 = 1 := by kernel_rfl
theorem cells29 : Tryz.prog.cellsOf 29 = 1 := by kernel_rfl
def Game.OkM (m : Mem) : Game → Prop
  | ⟨n0, n1, n2, n3, n4, n5, n6, n7, n8, n9, n10, n11, n12, n13, n14, n15, n16, n17, n18, n19, a20, c20, l20, a21, c21, l21⟩ => n0.size ≤ maxLen ∧ (Lit.int .i64 n1).wf = true ∧ (Lit.int .i64 n2).wf = true ∧ (Lit.int .i64 n3).wf = true ∧ (Lit.int .i64 n4).wf = true ∧ (Lit.int .i64 n5).wf = true ∧ (Lit.int .i64 n6).wf = true ∧ (Lit.int .i64 n7).wf = true ∧ (Lit.int .i64 n8).wf = true ∧ (Lit.int .i64 n9).wf = true ∧ (Lit.int .i64 n10).wf = true ∧ (Lit.int .i64 n11).wf = true ∧ (Lit.int .i64 n12).wf = true ∧ (Lit.int .i64 n13).wf = true ∧ (Lit.int .i64 n14).wf = true ∧ (Lit.int .i64 n15).wf = true ∧ (Lit.int .i64 n16).wf = true ∧ (Lit.int .i64 n17).wf = true ∧ (Lit.int .i64 n18).wf = true ∧ (Lit.int .i64 n19).wf = true ∧ (RL m Addon.enc 6 (.slice a20 l20.length c20) l20 ∧ ∀ x ∈ l20, Addon.OkM m x) ∧ (RL m Tier.enc 6 (.slice a21 l21.length c21) l21 ∧ ∀ x ∈ l21, Tier.OkM m x)
theorem cells_Game : Tryz.prog.cellsOf 31 = 22 := by kernel_rfl
set_option maxRecDepth 100000 in
theorem open_Game {H : Type} {enc : TypeId × Value → H} {W : World} (n : Nat) (cs : List Value) (y : DataW H × List MemPlace) (h : DataW.trod enc Tryz.prog W 0 (fun _ => true) true n 31 cs = some y) : ∃ b : Game, cs = b.enc ∧ b.OkM (allMem W) := by
  obtain ⟨xs, k, _, _, hlen, hxs, hf⟩ := DataW.trod_struct Tryz.underlying31 h
  rw [cells_Game] at hlen
  match cs, hlen with
  | [v0, v1, v2, v3, v4, v5, v6, v7, v8, v9, v10, v11, v12, v13, v14, v15, v16, v17, v18, v19, v20, v21], _ =>
  match xs, hxs with
  | [y0, y1, y2, y3, y4, y5, y6, y7, y8, y9, y10, y11, y12, y13, y14, y15, y16, y17, y18, y19, y20, y21], _ =>
    have f0 : DataW.trod enc Tryz.prog W 0 (fun _ => true) true k 9 [v0] = some y0 := by
      have := hf 0 _ rfl
      have e0 : List.take (Tryz.prog.cellsOf 9) (List.drop 0 [v0, v1, v2, v3, v4, v5, v6, v7, v8, v9, v10, v11, v12, v13, v14, v15, v16, v17, v18, v19, v20, v21]) = [v0] := by rw [cells9]; rfl
      rw [← e0]; exact this
    have f1 : DataW.trod enc Tryz.prog W 0 (fun _ => true) true k 3 [v1] = some y1 := by
      have := hf 1 _ rfl
      have e0 : List.take (Tryz.prog.cellsOf 3) (List.drop 1 [v0, v1, v2, v3, v4, v5, v6, v7, v8, v9, v10, v11, v12, v13, v14, v15, v16, v17, v18, v19, v20, v21]) = [v1] := by rw [cells3]; rfl
      rw [← e0]; exact this
    have f2 : DataW.trod enc Tryz.prog W 0 (fun _ => true) true k 3 [v2] = some y2 := by
      have := hf 2 _ rfl
      have e0 : List.take (Tryz.prog.cellsOf 3) (List.drop 2 [v0, v1, v2, v3, v4, v5, v6, v7, v8, v9, v10, v11, v12, v13, v14, v15, v16, v17, v18, v19, v20, v21]) = [v2] := by rw [cells3]; rfl
      rw [← e0]; exact this
    have f3 : DataW.trod enc Tryz.prog W 0 (fun _ => true) true k 3 [v3] = some y3 := by
      have := hf 3 _ rfl
      have e0 : List.take (Tryz.prog.cellsOf 3) (List.drop 3 [v0, v1, v2, v3, v4, v5, v6, v7, v8, v9, v10, v11, v12, v13, v14, v15, v16, v17, v18, v19, v20, v21]) = [v3] := by rw [cells3]; rfl
      rw [← e0]; exact this
    have f4 : DataW.trod enc Tryz.prog W 0 (fun _ => true) true k 3 [v4] = some y4 := by
      have := hf 4 _ rfl
      have e0 : List.take (Tryz.prog.cellsOf 3) (List.drop 4 [v0, v1, v2, v3, v4, v5, v6, v7, v8, v9, v10, v11, v12, v13, v14, v15, v16, v17, v18, v19, v20, v21]) = [v4] := by rw [cells3]; rfl
      rw [← e0]; exact this
    have f5 : DataW.trod enc Tryz.prog W 0 (fun _ => true) true k 3 [v5] = some y5 := by
      have := hf 5 _ rfl
      have e0 : List.take (Tryz.prog.cellsOf 3) (List.drop 5 [v0, v1, v2, v3, v4, v5, v6, v7, v8, v9, v10, v11, v12, v13, v14, v15, v16, v17, v18, v19, v20, v21]) = [v5] := by rw [cells3]; rfl
      rw [← e0]; exact this
    have f6 : DataW.trod enc Tryz.prog W 0 (fun _ => true) true k 3 [v6] = some y6 := by
      have := hf 6 _ rfl
      have e0 : List.take (Tryz.prog.cellsOf 3) (List.drop 6 [v0, v1, v2, v3, v4, v5, v6, v7, v8, v9, v10, v11, v12, v13, v14, v15, v16, v17, v18, v19, v20, v21]) = [v6] := by rw [cells3]; rfl
      rw [← e0]; exact this
    have f7 : DataW.trod enc Tryz.prog W 0 (fun _ => true) true k 3 [v7] = some y7 := by
      have := hf 7 _ rfl
      have e0 : List.take (Tryz.prog.cellsOf 3) (List.drop 7 [v0, v1, v2, v3, v4, v5, v6, v7, v8, v9, v10, v11, v12, v13, v14, v15, v16, v17, v18, v19, v20, v21]) = [v7] := by rw [cells3]; rfl
      rw [← e0]; exact this
    have f8 : DataW.trod enc Tryz.prog W 0 (fun _ => true) true k 3 [v8] = some y8 := by
      have := hf 8 _ rfl
      have e0 : List.take (Tryz.prog.cellsOf 3) (List.drop 8 [v0, v1, v2, v3, v4, v5, v6, v7, v8, v9, v10, v11, v12, v13, v14, v15, v16, v17, v18, v19, v20, v21]) = [v8] := by rw [cells3]; rfl
      rw [← e0]; exact this
    have f9 : DataW.trod enc Tryz.prog W 0 (fun _ => true) true k 3 [v9] = some y9 := by
      have := hf 9 _ rfl
      have e0 : List.take (Tryz.prog.cellsOf 3) (List.drop 9 [v0, v1, v2, v3, v4, v5, v6, v7, v8, v9, v10, v11, v12, v13, v14, v15, v16, v17, v18, v19, v20, v21]) = [v9] := by rw [cells3]; rfl
      rw [← e0]; exact this
    have f10 : DataW.trod enc Tryz.prog W 0 (fun _ => true) true k 3 [v10] = some y10 := by
      have := hf 10 _ rfl
      have e0 : List.take (Tryz.prog.cellsOf 3) (List.drop 10 [v0, v1, v2, v3, v4, v5, v6, v7, v8, v9, v10, v11, v12, v13, v14, v15, v16, v17, v18, v19, v20, v21]) = [v10] := by rw [cells3]; rfl
      rw [← e0]; exact this
    have f11 : DataW.trod enc Tryz.prog W 0 (fun _ => true) true k 3 [v11] = some y11 := by
      have := hf 11 _ rfl
      have e0 : List.take (Tryz.prog.cellsOf 3) (List.drop 11 [v0, v1, v2, v3, v4, v5, v6, v7, v8, v9, v10, v11, v12, v13, v14, v15, v16, v17, v18, v19, v20, v21]) = [v11] := by rw [cells3]; rfl
      rw [← e0]; exact this
    have f12 : DataW.trod enc Tryz.prog W 0 (fun _ => true) true k 3 [v12] = some y12 := by
      have := hf 12 _ rfl
      have e0 : List.take (Tryz.prog.cellsOf 3) (List.drop 12 [v0, v1, v2, v3, v4, v5, v6, v7, v8, v9, v10, v11, v12, v13, v14, v15, v16, v17, v18, v19, v20, v21]) = [v12] := by rw [cells3]; rfl
      rw [← e0]; exact this
    have f13 : DataW.trod enc Tryz.prog W 0 (fun _ => true) true k 3 [v13] = some y13 := by
      have := hf 13 _ rfl
      have e0 : List.take (Tryz.prog.cellsOf 3) (List.drop 13 [v0, v1, v2, v3, v4, v5, v6, v7, v8, v9, v10, v11, v12, v13, v14, v15, v16, v17, v18, v19, v20, v21]) = [v13] := by rw [cells3]; rfl
      rw [← e0]; exact this
    have f14 : DataW.trod enc Tryz.prog W 0 (fun _ => true) true k 3 [v14] = some y14 := by
      have := hf 14 _ rfl
      have e0 : List.take (Tryz.prog.cellsOf 3) (List.drop 14 [v0, v1, v2, v3, v4, v5, v6, v7, v8, v9, v10, v11, v12, v13, v14, v15, v16, v17, v18, v19, v20, v21]) = [v14] := by rw [cells3]; rfl
      rw [← e0]; exact this
    have f15 : DataW.trod enc Tryz.prog W 0 (fun _ => true) true k 3 [v15] = some y15 := by
      have := hf 15 _ rfl
      have e0 : List.take (Tryz.prog.cellsOf 3) (List.drop 15 [v0, v1, v2, v3, v4, v5, v6, v7, v8, v9, v10, v11, v12, v13, v14, v15, v16, v17, v18, v19, v20, v21]) = [v15] := by rw [cells3]; rfl
      rw [← e0]; exact this
    have f16 : DataW.trod enc Tryz.prog W 0 (fun _ => true) true k 3 [v16] = some y16 := by
      have := hf 16 _ rfl
      have e0 : List.take (Tryz.prog.cellsOf 3) (List.drop 16 [v0, v1, v2, v3, v4, v5, v6, v7, v8, v9, v10, v11, v12, v13, v14, v15, v16, v17, v18, v19, v20, v21]) = [v16] := by rw [cells3]; rfl
      rw [← e0]; exact this
    have f17 : DataW.trod enc Tryz.prog W 0 (fun _ => true) true k 3 [v17] = some y17 := by
      have := hf 17 _ rfl
      have e0 : List.take (Tryz.prog.cellsOf 3) (List.drop 17 [v0, v1, v2, v3, v4, v5, v6, v7, v8, v9, v10, v11, v12, v13, v14, v15, v16, v17, v18, v19, v20, v21]) = [v17] := by rw [cells3]; rfl
      rw [← e0]; exact this
    have f18 : DataW.trod enc Tryz.prog W 0 (fun _ => true) true k 3 [v18] = some y18 := by
      have := hf 18 _ rfl
      have e0 : List.take (Tryz.prog.cellsOf 3) (List.drop 18 [v0, v1, v2, v3, v4, v5, v6, v7, v8, v9, v10, v11, v12, v13, v14, v15, v16, v17, v18, v19, v20, v21]) = [v18] := by rw [cells3]; rfl
      rw [← e0]; exact this
    have f19 : DataW.trod enc Tryz.prog W 0 (fun _ => true) true k 3 [v19] = some y19 := by
      have := hf 19 _ rfl
      have e0 : List.take (Tryz.prog.cellsOf 3) (List.drop 19 [v0, v1, v2, v3, v4, v5, v6, v7, v8, v9, v10, v11, v12, v13, v14, v15, v16, v17, v18, v19, v20, v21]) = [v19] := by rw [cells3]; rfl
      rw [← e0]; exact this
    have f20 : DataW.trod enc Tryz.prog W 0 (fun _ => true) true k 28 [v20] = some y20 := by
      have := hf 20 _ rfl
      have e0 : List.take (Tryz.prog.cellsOf 28) (List.drop 20 [v0, v1, v2, v3, v4, v5, v6, v7, v8, v9, v10, v11, v12, v13, v14, v15, v16, v17, v18, v19, v20, v21]) = [v20] := by rw [cells28]; rfl
      rw [← e0]; exact this
    have f21 : DataW.trod enc Tryz.prog W 0 (fun _ => true) true k 29 [v21] = some y21 := by
      have := hf 21 _ rfl
      have e0 : List.take (Tryz.prog.cellsOf 29) (List.drop 21 [v0, v1, v2, v3, v4, v5, v6, v7, v8, v9, v10, v11, v12, v13, v14, v15, v16, v17, v18, v19, v20, v21]) = [v21] := by rw [cells29]; rfl
      rw [← e0]; exact this
    obtain ⟨n0, e0, _, w0⟩ := DataW.trod_string Tryz.underlying9 f0
    obtain rfl : v0 = _ := (List.cons.inj e0).1
    obtain ⟨n1, e1, _, w1⟩ := DataW.trod_int Tryz.underlying3 f1
    obtain rfl : v1 = _ := (List.cons.inj e1).1
    obtain ⟨n2, e2, _, w2⟩ := DataW.trod_int Tryz.underlying3 f2
    obtain rfl : v2 = _ := (List.cons.inj e2).1
    obtain ⟨n3, e3, _, w3⟩ := DataW.trod_int Tryz.underlying3 f3
    obtain rfl : v3 = _ := (List.cons.inj e3).1
    obtain ⟨n4, e4, _, w4⟩ := DataW.trod_int Tryz.underlying3 f4
    obtain rfl : v4 = _ := (List.cons.inj e4).1
    obtain ⟨n5, e5, _, w5⟩ := DataW.trod_int Tryz.underlying3 f5
    obtain rfl : v5 = _ := (List.cons.inj e5).1
    obtain ⟨n6, e6, _, w6⟩ := DataW.trod_int Tryz.underlying3 f6
    obtain rfl : v6 = _ := (List.cons.inj e6).1
    obtain ⟨n7, e7, _, w7⟩ := DataW.trod_int Tryz.underlying3 f7
    obtain rfl : v7 = _ := (List.cons.inj e7).1
    obtain ⟨n8, e8, _, w8⟩ := DataW.trod_int Tryz.underlying3 f8
    obtain rfl : v8 = _ := (List.cons.inj e8).1
    obtain ⟨n9, e9, _, w9⟩ := DataW.trod_int Tryz.underlying3 f9
    obtain rfl : v9 = _ := (List.cons.inj e9).1
    obtain ⟨n10, e10, _, w10⟩ := DataW.trod_int Tryz.underlying3 f10
    obtain rfl : v10 = _ := (List.cons.inj e10).1
    obtain ⟨n11, e11, _, w11⟩ := DataW.trod_int Tryz.underlying3 f11
    obtain rfl : v11 = _ := (List.cons.inj e11).1
    obtain ⟨n12, e12, _, w12⟩ := DataW.trod_int Tryz.underlying3 f12
    obtain rfl : v12 = _ := (List.cons.inj e12).1
    obtain ⟨n13, e13, _, w13⟩ := DataW.trod_int Tryz.underlying3 f13
    obtain rfl : v13 = _ := (List.cons.inj e13).1
    obtain ⟨n14, e14, _, w14⟩ := DataW.trod_int Tryz.underlying3 f14
    obtain rfl : v14 = _ := (List.cons.inj e14).1
    obtain ⟨n15, e15, _, w15⟩ := DataW.trod_int Tryz.underlying3 f15
    obtain rfl : v15 = _ := (List.cons.inj e15).1
    obtain ⟨n16, e16, _, w16⟩ := DataW.trod_int Tryz.underlying3 f16
    obtain rfl : v16 = _ := (List.cons.inj e16).1
    obtain ⟨n17, e17, _, w17⟩ := DataW.trod_int Tryz.underlying3 f17
    obtain rfl : v17 = _ := (List.cons.inj e17).1
    obtain ⟨n18, e18, _, w18⟩ := DataW.trod_int Tryz.underlying3 f18
    obtain rfl : v18 = _ := (List.cons.inj e18).1
    obtain ⟨n19, e19, _, w19⟩ := DataW.trod_int Tryz.underlying3 f19
    obtain rfl : v19 = _ := (List.cons.inj e19).1
    obtain ⟨l20, hl20, w20⟩ := open_list (v := v20) Addon.enc_len Tryz.underlying28 cells_Addon open_Addon f20
    obtain ⟨a20, c20, rfl⟩ := hl20.len
    obtain ⟨l21, hl21, w21⟩ := open_list (v := v21) Tier.enc_len Tryz.underlying29 cells_Tier open_Tier f21
    obtain ⟨a21, c21, rfl⟩ := hl21.len
    exact ⟨⟨n0, n1, n2, n3, n4, n5, n6, n7, n8, n9, n10, n11, n12, n13, n14, n15, n16, n17, n18, n19, a20, c20, l20, a21, c21, l21⟩, rfl, ⟨w0, w1, w2, w3, w4, w5, w6, w7, w8, w9, w10, w11, w12, w13, w14, w15, w16, w17, w18, w19, ⟨hl20, w20⟩, ⟨hl21, w21⟩⟩⟩
theorem cells25 : Tryz.prog.cellsOf 25 = 1 := by kernel_rfl
def Rc.OkM (m : Mem) : Rc → Prop
  | ⟨n0, n1, n2, n3, n4, n5, n6⟩ => n0.size ≤ maxLen ∧ n1.size ≤ maxLen ∧ n2.size ≤ maxLen ∧ (Lit.int .i64 n3).wf = true ∧ (Lit.int .i64 n4).wf = true ∧ (Lit.int .i64 n5).wf = true ∧ (Lit.int .u64 n6).wf = true
theorem cells_Rc : Tryz.prog.cellsOf 34 = 7 := by kernel_rfl
set_option maxRecDepth 100000 in
theorem open_Rc {H : Type} {enc : TypeId × Value → H} {W : World} (n : Nat) (cs : List Value) (y : DataW H × List MemPlace) (h : DataW.trod enc Tryz.prog W 0 (fun _ => true) true n 34 cs = some y) : ∃ b : Rc, cs = b.enc ∧ b.OkM (allMem W) := by
  obtain ⟨xs, k, _, _, hlen, hxs, hf⟩ := DataW.trod_struct Tryz.underlying34 h
  rw [cells_Rc] at hlen
  match cs, hlen with
  | [v0, v1, v2, v3, v4, v5, v6], _ =>
  match xs, hxs with
  | [y0, y1, y2, y3, y4, y5, y6], _ =>
    have f0 : DataW.trod enc Tryz.prog W 0 (fun _ => true) true k 9 [v0] = some y0 := by
      have := hf 0 _ rfl
      have e0 : List.take (Tryz.prog.cellsOf 9) (List.drop 0 [v0, v1, v2, v3, v4, v5, v6]) = [v0] := by rw [cells9]; rfl
      rw [← e0]; exact this
    have f1 : DataW.trod enc Tryz.prog W 0 (fun _ => true) true k 9 [v1] = some y1 := by
      have := hf 1 _ rfl
      have e0 : List.take (Tryz.prog.cellsOf 9) (List.drop 1 [v0, v1, v2, v3, v4, v5, v6]) = [v1] := by rw [cells9]; rfl
      rw [← e0]; exact this
    have f2 : DataW.trod enc Tryz.prog W 0 (fun _ => true) true k 9 [v2] = some y2 := by
      have := hf 2 _ rfl
      have e0 : List.take (Tryz.prog.cellsOf 9) (List.drop 2 [v0, v1, v2, v3, v4, v5, v6]) = [v2] := by rw [cells9]; rfl
      rw [← e0]; exact this
    have f3 : DataW.trod enc Tryz.prog W 0 (fun _ => true) true k 3 [v3] = some y3 := by
      have := hf 3 _ rfl
      have e0 : List.take (Tryz.prog.cellsOf 3) (List.drop 3 [v0, v1, v2, v3, v4, v5, v6]) = [v3] := by rw [cells3]; rfl
      rw [← e0]; exact this
    have f4 : DataW.trod enc Tryz.prog W 0 (fun _ => true) true k 3 [v4] = some y4 := by
      have := hf 4 _ rfl
      have e0 : List.take (Tryz.prog.cellsOf 3) (List.drop 4 [v0, v1, v2, v3, v4, v5, v6]) = [v4] := by rw [cells3]; rfl
      rw [← e0]; exact this
    have f5 : DataW.trod enc Tryz.prog W 0 (fun _ => true) true k 3 [v5] = some y5 := by
      have := hf 5 _ rfl
      have e0 : List.take (Tryz.prog.cellsOf 3) (List.drop 5 [v0, v1, v2, v3, v4, v5, v6]) = [v5] := by rw [cells3]; rfl
      rw [← e0]; exact this
    have f6 : DataW.trod enc Tryz.prog W 0 (fun _ => true) true k 25 [v6] = some y6 := by
      have := hf 6 _ rfl
      have e0 : List.take (Tryz.prog.cellsOf 25) (List.drop 6 [v0, v1, v2, v3, v4, v5, v6]) = [v6] := by rw [cells25]; rfl
      rw [← e0]; exact this
    obtain ⟨n0, e0, _, w0⟩ := DataW.trod_string Tryz.underlying9 f0
    obtain rfl : v0 = _ := (List.cons.inj e0).1
    obtain ⟨n1, e1, _, w1⟩ := DataW.trod_string Tryz.underlying9 f1
    obtain rfl : v1 = _ := (List.cons.inj e1).1
    obtain ⟨n2, e2, _, w2⟩ := DataW.trod_string Tryz.underlying9 f2
    obtain rfl : v2 = _ := (List.cons.inj e2).1
    obtain ⟨n3, e3, _, w3⟩ := DataW.trod_int Tryz.underlying3 f3
    obtain rfl : v3 = _ := (List.cons.inj e3).1
    obtain ⟨n4, e4, _, w4⟩ := DataW.trod_int Tryz.underlying3 f4
    obtain rfl : v4 = _ := (List.cons.inj e4).1
    obtain ⟨n5, e5, _, w5⟩ := DataW.trod_int Tryz.underlying3 f5
    obtain rfl : v5 = _ := (List.cons.inj e5).1
    obtain ⟨n6, e6, _, w6⟩ := DataW.trod_int Tryz.underlying25 f6
    obtain rfl : v6 = _ := (List.cons.inj e6).1
    exact ⟨⟨n0, n1, n2, n3, n4, n5, n6⟩, rfl, ⟨w0, w1, w2, w3, w4, w5, w6⟩⟩
def Act.OkM (m : Mem) : Act → Prop
  | ⟨n0, n1, n2, n3, n4, n5, n6, n7⟩ => (Lit.int .i64 n0).wf = true ∧ n1.size ≤ maxLen ∧ n2.size ≤ maxLen ∧ (Lit.int .i64 n3).wf = true ∧ (Lit.int .i64 n4).wf = true ∧ (Lit.int .i64 n5).wf = true ∧ (Lit.int .i64 n6).wf = true ∧ Rc.OkM m n7
theorem cells_Act : Tryz.prog.cellsOf 63 = 14 := by kernel_rfl
set_option maxRecDepth 100000 in
theorem open_Act {H : Type} {enc : TypeId × Value → H} {W : World} (n : Nat) (cs : List Value) (y : DataW H × List MemPlace) (h : DataW.trod enc Tryz.prog W 0 (fun _ => true) true n 63 cs = some y) : ∃ b : Act, cs = b.enc ∧ b.OkM (allMem W) := by
  obtain ⟨xs, k, _, _, hlen, hxs, hf⟩ := DataW.trod_struct Tryz.underlying63 h
  rw [cells_Act] at hlen
  match cs, hlen with
  | [v0, v1, v2, v3, v4, v5, v6, v7, v8, v9, v10, v11, v12, v13], _ =>
  match xs, hxs with
  | [y0, y1, y2, y3, y4, y5, y6, y7], _ =>
    have f0 : DataW.trod enc Tryz.prog W 0 (fun _ => true) true k 3 [v0] = some y0 := by
      have := hf 0 _ rfl
      have e0 : List.take (Tryz.prog.cellsOf 3) (List.drop 0 [v0, v1, v2, v3, v4, v5, v6, v7, v8, v9, v10, v11, v12, v13]) = [v0] := by rw [cells3]; rfl
      rw [← e0]; exact this
    have f1 : DataW.trod enc Tryz.prog W 0 (fun _ => true) true k 9 [v1] = some y1 := by
      have := hf 1 _ rfl
      have e0 : List.take (Tryz.prog.cellsOf 9) (List.drop 1 [v0, v1, v2, v3, v4, v5, v6, v7, v8, v9, v10, v11, v12, v13]) = [v1] := by rw [cells9]; rfl
      rw [← e0]; exact this
    have f2 : DataW.trod enc Tryz.prog W 0 (fun _ => true) true k 9 [v2] = some y2 := by
      have := hf 2 _ rfl
      have e0 : List.take (Tryz.prog.cellsOf 9) (List.drop 2 [v0, v1, v2, v3, v4, v5, v6, v7, v8, v9, v10, v11, v12, v13]) = [v2] := by rw [cells9]; rfl
      rw [← e0]; exact this
    have f3 : DataW.trod enc Tryz.prog W 0 (fun _ => true) true k 3 [v3] = some y3 := by
      have := hf 3 _ rfl
      have e0 : List.take (Tryz.prog.cellsOf 3) (List.drop 3 [v0, v1, v2, v3, v4, v5, v6, v7, v8, v9, v10, v11, v12, v13]) = [v3] := by rw [cells3]; rfl
      rw [← e0]; exact this
    have f4 : DataW.trod enc Tryz.prog W 0 (fun _ => true) true k 3 [v4] = some y4 := by
      have := hf 4 _ rfl
      have e0 : List.take (Tryz.prog.cellsOf 3) (List.drop 4 [v0, v1, v2, v3, v4, v5, v6, v7, v8, v9, v10, v11, v12, v13]) = [v4] := by rw [cells3]; rfl
      rw [← e0]; exact this
    have f5 : DataW.trod enc Tryz.prog W 0 (fun _ => true) true k 3 [v5] = some y5 := by
      have := hf 5 _ rfl
      have e0 : List.take (Tryz.prog.cellsOf 3) (List.drop 5 [v0, v1, v2, v3, v4, v5, v6, v7, v8, v9, v10, v11, v12, v13]) = [v5] := by rw [cells3]; rfl
      rw [← e0]; exact this
    have f6 : DataW.trod enc Tryz.prog W 0 (fun _ => true) true k 3 [v6] = some y6 := by
      have := hf 6 _ rfl
      have e0 : List.take (Tryz.prog.cellsOf 3) (List.drop 6 [v0, v1, v2, v3, v4, v5, v6, v7, v8, v9, v10, v11, v12, v13]) = [v6] := by rw [cells3]; rfl
      rw [← e0]; exact this
    have f7 : DataW.trod enc Tryz.prog W 0 (fun _ => true) true k 34 [v7, v8, v9, v10, v11, v12, v13] = some y7 := by
      have := hf 7 _ rfl
      have e0 : List.take (Tryz.prog.cellsOf 34) (List.drop 7 [v0, v1, v2, v3, v4, v5, v6, v7, v8, v9, v10, v11, v12, v13]) = [v7, v8, v9, v10, v11, v12, v13] := by rw [cells_Rc]; rfl
      rw [← e0]; exact this
    obtain ⟨n0, e0, _, w0⟩ := DataW.trod_int Tryz.underlying3 f0
    obtain rfl : v0 = _ := (List.cons.inj e0).1
    obtain ⟨n1, e1, _, w1⟩ := DataW.trod_string Tryz.underlying9 f1
    obtain rfl : v1 = _ := (List.cons.inj e1).1
    obtain ⟨n2, e2, _, w2⟩ := DataW.trod_string Tryz.underlying9 f2
    obtain rfl : v2 = _ := (List.cons.inj e2).1
    obtain ⟨n3, e3, _, w3⟩ := DataW.trod_int Tryz.underlying3 f3
    obtain rfl : v3 = _ := (List.cons.inj e3).1
    obtain ⟨n4, e4, _, w4⟩ := DataW.trod_int Tryz.underlying3 f4
    obtain rfl : v4 = _ := (List.cons.inj e4).1
    obtain ⟨n5, e5, _, w5⟩ := DataW.trod_int Tryz.underlying3 f5
    obtain rfl : v5 = _ := (List.cons.inj e5).1
    obtain ⟨n6, e6, _, w6⟩ := DataW.trod_int Tryz.underlying3 f6
    obtain rfl : v6 = _ := (List.cons.inj e6).1
    obtain ⟨n7, e7, w7⟩ := open_Rc _ _ _ f7
    have z7 := e7
    obtain rfl : v7 = _ := (List.cons.inj z7).1
    replace z7 := (List.cons.inj z7).2
    obtain rfl : v8 = _ := (List.cons.inj z7).1
    replace z7 := (List.cons.inj z7).2
    obtain rfl : v9 = _ := (List.cons.inj z7).1
    replace z7 := (List.cons.inj z7).2
    obtain rfl : v10 = _ := (List.cons.inj z7).1
    replace z7 := (List.cons.inj z7).2
    obtain rfl : v11 = _ := (List.cons.inj z7).1
    replace z7 := (List.cons.inj z7).2
    obtain rfl : v12 = _ := (List.cons.inj z7).1
    replace z7 := (List.cons.inj z7).2
    obtain rfl : v13 = _ := (List.cons.inj z7).1
    exact ⟨⟨n0, n1, n2, n3, n4, n5, n6, n7⟩, rfl, ⟨w0, w1, w2, w3, w4, w5, w6, w7⟩⟩
end Go.Proofs.YtlgoegjboabgfaaGreatDoor
namespace Go.Proofs.YtlgoegjboabgfaaGreatDoor
open Eng
theorem Addon.OkM.in {m : Mem} : ∀ {a : Addon}, a.OkM m → a.In m
  | ⟨_, _, _, _, _, _, _, _, _, _⟩, ⟨_, _, _, h3, _, h5⟩ => ⟨h3.1, h5.1⟩
theorem Game.OkM.in {m : Mem} : ∀ {g : Game}, g.OkM m → g.In m
  | ⟨_, _, _, _, _, _, _, _, _, _, _, _, _, _, _, _, _, _, _, _, _, _, _, _, _, _⟩, ⟨_, _, _, _, _, _, _, _, _, _, _, _, _, _, _, _, _, _, _, _, ha, ht⟩ => ⟨ha.1, fun a h => (ha.2 a h).in, ht.1⟩
end Go.Proofs.YtlgoegjboabgfaaGreatDoor
namespace Go.Proofs.YtlgoegjboabgfaaGreatDoor
open Eng
theorem i64_of2 {n : Int} (h : (Lit.int .i64 n).wf = true) : -9223372036854775808 ≤ n ∧ n ≤ 9223372036854775807 := by
  have h' : (decide (IntKind.i64.min ≤ n) && decide (n ≤ IntKind.i64.max)) = true := h
  rw [Bool.and_eq_true] at h'
  exact ⟨of_decide_eq_true h'.1, of_decide_eq_true h'.2⟩
theorem Act.OkM.ok {m : Mem} : ∀ {a : Act}, a.OkM m → a.Ok
  | ⟨_, _, _, _, _, _, _, ⟨_, _, _, _, _, _, _⟩⟩, ⟨_, _, _, _, _, _, _, _, _, _, h3, h4, h5, _⟩ => ⟨i64_of2 h3, i64_of2 h4, i64_of2 h5⟩
end Go.Proofs.YtlgoegjboabgfaaGreatDoor
namespace Go.Proofs.YtlgoegjboabgfaaGreatDoor
open Eng
theorem var_block {P : Program} {W : World} {name : String} {k : IntKind} {zs : List Int} {g : Nat} (hg : P.globalNamed name = some g) (h : Lib.TabIs P W name k zs) : ∃ (t : TypeId) (z : Nat × Nat), W.heap[g]? = some (.cells (zs.map fun z => Value.int k z).toArray t z) := by
  unfold Lib.TabIs World.var? at h
  rw [hg] at h
  replace h : (match W.heap[g]? with | some (.cells cs _ _) => some cs | _ => none) = some (zs.map fun z => Value.int k z).toArray := h
  cases hh : W.heap[g]? with
  | none => rw [hh] at h; cases h
  | some o =>
    rw [hh] at h
    cases o with
    | cells cs t z => cases h; exact ⟨t, z, rfl⟩
    | _ => cases h
theorem at_block {W : World} {g : Nat} {cs : List Value} {t : TypeId} {z : Nat × Nat} (h : W.heap[g]? = some (.cells cs.toArray t z)) : At (allMem W) ⟨g, 0, none⟩ cs := by
  intro j v hj
  have e : (⟨g, 0, none⟩ : Addr).add j = ⟨g, j, none⟩ := by
    cases j with
    | zero => rfl
    | succ j => simp [Addr.add]
  rw [allMem_cell, e]
  unfold World.cell?
  simp only [h]
  simpa using hj
theorem tabM_of2 {W : World} (h1 : Lib.TabIs Tryz.prog W "internal/strconv.uint64pow10" .u64 Lib.pow10Tab) (h2 : Lib.TabIs Tryz.prog W "lottery/ticketno.weights" .i64 wts) : TabM (allMem W) := by
  obtain ⟨t1, z1, e1⟩ := var_block (g := 2) (by kernel_rfl) h1
  obtain ⟨t2, z2, e2⟩ := var_block (g := 0) (by kernel_rfl) h2
  exact ⟨⟨t1, z1, e1⟩, at_block e2⟩
end Go.Proofs.YtlgoegjboabgfaaGreatDoor
