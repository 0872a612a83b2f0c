/- What the claim rests on, part 6: models of the functions in plain Lean and walks through their code; printed by programs. -/
import Derived.Test.YtlgoegjboabgfaaGreatDoorKTerminalUploads5
set_option linter.unusedVariables false
set_option linter.unusedSimpArgs false
namespace Go.Proofs.YtlgoegjboabgfaaGreatDoor
open Eng
def bE (b : Bool) : List Value := [.bool b]
theorem bE_len (b : Bool) : (bE b).length = 1 := rfl
def hads (R : Reg) (W : List Rc) : List Bool := W.map fun w => hasT R w.number
theorem tick_has {R : Reg} {n : ByteArray} {r : Value} {m : Mem} (h : TickOf R n r m) : ∃ (t' : Tk) (e : Int), r = .tuple #[t'.val, .int .i64 e] ∧ decide (e = 0) = hasT R n ∧ (e = 0 → ∃ tk ∈ R.ts, tk.number = n ∧ t'.norm = tk.norm) := by
  rcases h with ⟨hp, rfl⟩ | ⟨tk, t', h1, h2, h3, h4, rfl⟩
  · exact ⟨zeroTk, 5, rfl, by unfold hasT; rw [hp]; rfl, fun h => by cases h⟩
  · exact ⟨t', 0, rfl, by rw [hasT_iff.2 ⟨tk, h1, h2⟩]; rfl, fun _ => ⟨tk, h1, h2, h3⟩⟩
theorem five_parts {tk k : Tk} {w : Rc} (h : tk.five = w.five) (hn : k.norm = tk.norm) : k.number = w.number ∧ k.game = w.game ∧ k.first = w.first ∧ k.price = w.price ∧ k.at_ = w.at_ ∧ k.cancelled = false := by
  unfold Tk.five Rc.five at h
  injection h with h1 h
  injection h with h2 h
  injection h with h3 h
  injection h with h4 h
  injection h with h5 h6
  exact ⟨(congrArg Tk.number hn : k.norm.number = tk.norm.number).trans h1, (congrArg Tk.game hn : k.norm.game = tk.norm.game).trans h2, (congrArg Tk.first hn : k.norm.first = tk.norm.first).trans h3, (congrArg Tk.price hn : k.norm.price = tk.norm.price).trans h4, (congrArg Tk.at_ hn : k.norm.at_ = tk.norm.at_).trans h5, (congrArg Tk.cancelled hn : k.norm.cancelled = tk.norm.cancelled).trans h6⟩
theorem restoreP2 {m : Mem} {T : Trm} {BT : Nat} (hT : TabM m) (hok : T.Ok) {R : Reg} (hR : R.Ok m) {Bp : Nat} (hB : R.B = Bp) (hBT : T.B = BT) (t : Int) : CallsS Tryz.prog 38 [.pointer (some ⟨BT, 0, none⟩), .pointer (some ⟨Bp, 0, none⟩), .int .i64 t].toArray (T.sig ++ R.sig) m fun r σ' m' => ∃ (a : Option Addr) (n c : Nat) (e : Int), r = .tuple #[.slice a n c, .int .i64 e] ∧ ((e ≠ 0 ∧ σ' = T.sig ++ R.sig) ∨
    (e = 0 ∧ ∃ (D : List Bool) (R' : Reg) (σe : Sig), n = (noW T.ws D).length ∧ OwnS 9 1 (.slice a (noW T.ws D).length c) (((noW T.ws D).map Rc.number).flatMap sE) σe ∧ UpTo R R' T.ws T.ps t D m' ∧ σ' = T.conn.sig ++ (R'.sig ++ σe))) := by
  cases hon : T.on with
  | true =>
    subst hBT
    exact (CallsS.subF R.sig (restoreOn (p0 := .pointer (some ⟨Bp, 0, none⟩)) hon t) (.refl _)).mono fun r σ' m' hl ⟨σ₁, e1, h1, e2, e3⟩ => ⟨none, 0, 0, 8, h1, .inl ⟨by decide, by rw [e1, e2]⟩⟩
  | false => exact (restoreP hT hok hon hR hB hBT t).mono fun r σ' m' hl ⟨D, R', a, c, σe, h1, h2, h3, h4⟩ => ⟨a, _, c, 0, h1, .inr ⟨rfl, D, R', σe, rfl, h2, h3, h4⟩⟩
theorem permAs (X Z Y : Sig) : ((X ++ Z) ++ Y).Perm (X ++ (Z ++ Y)) := by rw [List.append_assoc]
theorem permQ (E X Z Y : Sig) : ((E ++ X) ++ (Z ++ Y)).Perm ((X ++ Z) ++ (E ++ Y)) := by
  classical
  rw [List.perm_iff_count]
  intro y
  simp only [List.count_append]
  omega
theorem permR (X Z Y : Sig) : ((X ++ Z) ++ Y).Perm (Z ++ (X ++ Y)) := by
  rw [List.append_assoc]
  exact permX X Z Y
theorem permB (a b : Nat × Chk) (S E Y : Sig) : (a :: b :: (S ++ (E ++ Y))).Perm (E ++ (a :: b :: (S ++ Y))) := by
  classical
  rw [List.perm_iff_count]
  intro y
  simp only [List.count_cons, List.count_append]
  omega
theorem permU (X Z E Y : Sig) : ((X ++ (Z ++ E)) ++ Y).Perm (Z ++ (X ++ (E ++ Y))) := by
  classical
  rw [List.perm_iff_count]
  intro y
  simp only [List.count_append]
  omega
set_option maxRecDepth 100000 in
set_option maxHeartbeats 4000000 in
theorem lawTerminalUploads {m : Mem} (hT : TabM m) {x : Case26} (hx : x.In m) {t : Int} : CallsS Tryz.prog 11 [x.val, .int .i64 t].toArray [] m fun v _ _ => v = .bool true := by
  dsimp only [Case26.val]
  refine enter Tryz.func11 Tryz.ntmps11 rfl rfl ?_
  refine SWP_seq (SWP_region ?_)
  refine bx (v := .agg _) rfl rfl (fun B2 => ?_)
  refine pB rfl rfl (SL_nil (nx (SWP_seq (SWP_seq (SWP_region ?_)))))
  refine lw (v := x.val) B2 0 rfl rfl rfl rfl ?_
  refine SL_call rfl rfl cb29 (CallsS.keep0 (fitsI hx)) rfl (fun v1_1 σ1_1 m1_1 hl1_1 hR1_1 => ?_)
  obtain ⟨rfl, b, rfl, hfit⟩ := hR1_1
  have hT1 := hT.mono hl1_1
  have hx1 := hx.mono hl1_1
  cases b
  · refine pu (v := .bool true) rfl rfl ?_
    refine SL_nil (nx (SWP_ct rfl (SWP_seq (SWP_region ?_))))
    refine SL_pcall rfl rfl cb30 (awake26 (hT1)) rfl ?_
    refine pB rfl rfl (SL_nil (nx (SWP_ret (nr ?_))))
    refine fin [_] ⟨rfl, trivial⟩ ?_
    rfl
  · refine pu (v := .bool false) rfl rfl ?_
    refine SL_nil (nx (SWP_cf rfl (SWP_skip (nx (SWP_seq ?_)))))
    refine SWP_drawn [(B2, Cells 70 x.enc)] [0, 1, 3, 4, 5, 6, 7, 8, 2, 9, 10, 11] (by kernel_rfl) (by kernel_rfl) (by repeat (first | exact Sub.refl _ | exact Sub.nil _ | refine Sub.cons2 _ ?_ | refine Sub.cons _ ?_)) ?_
    refine pu rfl rfl ?_
    refine lw (v := .int .u64 x.reg) B2 25 rfl rfl rfl rfl ?_
    refine pu rfl rfl ?_
    refine lw (v := .int .i64 x.id) B2 22 rfl rfl rfl rfl ?_
    refine pu rfl rfl ?_
    refine lw (v := .int .u64 x.key) B2 23 rfl rfl rfl rfl ?_
    refine pu rfl rfl ?_
    refine lw (v := .int .i64 x.most) B2 24 rfl rfl rfl rfl ?_
    refine SL_call rfl rfl cb12 (CallsS.frame0 (newR x.reg)) rfl (fun v3_2 σ3_2 m3_2 hl3_2 hR3_2 => ?_)
    obtain ⟨σn, rfl, R0, rfl, rfl, hm3_2, hF, hkey⟩ := hR3_2
    have hn3_2 := hm3_2.symm
    subst hn3_2
    refine SL_call rfl rfl cb31 (CallsS.frame0 (newP x.id x.key x.most)) rfl (fun v3_9 σ3_9 m3_9 hl3_9 hR3_9 => ?_)
    obtain ⟨σt, rfl, BT, rfl, rfl, hm3_9⟩ := hR3_9
    have hn3_9 := hm3_9.symm
    subst hn3_9
    refine pP rfl rfl (pP rfl rfl (SL_nil (nx (SWP_seq (SWP_region (pP rfl rfl (pu rfl rfl ?_)))))))
    refine lw (v := x.g.val) B2 0 rfl rfl rfl rfl ?_
    refine SL_call rfl rfl cb13 (CallsS.subF _ (addR hF hx1.g) (permX _ _ _)) rfl (fun v4_3 σ4_3 m4_3 hl4_3 hR4_3 => ?_)
    obtain ⟨σa, rfl, R1, rfl, e, rfl, hA1⟩ := hR4_3
    have hT2 := hT1.mono hl4_3
    have hx2 := hx1.mono hl4_3
    have hok2 := hA1.ok
    refine SL_nil (nx (SWP_seq (SWP_region ?_)))
    refine lw (v := x.val) B2 0 rfl rfl rfl rfl ?_
    refine pP rfl rfl (pP rfl rfl ?_)
    refine SL_call rfl rfl cb32 (CallsS.subF [_] (playI hT2 hx2 (hfit rfl) (newTr_ok BT x.id x.key x.most) (by show (1 : Int) ≤ 1000; decide) hok2 hA1.B rfl) (permA _ _ _)) rfl (fun v5_3 σ5_3 m5_3 hl5_3 hR5_3 => ?_)
    obtain ⟨σp, rfl, T2, R2, L, la, lc, σe, rfl, hown, hrun, hLl, rfl⟩ := hR5_3
    refine SL_weak (List.Sublist.append_right (List.sublist_append_left _ _) _) ?_
    have hT3 := hT2.mono hl5_3
    have hB2 : T2.B = BT := hrun.same.B
    have hRB := hrun.rB.trans hA1.B
    have hfw := hrun.tok.few
    have hmx := hrun.tok.mx
    have hfr := hrun.rok.few
    refine SL_nil (nx (SWP_seq (SWP_region (pP rfl rfl ?_))))
    refine SL_pcallS rfl rfl cb26 (CallsS.pureIn (lenP hRB) (Sub.right _ (Sub.left _ (Sub.refl _)))) rfl ?_
    refine pP rfl rfl ?_
    refine SL_call rfl rfl cb34 (CallsS.subF _ (waitP hrun.tok hB2) (permAs _ _ _)) rfl (fun v6_3 σ6_3 m6_3 hl6_3 hR6_3 => ?_)
    obtain ⟨σw, rfl, qa, qc, σq, rfl, how, rfl, hm6_3⟩ := hR6_3
    have hn6_3 := hm6_3.symm
    subst hn6_3
    refine SL_perm (permQ _ _ _ _) ?_
    refine pI rfl rfl (pL rfl rfl (SL_nil (nx (SWP_seq (SWP_region (pL rfl rfl (SL_nil (nx (SWP_seq (SWP_seq (SWP_region ?_)))))))))))
    refine pL rfl rfl (pu rfl rfl (pI rfl rfl (SL_nil (nx (SWP_block ?_)))))
    refine SWP_loop [9, 10, 11, 12, 48, 49, 50, 51, 52, 53, 54, 55, 56, 57, 58, 59, 60, 61, 62, 63, 64, 65, 66] [9, 48]
        (fun vs σ' m' => ∃ (i : Nat) (v : Value) (σh : Sig), vs = [v, .int .i64 (i : Nat)] ∧ i ≤ T2.ws.length ∧ OwnS 4 1 v ((hads R2 (T2.ws.take i)).flatMap bE) σh ∧ σ' = (T2.sig ++ R2.sig) ++ (σh ++ (σq ++ [(B2, Cells 70 x.enc)])) ∧ Le m5_3 m')
        (fun vs => T2.ws.length - nOf (vs.getD 1 undef)) rfl ?_ ?_
    · exact ⟨0, _, [], rfl, by omega, .nil, rfl, Le.refl _⟩
    intro u0 vs0 σ0 m0 hJ0 _
    obtain ⟨i, v, σh, rfl, hi, hown0, rfl, hle0⟩ := hJ0
    obtain ⟨va, vc, rfl⟩ := OwnS.lenL (by decide) bE_len hown0
    refine SWP_seq (SWP_region ?_)
    refine pc rfl rfl (fun c49 => ?_) (fun c49 => ?_)
    · skip
      refine SL_nil (nx (SWP_seq (SWP_ct rfl (SWP_skip (nx (SWP_seq (SWP_block (SWP_seq (SWP_region (pI rfl rfl (pI rfl rfl ?_)))))))))))
      refine SL_nil (nx (SWP_seq ?_))
      obtain ⟨w, hw⟩ : ∃ w, T2.ws[i]? = some w := ⟨_, List.getElem?_eq_getElem (by omega)⟩
      obtain ⟨ad, e0, _, hlt, hrd⟩ := OwnS.atN (by decide) Rc.enc_len how hw
      cases e0
      refine SWP_region (pP rfl rfl (pL rfl rfl (pI rfl rfl ?_)))
      refine ia (es := 7) (ad := ad) (k := i) rfl rfl rfl rfl rfl rfl (by omega) rfl ?_
      refine pu rfl rfl ?_
      refine ldO (off := 0) (cs := w.enc) (p := ad.add (i * 7)) (v := .string w.number) (hrd _ _ (fun c hc => List.mem_append_right _ (List.mem_append_right _ (List.mem_append_left _ hc)))) rfl rfl rfl rfl ?_
      refine SL_call rfl rfl cb23 (CallsS.subF _ (ticketP (hrun.rok.mono hle0) hRB w.number) (permR _ _ _)) rfl (fun v11_6 σ11_6 m11_6 hl11_6 hR11_6 => ?_)
      obtain ⟨σt2, rfl, rfl, hTO⟩ := hR11_6
      refine SL_perm (permA _ _ _) ?_
      obtain ⟨k, e1, rfl, he1, _⟩ := tick_has hTO
      refine pu rfl rfl ?_
      refine pu (v := k.val) rfl rfl ?_
      refine pI rfl rfl ?_
      refine al rfl rfl (fun B11 => ?_)
      refine swE B11 0 k.enc (v := k.val) rfl rfl rfl rfl (by kernel_rfl) (by kernel_rfl) (by kernel_rfl) (by kernel_rfl) ?_
      refine pI rfl rfl (SL_nil (nx (SWP_region (pL rfl rfl (pI rfl rfl ?_)))))
      refine pu (v := .bool (decide (e1 = 0))) rfl rfl ?_
      rw [he1]
      refine bs (cs := bE (hasT R2 w.number)) rfl rfl rfl rfl rfl (fun B64 => ?_)
      refine ap (e := 4) (size := 1) (bytes := 1) (k := 1) (news := bE (hasT R2 w.number)) rfl rfl rfl rfl rfl rfl rfl hown0 (permB _ _ _ _ _) rfl (Rd.of_cells (.head _)) rfl rfl (by rw [flatMap_len bE_len]; unfold hads; rw [List.length_map, List.length_take]; omega) rfl rfl (fun v65 σ65 hown65 => ?_)
      refine SL_perm (permB _ _ _ _ _).symm ?_
      refine SL_weak (.cons _ (.cons _ (.refl _))) ?_
      refine pu rfl rfl (SL_nil (nb (nx (SWP_region ?_))))
      refine pw rfl rfl (w64 (by omega) (by omega)) ?_
      refine pI rfl rfl (SL_nil (nx ?_))
      refine ⟨by repeat (first | exact Under.upds rfl (Under.hav _ _ _) | exact Under.hav _ _ _ | refine Under.upd rfl ?_ | refine Under.upds rfl ?_ | refine Under.hav2 rfl ?_), ?_, ?_⟩
      · refine ⟨i + 1, _, σ65, rfl, by omega, ?_, rfl, hle0.trans hl11_6⟩
        rw [take_snocA hw]
        unfold hads
        rw [List.map_append, List.flatMap_append]
        exact hown65
      · simp only [L_vals, List.map, List.getD]; show T2.ws.length - (i + 1) < T2.ws.length - i; omega
    refine SL_nil (nx (SWP_seq (SWP_cf rfl (SWP_exit (ne (ne (be rfl (nx (SWP_seq ?_)))))))))
    have hownH := hown0
    have hadl : (hads R2 (T2.ws.take i)).length = T2.ws.length := by unfold hads; rw [List.length_map, List.length_take]; omega
    rw [show i = T2.ws.length by omega, List.take_length] at hownH
    refine SWP_region (pP rfl rfl (pP rfl rfl (pI rfl rfl ?_)))
    refine SL_call rfl rfl cb38 (CallsS.subF _ (restoreP2 (hT3.mono hle0) hrun.tok (hrun.rok.mono hle0) hRB hB2 t) (.refl _)) rfl (fun v14_3 σ14_3 m14_3 hl14_3 hR14_3 => ?_)
    obtain ⟨σr, rfl, ra, rn, rc, re, rfl, hRE⟩ := hR14_3
    have hT5 := (hT3.mono hle0).mono hl14_3
    rcases hRE with ⟨hne, rfl⟩ | ⟨rfl, D, R3, σv, rfl, hov, hUp, rfl⟩
    · refine pu rfl rfl ?_
      refine pL rfl rfl (pI rfl rfl (pL rfl rfl (pI rfl rfl (SL_nil (nx (SWP_seq (SWP_seq (SWP_region (pI rfl rfl ?_)))))))))
      refine pt rfl rfl hne ?_
      refine SL_nil (nx (SWP_ct rfl (SWP_seq (SWP_region (pP rfl rfl ?_)))))
      refine SL_pcallS rfl rfl cb26 (CallsS.pureIn (lenP hRB) (Sub.right _ (Sub.left _ (Sub.refl _)))) rfl ?_
      refine pI rfl rfl ?_
      refine pt rfl rfl (rfl) ?_
      refine pB rfl rfl (SL_yes rfl ?_)
      refine SL_pcall rfl rfl cb30 (awake26 (hT5)) rfl ?_
      refine pB rfl rfl (pB rfl rfl (SL_nil (nx (SWP_ret (nr ?_)))))
      refine fin [_] ⟨rfl, trivial⟩ ?_
      rfl
    · refine pu rfl rfl ?_
      refine pL rfl rfl (pI rfl rfl (pL rfl rfl (pI rfl rfl (SL_nil (nx (SWP_seq (SWP_seq (SWP_region (pI rfl rfl ?_)))))))))
      refine pn rfl rfl (fun hh => hh rfl) ?_
      refine SL_nil (nx (SWP_cf rfl (SWP_skip (nx (SWP_seq ?_)))))
      refine SWP_perm (permU _ _ _ _) ?_
      have hRB3 := hUp.B.trans hRB
      have hDl := hUp.len
      have hnd := hrun.tok.nd
      refine SWP_region (pI rfl rfl (SL_nil (nx (SWP_seq (SWP_seq (SWP_region (pL rfl rfl (pu rfl rfl (pI rfl rfl (SL_nil (nx ?_)))))))))))
      refine SWP_block ?_
      refine SWP_loop [4, 15, 16, 17, 18, 19, 85, 86, 87, 88, 89, 90, 91, 92, 93, 94, 95, 96, 97, 98, 99, 100, 101, 102, 103, 104, 105, 106, 107, 108, 109, 110, 111, 112, 113, 114, 115, 116, 117, 118, 119, 120, 121, 122, 123, 124, 125, 126, 127, 128, 129, 130, 131, 132, 133, 134, 135, 136, 137, 138, 139, 140, 141, 142, 143, 144, 145, 146, 147, 148, 149, 150, 151, 152, 153, 154, 155, 156, 157, 158, 159, 160, 161, 162, 163, 164, 165, 166, 167, 168] [15, 85]
          (fun vs σ' m' => ∃ (i : Nat), vs = [.int .i64 ((noW (T2.ws.take i) (D.take i)).length : Nat), .int .i64 (i : Nat)] ∧ i ≤ T2.ws.length ∧ σ' = R3.sig ++ (T2.conn.sig ++ (σv ++ (σh ++ (σq ++ [(B2, Cells 70 x.enc)])))) ∧ Le m14_3 m')
          (fun vs => T2.ws.length - nOf (vs.getD 1 undef)) rfl ?_ ?_
      · exact ⟨0, rfl, by omega, rfl, Le.refl _⟩
      intro u1 vs1 σ1 m1 hJ1 _
      obtain ⟨i, rfl, hi, rfl, hle1⟩ := hJ1
      refine SWP_seq (SWP_region ?_)
      refine pc rfl rfl (fun c86 => ?_) (fun c86 => ?_)
      · skip
        refine SL_nil (nx (SWP_seq (SWP_ct rfl (SWP_skip (nx (SWP_seq (SWP_block (SWP_seq ?_))))))))
        obtain ⟨w, hw⟩ : ∃ w, T2.ws[i]? = some w := ⟨_, List.getElem?_eq_getElem (by omega)⟩
        obtain ⟨d, hd⟩ : ∃ d, D[i]? = some d := ⟨_, List.getElem?_eq_getElem (by omega)⟩
        obtain ⟨ad, e0, _, hlt, hrd⟩ := OwnS.atN (by decide) Rc.enc_len how hw
        cases e0
        refine SWP_region (pI rfl rfl ?_)
        refine ia (es := 7) (ad := ad) (k := i) rfl rfl rfl rfl rfl rfl (by omega) rfl ?_
        refine ldO (off := 0) (cs := w.enc) (p := ad.add (i * 7)) (v := w.val) (hrd _ _ (fun c hc => List.mem_append_right _ (List.mem_append_right _ (List.mem_append_right _ (List.mem_append_right _ (List.mem_append_left _ hc)))))) rfl (add_zero' _).symm rfl rfl ?_
        refine al rfl rfl (fun B17 => ?_)
        refine pI rfl rfl ?_
        refine swE B17 0 w.enc (v := w.val) rfl rfl rfl rfl (by kernel_rfl) (by kernel_rfl) (by kernel_rfl) (by kernel_rfl) ?_
        refine SL_nil (nx (SWP_seq (SWP_region (pP rfl rfl (pu rfl rfl ?_)))))
        refine lw (v := .string w.number) B17 0 rfl rfl rfl rfl ?_
        refine SL_call rfl rfl cb23 (CallsS.subF _ (ticketP (hUp.ok.mono hle1) hRB3 w.number) List.perm_middle.symm) rfl (fun v21_3 σ21_3 m21_3 hl21_3 hR21_3 => ?_)
        obtain ⟨σt3, rfl, rfl, hTO⟩ := hR21_3
        obtain ⟨k, e1, rfl, he1, hk⟩ := tick_has hTO
        refine pu rfl rfl ?_
        refine pu (v := k.val) rfl rfl ?_
        refine pI rfl rfl ?_
        refine al rfl rfl (fun B18 => ?_)
        refine swE B18 0 k.enc (v := k.val) rfl rfl rfl rfl (by kernel_rfl) (by kernel_rfl) (by kernel_rfl) (by kernel_rfl) ?_
        refine pI rfl rfl (SL_nil (nx (SWP_seq (SWP_seq ?_))))
        refine SWP_draws (by kernel_rfl) (by kernel_rfl) ?_
        refine pI rfl rfl (pL rfl rfl (pu rfl rfl ?_))
        refine pc rfl rfl (fun c100 => ?_) (fun c100 => ?_)
        · skip
          refine pB rfl rfl (SL_yes rfl (pL rfl rfl (SL_yes rfl (pI rfl rfl (SL_yes rfl ?_)))))
          obtain ⟨v, hv⟩ : ∃ v, (noW T2.ws D)[(noW (T2.ws.take i) (D.take i)).length]? = some v := ⟨_, List.getElem?_eq_getElem (by omega)⟩
          obtain ⟨adr, er, _, hltr, hrr⟩ := OwnS.atN (by decide) sE_len hov (show ((noW T2.ws D).map Rc.number)[(noW (T2.ws.take i) (D.take i)).length]? = some v.number by rw [List.getElem?_map, hv]; rfl)
          cases er
          refine ia (es := 1) (ad := adr) (k := (noW (T2.ws.take i) (D.take i)).length) rfl rfl rfl (Nat.mul_one _) rfl rfl (by omega) rfl ?_
          refine SL_yes rfl ?_
          refine ldO (off := 0) (cs := sE v.number) (p := adr.add ((noW (T2.ws.take i) (D.take i)).length * 1)) (v := .string v.number) (hrr _ _ (fun c hc => List.mem_cons_of_mem _ (List.mem_append_right _ (List.mem_cons_of_mem _ (List.mem_append_right _ (List.mem_append_left _ hc)))))) rfl (q1 _ _) rfl rfl ?_
          refine SL_yes rfl (pu rfl rfl (SL_yes rfl ?_))
          refine lw (v := .string w.number) B17 0 rfl rfl rfl rfl ?_
          refine SL_yes rfl ?_
          refine pc rfl rfl (fun c108 => ?_) (fun c108 => ?_)
          · skip
            refine pB rfl rfl (SL_nil (nx (SWP_ct rfl (SWP_seq ?_))))
            obtain rfl : d = false := by
              cases d
              · rfl
              · exact absurd (by assumption) (no_later hDl hnd hw hd v hv)
            have hmn : (((noW (T2.ws.take (i + 1)) (D.take (i + 1))).length : Nat) : Int) = (((noW (T2.ws.take i) (D.take i)).length : Nat) : Int) + 1 := by rw [no_take hDl hw hd]; rfl
            have hml : (noW (T2.ws.take i) (D.take i)).length < 65 := by have := (List.getElem?_eq_some_iff.1 (at_no hw hd)).1; have := yesno_len T2.ws D hDl; omega
            refine SWP_region (pI rfl rfl ?_)
            refine pw rfl rfl (w64 (by omega) (by omega)) ?_
            refine pI rfl rfl (SL_nil (nx (SWP_seq (SWP_seq (SWP_region (pI rfl rfl ?_))))))
            refine pc rfl rfl (fun c113 => ?_) (fun c113 => ?_)
            · skip
              refine pB rfl rfl (SL_yes rfl (pL rfl rfl (SL_yes rfl (pI rfl rfl (SL_yes rfl ?_)))))
              obtain hhas : hasT R2 w.number = true := hUp.no_at hnd hw hd (he1.symm.trans (decide_eq_true (by assumption)))
              obtain ⟨adh, eh, _, hlth, hrh⟩ := OwnS.atN (by decide) bE_len hownH (show (hads R2 T2.ws)[i]? = some (hasT R2 w.number) by unfold hads; rw [List.getElem?_map, hw]; rfl)
              cases eh
              refine ia (es := 1) (ad := adh) (k := i) rfl rfl rfl (Nat.mul_one _) rfl rfl (by omega) rfl ?_
              refine SL_yes rfl ?_
              refine ldO (off := 0) (cs := bE (hasT R2 w.number)) (p := adh.add (i * 1)) (v := .bool (hasT R2 w.number)) (hrh _ _ (fun c hc => List.mem_cons_of_mem _ (List.mem_append_right _ (List.mem_cons_of_mem _ (List.mem_append_right _ (List.mem_append_right _ (List.mem_append_left _ hc))))))) rfl (q1 _ _) rfl rfl ?_
              rw [hhas]
              refine SL_yes rfl (pB rfl rfl (pB rfl rfl (SL_nil (nx (SWP_cf rfl (SWP_skip (nx (SWP_exit (ne (be rfl (nx ?_)))))))))))
              refine SWP_weak (.cons _ (List.Sublist.append_left (.cons _ (.refl _)) _)) ?_
              refine SWP_region ?_
              refine pw rfl rfl (w64 (by omega) (by omega)) ?_
              refine pI rfl rfl (SL_nil (nx ?_))
              refine ⟨by repeat (first | exact Under.upds rfl (Under.hav _ _ _) | exact Under.hav _ _ _ | refine Under.upd rfl ?_ | refine Under.upds rfl ?_ | refine Under.hav2 rfl ?_), ?_, ?_⟩
              · refine ⟨i + 1, ?_, by omega, rfl, hle1.trans hl21_3⟩
                rw [hmn]
                rfl
              · simp only [L_vals, List.map, List.getD]; show T2.ws.length - (i + 1) < T2.ws.length - i; omega
            refine pB rfl rfl (SL_no rfl rfl (SL_no rfl rfl (SL_no rfl rfl (SL_no rfl rfl (SL_no rfl rfl (pB rfl rfl (SL_nil (nx (SWP_cf rfl (SWP_skip (nx ?_)))))))))))
            refine SWP_exit (ne (be rfl (nx ?_)))
            refine SWP_weak (.cons _ (List.Sublist.append_left (.cons _ (.refl _)) _)) ?_
            refine SWP_region ?_
            refine pw rfl rfl (w64 (by omega) (by omega)) ?_
            refine pI rfl rfl (SL_nil (nx ?_))
            refine ⟨by repeat (first | exact Under.upds rfl (Under.hav _ _ _) | exact Under.hav _ _ _ | refine Under.upd rfl ?_ | refine Under.upds rfl ?_ | refine Under.hav2 rfl ?_), ?_, ?_⟩
            · refine ⟨i + 1, ?_, by omega, rfl, hle1.trans hl21_3⟩
              rw [hmn]
              rfl
            · simp only [L_vals, List.map, List.getD]; show T2.ws.length - (i + 1) < T2.ws.length - i; omega
          refine pB rfl rfl (SL_nil (nx (SWP_cf rfl (SWP_skip (nx (SWP_seq ?_))))))
          obtain rfl : d = true := by
            cases d
            · exact absurd (congrArg Rc.number (Option.some.inj (hv.symm.trans (at_no hw hd)))) (by assumption)
            · rfl
          have hmn : (noW (T2.ws.take (i + 1)) (D.take (i + 1))).length = (noW (T2.ws.take i) (D.take i)).length := no_take hDl hw hd
          obtain ⟨⟨tk, htk, h5⟩, hno⟩ := hUp.yes_at hw hd
          have hnum : tk.number = w.number := congrArg Prod.fst h5
          have he0 : e1 = 0 := of_decide_eq_true (he1.trans (hasT_iff.2 ⟨tk, htk, hnum⟩))
          obtain ⟨tk2, htk2, hn2, hnm⟩ := hk he0
          obtain rfl := nd_inj hUp.ok.nd htk2 htk (hn2.trans hnum.symm)
          obtain ⟨f1, f2, f3, f4, f5, f6⟩ := five_parts h5 hnm
          refine SWP_region (pI rfl rfl ?_)
          refine pn rfl rfl (fun hh => hh he0) ?_
          refine pB rfl rfl (SL_yes rfl (pL rfl rfl (SL_yes rfl (pI rfl rfl (SL_yes rfl ?_)))))
          obtain ⟨adh, eh, _, hlth, hrh⟩ := OwnS.atN (by decide) bE_len hownH (show (hads R2 T2.ws)[i]? = some (hasT R2 w.number) by unfold hads; rw [List.getElem?_map, hw]; rfl)
          cases eh
          refine ia (es := 1) (ad := adh) (k := i) rfl rfl rfl (Nat.mul_one _) rfl rfl (by omega) rfl ?_
          refine SL_yes rfl ?_
          refine ldO (off := 0) (cs := bE (hasT R2 w.number)) (p := adh.add (i * 1)) (v := .bool (hasT R2 w.number)) (hrh _ _ (fun c hc => List.mem_cons_of_mem _ (List.mem_append_right _ (List.mem_cons_of_mem _ (List.mem_append_right _ (List.mem_append_right _ (List.mem_append_left _ hc))))))) rfl (q1 _ _) rfl rfl ?_
          rw [hno]
          refine pB rfl rfl (pB rfl rfl (SL_yes rfl (pu rfl rfl (SL_yes rfl ?_))))
          refine lw (v := .string k.number) B18 0 rfl rfl rfl rfl ?_
          refine SL_yes rfl (pu rfl rfl (SL_yes rfl ?_))
          refine lw (v := .string w.number) B17 0 rfl rfl rfl rfl ?_
          refine SL_yes rfl ?_
          refine pn rfl rfl (fun hh => hh f1) ?_
          refine pB rfl rfl (pB rfl rfl (SL_yes rfl (pu rfl rfl (SL_yes rfl ?_))))
          refine lw (v := .string k.game) B18 1 rfl rfl rfl rfl ?_
          refine SL_yes rfl (pu rfl rfl (SL_yes rfl ?_))
          refine lw (v := .string w.game) B17 1 rfl rfl rfl rfl ?_
          refine SL_yes rfl ?_
          refine pn rfl rfl (fun hh => hh f2) ?_
          refine pB rfl rfl (pB rfl rfl (SL_yes rfl (pu rfl rfl (SL_yes rfl ?_))))
          refine lw (v := .int .i64 k.first) B18 7 rfl rfl rfl rfl ?_
          refine SL_yes rfl (pu rfl rfl (SL_yes rfl ?_))
          refine lw (v := .int .i64 w.first) B17 3 rfl rfl rfl rfl ?_
          refine SL_yes rfl ?_
          refine pn rfl rfl (fun hh => hh f3) ?_
          refine pB rfl rfl (pB rfl rfl (SL_yes rfl (pu rfl rfl (SL_yes rfl ?_))))
          refine lw (v := .int .i64 k.price) B18 8 rfl rfl rfl rfl ?_
          refine SL_yes rfl (pu rfl rfl (SL_yes rfl ?_))
          refine lw (v := .int .i64 w.price) B17 4 rfl rfl rfl rfl ?_
          refine SL_yes rfl ?_
          refine pn rfl rfl (fun hh => hh f4) ?_
          refine pB rfl rfl (pB rfl rfl (SL_yes rfl (pu rfl rfl (SL_yes rfl ?_))))
          refine lw (v := .int .i64 k.at_) B18 9 rfl rfl rfl rfl ?_
          refine SL_yes rfl (pu rfl rfl (SL_yes rfl ?_))
          refine lw (v := .int .i64 w.at_) B17 5 rfl rfl rfl rfl ?_
          refine SL_yes rfl ?_
          refine pn rfl rfl (fun hh => hh f5) ?_
          refine pB rfl rfl (pB rfl rfl (SL_yes rfl (pu rfl rfl (SL_yes rfl ?_))))
          refine lw (v := .bool k.cancelled) B18 13 rfl rfl rfl rfl ?_
          rw [f6]
          refine pB rfl rfl (SL_nil (nx (SWP_cf rfl (SWP_skip (nb (nx ?_))))))
          refine SWP_weak (.cons _ (List.Sublist.append_left (.cons _ (.refl _)) _)) ?_
          refine SWP_region ?_
          refine pw rfl rfl (w64 (by omega) (by omega)) ?_
          refine pI rfl rfl (SL_nil (nx ?_))
          refine ⟨by repeat (first | exact Under.upds rfl (Under.hav _ _ _) | exact Under.hav _ _ _ | refine Under.upd rfl ?_ | refine Under.upds rfl ?_ | refine Under.hav2 rfl ?_), ?_, ?_⟩
          · refine ⟨i + 1, ?_, by omega, rfl, hle1.trans hl21_3⟩
            rw [hmn]
            rfl
          · simp only [L_vals, List.map, List.getD]; show T2.ws.length - (i + 1) < T2.ws.length - i; omega
        refine pB rfl rfl (SL_no rfl rfl (SL_no rfl rfl (SL_no rfl rfl (SL_no rfl rfl (SL_no rfl rfl (SL_no rfl rfl (SL_no rfl rfl (pB rfl rfl (SL_nil (nx (SWP_cf rfl ?_)))))))))))
        refine SWP_skip (nx (SWP_seq ?_))
        obtain rfl : d = true := by
          cases d
          · have h1 := (List.getElem?_eq_some_iff.1 (at_no hw hd)).1
            exfalso
            omega
          · rfl
        have hmn : (noW (T2.ws.take (i + 1)) (D.take (i + 1))).length = (noW (T2.ws.take i) (D.take i)).length := no_take hDl hw hd
        obtain ⟨⟨tk, htk, h5⟩, hno⟩ := hUp.yes_at hw hd
        have hnum : tk.number = w.number := congrArg Prod.fst h5
        have he0 : e1 = 0 := of_decide_eq_true (he1.trans (hasT_iff.2 ⟨tk, htk, hnum⟩))
        obtain ⟨tk2, htk2, hn2, hnm⟩ := hk he0
        obtain rfl := nd_inj hUp.ok.nd htk2 htk (hn2.trans hnum.symm)
        obtain ⟨f1, f2, f3, f4, f5, f6⟩ := five_parts h5 hnm
        refine SWP_region (pI rfl rfl ?_)
        refine pn rfl rfl (fun hh => hh he0) ?_
        refine pB rfl rfl (SL_yes rfl (pL rfl rfl (SL_yes rfl (pI rfl rfl (SL_yes rfl ?_)))))
        obtain ⟨adh, eh, _, hlth, hrh⟩ := OwnS.atN (by decide) bE_len hownH (show (hads R2 T2.ws)[i]? = some (hasT R2 w.number) by unfold hads; rw [List.getElem?_map, hw]; rfl)
        cases eh
        refine ia (es := 1) (ad := adh) (k := i) rfl rfl rfl (Nat.mul_one _) rfl rfl (by omega) rfl ?_
        refine SL_yes rfl ?_
        refine ldO (off := 0) (cs := bE (hasT R2 w.number)) (p := adh.add (i * 1)) (v := .bool (hasT R2 w.number)) (hrh _ _ (fun c hc => List.mem_cons_of_mem _ (List.mem_append_right _ (List.mem_cons_of_mem _ (List.mem_append_right _ (List.mem_append_right _ (List.mem_append_left _ hc))))))) rfl (q1 _ _) rfl rfl ?_
        rw [hno]
        refine pB rfl rfl (pB rfl rfl (SL_yes rfl (pu rfl rfl (SL_yes rfl ?_))))
        refine lw (v := .string k.number) B18 0 rfl rfl rfl rfl ?_
        refine SL_yes rfl (pu rfl rfl (SL_yes rfl ?_))
        refine lw (v := .string w.number) B17 0 rfl rfl rfl rfl ?_
        refine SL_yes rfl ?_
        refine pn rfl rfl (fun hh => hh f1) ?_
        refine pB rfl rfl (pB rfl rfl (SL_yes rfl (pu rfl rfl (SL_yes rfl ?_))))
        refine lw (v := .string k.game) B18 1 rfl rfl rfl rfl ?_
        refine SL_yes rfl (pu rfl rfl (SL_yes rfl ?_))
        refine lw (v := .string w.game) B17 1 rfl rfl rfl rfl ?_
        refine SL_yes rfl ?_
        refine pn rfl rfl (fun hh => hh f2) ?_
        refine pB rfl rfl (pB rfl rfl (SL_yes rfl (pu rfl rfl (SL_yes rfl ?_))))
        refine lw (v := .int .i64 k.first) B18 7 rfl rfl rfl rfl ?_
        refine SL_yes rfl (pu rfl rfl (SL_yes rfl ?_))
        refine lw (v := .int .i64 w.first) B17 3 rfl rfl rfl rfl ?_
        refine SL_yes rfl ?_
        refine pn rfl rfl (fun hh => hh f3) ?_
        refine pB rfl rfl (pB rfl rfl (SL_yes rfl (pu rfl rfl (SL_yes rfl ?_))))
        refine lw (v := .int .i64 k.price) B18 8 rfl rfl rfl rfl ?_
        refine SL_yes rfl (pu rfl rfl (SL_yes rfl ?_))
        refine lw (v := .int .i64 w.price) B17 4 rfl rfl rfl rfl ?_
        refine SL_yes rfl ?_
        refine pn rfl rfl (fun hh => hh f4) ?_
        refine pB rfl rfl (pB rfl rfl (SL_yes rfl (pu rfl rfl (SL_yes rfl ?_))))
        refine lw (v := .int .i64 k.at_) B18 9 rfl rfl rfl rfl ?_
        refine SL_yes rfl (pu rfl rfl (SL_yes rfl ?_))
        refine lw (v := .int .i64 w.at_) B17 5 rfl rfl rfl rfl ?_
        refine SL_yes rfl ?_
        refine pn rfl rfl (fun hh => hh f5) ?_
        refine pB rfl rfl (pB rfl rfl (SL_yes rfl (pu rfl rfl (SL_yes rfl ?_))))
        refine lw (v := .bool k.cancelled) B18 13 rfl rfl rfl rfl ?_
        rw [f6]
        refine pB rfl rfl (SL_nil (nx (SWP_cf rfl (SWP_skip (nb (nx ?_))))))
        refine SWP_weak (.cons _ (List.Sublist.append_left (.cons _ (.refl _)) _)) ?_
        refine SWP_region ?_
        refine pw rfl rfl (w64 (by omega) (by omega)) ?_
        refine pI rfl rfl (SL_nil (nx ?_))
        refine ⟨by repeat (first | exact Under.upds rfl (Under.hav _ _ _) | exact Under.hav _ _ _ | refine Under.upd rfl ?_ | refine Under.upds rfl ?_ | refine Under.hav2 rfl ?_), ?_, ?_⟩
        · refine ⟨i + 1, ?_, by omega, rfl, hle1.trans hl21_3⟩
          rw [hmn]
          rfl
        · simp only [L_vals, List.map, List.getD]; show T2.ws.length - (i + 1) < T2.ws.length - i; omega
      refine SL_nil (nx (SWP_seq (SWP_cf rfl (SWP_exit (ne (ne (be rfl (nx (SWP_seq ?_)))))))))
      have hall : (noW (T2.ws.take i) (D.take i)).length = (noW T2.ws D).length := by rw [show i = T2.ws.length by omega, List.take_length, List.take_of_length_le (by omega)]
      rw [hall]
      have hcnt := hUp.cnt
      have hynl := yesno_len T2.ws D hDl
      refine SWP_region (pI rfl rfl (pL rfl rfl (pu rfl rfl ?_)))
      refine pt rfl rfl (rfl) ?_
      refine pB rfl rfl (SL_yes rfl (pP rfl rfl (SL_yes rfl ?_)))
      refine SL_pcallS rfl rfl cb26 (CallsS.pureIn (lenP hRB3) (Sub.right _ (Sub.refl _))) rfl ?_
      refine SL_yes rfl (pI rfl rfl (SL_yes rfl (pL rfl rfl (SL_yes rfl (pu rfl rfl (SL_yes rfl ?_))))))
      refine pw rfl rfl (w64 (by omega) (by omega)) ?_
      refine SL_yes rfl (pI rfl rfl (SL_yes rfl ?_))
      refine pw rfl rfl (w64 (by omega) (by omega)) ?_
      refine SL_yes rfl ?_
      refine pt rfl rfl (by omega) ?_
      refine pB rfl rfl (pB rfl rfl (SL_yes rfl (pP rfl rfl (SL_yes rfl ?_))))
      refine SL_pcallS rfl rfl cb35 (CallsS.pureIn (onlineP (T := T2.conn) hB2) (Sub.left _ (Sub.right _ (Sub.refl _)))) rfl ?_
      refine pB rfl rfl (pB rfl rfl (SL_yes rfl (pP rfl rfl (SL_yes rfl ?_))))
      refine SL_call rfl rfl cb34 (CallsS.subF _ (waitP (T := T2.conn) hrun.tok.conn hB2) (permX _ _ _)) rfl (fun v29_21 σ29_21 m29_21 hl29_21 hR29_21 => ?_)
      obtain ⟨σw2, rfl, wa2, wc2, σq2, rfl, how2, rfl, hm29_21⟩ := hR29_21
      have hn29_21 := hm29_21.symm
      subst hn29_21
      refine SL_yes rfl (pu rfl rfl (SL_yes rfl ?_))
      refine pt rfl rfl (rfl) ?_
      refine pB rfl rfl (pB rfl rfl (SL_yes rfl ?_))
      refine SL_pcall rfl rfl cb30 (awake26 (hT5.mono hle1)) rfl ?_
      refine pB rfl rfl (pB rfl rfl (SL_nil (nx (SWP_ret ?_))))
      refine fin [_] ⟨rfl, trivial⟩ ?_
      rfl
end Go.Proofs.YtlgoegjboabgfaaGreatDoor
namespace Go.Proofs.YtlgoegjboabgfaaGreatDoor
open Eng
theorem var_block {P : Program} {W : World} {name : String} {k : IntKind} {zs : List Int} {g : Nat} (hg : P.globalNamed name = some g) (h : Lib.TabIs P W name k zs) : ∃ (t : TypeId) (z : Nat × Nat), W.heap[g]? = some (.cells (zs.map fun z => Value.int k z).toArray t z) := by
  unfold Lib.TabIs World.var? at h
  rw [hg] at h
  replace h : (match W.heap[g]? with | some (.cells cs _ _) => some cs | _ => none) = some (zs.map fun z => Value.int k z).toArray := h
  cases hh : W.heap[g]? with
  | none => rw [hh] at h; cases h
  | some o =>
    rw [hh] at h
    cases o with
    | cells cs t z => cases h; exact ⟨t, z, rfl⟩
    | _ => cases h
theorem at_block {W : World} {g : Nat} {cs : List Value} {t : TypeId} {z : Nat × Nat} (h : W.heap[g]? = some (.cells cs.toArray t z)) : At (allMem W) ⟨g, 0, none⟩ cs := by
  intro j v hj
  have e : (⟨g, 0, none⟩ : Addr).add j = ⟨g, j, none⟩ := by
    cases j with
    | zero => rfl
    | succ j => simp [Addr.add]
  rw [allMem_cell, e]
  unfold World.cell?
  simp only [h]
  simpa using hj
theorem tabM_of2 {W : World} (h1 : Lib.TabIs Tryz.prog W "internal/strconv.uint64pow10" .u64 Lib.pow10Tab) (h2 : Lib.TabIs Tryz.prog W "lottery/ticketno.weights" .i64 wts) : TabM (allMem W) := by
  obtain ⟨t1, z1, e1⟩ := var_block (g := 2) (by kernel_rfl) h1
  obtain ⟨t2, z2, e2⟩ := var_block (g := 0) (by kernel_rfl) h2
  exact ⟨⟨t1, z1, e1⟩, at_block e2⟩
end Go.Proofs.YtlgoegjboabgfaaGreatDoor
