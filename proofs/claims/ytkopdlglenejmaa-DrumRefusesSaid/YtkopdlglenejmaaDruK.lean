/- lotterylaw28: the law DrumRefuses. -/
import Derived.Test.YtkopdlglenejmaaDruJ
namespace Go.Proofs.Ytkopdlglenejmaa
open Eng

theorem u64_of {n : Int} (h : (Lit.int .u64 n).wf = true) : 0 ≤ n ∧ n < 18446744073709551616 := by
  simp only [Lit.wf, Bool.and_eq_true, decide_eq_true_eq] at h
  have h1 : IntKind.u64.min = 0 := by decide
  have h2 : IntKind.u64.max = 18446744073709551615 := by decide
  rw [h1, h2] at h
  omega
/-- An owned list is lent to a call that only reads memory which stays. -/
theorem lendL {F : FuncId} {args : Array Value} {m : Mem} {v u0 : Value} {L : List Int} {σe σ : Sig} (hown : OwnS 3 1 v (L.flatMap intE) σe)
    (h : ∀ m', Le m m' → RL m' intE 1 v L → CallsS Try.prog F args σ m' fun u σ' m2 => u = u0 ∧ σ' = σ ∧ m2 = m') :
    CallsS Try.prog F args (σe ++ σ) m fun u σ' m' => u = u0 ∧ σ' = σe ++ σ ∧ m' = m := by
  have hx : (L.flatMap intE).length = L.length := by rw [flatMap_len intE_len, Nat.mul_one]
  unfold RL at h
  generalize hxs : L.flatMap intE = xs at hown hx h
  cases hown with
  | nil =>
    exact h m (Le.refl m) (by rw [← hx]; exact ⟨none, 0, rfl, by simp, Nat.le_refl _, Nat.zero_le _, fun _ => ⟨rfl, rfl⟩, fun _ h => (by cases h)⟩)
  | row B n cap xs hn hle hcm =>
    refine CallsS.lend fun o ho m' hm' hl => h m' hl ?_
    obtain ⟨cur, rfl, h1, h2, h3, h4⟩ := ho
    have hnn : n = L.length := by omega
    refine ⟨some ⟨B, 0, none⟩, cap, by rw [← hnn], by omega, by omega, hcm, fun e => (by cases e), fun ad e => ?_⟩
    cases e
    intro j w hj
    rw [Addr.add_lit, Nat.zero_add, hm']
    simp only [Mem.cell, Mem.set, if_true, objCell, Option.isSome_none, Bool.false_eq_true, if_false]
    have e1 := congrArg (fun z => z[j]?) h4
    have hlt := (List.getElem?_eq_some_iff.1 hj).1
    simp only [List.getElem?_take, if_pos hlt, Array.getElem?_toList] at e1
    rw [e1, hj]
theorem chkOwn {m : Mem} {g : Game} {r : Res} {σ1 σ2 σ3 τ : Sig} (hin : g.In m) (hs : r.serial.size ≤ 9223372036854775807) (h1 : OwnS 3 1 (.slice r.ma r.main.length r.mc) (r.main.flatMap intE) σ1)
    (h2 : OwnS 3 1 (.slice r.ba r.bonus.length r.bc) (r.bonus.flatMap intE) σ2) (h3 : OwnS 3 1 (.slice r.ea r.extra.length r.ec) (r.extra.flatMap intE) σ3) :
    CallsS Try.prog 14 [g.val, r.val].toArray (σ1 ++ (σ2 ++ (σ3 ++ τ))) m fun u σ' m' => u = .int .i64 (resErr g r) ∧ σ' = σ1 ++ (σ2 ++ (σ3 ++ τ)) ∧ m' = m :=
  lendL h1 fun m1 l1 r1 => lendL h2 fun m2 l2 r2 => lendL h3 fun m3 l3 r3 => resI (hin.mono (l1.trans (l2.trans l3))) ⟨r1.mono (l2.trans l3), r2.mono l3, r3⟩ hs τ
theorem permY {α : Type} (a b : α) (t0 s1 s2 s3 t : List α) : (a :: ((t0 ++ (s1 ++ (s2 ++ (s3 ++ t)))) ++ [b])).Perm ((s1 ++ (s2 ++ (s3 ++ [a, b]))) ++ (t0 ++ t)) := by
  classical
  rw [List.perm_iff_count]
  intro x
  simp only [List.count_cons, List.count_append, List.count_nil]
  omega
theorem permZ2 {α : Type} (a b c x : List α) : (a ++ (b ++ (c ++ x))).Perm (b ++ ((a ++ c) ++ x)) := by
  rw [List.append_assoc]; exact permX a b (c ++ x)
theorem permZ3 {α : Type} (a b c x : List α) : (a ++ (b ++ (c ++ x))).Perm (c ++ ((a ++ b) ++ x)) := by
  rw [List.append_assoc]; exact permX3 a b c x
theorem permZ1 {α : Type} (a b c x : List α) : (a ++ (b ++ (c ++ x))).Perm (a ++ ((b ++ c) ++ x)) := by
  rw [List.append_assoc b c x]
theorem CallsS.permP {P : Program} {F : FuncId} {args : Array Value} {m : Mem} {v : Value} {σ σ' : Sig} (h : CallsS P F args σ m fun u τ m' => u = v ∧ τ = σ ∧ m' = m) (hp : σ'.Perm σ) : CallsS P F args σ' m fun u τ m' => u = v ∧ τ = σ' ∧ m' = m := by
  intro g W hC
  refine (h g W (hC.perm hp)).mono fun e W' ⟨u, τ, m', he, hC', hl, h1, h2, h3⟩ => ?_
  subst h2
  exact ⟨u, σ', m', he, hC'.perm hp.symm, hl, h1, rfl, h3⟩
def OwnI (v : Value) (L : List Int) (σ : Sig) : Prop := OwnS 3 1 v (L.flatMap intE) σ
/-- One of the three lists of a result is taken out. -/
theorem pick3 {m : Mem} {g : Game} {x : Res} {z : Int} {σ1 σ2 σ3 X : Sig} {k : Nat} (hk : k < 3) (hin : g.In m) (hok : ResOk g x) (hs : x.serial.size ≤ 9223372036854775807) (hz : ¬ (0 ≤ z ∧ z ≤ 80))
    (h1 : OwnI (.slice x.ma x.main.length x.mc) x.main σ1) (h2 : OwnI (.slice x.ba x.bonus.length x.bc) x.bonus σ2) (h3 : OwnI (.slice x.ea x.extra.length x.ec) x.extra σ3) :
    ∃ (a : Option Addr) (c : Nat) (L : List Int) (σk ρk : Sig), (([.slice x.ma x.main.length x.mc, .slice x.ba x.bonus.length x.bc, .slice x.ea x.extra.length x.ec] : List Value).drop k).take 1 = [.slice a L.length c] ∧ OwnI (.slice a L.length c) L σk ∧ L.length ≤ 1000 ∧
      (σ1 ++ (σ2 ++ (σ3 ++ X))).Perm (σk ++ (ρk ++ X)) ∧
      (∀ σ', OwnI (.slice a L.length c) L σ' → ∃ τ1 τ2 τ3, OwnI (.slice x.ma x.main.length x.mc) x.main τ1 ∧ OwnI (.slice x.ba x.bonus.length x.bc) x.bonus τ2 ∧ OwnI (.slice x.ea x.extra.length x.ec) x.extra τ3 ∧ (σ' ++ (ρk ++ X)).Perm (τ1 ++ (τ2 ++ (τ3 ++ X)))) ∧
      (∀ i σ', i < L.length → OwnI (.slice a L.length c) (L.set i z) σ' → CallsS Try.prog 14 [g.val, x.val].toArray (σ' ++ (ρk ++ X)) m fun u τ m' => u = .int .i64 2 ∧ τ = σ' ++ (ρk ++ X) ∧ m' = m) := by
  have hg := gameOk hok.g0
  have e1 := hok.nu.ml
  have e2 := hok.nu.bl
  have e3 := hok.nu.xl
  have b1 := hg.mx.h2
  have b2 := hg.mx.h6
  have b3 := hg.mx.h7
  have b4 := hg.mx.h11
  have b5 := hg.mx.h12
  have : k = 0 ∨ k = 1 ∨ k = 2 := by omega
  rcases this with rfl | rfl | rfl
  · refine ⟨x.ma, x.mc, x.main, σ1, σ2 ++ σ3, rfl, h1, by omega, permZ1 _ _ _ _, fun σ' h => ⟨σ', σ2, σ3, h, h2, h3, (permZ1 _ _ _ _).symm⟩, fun i σ' hi h => ?_⟩
    have := chkOwn (g := g) (r := { x with main := x.main.set i z }) (τ := X) hin hs (by show OwnS 3 1 (.slice x.ma (x.main.set i z).length x.mc) _ σ'; rw [List.length_set]; exact h) h2 h3
    rw [set_main hok hi hz] at this
    have hv : ({ x with main := x.main.set i z } : Res).val = x.val := by unfold Res.val; simp only [List.length_set]
    rw [hv] at this
    exact CallsS.permP this (permZ1 _ _ _ _).symm
  · refine ⟨x.ba, x.bc, x.bonus, σ2, σ1 ++ σ3, rfl, h2, by omega, permZ2 _ _ _ _, fun σ' h => ⟨σ1, σ', σ3, h1, h, h3, (permZ2 _ _ _ _).symm⟩, fun i σ' hi h => ?_⟩
    have := chkOwn (g := g) (r := { x with bonus := x.bonus.set i z }) (τ := X) hin hs h1 (by show OwnS 3 1 (.slice x.ba (x.bonus.set i z).length x.bc) _ σ'; rw [List.length_set]; exact h) h3
    rw [set_bonus hok hi hz] at this
    have hv : ({ x with bonus := x.bonus.set i z } : Res).val = x.val := by unfold Res.val; simp only [List.length_set]
    rw [hv] at this
    exact CallsS.permP this (permZ2 _ _ _ _).symm
  · refine ⟨x.ea, x.ec, x.extra, σ3, σ1 ++ σ2, rfl, h3, by omega, permZ3 _ _ _ _, fun σ' h => ⟨σ1, σ2, σ', h1, h2, h, (permZ3 _ _ _ _).symm⟩, fun i σ' hi h => ?_⟩
    have := chkOwn (g := g) (r := { x with extra := x.extra.set i z }) (τ := X) hin hs h1 h2 (by show OwnS 3 1 (.slice x.ea (x.extra.set i z).length x.ec) _ σ'; rw [List.length_set]; exact h)
    rw [set_extra hok hi hz] at this
    have hv : ({ x with extra := x.extra.set i z } : Res).val = x.val := by unfold Res.val; simp only [List.length_set]
    rw [hv] at this
    exact CallsS.permP this (permZ3 _ _ _ _).symm

set_option maxRecDepth 100000 in
theorem lawDrumRefuses {m : Mem} {g : Game} (hin : g.In m) (s : Int) (hsd : 0 ≤ s ∧ s < 18446744073709551616) (z : Int) : CallsS Try.prog 8 [g.val, .int .u64 s, .int .i64 z].toArray [] m fun r _ _ => r = .bool true := by
  dsimp only [Game.val]
  refine enter Try.func8 Try.ntmps8 rfl rfl ?_
  refine SWP_seq ?_
  refine SWP_region ?_
  refine bx (v := .agg _) rfl rfl (fun B3 => ?_)
  refine pB rfl rfl ?_
  refine SL_nil ?_
  refine nx ?_
  refine SWP_seq ?_
  refine SWP_seq ?_
  refine SWP_region ?_
  refine lw (v := .agg _) B3 0 rfl rfl rfl rfl ?_
  refine SL_call rfl rfl cb9 (CallsS.forget (fewG hin)) rfl (fun v1_1 σ1_1 m1_1 hl1_1 hR1_1 => ?_)
  obtain ⟨rfl, hm1_1, b, rfl⟩ := hR1_1
  have hn1_1 := hm1_1.symm
  subst hn1_1
  refine bsp 14 rfl (fun b14 => ?_) (fun b14 => ?_)
  · skip
    refine pB rfl rfl ?_
    refine pB rfl rfl ?_
    refine SL_yes rfl ?_
    first | refine pI rfl rfl ?_ | refine pu rfl rfl ?_
    refine SL_yes rfl ?_
    refine pc rfl rfl (fun c18 => ?_) (fun c18 => ?_)
    · skip
      refine SL_yes rfl ?_
      refine pB rfl rfl ?_
      refine SL_yes rfl ?_
      first | refine pI rfl rfl ?_ | refine pu rfl rfl ?_
      refine SL_yes rfl ?_
      refine pc rfl rfl (fun c21 => ?_) (fun c21 => ?_)
      · skip
        refine SL_yes rfl ?_
        refine pB rfl rfl ?_
        refine pB rfl rfl ?_
        refine SL_nil ?_
        refine nx ?_
        refine SWP_ct rfl ?_
        refine SWP_seq ?_
        refine SWP_region ?_
        refine SL_pcall rfl rfl cb10 (lives28) rfl ?_
        first | refine pB rfl rfl ?_ | refine pu rfl rfl ?_
        refine SL_nil ?_
        refine nx ?_
        refine SWP_ret ?_
        refine nr ?_
        refine fin [_] ⟨rfl, trivial⟩ ?_
        rfl
      refine SL_yes rfl ?_
      refine pB rfl rfl ?_
      refine pB rfl rfl ?_
      refine SL_nil ?_
      refine nx ?_
      refine SWP_cf rfl ?_
      refine SWP_skip ?_
      refine nx ?_
      refine SWP_seq ?_
      refine SWP_region ?_
      refine lw (v := .agg _) B3 0 rfl rfl rfl rfl ?_
      first | refine pI rfl rfl ?_ | refine pu rfl rfl ?_
      refine SL_call rfl rfl cb11 (CallsS.frame0 (drawG hin s)) rfl (fun v3_2 σ3_2 m3_2 hl3_2 hR3_2 => ?_)
      obtain ⟨σo, rfl, v1, v2, v3, τ0, σ1, σ2, σ3, τ, hp, h1, h2, h3, rfl⟩ := hR3_2
      obtain ⟨wa1, wc1, we1⟩ := h1.lenL (by omega) intE_len
      subst we1
      obtain ⟨wa2, wc2, we2⟩ := h2.lenL (by omega) intE_len
      subst we2
      obtain ⟨wa3, wc3, we3⟩ := h3.lenL (by omega) intE_len
      subst we3
      obtain ⟨x, hxe⟩ : ∃ x : Res, x = ⟨wa1, wc1, (drawF g s).2.1, wa2, wc2, (drawF g s).2.2.1, wa3, wc3, (drawF g s).2.2.2, 0, ⟨#[]⟩⟩ := ⟨_, rfl⟩
      have hxo : OutIs x (drawF g s).2.1 (drawF g s).2.2.1 (drawF g s).2.2.2 := by rw [hxe]; exact ⟨rfl, rfl, rfl, rfl, rfl⟩
      have hxv : (.agg #[.slice wa1 (drawF g s).2.1.length wc1, .slice wa2 (drawF g s).2.2.1.length wc2, .slice wa3 (drawF g s).2.2.2.length wc3, .int .i64 0, .string ⟨#[]⟩] : Value) = x.val := by rw [hxe]; rfl
      have h1 : OwnI (.slice x.ma x.main.length x.mc) x.main σ1 := by rw [hxe]; exact h1
      have h2 : OwnI (.slice x.ba x.bonus.length x.bc) x.bonus σ2 := by rw [hxe]; exact h2
      have h3 : OwnI (.slice x.ea x.extra.length x.ec) x.extra σ3 := by rw [hxe]; exact h3
      rw [hxv]
      clear hxv hxe
      dsimp only [Res.val]
      refine pu rfl rfl ?_
      first | refine pA rfl rfl ?_ | refine pu rfl rfl ?_
      first | refine pI rfl rfl ?_ | refine pu rfl rfl ?_
      refine al rfl rfl (fun B7 => ?_)
      refine swE B7 0 x.enc (v := x.val) rfl rfl rfl rfl rfl rfl rfl rfl ?_
      first | refine pI rfl rfl ?_ | refine pu rfl rfl ?_
      refine SL_nil ?_
      refine nx ?_
      refine SWP_seq ?_
      refine SWP_seq ?_
      refine SWP_region ?_
      first | refine pI rfl rfl ?_ | refine pu rfl rfl ?_
      refine pc rfl rfl (fun c32 => ?_) (fun c32 => ?_)
      · skip
        refine SL_nil ?_
        refine nx ?_
        refine SWP_ct rfl ?_
        refine SWP_seq ?_
        refine SWP_region ?_
        refine SL_pcall rfl rfl cb10 (lives28) rfl ?_
        first | refine pB rfl rfl ?_ | refine pu rfl rfl ?_
        refine SL_nil ?_
        refine nx ?_
        refine SWP_ret ?_
        refine nr ?_
        refine fin [_] ⟨rfl, trivial⟩ ?_
        rfl
      refine SL_nil ?_
      refine nx ?_
      refine SWP_cf rfl ?_
      refine SWP_skip ?_
      refine nx ?_
      refine SWP_seq ?_
      have hz : (drawF g s).1 = 0 := Classical.not_not.1 (by assumption)
      have hok := drawn_ok hz hxo
      have hzz : ¬ (0 ≤ z ∧ z ≤ 80) := by omega
      refine SWP_perm ((List.Perm.cons _ (hp.append_right _)).trans (permY _ _ τ0 σ1 σ2 σ3 τ)) ?_
      refine SWP_weak (List.sublist_append_left _ _) ?_
      refine SWP_region ?_
      refine pu rfl rfl ?_
      refine lw (v := .slice _ _ _) B7 0 rfl rfl rfl rfl ?_
      refine pu rfl rfl ?_
      refine lw (v := .slice _ _ _) B7 1 rfl rfl rfl rfl ?_
      refine pu rfl rfl ?_
      refine lw (v := .slice _ _ _) B7 2 rfl rfl rfl rfl ?_
      refine bs (cs := [.slice x.ma x.main.length x.mc, .slice x.ba x.bonus.length x.bc, .slice x.ea x.extra.length x.ec]) rfl rfl rfl rfl rfl (fun B40 => ?_)
      refine SL_freeze (fun m40 hl40 hat40 => ?_)
      first | refine pL rfl rfl ?_ | refine pu rfl rfl ?_
      refine SL_nil ?_
      refine nx ?_
      refine SWP_seq ?_
      refine SWP_seq ?_
      refine SWP_region ?_
      first | refine pL rfl rfl ?_ | refine pu rfl rfl ?_
      refine pu rfl rfl ?_
      first | refine pI rfl rfl ?_ | refine pu rfl rfl ?_
      refine SL_nil ?_
      refine nx ?_
      refine SWP_block ?_
      refine SWP_loop [6, 10, 11, 12, 43, 44, 45, 46, 47, 48, 49, 50, 51, 52, 53, 54, 55, 56, 57, 58, 59, 60, 61, 62, 63, 64, 65, 66, 67, 68, 69, 70, 71, 72, 73, 74, 75, 76, 77, 78, 79, 80, 81, 82, 83, 84, 85, 86] [43]
          (fun vs σ' m' => ∃ (k : Nat) (σ1 σ2 σ3 : Sig), vs = [.int .i64 (k : Nat)] ∧ k ≤ 3 ∧ OwnI (.slice x.ma x.main.length x.mc) x.main σ1 ∧ OwnI (.slice x.ba x.bonus.length x.bc) x.bonus σ2 ∧ OwnI (.slice x.ea x.extra.length x.ec) x.extra σ3 ∧ σ'.Perm (σ1 ++ (σ2 ++ (σ3 ++ [(B7, Cells 31 x.enc), (B3, Cells 25 g.enc)]))) ∧ m40 = m')
          (fun vs => 3 - nOf (vs.getD 0 undef)) rfl ?_ ?_
      · exact ⟨0, σ1, σ2, σ3, rfl, by omega, h1, h2, h3, .refl _, rfl⟩
      intro u0 vs0 σ0 m0 hJ0 _
      obtain ⟨k, s1, s2, s3, rfl, hk, hs1, hs2, hs3, hpp, rfl⟩ := hJ0
      refine SWP_perm hpp ?_
      refine SWP_seq ?_
      refine SWP_region ?_
      refine pc rfl rfl (fun c44 => ?_) (fun c44 => ?_)
      · skip
        refine SL_nil ?_
        refine nx ?_
        refine SWP_seq ?_
        refine SWP_ct rfl ?_
        refine SWP_skip ?_
        refine nx ?_
        refine SWP_seq ?_
        refine SWP_block ?_
        refine SWP_seq ?_
        obtain ⟨ak, ck, L, σk, ρk, hvk, hown, hLs, hpk, hput, hchk⟩ := pick3 (X := [(B7, Cells 31 x.enc), (B3, Cells 25 g.enc)]) (z := z) (show k < 3 by omega) (hin.mono (hl3_2.trans hl40)) hok (by rw [hxo.sr]; decide) hzz hs1 hs2 hs3
        have hatk := (hat40.drop k).take 1
        rw [hvk] at hatk
        refine SWP_perm hpk ?_
        refine SWP_region ?_
        first | refine pI rfl rfl ?_ | refine pu rfl rfl ?_
        first | refine pI rfl rfl ?_ | refine pu rfl rfl ?_
        refine SL_nil ?_
        refine nx ?_
        refine SWP_seq ?_
        refine SWP_seq ?_
        refine SWP_region ?_
        first | refine pL rfl rfl ?_ | refine pu rfl rfl ?_
        first | refine pI rfl rfl ?_ | refine pu rfl rfl ?_
        refine ia (es := 1) rfl rfl rfl (Nat.mul_one _) rfl rfl (by omega) rfl ?_
        refine ldA (v := .slice _ L.length ck) rfl hatk rfl rfl ?_
        refine pu rfl rfl ?_
        refine pc rfl rfl (fun c51 => ?_) (fun c51 => ?_)
        · skip
          refine SL_nil ?_
          refine nx ?_
          refine SWP_ct rfl ?_
          refine SWP_exit ?_
          refine ne ?_
          refine be rfl ?_
          refine nx ?_
          refine SWP_region ?_
          first | refine pw rfl rfl (w64 (by omega) (by omega)) ?_ | refine pu rfl rfl ?_
          refine pI rfl rfl ?_
          refine SL_nil ?_
          refine nx ?_
          refine ⟨by repeat (first | exact Under.upds rfl (Under.hav _ _ _) | exact Under.hav _ _ _ | refine Under.upd rfl ?_), ?_, ?_⟩
          · first
              | (obtain ⟨t1, t2, t3, q1, q2, q3, hq⟩ := hput σk3 hown3
                 exact ⟨k + 1, t1, t2, t3, rfl, by omega, q1, q2, q3, hq, rfl⟩)
              | (obtain ⟨t1, t2, t3, q1, q2, q3, hq⟩ := hput σk hown
                 exact ⟨k + 1, t1, t2, t3, rfl, by omega, q1, q2, q3, hq, rfl⟩)
          · simp only [L_vals, List.map, List.getD]; show 3 - (k + 1) < 3 - k; omega
        refine SL_nil ?_
        refine nx ?_
        refine SWP_cf rfl ?_
        refine SWP_skip ?_
        refine nx ?_
        refine SWP_seq ?_
        refine SWP_region ?_
        first | refine pI rfl rfl ?_ | refine pu rfl rfl ?_
        first | refine pL rfl rfl ?_ | refine pu rfl rfl ?_
        first | refine pI rfl rfl ?_ | refine pu rfl rfl ?_
        refine ia (es := 1) rfl rfl rfl (Nat.mul_one _) rfl rfl (by omega) rfl ?_
        refine ldA (v := .slice _ L.length ck) rfl hatk rfl rfl ?_
        refine pu rfl rfl ?_
        refine pw rfl rfl (conv_a (by omega) (by omega)) ?_
        refine prm (c := s.tmod (L.length : Int)) rfl rfl (by omega) rfl rfl ?_
        refine pu (v := .int .i64 (IntKind.i64.wrap (s.tmod (L.length : Int)))) rfl rfl ?_
        rw [val_a (by omega) (by omega) hsd]
        obtain ⟨i, hi⟩ : ∃ i : Nat, s % (L.length : Int) = (i : Int) := ⟨_, (Int.toNat_of_nonneg (Int.emod_nonneg _ (by omega))).symm⟩
        have hil : i < L.length := by have := Int.emod_lt_of_pos s (show (0 : Int) < (L.length : Int) by omega); omega
        rw [hi]
        first | refine pI rfl rfl ?_ | refine pu rfl rfl ?_
        refine SL_nil ?_
        refine nx ?_
        refine SWP_seq ?_
        refine SWP_region ?_
        first | refine pL rfl rfl ?_ | refine pu rfl rfl ?_
        first | refine pI rfl rfl ?_ | refine pu rfl rfl ?_
        refine ia (es := 1) rfl rfl rfl (Nat.mul_one _) rfl rfl (by omega) rfl ?_
        refine ldA (v := .slice _ L.length ck) rfl hatk rfl rfl ?_
        first | refine pI rfl rfl ?_ | refine pu rfl rfl ?_
        obtain ⟨w0, hw0⟩ : ∃ w, L[i]? = some w := ⟨_, List.getElem?_eq_getElem (by omega)⟩
        obtain ⟨ad, e0, _, _, hrd⟩ := OwnS.atN (by omega) intE_len hown hw0
        cases e0
        refine ia (es := 1) rfl rfl rfl (Nat.mul_one _) rfl rfl (by omega) rfl ?_
        refine ldO (off := 0) (hrd _ _ (fun q hq => by simp [hq])) rfl (q1 _ _) rfl rfl ?_
        first | refine pI rfl rfl ?_ | refine pu rfl rfl ?_
        refine SL_nil ?_
        refine nx ?_
        refine SWP_seq ?_
        refine SWP_region ?_
        first | refine pL rfl rfl ?_ | refine pu rfl rfl ?_
        first | refine pI rfl rfl ?_ | refine pu rfl rfl ?_
        refine ia (es := 1) rfl rfl rfl (Nat.mul_one _) rfl rfl (by omega) rfl ?_
        refine ldA (v := .slice _ L.length ck) rfl hatk rfl rfl ?_
        first | refine pI rfl rfl ?_ | refine pu rfl rfl ?_
        first | refine pI rfl rfl ?_ | refine pu rfl rfl ?_
        refine ia (es := 1) rfl rfl rfl (Nat.mul_one _) rfl rfl (by omega) rfl ?_
        refine stL (σe := σk) (τ := ρk ++ [(B7, Cells 31 x.enc), (B3, Cells 25 g.enc)]) (k := i) (b := w0) (b' := z) (off := 0) intE_len rfl hown (.refl _) hw0 rfl (q1 _ _) rfl rfl (by show 0 + 1 ≤ 1; omega) rfl rfl (fun σk2 hown2 => ?_)
        refine SL_nil ?_
        refine nx ?_
        refine SWP_seq ?_
        refine SWP_seq ?_
        refine SWP_region ?_
        refine lw (v := .agg _) B3 0 rfl rfl rfl rfl ?_
        refine lw (v := .agg _) B7 0 rfl rfl rfl rfl ?_
        refine SL_pcallS rfl rfl cb14 (hchk i σk2 hil hown2) rfl ?_
        refine pn rfl rfl (fun hh => hh rfl) ?_
        refine SL_nil ?_
        refine nx ?_
        refine SWP_cf rfl ?_
        refine SWP_skip ?_
        refine nx ?_
        refine SWP_region ?_
        first | refine pL rfl rfl ?_ | refine pu rfl rfl ?_
        first | refine pI rfl rfl ?_ | refine pu rfl rfl ?_
        refine ia (es := 1) rfl rfl rfl (Nat.mul_one _) rfl rfl (by omega) rfl ?_
        refine ldA (v := .slice _ L.length ck) rfl hatk rfl rfl ?_
        first | refine pI rfl rfl ?_ | refine pu rfl rfl ?_
        first | refine pI rfl rfl ?_ | refine pu rfl rfl ?_
        refine ia (es := 1) rfl rfl rfl (Nat.mul_one _) rfl rfl (by omega) rfl ?_
        refine stL (σe := σk2) (τ := ρk ++ [(B7, Cells 31 x.enc), (B3, Cells 25 g.enc)]) (k := i) (b := z) (b' := w0) (off := 0) intE_len rfl hown2 (.refl _) (by rw [List.getElem?_set_self (by omega)]) rfl (q1 _ _) rfl rfl (by show 0 + 1 ≤ 1; omega) rfl rfl (fun σk3 hown3 => ?_)
        have hback : (L.set i z).set i w0 = L := by
          rw [List.set_set]
          obtain ⟨_, hget⟩ := List.getElem?_eq_some_iff.1 hw0
          rw [← hget, List.set_getElem_self]
        rw [hback] at hown3
        refine SL_nil ?_
        refine nb ?_
        refine nx ?_
        refine SWP_region ?_
        first | refine pw rfl rfl (w64 (by omega) (by omega)) ?_ | refine pu rfl rfl ?_
        refine pI rfl rfl ?_
        refine SL_nil ?_
        refine nx ?_
        refine ⟨by repeat (first | exact Under.upds rfl (Under.hav _ _ _) | exact Under.hav _ _ _ | refine Under.upd rfl ?_), ?_, ?_⟩
        · first
            | (obtain ⟨t1, t2, t3, q1, q2, q3, hq⟩ := hput σk3 hown3
               exact ⟨k + 1, t1, t2, t3, rfl, by omega, q1, q2, q3, hq, rfl⟩)
            | (obtain ⟨t1, t2, t3, q1, q2, q3, hq⟩ := hput σk hown
               exact ⟨k + 1, t1, t2, t3, rfl, by omega, q1, q2, q3, hq, rfl⟩)
        · simp only [L_vals, List.map, List.getD]; show 3 - (k + 1) < 3 - k; omega
      refine SL_nil ?_
      refine nx ?_
      refine SWP_seq ?_
      refine SWP_cf rfl ?_
      refine SWP_exit ?_
      refine ne ?_
      refine ne ?_
      refine be rfl ?_
      refine nx ?_
      refine SWP_seq ?_
      refine SWP_region ?_
      refine SL_pcall rfl rfl cb10 (lives28) rfl ?_
      first | refine pB rfl rfl ?_ | refine pu rfl rfl ?_
      refine SL_nil ?_
      refine nx ?_
      refine SWP_ret ?_
      refine fin [_] ⟨rfl, trivial⟩ ?_
      rfl
    refine SL_yes rfl ?_
    refine pB rfl rfl ?_
    refine SL_no rfl rfl ?_
    refine SL_no rfl rfl ?_
    refine SL_yes rfl ?_
    refine pB rfl rfl ?_
    refine pB rfl rfl ?_
    refine SL_nil ?_
    refine nx ?_
    refine SWP_cf rfl ?_
    refine SWP_skip ?_
    refine nx ?_
    refine SWP_seq ?_
    refine SWP_region ?_
    refine lw (v := .agg _) B3 0 rfl rfl rfl rfl ?_
    first | refine pI rfl rfl ?_ | refine pu rfl rfl ?_
    refine SL_call rfl rfl cb11 (CallsS.frame0 (drawG hin s)) rfl (fun v3_2 σ3_2 m3_2 hl3_2 hR3_2 => ?_)
    obtain ⟨σo, rfl, v1, v2, v3, τ0, σ1, σ2, σ3, τ, hp, h1, h2, h3, rfl⟩ := hR3_2
    obtain ⟨wa1, wc1, we1⟩ := h1.lenL (by omega) intE_len
    subst we1
    obtain ⟨wa2, wc2, we2⟩ := h2.lenL (by omega) intE_len
    subst we2
    obtain ⟨wa3, wc3, we3⟩ := h3.lenL (by omega) intE_len
    subst we3
    obtain ⟨x, hxe⟩ : ∃ x : Res, x = ⟨wa1, wc1, (drawF g s).2.1, wa2, wc2, (drawF g s).2.2.1, wa3, wc3, (drawF g s).2.2.2, 0, ⟨#[]⟩⟩ := ⟨_, rfl⟩
    have hxo : OutIs x (drawF g s).2.1 (drawF g s).2.2.1 (drawF g s).2.2.2 := by rw [hxe]; exact ⟨rfl, rfl, rfl, rfl, rfl⟩
    have hxv : (.agg #[.slice wa1 (drawF g s).2.1.length wc1, .slice wa2 (drawF g s).2.2.1.length wc2, .slice wa3 (drawF g s).2.2.2.length wc3, .int .i64 0, .string ⟨#[]⟩] : Value) = x.val := by rw [hxe]; rfl
    have h1 : OwnI (.slice x.ma x.main.length x.mc) x.main σ1 := by rw [hxe]; exact h1
    have h2 : OwnI (.slice x.ba x.bonus.length x.bc) x.bonus σ2 := by rw [hxe]; exact h2
    have h3 : OwnI (.slice x.ea x.extra.length x.ec) x.extra σ3 := by rw [hxe]; exact h3
    rw [hxv]
    clear hxv hxe
    dsimp only [Res.val]
    refine pu rfl rfl ?_
    first | refine pA rfl rfl ?_ | refine pu rfl rfl ?_
    first | refine pI rfl rfl ?_ | refine pu rfl rfl ?_
    refine al rfl rfl (fun B7 => ?_)
    refine swE B7 0 x.enc (v := x.val) rfl rfl rfl rfl rfl rfl rfl rfl ?_
    first | refine pI rfl rfl ?_ | refine pu rfl rfl ?_
    refine SL_nil ?_
    refine nx ?_
    refine SWP_seq ?_
    refine SWP_seq ?_
    refine SWP_region ?_
    first | refine pI rfl rfl ?_ | refine pu rfl rfl ?_
    refine pc rfl rfl (fun c32 => ?_) (fun c32 => ?_)
    · skip
      refine SL_nil ?_
      refine nx ?_
      refine SWP_ct rfl ?_
      refine SWP_seq ?_
      refine SWP_region ?_
      refine SL_pcall rfl rfl cb10 (lives28) rfl ?_
      first | refine pB rfl rfl ?_ | refine pu rfl rfl ?_
      refine SL_nil ?_
      refine nx ?_
      refine SWP_ret ?_
      refine nr ?_
      refine fin [_] ⟨rfl, trivial⟩ ?_
      rfl
    refine SL_nil ?_
    refine nx ?_
    refine SWP_cf rfl ?_
    refine SWP_skip ?_
    refine nx ?_
    refine SWP_seq ?_
    have hz : (drawF g s).1 = 0 := Classical.not_not.1 (by assumption)
    have hok := drawn_ok hz hxo
    have hzz : ¬ (0 ≤ z ∧ z ≤ 80) := by omega
    refine SWP_perm ((List.Perm.cons _ (hp.append_right _)).trans (permY _ _ τ0 σ1 σ2 σ3 τ)) ?_
    refine SWP_weak (List.sublist_append_left _ _) ?_
    refine SWP_region ?_
    refine pu rfl rfl ?_
    refine lw (v := .slice _ _ _) B7 0 rfl rfl rfl rfl ?_
    refine pu rfl rfl ?_
    refine lw (v := .slice _ _ _) B7 1 rfl rfl rfl rfl ?_
    refine pu rfl rfl ?_
    refine lw (v := .slice _ _ _) B7 2 rfl rfl rfl rfl ?_
    refine bs (cs := [.slice x.ma x.main.length x.mc, .slice x.ba x.bonus.length x.bc, .slice x.ea x.extra.length x.ec]) rfl rfl rfl rfl rfl (fun B40 => ?_)
    refine SL_freeze (fun m40 hl40 hat40 => ?_)
    first | refine pL rfl rfl ?_ | refine pu rfl rfl ?_
    refine SL_nil ?_
    refine nx ?_
    refine SWP_seq ?_
    refine SWP_seq ?_
    refine SWP_region ?_
    first | refine pL rfl rfl ?_ | refine pu rfl rfl ?_
    refine pu rfl rfl ?_
    first | refine pI rfl rfl ?_ | refine pu rfl rfl ?_
    refine SL_nil ?_
    refine nx ?_
    refine SWP_block ?_
    refine SWP_loop [6, 10, 11, 12, 43, 44, 45, 46, 47, 48, 49, 50, 51, 52, 53, 54, 55, 56, 57, 58, 59, 60, 61, 62, 63, 64, 65, 66, 67, 68, 69, 70, 71, 72, 73, 74, 75, 76, 77, 78, 79, 80, 81, 82, 83, 84, 85, 86] [43]
        (fun vs σ' m' => ∃ (k : Nat) (σ1 σ2 σ3 : Sig), vs = [.int .i64 (k : Nat)] ∧ k ≤ 3 ∧ OwnI (.slice x.ma x.main.length x.mc) x.main σ1 ∧ OwnI (.slice x.ba x.bonus.length x.bc) x.bonus σ2 ∧ OwnI (.slice x.ea x.extra.length x.ec) x.extra σ3 ∧ σ'.Perm (σ1 ++ (σ2 ++ (σ3 ++ [(B7, Cells 31 x.enc), (B3, Cells 25 g.enc)]))) ∧ m40 = m')
        (fun vs => 3 - nOf (vs.getD 0 undef)) rfl ?_ ?_
    · exact ⟨0, σ1, σ2, σ3, rfl, by omega, h1, h2, h3, .refl _, rfl⟩
    intro u0 vs0 σ0 m0 hJ0 _
    obtain ⟨k, s1, s2, s3, rfl, hk, hs1, hs2, hs3, hpp, rfl⟩ := hJ0
    refine SWP_perm hpp ?_
    refine SWP_seq ?_
    refine SWP_region ?_
    refine pc rfl rfl (fun c44 => ?_) (fun c44 => ?_)
    · skip
      refine SL_nil ?_
      refine nx ?_
      refine SWP_seq ?_
      refine SWP_ct rfl ?_
      refine SWP_skip ?_
      refine nx ?_
      refine SWP_seq ?_
      refine SWP_block ?_
      refine SWP_seq ?_
      obtain ⟨ak, ck, L, σk, ρk, hvk, hown, hLs, hpk, hput, hchk⟩ := pick3 (X := [(B7, Cells 31 x.enc), (B3, Cells 25 g.enc)]) (z := z) (show k < 3 by omega) (hin.mono (hl3_2.trans hl40)) hok (by rw [hxo.sr]; decide) hzz hs1 hs2 hs3
      have hatk := (hat40.drop k).take 1
      rw [hvk] at hatk
      refine SWP_perm hpk ?_
      refine SWP_region ?_
      first | refine pI rfl rfl ?_ | refine pu rfl rfl ?_
      first | refine pI rfl rfl ?_ | refine pu rfl rfl ?_
      refine SL_nil ?_
      refine nx ?_
      refine SWP_seq ?_
      refine SWP_seq ?_
      refine SWP_region ?_
      first | refine pL rfl rfl ?_ | refine pu rfl rfl ?_
      first | refine pI rfl rfl ?_ | refine pu rfl rfl ?_
      refine ia (es := 1) rfl rfl rfl (Nat.mul_one _) rfl rfl (by omega) rfl ?_
      refine ldA (v := .slice _ L.length ck) rfl hatk rfl rfl ?_
      refine pu rfl rfl ?_
      refine pc rfl rfl (fun c51 => ?_) (fun c51 => ?_)
      · skip
        refine SL_nil ?_
        refine nx ?_
        refine SWP_ct rfl ?_
        refine SWP_exit ?_
        refine ne ?_
        refine be rfl ?_
        refine nx ?_
        refine SWP_region ?_
        first | refine pw rfl rfl (w64 (by omega) (by omega)) ?_ | refine pu rfl rfl ?_
        refine pI rfl rfl ?_
        refine SL_nil ?_
        refine nx ?_
        refine ⟨by repeat (first | exact Under.upds rfl (Under.hav _ _ _) | exact Under.hav _ _ _ | refine Under.upd rfl ?_), ?_, ?_⟩
        · first
            | (obtain ⟨t1, t2, t3, q1, q2, q3, hq⟩ := hput σk3 hown3
               exact ⟨k + 1, t1, t2, t3, rfl, by omega, q1, q2, q3, hq, rfl⟩)
            | (obtain ⟨t1, t2, t3, q1, q2, q3, hq⟩ := hput σk hown
               exact ⟨k + 1, t1, t2, t3, rfl, by omega, q1, q2, q3, hq, rfl⟩)
        · simp only [L_vals, List.map, List.getD]; show 3 - (k + 1) < 3 - k; omega
      refine SL_nil ?_
      refine nx ?_
      refine SWP_cf rfl ?_
      refine SWP_skip ?_
      refine nx ?_
      refine SWP_seq ?_
      refine SWP_region ?_
      first | refine pI rfl rfl ?_ | refine pu rfl rfl ?_
      first | refine pL rfl rfl ?_ | refine pu rfl rfl ?_
      first | refine pI rfl rfl ?_ | refine pu rfl rfl ?_
      refine ia (es := 1) rfl rfl rfl (Nat.mul_one _) rfl rfl (by omega) rfl ?_
      refine ldA (v := .slice _ L.length ck) rfl hatk rfl rfl ?_
      refine pu rfl rfl ?_
      refine pw rfl rfl (conv_a (by omega) (by omega)) ?_
      refine prm (c := s.tmod (L.length : Int)) rfl rfl (by omega) rfl rfl ?_
      refine pu (v := .int .i64 (IntKind.i64.wrap (s.tmod (L.length : Int)))) rfl rfl ?_
      rw [val_a (by omega) (by omega) hsd]
      obtain ⟨i, hi⟩ : ∃ i : Nat, s % (L.length : Int) = (i : Int) := ⟨_, (Int.toNat_of_nonneg (Int.emod_nonneg _ (by omega))).symm⟩
      have hil : i < L.length := by have := Int.emod_lt_of_pos s (show (0 : Int) < (L.length : Int) by omega); omega
      rw [hi]
      first | refine pI rfl rfl ?_ | refine pu rfl rfl ?_
      refine SL_nil ?_
      refine nx ?_
      refine SWP_seq ?_
      refine SWP_region ?_
      first | refine pL rfl rfl ?_ | refine pu rfl rfl ?_
      first | refine pI rfl rfl ?_ | refine pu rfl rfl ?_
      refine ia (es := 1) rfl rfl rfl (Nat.mul_one _) rfl rfl (by omega) rfl ?_
      refine ldA (v := .slice _ L.length ck) rfl hatk rfl rfl ?_
      first | refine pI rfl rfl ?_ | refine pu rfl rfl ?_
      obtain ⟨w0, hw0⟩ : ∃ w, L[i]? = some w := ⟨_, List.getElem?_eq_getElem (by omega)⟩
      obtain ⟨ad, e0, _, _, hrd⟩ := OwnS.atN (by omega) intE_len hown hw0
      cases e0
      refine ia (es := 1) rfl rfl rfl (Nat.mul_one _) rfl rfl (by omega) rfl ?_
      refine ldO (off := 0) (hrd _ _ (fun q hq => by simp [hq])) rfl (q1 _ _) rfl rfl ?_
      first | refine pI rfl rfl ?_ | refine pu rfl rfl ?_
      refine SL_nil ?_
      refine nx ?_
      refine SWP_seq ?_
      refine SWP_region ?_
      first | refine pL rfl rfl ?_ | refine pu rfl rfl ?_
      first | refine pI rfl rfl ?_ | refine pu rfl rfl ?_
      refine ia (es := 1) rfl rfl rfl (Nat.mul_one _) rfl rfl (by omega) rfl ?_
      refine ldA (v := .slice _ L.length ck) rfl hatk rfl rfl ?_
      first | refine pI rfl rfl ?_ | refine pu rfl rfl ?_
      first | refine pI rfl rfl ?_ | refine pu rfl rfl ?_
      refine ia (es := 1) rfl rfl rfl (Nat.mul_one _) rfl rfl (by omega) rfl ?_
      refine stL (σe := σk) (τ := ρk ++ [(B7, Cells 31 x.enc), (B3, Cells 25 g.enc)]) (k := i) (b := w0) (b' := z) (off := 0) intE_len rfl hown (.refl _) hw0 rfl (q1 _ _) rfl rfl (by show 0 + 1 ≤ 1; omega) rfl rfl (fun σk2 hown2 => ?_)
      refine SL_nil ?_
      refine nx ?_
      refine SWP_seq ?_
      refine SWP_seq ?_
      refine SWP_region ?_
      refine lw (v := .agg _) B3 0 rfl rfl rfl rfl ?_
      refine lw (v := .agg _) B7 0 rfl rfl rfl rfl ?_
      refine SL_pcallS rfl rfl cb14 (hchk i σk2 hil hown2) rfl ?_
      refine pn rfl rfl (fun hh => hh rfl) ?_
      refine SL_nil ?_
      refine nx ?_
      refine SWP_cf rfl ?_
      refine SWP_skip ?_
      refine nx ?_
      refine SWP_region ?_
      first | refine pL rfl rfl ?_ | refine pu rfl rfl ?_
      first | refine pI rfl rfl ?_ | refine pu rfl rfl ?_
      refine ia (es := 1) rfl rfl rfl (Nat.mul_one _) rfl rfl (by omega) rfl ?_
      refine ldA (v := .slice _ L.length ck) rfl hatk rfl rfl ?_
      first | refine pI rfl rfl ?_ | refine pu rfl rfl ?_
      first | refine pI rfl rfl ?_ | refine pu rfl rfl ?_
      refine ia (es := 1) rfl rfl rfl (Nat.mul_one _) rfl rfl (by omega) rfl ?_
      refine stL (σe := σk2) (τ := ρk ++ [(B7, Cells 31 x.enc), (B3, Cells 25 g.enc)]) (k := i) (b := z) (b' := w0) (off := 0) intE_len rfl hown2 (.refl _) (by rw [List.getElem?_set_self (by omega)]) rfl (q1 _ _) rfl rfl (by show 0 + 1 ≤ 1; omega) rfl rfl (fun σk3 hown3 => ?_)
      have hback : (L.set i z).set i w0 = L := by
        rw [List.set_set]
        obtain ⟨_, hget⟩ := List.getElem?_eq_some_iff.1 hw0
        rw [← hget, List.set_getElem_self]
      rw [hback] at hown3
      refine SL_nil ?_
      refine nb ?_
      refine nx ?_
      refine SWP_region ?_
      first | refine pw rfl rfl (w64 (by omega) (by omega)) ?_ | refine pu rfl rfl ?_
      refine pI rfl rfl ?_
      refine SL_nil ?_
      refine nx ?_
      refine ⟨by repeat (first | exact Under.upds rfl (Under.hav _ _ _) | exact Under.hav _ _ _ | refine Under.upd rfl ?_), ?_, ?_⟩
      · first
          | (obtain ⟨t1, t2, t3, q1, q2, q3, hq⟩ := hput σk3 hown3
             exact ⟨k + 1, t1, t2, t3, rfl, by omega, q1, q2, q3, hq, rfl⟩)
          | (obtain ⟨t1, t2, t3, q1, q2, q3, hq⟩ := hput σk hown
             exact ⟨k + 1, t1, t2, t3, rfl, by omega, q1, q2, q3, hq, rfl⟩)
      · simp only [L_vals, List.map, List.getD]; show 3 - (k + 1) < 3 - k; omega
    refine SL_nil ?_
    refine nx ?_
    refine SWP_seq ?_
    refine SWP_cf rfl ?_
    refine SWP_exit ?_
    refine ne ?_
    refine ne ?_
    refine be rfl ?_
    refine nx ?_
    refine SWP_seq ?_
    refine SWP_region ?_
    refine SL_pcall rfl rfl cb10 (lives28) rfl ?_
    first | refine pB rfl rfl ?_ | refine pu rfl rfl ?_
    refine SL_nil ?_
    refine nx ?_
    refine SWP_ret ?_
    refine fin [_] ⟨rfl, trivial⟩ ?_
    rfl
  refine pB rfl rfl ?_
  refine pB rfl rfl ?_
  refine SL_no rfl rfl ?_
  refine SL_no rfl rfl ?_
  refine SL_no rfl rfl ?_
  refine SL_no rfl rfl ?_
  refine SL_no rfl rfl ?_
  refine SL_no rfl rfl ?_
  refine pB rfl rfl ?_
  refine SL_nil ?_
  refine nx ?_
  refine SWP_ct rfl ?_
  refine SWP_seq ?_
  refine SWP_region ?_
  refine SL_pcall rfl rfl cb10 (lives28) rfl ?_
  first | refine pB rfl rfl ?_ | refine pu rfl rfl ?_
  refine SL_nil ?_
  refine nx ?_
  refine SWP_ret ?_
  refine nr ?_
  refine fin [_] ⟨rfl, trivial⟩ ?_
  rfl

end Go.Proofs.Ytkopdlglenejmaa

