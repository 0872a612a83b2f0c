/- Tiers: match.Tier, lotteryref32.Tier; matrix.Canon. -/
import Derived.Test.YtakjedhlcnnalaaMatI
import Derived.Test.YtakjedhlcnnalaaMatD
namespace Go.Proofs.Ytakjedhlcnnalaa
open Eng

def winB (g : Game) (l : Line) (r : Res) (t : Tier) : Bool :=
  if g.kind = 2 then digitsB t.mode t.main l.main r.main else decide (t.main ≤ comN l.main r.main ∧ t.bonus ≤ comN l.bonus r.bonus ∧ t.extra ≤ comN l.main r.extra)
def firstT (p : Tier → Bool) : List Tier → Int → Int
  | [], _ => -1
  | t :: l, i => if p t = true then i else firstT p l (i + 1)
theorem firstT_at {p : Tier → Bool} {l : List Tier} {i : Nat} {t : Tier} {k : Int} (h : l[i]? = some t) : firstT p (l.drop i) k = if p t = true then k else firstT p (l.drop (i + 1)) (k + 1) := by
  have hk := List.getElem?_eq_some_iff.1 h
  rw [List.drop_eq_getElem_cons hk.1, hk.2]; rfl
def tierN (g : Game) (l : Line) (r : Res) : Int := firstT (winB g l r) g.tiers 0
/-- Where the first tier is that is won. -/
inductive TierIs (g : Game) (p : Tier → Bool) : Int → Prop
  | none (h : ∀ t ∈ g.tiers, p t = false) : TierIs g p (-1)
  | some (k : Nat) (t : Tier) (h : g.tiers[k]? = some t) (h1 : p t = true) (h2 : ∀ u ∈ g.tiers.take k, p u = false) : TierIs g p (k : Nat)
theorem firstT_is {p : Tier → Bool} : ∀ (l : List Tier) (i : Int), (firstT p l i = -1 ∧ ∀ t ∈ l, p t = false) ∨ ∃ (k : Nat) (t : Tier), firstT p l i = i + (k : Nat) ∧ l[k]? = some t ∧ p t = true ∧ ∀ u ∈ l.take k, p u = false
  | [], i => .inl ⟨rfl, fun _ h => (by cases h)⟩
  | t :: l, i => by
    unfold firstT
    by_cases h : p t = true
    · exact .inr ⟨0, t, by rw [if_pos h]; simp, rfl, h, fun _ h => (by cases h)⟩
    · rw [if_neg h]
      have hf : p t = false := by simpa using h
      rcases firstT_is l (i + 1) with ⟨h1, h2⟩ | ⟨k, u, h1, h2, h3, h4⟩
      · exact .inl ⟨h1, fun u hu => by rcases List.mem_cons.1 hu with rfl | hu; exact hf; exact h2 u hu⟩
      · refine .inr ⟨k + 1, u, by rw [h1]; push_cast; omega, by simpa using h2, h3, fun w hw => ?_⟩
        rw [List.take_succ_cons] at hw
        rcases List.mem_cons.1 hw with rfl | hw
        · exact hf
        · exact h4 w hw
theorem tier_is (g : Game) (l : Line) (r : Res) : TierIs g (winB g l r) (tierN g l r) := by
  unfold tierN
  rcases firstT_is (p := winB g l r) g.tiers 0 with ⟨h1, h2⟩ | ⟨k, u, h1, h2, h3, h4⟩
  · rw [h1]; exact .none h2
  · rw [h1, Int.zero_add]; exact .some k u h2 h3 h4
noncomputable def tierV (g : Game) (l : Line) (r : Res) : Value :=
  if chkErr g l r ≠ 0 then .tuple #[.int .i64 0, .int .i64 (chkErr g l r)] else .tuple #[.int .i64 (tierN g l r), .int .i64 0]
theorem digitsP {m : Mem} {v w : Value} {a b : List Int} (h : RL m intE 1 v a) (h' : RL m intE 1 w b) (hl : a.length ≤ 1000) (hl2 : b.length ≤ 1000) (mode n : Int) : PureCall Try.prog 9 [.int .i64 mode, .int .i64 n, v, w] m (.bool (digitsB mode n a b)) :=
  CallsS.pure ((digitsI h h' hl hl2 mode n).mono fun _ _ _ _ h => h.1)
theorem winB_k {g : Game} {l : Line} {r : Res} {t : Tier} (hk : g.kind = 2) : winB g l r t = digitsB t.mode t.main l.main r.main := if_pos hk
theorem winB_n {g : Game} {l : Line} {r : Res} {t : Tier} (hk : ¬ g.kind = 2) : winB g l r t = decide (t.main ≤ comN l.main r.main ∧ t.bonus ≤ comN l.bonus r.bonus ∧ t.extra ≤ comN l.main r.extra) := if_neg hk
theorem hitV_n {g : Game} {l : Line} {r : Res} (hk : ¬ g.kind = 2) : hitV g l r = (comN l.main r.main, comN l.bonus r.bonus, comN l.main r.extra) := if_neg hk
theorem lens {g : Game} {l : Line} {r : Res} (h : chkErr g l r = 0) : l.main.length ≤ 1000 ∧ r.main.length ≤ 1000 := by
  obtain ⟨lo, ro⟩ := chkErr_zero h
  have h1 := lo.ml
  have h2 := ro.nu.ml
  have h3 := (gameOk lo.g0).mx.h2
  omega

set_option maxRecDepth 100000 in
theorem TierI {m : Mem} {g : Game} {l : Line} {r : Res} (hin : g.In m) (hl : l.In m) (hr : r.In m) (hs : r.serial.size ≤ 9223372036854775807) : PureCall Try.prog 14 [g.val, l.val, r.val] m (tierV g l r) := by
  refine CallsS.pure ?_
  dsimp only [Game.val, Line.val, Res.val]
  refine enter Try.func14 Try.ntmps14 rfl rfl ?_
  refine SWP_seq ?_
  refine SWP_region ?_
  refine bx (v := .agg _) rfl rfl (fun B3 => ?_)
  refine bx (v := .agg _) rfl rfl (fun B4 => ?_)
  refine bx (v := .agg _) rfl rfl (fun B5 => ?_)
  refine pI rfl rfl ?_
  refine pI rfl rfl ?_
  refine SL_nil ?_
  refine nx ?_
  refine SWP_seq ?_
  refine SWP_seq ?_
  refine SWP_region ?_
  refine lw (v := .agg _) B3 0 rfl rfl rfl rfl ?_
  refine lw (v := .agg _) B4 0 rfl rfl rfl rfl ?_
  refine lw (v := .agg _) B5 0 rfl rfl rfl rfl ?_
  refine SL_pcall rfl rfl cb24 (chkI hin hl hr hs) rfl ?_
  first | refine pI rfl rfl ?_ | refine pu rfl rfl ?_
  refine SL_nil ?_
  refine nx ?_
  refine SWP_seq ?_
  refine SWP_region ?_
  first | refine pI rfl rfl ?_ | refine pu rfl rfl ?_
  refine pc rfl rfl (fun c19 => ?_) (fun c19 => ?_)
  · skip
    refine SL_nil ?_
    refine nx ?_
    refine SWP_ct rfl ?_
    refine SWP_seq ?_
    refine SWP_region ?_
    first | refine pI rfl rfl ?_ | refine pu rfl rfl ?_
    refine pI rfl rfl ?_
    first | refine pI rfl rfl ?_ | refine pu rfl rfl ?_
    refine SL_nil ?_
    refine nx ?_
    refine SWP_ret ?_
    refine nr ?_
    refine fin [_, _] ⟨rfl, rfl, trivial⟩ ?_
    unfold tierV
    rw [if_pos c19]; rfl
  refine SL_nil ?_
  refine nx ?_
  refine SWP_cf rfl ?_
  refine SWP_skip ?_
  refine nx ?_
  refine SWP_seq ?_
  have hz : chkErr g l r = 0 := Classical.not_not.1 c19
  obtain ⟨hl1, hl2⟩ := lens hz
  obtain ⟨lo, ro⟩ := chkErr_zero hz
  have htl := hin.trs.small
  refine SWP_region ?_
  refine lw (v := .agg _) B3 0 rfl rfl rfl rfl ?_
  refine lw (v := .agg _) B4 0 rfl rfl rfl rfl ?_
  refine lw (v := .agg _) B5 0 rfl rfl rfl rfl ?_
  refine SL_pcall rfl rfl cb25 (hitsI hin hl hr hs lo ro) rfl ?_
  refine pu rfl rfl ?_
  first | refine pI rfl rfl ?_ | refine pu rfl rfl ?_
  first | refine pI rfl rfl ?_ | refine pu rfl rfl ?_
  first | refine pI rfl rfl ?_ | refine pu rfl rfl ?_
  first | refine pI rfl rfl ?_ | refine pu rfl rfl ?_
  first | refine pI rfl rfl ?_ | refine pu rfl rfl ?_
  first | refine pI rfl rfl ?_ | refine pu rfl rfl ?_
  refine SL_nil ?_
  refine nx ?_
  refine SWP_seq ?_
  refine SWP_seq ?_
  refine SWP_region ?_
  refine pu rfl rfl ?_
  refine lw (v := .slice _ _ _) B3 21 rfl rfl rfl rfl ?_
  refine pu rfl rfl ?_
  refine pI rfl rfl ?_
  refine SL_nil ?_
  refine nx ?_
  refine SWP_block ?_
  refine SWP_loop [6, 7, 12, 13, 32, 33, 34, 35, 36, 37, 38, 39, 40, 41, 42, 43, 44, 45, 46, 47, 48, 49, 50, 51, 52, 53, 54, 55, 56, 57, 58, 59, 60, 61, 62, 63, 64, 65, 66, 67] [32]
      (fun vs σ' m' => ∃ (i : Nat), vs = [.int .i64 (i : Nat)] ∧ i ≤ g.tiers.length ∧ tierN g l r = firstT (winB g l r) (g.tiers.drop i) (i : Nat) ∧ σ' = [(B5, Cells 31 r.enc), (B4, Cells 29 l.enc), (B3, Cells 27 g.enc)] ∧ m = m')
      (fun vs => g.tiers.length - nOf (vs.getD 0 undef)) rfl ?_ ?_
  · exact ⟨0, rfl, by omega, rfl, rfl, rfl⟩
  intro u0 vs0 σ0 m0 hJ0 _
  obtain ⟨i, rfl, hi, hres, rfl, rfl⟩ := hJ0
  dsimp only [Res.enc, Line.enc, Game.enc]
  refine SWP_seq ?_
  refine SWP_region ?_
  refine pc rfl rfl (fun c33 => ?_) (fun c33 => ?_)
  · skip
    refine SL_nil ?_
    refine nx ?_
    refine SWP_seq ?_
    refine SWP_ct rfl ?_
    refine SWP_skip ?_
    refine nx ?_
    refine SWP_seq ?_
    refine SWP_block ?_
    refine SWP_seq ?_
    obtain ⟨t, ht⟩ : ∃ t, g.tiers[i]? = some t := ⟨_, List.getElem?_eq_getElem (by omega)⟩
    obtain ⟨ad, e0, _, hat⟩ := hin.trs.atA Tier.enc_len ht
    rw [firstT_at ht] at hres
    rw [e0]
    refine SWP_region ?_
    first | refine pI rfl rfl ?_ | refine pu rfl rfl ?_
    first | refine ia (es := 6) rfl rfl rfl rfl rfl rfl (by omega) rfl ?_ | refine iai (es := 6) rfl rfl rfl rfl rfl rfl (by omega) (by omega) rfl ?_
    refine ldA (v := .agg _) rfl (by assumption) rfl rfl ?_
    refine al rfl rfl (fun B13 => ?_)
    first | refine pI rfl rfl ?_ | refine pu rfl rfl ?_
    refine sw (v := .agg _) B13 0 rfl rfl rfl rfl rfl rfl rfl ?_
    refine SL_nil ?_
    refine nx ?_
    refine SWP_seq ?_
    refine SWP_seq ?_
    refine SWP_region ?_
    refine pu rfl rfl ?_
    refine lw (v := .int .i64 _) B3 1 rfl rfl rfl rfl ?_
    refine pc rfl rfl (fun c39 => ?_) (fun c39 => ?_)
    · skip
      refine SL_nil ?_
      refine nx ?_
      refine SWP_ct rfl ?_
      refine SWP_seq ?_
      refine SWP_seq ?_
      refine SWP_region ?_
      refine pu rfl rfl ?_
      refine lw (v := .int .i64 _) B13 3 rfl rfl rfl rfl ?_
      refine pu rfl rfl ?_
      refine lw (v := .int .i64 _) B13 0 rfl rfl rfl rfl ?_
      refine pu rfl rfl ?_
      refine lw (v := .slice _ _ _) B4 0 rfl rfl rfl rfl ?_
      refine pu rfl rfl ?_
      refine lw (v := .slice _ _ _) B5 0 rfl rfl rfl rfl ?_
      refine SL_pcall rfl rfl cb9 (digitsP hl.mn hr.mn hl1 hl2 t.mode t.main) rfl ?_
      refine bsp 48 rfl (fun b48 => ?_) (fun b48 => ?_)
      · skip
        refine SL_nil ?_
        refine nx ?_
        refine SWP_ct rfl ?_
        refine SWP_seq ?_
        refine SWP_region ?_
        first | refine pI rfl rfl ?_ | refine pu rfl rfl ?_
        first | refine pI rfl rfl ?_ | refine pu rfl rfl ?_
        refine pI rfl rfl ?_
        refine SL_nil ?_
        refine nx ?_
        refine SWP_ret ?_
        refine nr ?_
        refine nr ?_
        refine br ?_
        refine nr ?_
        refine nr ?_
        refine br ?_
        refine nr ?_
        refine fin [_, _] ⟨rfl, rfl, trivial⟩ ?_
        unfold tierV
        rw [if_neg c19, hres, if_pos (by rw [winB_k (by assumption), b48])]; rfl
      refine SL_nil ?_
      refine nx ?_
      refine SWP_cf rfl ?_
      refine SWP_skip ?_
      refine nx ?_
      refine SWP_exit ?_
      refine ne ?_
      refine be rfl ?_
      refine nx ?_
      refine SWP_weak (List.sublist_cons_self _ _) ?_
      rw [← e0]
      refine SWP_region ?_
      first | refine pw rfl rfl (w64 (by omega) (by omega)) ?_ | refine pu rfl rfl ?_
      refine pI rfl rfl ?_
      refine SL_nil ?_
      refine nx ?_
      refine ⟨by repeat (first | exact Under.upds rfl (Under.hav _ _ _) | exact Under.hav _ _ _ | refine Under.upd rfl ?_), ?_, ?_⟩
      · refine ⟨i + 1, rfl, by omega, ?_, rfl, rfl⟩
        rw [hres, if_neg (by rw [winB_k (by assumption), b48]; exact Bool.noConfusion)]; rfl
      · simp only [L_vals, List.map, List.getD]; show g.tiers.length - (i + 1) < g.tiers.length - i; omega
    refine SL_nil ?_
    refine nx ?_
    refine SWP_cf rfl ?_
    refine SWP_skip ?_
    refine nx ?_
    refine SWP_seq ?_
    have hv := hitV_n (l := l) (r := r) c39
    have hv1 : (hitV g l r).1 = comN l.main r.main := by rw [hv]
    have hv2 : (hitV g l r).2.1 = comN l.bonus r.bonus := by rw [hv]
    have hv3 : (hitV g l r).2.2 = comN l.main r.extra := by rw [hv]
    refine SWP_region ?_
    first | refine pI rfl rfl ?_ | refine pu rfl rfl ?_
    refine pu rfl rfl ?_
    refine lw (v := .int .i64 _) B13 0 rfl rfl rfl rfl ?_
    refine pc rfl rfl (fun c53 => ?_) (fun c53 => ?_)
    · skip
      refine pB rfl rfl ?_
      refine SL_yes rfl ?_
      first | refine pI rfl rfl ?_ | refine pu rfl rfl ?_
      refine SL_yes rfl ?_
      refine pu rfl rfl ?_
      refine SL_yes rfl ?_
      refine lw (v := .int .i64 _) B13 1 rfl rfl rfl rfl ?_
      refine SL_yes rfl ?_
      refine pc rfl rfl (fun c58 => ?_) (fun c58 => ?_)
      · skip
        refine pB rfl rfl ?_
        refine pB rfl rfl ?_
        refine SL_yes rfl ?_
        first | refine pI rfl rfl ?_ | refine pu rfl rfl ?_
        refine SL_yes rfl ?_
        refine pu rfl rfl ?_
        refine SL_yes rfl ?_
        refine lw (v := .int .i64 _) B13 2 rfl rfl rfl rfl ?_
        refine SL_yes rfl ?_
        refine pc rfl rfl (fun c64 => ?_) (fun c64 => ?_)
        · skip
          refine pB rfl rfl ?_
          refine SL_nil ?_
          refine nx ?_
          refine SWP_ct rfl ?_
          refine SWP_seq ?_
          refine SWP_region ?_
          first | refine pI rfl rfl ?_ | refine pu rfl rfl ?_
          first | refine pI rfl rfl ?_ | refine pu rfl rfl ?_
          refine pI rfl rfl ?_
          refine SL_nil ?_
          refine nx ?_
          refine SWP_ret ?_
          refine br ?_
          refine nr ?_
          refine nr ?_
          refine br ?_
          refine nr ?_
          refine fin [_, _] ⟨rfl, rfl, trivial⟩ ?_
          unfold tierV
          rw [if_neg c19, hres, if_pos (by rw [winB_n (by assumption), decide_eq_true_eq]; omega)]; rfl
        refine pB rfl rfl ?_
        refine SL_nil ?_
        refine nx ?_
        refine SWP_cf rfl ?_
        refine SWP_skip ?_
        refine nb ?_
        refine nx ?_
        refine SWP_weak (List.sublist_cons_self _ _) ?_
        rw [← e0]
        refine SWP_region ?_
        first | refine pw rfl rfl (w64 (by omega) (by omega)) ?_ | refine pu rfl rfl ?_
        refine pI rfl rfl ?_
        refine SL_nil ?_
        refine nx ?_
        refine ⟨by repeat (first | exact Under.upds rfl (Under.hav _ _ _) | exact Under.hav _ _ _ | refine Under.upd rfl ?_), ?_, ?_⟩
        · refine ⟨i + 1, rfl, by omega, ?_, rfl, rfl⟩
          rw [hres, if_neg (by rw [winB_n (by assumption), decide_eq_true_eq]; omega)]; rfl
        · simp only [L_vals, List.map, List.getD]; show g.tiers.length - (i + 1) < g.tiers.length - i; omega
      refine pB rfl rfl ?_
      refine pB rfl rfl ?_
      refine SL_no rfl rfl ?_
      refine SL_no rfl rfl ?_
      refine SL_no rfl rfl ?_
      refine SL_no rfl rfl ?_
      refine pB rfl rfl ?_
      refine SL_nil ?_
      refine nx ?_
      refine SWP_cf rfl ?_
      refine SWP_skip ?_
      refine nb ?_
      refine nx ?_
      refine SWP_weak (List.sublist_cons_self _ _) ?_
      rw [← e0]
      refine SWP_region ?_
      first | refine pw rfl rfl (w64 (by omega) (by omega)) ?_ | refine pu rfl rfl ?_
      refine pI rfl rfl ?_
      refine SL_nil ?_
      refine nx ?_
      refine ⟨by repeat (first | exact Under.upds rfl (Under.hav _ _ _) | exact Under.hav _ _ _ | refine Under.upd rfl ?_), ?_, ?_⟩
      · refine ⟨i + 1, rfl, by omega, ?_, rfl, rfl⟩
        rw [hres, if_neg (by rw [winB_n (by assumption), decide_eq_true_eq]; omega)]; rfl
      · simp only [L_vals, List.map, List.getD]; show g.tiers.length - (i + 1) < g.tiers.length - i; omega
    refine pB rfl rfl ?_
    refine SL_no rfl rfl ?_
    refine SL_no rfl rfl ?_
    refine SL_no rfl rfl ?_
    refine SL_no rfl rfl ?_
    refine pB rfl rfl ?_
    refine pB rfl rfl ?_
    refine SL_no rfl rfl ?_
    refine SL_no rfl rfl ?_
    refine SL_no rfl rfl ?_
    refine SL_no rfl rfl ?_
    refine pB rfl rfl ?_
    refine SL_nil ?_
    refine nx ?_
    refine SWP_cf rfl ?_
    refine SWP_skip ?_
    refine nb ?_
    refine nx ?_
    refine SWP_weak (List.sublist_cons_self _ _) ?_
    rw [← e0]
    refine SWP_region ?_
    first | refine pw rfl rfl (w64 (by omega) (by omega)) ?_ | refine pu rfl rfl ?_
    refine pI rfl rfl ?_
    refine SL_nil ?_
    refine nx ?_
    refine ⟨by repeat (first | exact Under.upds rfl (Under.hav _ _ _) | exact Under.hav _ _ _ | refine Under.upd rfl ?_), ?_, ?_⟩
    · refine ⟨i + 1, rfl, by omega, ?_, rfl, rfl⟩
      rw [hres, if_neg (by rw [winB_n (by assumption), decide_eq_true_eq]; omega)]; rfl
    · simp only [L_vals, List.map, List.getD]; show g.tiers.length - (i + 1) < g.tiers.length - i; omega
  refine SL_nil ?_
  refine nx ?_
  refine SWP_seq ?_
  refine SWP_cf rfl ?_
  refine SWP_exit ?_
  refine ne ?_
  refine ne ?_
  refine be rfl ?_
  refine nx ?_
  refine SWP_seq ?_
  refine SWP_region ?_
  refine pI rfl rfl ?_
  refine pI rfl rfl ?_
  refine SL_nil ?_
  refine nx ?_
  refine SWP_ret ?_
  refine fin [_, _] ⟨rfl, rfl, trivial⟩ ?_
  have hnil : g.tiers.drop i = [] := List.drop_eq_nil_of_le (by omega)
  unfold tierV
  rw [if_neg c19, hres, hnil]; rfl

set_option maxRecDepth 100000 in
theorem winsR {m : Mem} {g : Game} {l : Line} {r : Res} (hin : g.In m) (hl : l.In m) (hr : r.In m) (hs : r.serial.size ≤ 9223372036854775807) (t : Tier) (hz : chkErr g l r = 0) : PureCall Try.prog 29 [g.val, t.val, l.val, r.val] m (.bool (winB g l r t)) := by
  refine CallsS.pure ?_
  obtain ⟨hl1, hl2⟩ := lens hz
  dsimp only [Game.val, Line.val, Res.val, Tier.val]
  refine enter Try.func29 Try.ntmps29 rfl rfl ?_
  refine SWP_seq ?_
  refine SWP_region ?_
  refine bx (v := .agg _) rfl rfl (fun B4 => ?_)
  refine bx (v := .agg _) rfl rfl (fun B5 => ?_)
  refine bx (v := .agg _) rfl rfl (fun B6 => ?_)
  refine bx (v := .agg _) rfl rfl (fun B7 => ?_)
  refine pB rfl rfl ?_
  refine SL_nil ?_
  refine nx ?_
  refine SWP_seq ?_
  refine SWP_seq ?_
  refine SWP_region ?_
  refine pu rfl rfl ?_
  refine lw (v := .int .i64 _) B4 1 rfl rfl rfl rfl ?_
  refine pc rfl rfl (fun c11 => ?_) (fun c11 => ?_)
  · skip
    refine SL_nil ?_
    refine nx ?_
    refine SWP_ct rfl ?_
    refine SWP_seq ?_
    refine SWP_region ?_
    refine pu rfl rfl ?_
    refine lw (v := .int .i64 _) B5 3 rfl rfl rfl rfl ?_
    refine pu rfl rfl ?_
    refine lw (v := .int .i64 _) B5 0 rfl rfl rfl rfl ?_
    refine pu rfl rfl ?_
    refine lw (v := .slice _ _ _) B6 0 rfl rfl rfl rfl ?_
    refine pu rfl rfl ?_
    refine lw (v := .slice _ _ _) B7 0 rfl rfl rfl rfl ?_
    refine SL_pcall rfl rfl cb10 (digitsR hl.mn hr.mn hl1 hl2 t.mode t.main) rfl ?_
    first | refine pB rfl rfl ?_ | refine pu rfl rfl ?_
    refine SL_nil ?_
    refine nx ?_
    refine SWP_ret ?_
    refine nr ?_
    refine fin [_] ⟨rfl, trivial⟩ ?_
    rw [winB_k (by assumption)]; rfl
  refine SL_nil ?_
  refine nx ?_
  refine SWP_cf rfl ?_
  refine SWP_skip ?_
  refine nx ?_
  refine SWP_seq ?_
  refine SWP_draws (by kernel_rfl) (by kernel_rfl) ?_
  refine pu rfl rfl ?_
  refine lw (v := .slice _ _ _) B6 0 rfl rfl rfl rfl ?_
  refine pu rfl rfl ?_
  refine lw (v := .slice _ _ _) B7 0 rfl rfl rfl rfl ?_
  refine SL_pcall rfl rfl cb27 (commonR hl.mn hr.mn) rfl ?_
  refine pu rfl rfl ?_
  refine lw (v := .int .i64 _) B5 0 rfl rfl rfl rfl ?_
  refine pc rfl rfl (fun c28 => ?_) (fun c28 => ?_)
  · skip
    refine pB rfl rfl ?_
    refine SL_yes rfl ?_
    refine pu rfl rfl ?_
    refine SL_yes rfl ?_
    refine lw (v := .slice _ _ _) B6 1 rfl rfl rfl rfl ?_
    refine SL_yes rfl ?_
    refine pu rfl rfl ?_
    refine SL_yes rfl ?_
    refine lw (v := .slice _ _ _) B7 1 rfl rfl rfl rfl ?_
    refine SL_yes rfl ?_
    refine SL_pcall rfl rfl cb27 (commonR hl.bn hr.bn) rfl ?_
    refine SL_yes rfl ?_
    refine pu rfl rfl ?_
    refine SL_yes rfl ?_
    refine lw (v := .int .i64 _) B5 1 rfl rfl rfl rfl ?_
    refine SL_yes rfl ?_
    refine pc rfl rfl (fun c37 => ?_) (fun c37 => ?_)
    · skip
      refine pB rfl rfl ?_
      refine pB rfl rfl ?_
      refine SL_yes rfl ?_
      refine pu rfl rfl ?_
      refine SL_yes rfl ?_
      refine lw (v := .slice _ _ _) B6 0 rfl rfl rfl rfl ?_
      refine SL_yes rfl ?_
      refine pu rfl rfl ?_
      refine SL_yes rfl ?_
      refine lw (v := .slice _ _ _) B7 2 rfl rfl rfl rfl ?_
      refine SL_yes rfl ?_
      refine SL_pcall rfl rfl cb27 (commonR hl.mn hr.xn) rfl ?_
      refine SL_yes rfl ?_
      refine pu rfl rfl ?_
      refine SL_yes rfl ?_
      refine lw (v := .int .i64 _) B5 2 rfl rfl rfl rfl ?_
      refine SL_yes rfl ?_
      refine pu rfl rfl ?_
      refine pB rfl rfl ?_
      refine pB rfl rfl ?_
      refine SL_nil ?_
      refine nx ?_
      refine SWP_ret ?_
      refine fin [_] ⟨rfl, trivial⟩ ?_
      rw [winB_n (by assumption)]
      first | exact congrArg Value.bool (decide_eq_true (by omega)).symm | exact congrArg Value.bool (decide_eq_false (by omega)).symm | exact congrArg Value.bool (decide_eq_decide.2 (by omega))
    refine pB rfl rfl ?_
    refine pB rfl rfl ?_
    refine SL_no rfl rfl ?_
    refine SL_no rfl rfl ?_
    refine SL_no rfl rfl ?_
    refine SL_no rfl rfl ?_
    refine SL_no rfl rfl ?_
    refine SL_no rfl rfl ?_
    refine SL_no rfl rfl ?_
    refine SL_no rfl rfl ?_
    refine pB rfl rfl ?_
    refine pB rfl rfl ?_
    refine SL_nil ?_
    refine nx ?_
    refine SWP_ret ?_
    refine fin [_] ⟨rfl, trivial⟩ ?_
    rw [winB_n (by assumption)]
    first | exact congrArg Value.bool (decide_eq_true (by omega)).symm | exact congrArg Value.bool (decide_eq_false (by omega)).symm | exact congrArg Value.bool (decide_eq_decide.2 (by omega))
  refine pB rfl rfl ?_
  refine SL_no rfl rfl ?_
  refine SL_no rfl rfl ?_
  refine SL_no rfl rfl ?_
  refine SL_no rfl rfl ?_
  refine SL_no rfl rfl ?_
  refine SL_no rfl rfl ?_
  refine SL_no rfl rfl ?_
  refine SL_no rfl rfl ?_
  refine pB rfl rfl ?_
  refine pB rfl rfl ?_
  refine SL_no rfl rfl ?_
  refine SL_no rfl rfl ?_
  refine SL_no rfl rfl ?_
  refine SL_no rfl rfl ?_
  refine SL_no rfl rfl ?_
  refine SL_no rfl rfl ?_
  refine SL_no rfl rfl ?_
  refine SL_no rfl rfl ?_
  refine pB rfl rfl ?_
  refine pB rfl rfl ?_
  refine SL_nil ?_
  refine nx ?_
  refine SWP_ret ?_
  refine fin [_] ⟨rfl, trivial⟩ ?_
  rw [winB_n (by assumption)]
  first | exact congrArg Value.bool (decide_eq_true (by omega)).symm | exact congrArg Value.bool (decide_eq_false (by omega)).symm | exact congrArg Value.bool (decide_eq_decide.2 (by omega))

set_option maxRecDepth 100000 in
theorem TierR {m : Mem} {g : Game} {l : Line} {r : Res} (hin : g.In m) (hl : l.In m) (hr : r.In m) (hs : r.serial.size ≤ 9223372036854775807) : PureCall Try.prog 15 [g.val, l.val, r.val] m (tierV g l r) := by
  refine CallsS.pure ?_
  dsimp only [Game.val, Line.val, Res.val]
  refine enter Try.func15 Try.ntmps15 rfl rfl ?_
  refine SWP_seq ?_
  refine SWP_region ?_
  refine bx (v := .agg _) rfl rfl (fun B3 => ?_)
  refine bx (v := .agg _) rfl rfl (fun B4 => ?_)
  refine bx (v := .agg _) rfl rfl (fun B5 => ?_)
  refine pI rfl rfl ?_
  refine pI rfl rfl ?_
  refine SL_nil ?_
  refine nx ?_
  refine SWP_seq ?_
  refine SWP_region ?_
  refine lw (v := .agg _) B3 0 rfl rfl rfl rfl ?_
  refine lw (v := .agg _) B4 0 rfl rfl rfl rfl ?_
  refine lw (v := .agg _) B5 0 rfl rfl rfl rfl ?_
  refine SL_pcall rfl rfl cb26 (chkR hin hl hr hs) rfl ?_
  first | refine pI rfl rfl ?_ | refine pu rfl rfl ?_
  refine SL_nil ?_
  refine nx ?_
  refine SWP_seq ?_
  refine SWP_seq ?_
  refine SWP_region ?_
  first | refine pI rfl rfl ?_ | refine pu rfl rfl ?_
  refine pc rfl rfl (fun c15 => ?_) (fun c15 => ?_)
  · skip
    refine SL_nil ?_
    refine nx ?_
    refine SWP_ct rfl ?_
    refine SWP_seq ?_
    refine SWP_region ?_
    first | refine pI rfl rfl ?_ | refine pu rfl rfl ?_
    refine pI rfl rfl ?_
    first | refine pI rfl rfl ?_ | refine pu rfl rfl ?_
    refine SL_nil ?_
    refine nx ?_
    refine SWP_ret ?_
    refine nr ?_
    refine fin [_, _] ⟨rfl, rfl, trivial⟩ ?_
    unfold tierV
    rw [if_pos c15]; rfl
  refine SL_nil ?_
  refine nx ?_
  refine SWP_cf rfl ?_
  refine SWP_skip ?_
  refine nx ?_
  refine SWP_seq ?_
  refine SWP_seq ?_
  have hz : chkErr g l r = 0 := Classical.not_not.1 c15
  obtain ⟨hl1, hl2⟩ := lens hz
  obtain ⟨lo, ro⟩ := chkErr_zero hz
  have htl := hin.trs.small
  refine SWP_region ?_
  refine pI rfl rfl ?_
  refine SL_nil ?_
  refine nx ?_
  refine SWP_block ?_
  refine SWP_loop [6, 7, 9, 17, 18, 19, 20, 21, 22, 23, 24, 25, 26, 27, 28, 29, 30, 31, 32, 33] [9]
      (fun vs σ' m' => ∃ (i : Nat), vs = [.int .i64 (i : Nat)] ∧ i ≤ g.tiers.length ∧ tierN g l r = firstT (winB g l r) (g.tiers.drop i) (i : Nat) ∧ σ' = [(B5, Cells 31 r.enc), (B4, Cells 29 l.enc), (B3, Cells 27 g.enc)] ∧ m = m')
      (fun vs => g.tiers.length - nOf (vs.getD 0 undef)) rfl ?_ ?_
  · exact ⟨0, rfl, by omega, rfl, rfl, rfl⟩
  intro u0 vs0 σ0 m0 hJ0 _
  obtain ⟨i, rfl, hi, hres, rfl, rfl⟩ := hJ0
  dsimp only [Res.enc, Line.enc, Game.enc]
  refine SWP_seq ?_
  refine SWP_seq ?_
  refine SWP_region ?_
  first | refine pI rfl rfl ?_ | refine pu rfl rfl ?_
  refine pu rfl rfl ?_
  refine lw (v := .slice _ _ _) B3 21 rfl rfl rfl rfl ?_
  refine pu rfl rfl ?_
  refine pc rfl rfl (fun c21 => ?_) (fun c21 => ?_)
  · skip
    refine SL_nil ?_
    refine nx ?_
    refine SWP_ct rfl ?_
    refine SWP_skip ?_
    refine nx ?_
    refine SWP_seq ?_
    refine SWP_block ?_
    refine SWP_seq ?_
    obtain ⟨t, ht⟩ : ∃ t, g.tiers[i]? = some t := ⟨_, List.getElem?_eq_getElem (by omega)⟩
    obtain ⟨ad, e0, _, hat⟩ := hin.trs.atA Tier.enc_len ht
    rw [firstT_at ht] at hres
    refine SWP_draws (by kernel_rfl) (by kernel_rfl) ?_
    refine lw (v := .agg _) B3 0 rfl rfl rfl rfl ?_
    refine pu rfl rfl ?_
    refine lw (v := .slice _ _ _) B3 21 rfl rfl rfl rfl ?_
    first | refine pI rfl rfl ?_ | refine pu rfl rfl ?_
    rw [e0]
    refine ia (es := 6) rfl rfl rfl rfl rfl rfl (by omega) rfl ?_
    rw [← e0]
    refine ldA (v := .agg _) rfl (by assumption) rfl rfl ?_
    refine lw (v := .agg _) B4 0 rfl rfl rfl rfl ?_
    refine lw (v := .agg _) B5 0 rfl rfl rfl rfl ?_
    refine SL_pcall rfl rfl cb29 (winsR hin hl hr hs t hz) rfl ?_
    refine bsp 32 rfl (fun b32 => ?_) (fun b32 => ?_)
    · skip
      refine SL_nil ?_
      refine nx ?_
      refine SWP_ct rfl ?_
      refine SWP_seq ?_
      refine SWP_region ?_
      first | refine pI rfl rfl ?_ | refine pu rfl rfl ?_
      first | refine pI rfl rfl ?_ | refine pu rfl rfl ?_
      refine pI rfl rfl ?_
      refine SL_nil ?_
      refine nx ?_
      refine SWP_ret ?_
      refine br ?_
      refine nr ?_
      refine nr ?_
      refine br ?_
      refine nr ?_
      refine fin [_, _] ⟨rfl, rfl, trivial⟩ ?_
      unfold tierV
      rw [if_neg c15, hres, if_pos b32]; rfl
    refine SL_nil ?_
    refine nx ?_
    refine SWP_cf rfl ?_
    refine SWP_skip ?_
    refine nb ?_
    refine nx ?_
    refine SWP_region ?_
    first | refine pI rfl rfl ?_ | refine pu rfl rfl ?_
    first | refine pw rfl rfl (w64 (by omega) (by omega)) ?_ | refine pu rfl rfl ?_
    refine pI rfl rfl ?_
    refine SL_nil ?_
    refine nx ?_
    refine ⟨by repeat (first | exact Under.upds rfl (Under.hav _ _ _) | exact Under.hav _ _ _ | refine Under.upd rfl ?_), ?_, ?_⟩
    · refine ⟨i + 1, rfl, by omega, ?_, rfl, rfl⟩
      rw [hres, if_neg (by rw [b32]; exact Bool.noConfusion)]; rfl
    · simp only [L_vals, List.map, List.getD]; show g.tiers.length - (i + 1) < g.tiers.length - i; omega
  refine SL_nil ?_
  refine nx ?_
  refine SWP_cf rfl ?_
  refine SWP_exit ?_
  refine ne ?_
  refine ne ?_
  refine be rfl ?_
  refine nx ?_
  refine SWP_seq ?_
  refine SWP_region ?_
  refine pI rfl rfl ?_
  refine pI rfl rfl ?_
  refine SL_nil ?_
  refine nx ?_
  refine SWP_ret ?_
  refine fin [_, _] ⟨rfl, rfl, trivial⟩ ?_
  have hnil : g.tiers.drop i = [] := List.drop_eq_nil_of_le (by omega)
  unfold tierV
  rw [if_neg c15, hres, hnil]; rfl

theorem pl_tier (B Bb Bc Bd : Nat) : tierV (plG B) (pl3 Bb [3, 7, 9]) (plR Bc Bd) = .tuple #[.int .i64 1, .int .i64 0] := by
  unfold tierV
  rw [if_neg (by rw [chkErr_of (plL_ok B Bb) (plR_ok B Bc Bd)]; decide)]
  have e : tierN (plG B) (pl3 Bb [3, 7, 9]) (plR Bc Bd) = 1 := by kernel_rfl
  rw [e]
theorem tierV_form (g : Game) (l : Line) (r : Res) : ∃ n e : Int, tierV g l r = .tuple #[.int .i64 n, .int .i64 e] ∧ ((e ≠ 0 ∧ n = 0) ∨ (e = 0 ∧ chkErr g l r = 0 ∧ TierIs g (winB g l r) n)) := by
  unfold tierV
  split
  · rename_i h; exact ⟨_, _, rfl, .inl ⟨h, rfl⟩⟩
  · rename_i h; exact ⟨_, _, rfl, .inr ⟨rfl, Classical.not_not.1 h, tier_is g l r⟩⟩

set_option maxRecDepth 100000 in
theorem livesL {m : Mem} : PureCall Try.prog 16 [] m (.bool true) := by
  refine CallsS.pure ?_
  refine enter Try.func16 Try.ntmps16 rfl rfl ?_
  refine SWP_seq ?_
  refine SWP_region ?_
  refine pB rfl rfl ?_
  refine SL_nil ?_
  refine nx ?_
  refine SWP_seq ?_
  refine SWP_region ?_
  refine SL_call rfl rfl cb28 (plainL) rfl (fun v1_0 σ1_0 m1_0 hl1_0 hR1_0 => ?_)
  obtain ⟨rfl, BG, rfl, hinG⟩ := hR1_0
  refine bs (cs := (([3, 7, 9] : List Int)).flatMap intE) rfl rfl rfl (by kernel_rfl) rfl (fun B5 => ?_)
  refine SL_freeze (fun m5 hl5 hat5 => ?_)
  refine pA rfl rfl ?_
  refine bs (cs := (([7, 9, 11] : List Int)).flatMap intE) rfl rfl rfl (by kernel_rfl) rfl (fun B7 => ?_)
  refine SL_freeze (fun m7 hl7 hat7 => ?_)
  refine bs (cs := (([3] : List Int)).flatMap intE) rfl rfl rfl (by kernel_rfl) rfl (fun B8 => ?_)
  refine SL_freeze (fun m8 hl8 hat8 => ?_)
  refine pA rfl rfl ?_
  refine SL_pcall rfl rfl cb14 (TierI (g := plG BG) (l := pl3 B5 [3, 7, 9]) (r := plR B7 B8) (hinG.mono (hl5.trans (hl7.trans hl8))) ⟨(RL.of_at intE_len [3, 7, 9] rfl rfl hat5).mono (hl7.trans hl8), RL.nil _ _⟩ ⟨(RL.of_at intE_len [7, 9, 11] rfl rfl hat7).mono hl8, RL.nil _ _, RL.of_at intE_len [3] rfl rfl hat8⟩ (Nat.zero_le _)) rfl ?_
  rw [pl_tier]
  refine pu rfl rfl ?_
  first | refine pI rfl rfl ?_ | refine pu rfl rfl ?_
  first | refine pI rfl rfl ?_ | refine pu rfl rfl ?_
  first | refine pI rfl rfl ?_ | refine pu rfl rfl ?_
  first | refine pI rfl rfl ?_ | refine pu rfl rfl ?_
  refine SL_nil ?_
  refine nx ?_
  refine SWP_seq ?_
  refine SWP_region ?_
  first | refine pI rfl rfl ?_ | refine pu rfl rfl ?_
  refine pt rfl rfl (rfl) ?_
  refine pB rfl rfl ?_
  refine SL_yes rfl ?_
  first | refine pI rfl rfl ?_ | refine pu rfl rfl ?_
  refine SL_yes rfl ?_
  refine pt rfl rfl (rfl) ?_
  refine pB rfl rfl ?_
  refine pB rfl rfl ?_
  refine SL_nil ?_
  refine nx ?_
  refine SWP_ret ?_
  refine fin [_] ⟨rfl, trivial⟩ ?_
  rfl

set_option maxRecDepth 100000 in
theorem lawMatchFinds {m : Mem} {g : Game} {l : Line} {r : Res} (hin : g.In m) (hl : l.In m) (hr : r.In m) (hs : r.serial.size ≤ 9223372036854775807) : CallsS Try.prog 5 [g.val, l.val, r.val].toArray [] m fun r _ _ => r = .bool true := by
  dsimp only [Game.val, Line.val, Res.val]
  obtain ⟨n, e, hRR, _⟩ := tierV_form g l r
  refine enter Try.func5 Try.ntmps5 rfl rfl ?_
  refine SWP_seq ?_
  refine SWP_region ?_
  refine bx (v := .agg _) rfl rfl (fun B3 => ?_)
  refine bx (v := .agg _) rfl rfl (fun B4 => ?_)
  refine bx (v := .agg _) rfl rfl (fun B5 => ?_)
  refine pB rfl rfl ?_
  refine SL_nil ?_
  refine nx ?_
  refine SWP_seq ?_
  refine SWP_region ?_
  refine lw (v := .agg _) B3 0 rfl rfl rfl rfl ?_
  refine lw (v := .agg _) B4 0 rfl rfl rfl rfl ?_
  refine lw (v := .agg _) B5 0 rfl rfl rfl rfl ?_
  refine SL_pcall rfl rfl cb14 (TierI hin hl hr hs) rfl ?_
  rw [hRR]
  refine pu rfl rfl ?_
  first | refine pI rfl rfl ?_ | refine pu rfl rfl ?_
  first | refine pI rfl rfl ?_ | refine pu rfl rfl ?_
  first | refine pI rfl rfl ?_ | refine pu rfl rfl ?_
  first | refine pI rfl rfl ?_ | refine pu rfl rfl ?_
  refine SL_nil ?_
  refine nx ?_
  refine SWP_seq ?_
  refine SWP_region ?_
  refine lw (v := .agg _) B3 0 rfl rfl rfl rfl ?_
  refine lw (v := .agg _) B4 0 rfl rfl rfl rfl ?_
  refine lw (v := .agg _) B5 0 rfl rfl rfl rfl ?_
  refine SL_pcall rfl rfl cb15 (TierR hin hl hr hs) rfl ?_
  rw [hRR]
  refine pu rfl rfl ?_
  first | refine pI rfl rfl ?_ | refine pu rfl rfl ?_
  first | refine pI rfl rfl ?_ | refine pu rfl rfl ?_
  first | refine pI rfl rfl ?_ | refine pu rfl rfl ?_
  first | refine pI rfl rfl ?_ | refine pu rfl rfl ?_
  refine SL_nil ?_
  refine nx ?_
  refine SWP_seq ?_
  refine SWP_region ?_
  first | refine pI rfl rfl ?_ | refine pu rfl rfl ?_
  first | refine pI rfl rfl ?_ | refine pu rfl rfl ?_
  refine pt rfl rfl (rfl) ?_
  refine pB rfl rfl ?_
  refine SL_yes rfl ?_
  first | refine pI rfl rfl ?_ | refine pu rfl rfl ?_
  refine SL_yes rfl ?_
  first | refine pI rfl rfl ?_ | refine pu rfl rfl ?_
  refine SL_yes rfl ?_
  refine pt rfl rfl (rfl) ?_
  refine pB rfl rfl ?_
  refine pB rfl rfl ?_
  refine SL_yes rfl ?_
  refine SL_pcall rfl rfl cb16 (livesL) rfl ?_
  refine pB rfl rfl ?_
  refine pB rfl rfl ?_
  refine SL_nil ?_
  refine nx ?_
  refine SWP_ret ?_
  refine fin [_] ⟨rfl, trivial⟩ ?_
  rfl

end Go.Proofs.Ytakjedhlcnnalaa

