/- Hits of a line: match.Hits, lotteryref32.Hits, lotterylaw32.MatchHits. -/
import Derived.Test.YtakjedhlcnnalaaGamL
namespace Go.Proofs.Ytakjedhlcnnalaa
open Eng

theorem gameErr_of {g : Game} (h : GameOk g) : gameErr g = 0 := by
  unfold gameErr
  rw [if_neg (by rw [h.name]; exact Bool.noConfusion), if_neg (by have := h.kind; omega), okE_t ⟨h.mx, h.tm⟩, if_neg (by rw [h.ad]; decide)]
  exact h.tr
structure LineOk (g : Game) (l : Line) : Prop where
  g0 : gameErr g = 0
  ml : (l.main.length : Int) = g.main
  bl : (l.bonus.length : Int) = g.bonus
  mi : allIn (if g.kind = 2 then 0 else 1) (if g.kind = 2 then g.of - 1 else g.of) l.main
  bi : allIn 1 g.bonusOf l.bonus
  mn : g.kind ≠ 2 → l.main.Nodup
  bn : l.bonus.Nodup
theorem lineOk {g : Game} {l : Line} (h : lineErr g l = 0) : LineOk g l := by
  unfold lineErr at h
  by_cases h1 : gameErr g ≠ 0
  · rw [if_pos h1] at h; exact absurd h h1
  rw [if_neg h1] at h
  by_cases h2 : (l.main.length : Int) ≠ g.main ∨ (l.bonus.length : Int) ≠ g.bonus
  · rw [if_pos h2] at h; exact absurd h (by decide)
  rw [if_neg h2] at h
  by_cases h3 : ¬ allIn (if g.kind = 2 then 0 else 1) (if g.kind = 2 then g.of - 1 else g.of) l.main ∨ ¬ allIn 1 g.bonusOf l.bonus
  · rw [if_pos h3] at h; exact absurd h (by decide)
  rw [if_neg h3] at h
  by_cases h4 : (g.kind ≠ 2 ∧ ¬ l.main.Nodup) ∨ ¬ l.bonus.Nodup
  · rw [if_pos h4] at h; exact absurd h (by decide)
  exact ⟨Classical.not_not.1 h1, by omega, by omega, Classical.byContradiction fun hc => h3 (.inl hc), Classical.byContradiction fun hc => h3 (.inr hc), fun hk => Classical.byContradiction fun hc => h4 (.inl ⟨hk, hc⟩), Classical.byContradiction fun hc => h4 (.inr hc)⟩
theorem lineErr_of {g : Game} {l : Line} (h : LineOk g l) : lineErr g l = 0 := by
  unfold lineErr
  have h1 := h.ml
  have h2 := h.bl
  exact (if_neg (by rw [h.g0]; decide)).trans ((if_neg (by omega)).trans ((if_neg (fun hc => hc.elim (fun hc => hc h.mi) (fun hc => hc h.bi))).trans (if_neg (fun hc => hc.elim (fun hc => hc.2 (h.mn hc.1)) (fun hc => hc h.bn)))))
structure NumsOk (g : Game) (r : Res) : Prop where
  ml : (r.main.length : Int) = g.main
  bl : (r.bonus.length : Int) = g.bonus
  xl : (r.extra.length : Int) = g.extra
  dm : g.kind = 2 → listErr 0 (g.of - 1) false r.main = 0
  cm : g.kind ≠ 2 → listErr 1 g.of true r.main = 0
  cb : g.kind ≠ 2 → listErr 1 g.bonusOf true r.bonus = 0
  cx : g.kind ≠ 2 → listErr 1 g.of true r.extra = 0
  ap : g.kind ≠ 2 → ∀ x ∈ r.extra, x ∉ r.main
theorem numsOk {g : Game} {r : Res} (h : numsErr g r = 0) : NumsOk g r := by
  unfold numsErr at h
  split at h
  · cases h
  · rename_i h0
    split at h
    · rename_i hk
      exact ⟨by omega, by omega, by omega, fun _ => h, fun hn => absurd hk hn, fun hn => absurd hk hn, fun hn => absurd hk hn, fun hn => absurd hk hn⟩
    · rename_i hk
      split at h
      · rename_i h1; exact absurd h h1
      · split at h
        · rename_i h1; exact absurd h h1
        · split at h
          · rename_i h1; exact absurd h h1
          · split at h
            · cases h
            · rename_i h1 h2 h3 h4
              exact ⟨by omega, by omega, by omega, fun hn => absurd hn hk, fun _ => Classical.not_not.1 h1, fun _ => Classical.not_not.1 h2, fun _ => Classical.not_not.1 h3, fun _ x hx hm => h4 ⟨x, hx, hm⟩⟩
theorem numsErr_of {g : Game} {r : Res} (h : NumsOk g r) : numsErr g r = 0 := by
  unfold numsErr
  have h1 := h.ml
  have h2 := h.bl
  have h3 := h.xl
  refine (if_neg (by omega)).trans ?_
  by_cases hk : g.kind = 2
  · rw [if_pos hk]; exact h.dm hk
  · exact (if_neg hk).trans ((if_neg (Classical.not_not.2 (h.cm hk))).trans ((if_neg (Classical.not_not.2 (h.cb hk))).trans ((if_neg (Classical.not_not.2 (h.cx hk))).trans (if_neg fun ⟨x, h1, h2⟩ => h.ap hk x h1 h2))))
structure ResOk (g : Game) (r : Res) : Prop where
  g0 : gameErr g = 0
  nu : NumsOk g r
  xt : xtraErr g r = 0
theorem resOk {g : Game} {r : Res} (h : resErr g r = 0) : ResOk g r := by
  unfold resErr at h
  split at h
  · rename_i h1; exact absurd h h1
  · rename_i h1
    split at h
    · rename_i h2; exact absurd h h2
    · rename_i h2
      exact ⟨Classical.not_not.1 h1, numsOk (Classical.not_not.1 h2), h⟩
theorem resErr_of {g : Game} {r : Res} (h : ResOk g r) : resErr g r = 0 := by
  unfold resErr
  rw [if_neg (by rw [h.g0]; decide), if_neg (by rw [numsErr_of h.nu]; decide)]
  exact h.xt
noncomputable def chkErr (g : Game) (l : Line) (r : Res) : Int := if lineErr g l ≠ 0 then lineErr g l else resErr g r
theorem chkErr_zero {g : Game} {l : Line} {r : Res} (h : chkErr g l r = 0) : LineOk g l ∧ ResOk g r := by
  unfold chkErr at h
  split at h
  · rename_i h1; exact absurd h h1
  · rename_i h1
    exact ⟨lineOk (Classical.not_not.1 h1), resOk h⟩
theorem chkErr_of {g : Game} {l : Line} {r : Res} (h : LineOk g l) (h' : ResOk g r) : chkErr g l r = 0 := by
  unfold chkErr
  rw [if_neg (by rw [lineErr_of h]; decide)]
  exact resErr_of h'
theorem lineErr_game {g : Game} {l : Line} (h : gameErr g ≠ 0) : lineErr g l = gameErr g := if_pos h
theorem chkErr_game {g : Game} {l : Line} {r : Res} (h : gameErr g ≠ 0) : chkErr g l r = gameErr g := by
  unfold chkErr
  rw [lineErr_game h, if_pos h]
def comN (a b : List Int) : Nat := a.countP fun x => decide (x ∈ b)
def posN (a b : List Int) : Nat := (List.range a.length).countP fun i => decide (a.getD i 0 = b.getD i 0)
theorem countP_snoc {α : Type} {p : α → Bool} {l : List α} {i : Nat} {x : α} (hx : l[i]? = some x) : (l.take (i + 1)).countP p = if p x = true then (l.take i).countP p + 1 else (l.take i).countP p := by
  rw [take_snocA hx, List.countP_append, List.countP_singleton]
  split <;> rfl
theorem comN_take {l b : List Int} {i : Nat} : (l.take i).countP (fun x => decide (x ∈ b)) ≤ i := Nat.le_trans List.countP_le_length (by rw [List.length_take]; omega)
def posTo (a b : List Int) (n : Nat) : Nat := (List.range n).countP fun i => decide (a.getD i 0 = b.getD i 0)
theorem posTo_succ (a b : List Int) (n : Nat) : posTo a b (n + 1) = if a.getD n 0 = b.getD n 0 then posTo a b n + 1 else posTo a b n := by
  unfold posTo
  rw [List.range_succ, List.countP_append, List.countP_singleton]
  by_cases h : a.getD n 0 = b.getD n 0
  · rw [if_pos h, decide_eq_true h]; rfl
  · rw [if_neg h, decide_eq_false h]; rfl
theorem posTo_le (a b : List Int) (n : Nat) : posTo a b n ≤ n := Nat.le_trans List.countP_le_length (by rw [List.length_range]; omega)
def hitV (g : Game) (l : Line) (r : Res) : Nat × Nat × Nat := if g.kind = 2 then (posN l.main r.main, 0, 0) else (comN l.main r.main, comN l.bonus r.bonus, comN l.main r.extra)
noncomputable def hitR (g : Game) (l : Line) (r : Res) : Value :=
  if chkErr g l r ≠ 0 then .tuple #[.int .i64 0, .int .i64 0, .int .i64 0, .int .i64 (chkErr g l r)]
  else .tuple #[.int .i64 ((hitV g l r).1 : Nat), .int .i64 ((hitV g l r).2.1 : Nat), .int .i64 ((hitV g l r).2.2 : Nat), .int .i64 0]

theorem commonI {m : Mem} {v w : Value} {l b : List Int} (h : RL m intE 1 v l) (h2 : RL m intE 1 w b) : PureCall Try.prog 36 [v, w] m (.int .i64 (comN l b : Nat)) := by
  refine CallsS.pure ?_
  have hsm := h.small
  obtain ⟨pa, pcap, rfl⟩ := h.len
  refine enter Try.func36 Try.ntmps36 rfl rfl ?_
  refine SWP_seq ?_
  refine SWP_region ?_
  refine pI rfl rfl ?_
  refine SL_nil ?_
  refine nx ?_
  refine SWP_seq ?_
  refine SWP_region ?_
  refine pI rfl rfl ?_
  refine SL_nil ?_
  refine nx ?_
  refine SWP_seq ?_
  refine SWP_seq ?_
  refine SWP_region ?_
  first | refine pL rfl rfl ?_ | refine pu rfl rfl ?_
  refine pu rfl rfl ?_
  refine pI rfl rfl ?_
  refine SL_nil ?_
  refine nx ?_
  refine SWP_block ?_
  refine SWP_loop [5, 7, 10, 11, 12, 13, 14, 15, 16, 17, 18, 19] [5, 10]
      (fun vs σ' m' => ∃ (i : Nat), vs = [.int .i64 ((l.take i).countP (fun x => decide (x ∈ b)) : Nat), .int .i64 (i : Nat)] ∧ i ≤ l.length ∧ σ' = [] ∧ m = m')
      (fun vs => l.length - nOf (vs.getD 1 undef)) rfl ?_ ?_
  · exact ⟨0, rfl, by omega, rfl, rfl⟩
  intro u0 vs0 σ0 m0 hJ0 _
  obtain ⟨i, rfl, hi, rfl, rfl⟩ := hJ0
  have hcn := comN_take (l := l) (b := b) (i := i)
  refine SWP_seq ?_
  refine SWP_region ?_
  refine pc rfl rfl (fun c11 => ?_) (fun c11 => ?_)
  · skip
    refine SL_nil ?_
    refine nx ?_
    refine SWP_seq ?_
    refine SWP_ct rfl ?_
    refine SWP_skip ?_
    refine nx ?_
    refine SWP_seq ?_
    refine SWP_block ?_
    refine SWP_seq ?_
    obtain ⟨x, hx⟩ : ∃ x, l[i]? = some x := ⟨_, List.getElem?_eq_getElem (by omega)⟩
    obtain ⟨ad, e0, _, hat⟩ := h.atI hx
    cases e0
    refine SWP_region ?_
    first | refine ia (es := 1) rfl rfl rfl (Nat.mul_one _) rfl rfl (by omega) rfl ?_ | refine iai (es := 1) rfl rfl rfl (Nat.mul_one _) rfl rfl (by omega) (by omega) rfl ?_
    refine ldA (v := .int .i64 _) rfl (by assumption) rfl rfl ?_
    refine pI rfl rfl ?_
    refine SL_nil ?_
    refine nx ?_
    refine SWP_seq ?_
    refine SWP_region ?_
    first | refine pL rfl rfl ?_ | refine pu rfl rfl ?_
    refine pI rfl rfl ?_
    refine SL_pcall rfl rfl cb60 (containsI h2 x) rfl ?_
    refine psp 16 rfl (fun c16 => ?_) (fun c16 => ?_)
    · skip
      refine SL_nil ?_
      refine nx ?_
      refine SWP_ct rfl ?_
      refine SWP_region ?_
      first | refine pI rfl rfl ?_ | refine pu rfl rfl ?_
      first | refine pw rfl rfl (w64 (by omega) (by omega)) ?_ | refine pu rfl rfl ?_
      refine pI rfl rfl ?_
      refine SL_nil ?_
      refine nb ?_
      refine nx ?_
      refine SWP_region ?_
      first | refine pw rfl rfl (w64 (by omega) (by omega)) ?_ | refine pu rfl rfl ?_
      refine pI rfl rfl ?_
      refine SL_nil ?_
      refine nx ?_
      refine ⟨by repeat (first | exact Under.upds rfl (Under.hav _ _ _) | exact Under.hav _ _ _ | refine Under.upd rfl ?_), ?_, ?_⟩
      · refine ⟨i + 1, ?_, by omega, rfl, rfl⟩
        rw [countP_snoc hx, if_pos (decide_eq_true c16)]; rfl
      · simp only [L_vals, List.map, List.getD]; show l.length - (i + 1) < l.length - i; omega
    refine SL_nil ?_
    refine nx ?_
    refine SWP_cf rfl ?_
    refine SWP_skip ?_
    refine nb ?_
    refine nx ?_
    refine SWP_region ?_
    first | refine pw rfl rfl (w64 (by omega) (by omega)) ?_ | refine pu rfl rfl ?_
    refine pI rfl rfl ?_
    refine SL_nil ?_
    refine nx ?_
    refine ⟨by repeat (first | exact Under.upds rfl (Under.hav _ _ _) | exact Under.hav _ _ _ | refine Under.upd rfl ?_), ?_, ?_⟩
    · refine ⟨i + 1, ?_, by omega, rfl, rfl⟩
      rw [countP_snoc hx, if_neg (by simp [c16])]; rfl
    · simp only [L_vals, List.map, List.getD]; show l.length - (i + 1) < l.length - i; omega
  refine SL_nil ?_
  refine nx ?_
  refine SWP_seq ?_
  refine SWP_cf rfl ?_
  refine SWP_exit ?_
  refine ne ?_
  refine ne ?_
  refine be rfl ?_
  refine nx ?_
  refine SWP_seq ?_
  refine SWP_region ?_
  first | refine pI rfl rfl ?_ | refine pu rfl rfl ?_
  first | refine pI rfl rfl ?_ | refine pu rfl rfl ?_
  refine SL_nil ?_
  refine nx ?_
  refine SWP_ret ?_
  refine fin [_] ⟨rfl, trivial⟩ ?_
  have e : i = l.length := by omega
  rw [e, List.take_length]; rfl

theorem commonR {m : Mem} {v w : Value} {l b : List Int} (h : RL m intE 1 v l) (h2 : RL m intE 1 w b) : PureCall Try.prog 27 [v, w] m (.int .i64 (comN l b : Nat)) := by
  refine CallsS.pure ?_
  have hsm := h.small
  have hsm2 := h2.small
  obtain ⟨pa, pcap, rfl⟩ := h.len
  obtain ⟨pb, pcb, rfl⟩ := h2.len
  refine enter Try.func27 Try.ntmps27 rfl rfl ?_
  refine SWP_seq ?_
  refine SWP_region ?_
  refine pI rfl rfl ?_
  refine SL_nil ?_
  refine nx ?_
  refine SWP_seq ?_
  refine SWP_region ?_
  refine pI rfl rfl ?_
  refine SL_nil ?_
  refine nx ?_
  refine SWP_seq ?_
  refine SWP_seq ?_
  refine SWP_region ?_
  refine pI rfl rfl ?_
  refine SL_nil ?_
  refine nx ?_
  refine SWP_block ?_
  refine SWP_loop [5, 6, 7, 8, 9, 10, 11, 12, 13, 14, 15, 16, 17, 18, 19, 20, 21, 22, 23, 24, 25, 26, 27, 28, 29, 30, 31, 32, 33, 34, 35] [5, 6]
      (fun vs σ' m' => ∃ (i : Nat), vs = [.int .i64 ((l.take i).countP (fun x => decide (x ∈ b)) : Nat), .int .i64 (i : Nat)] ∧ i ≤ l.length ∧ σ' = [] ∧ m = m')
      (fun vs => l.length - nOf (vs.getD 1 undef)) rfl ?_ ?_
  · exact ⟨0, rfl, by omega, rfl, rfl⟩
  intro u0 vs0 σ0 m0 hJ0 _
  obtain ⟨i, rfl, hi, rfl, rfl⟩ := hJ0
  have hcn := comN_take (l := l) (b := b) (i := i)
  refine SWP_seq ?_
  refine SWP_seq ?_
  refine SWP_region ?_
  first | refine pI rfl rfl ?_ | refine pu rfl rfl ?_
  first | refine pL rfl rfl ?_ | refine pu rfl rfl ?_
  refine pu rfl rfl ?_
  refine pc rfl rfl (fun c12 => ?_) (fun c12 => ?_)
  · skip
    refine SL_nil ?_
    refine nx ?_
    refine SWP_ct rfl ?_
    refine SWP_skip ?_
    refine nx ?_
    refine SWP_seq ?_
    refine SWP_block ?_
    refine SWP_seq ?_
    obtain ⟨x, hx⟩ : ∃ x, l[i]? = some x := ⟨_, List.getElem?_eq_getElem (by omega)⟩
    obtain ⟨ad, e0, _, hat⟩ := h.atI hx
    cases e0
    refine SWP_region ?_
    refine pB rfl rfl ?_
    refine SL_nil ?_
    refine nx ?_
    refine SWP_seq ?_
    refine SWP_seq ?_
    refine SWP_region ?_
    refine pI rfl rfl ?_
    refine SL_nil ?_
    refine nx ?_
    refine SWP_block ?_
    refine SWP_loop [7, 8, 15, 16, 17, 18, 19, 20, 21, 22, 23, 24, 25, 26, 27, 28, 29, 30, 31, 32] [7, 8]
        (fun vs σ' m' => ∃ (k : Nat), vs = [.bool (decide (x ∈ b.take k)), .int .i64 (k : Nat)] ∧ k ≤ b.length ∧ σ' = [] ∧ m = m')
        (fun vs => b.length - nOf (vs.getD 1 undef)) rfl ?_ ?_
    · exact ⟨0, rfl, by omega, rfl, rfl⟩
    intro u1 vs1 σ1 m1 hJ1 _
    obtain ⟨k, rfl, hk, rfl, rfl⟩ := hJ1
    refine SWP_seq ?_
    refine SWP_seq ?_
    refine SWP_region ?_
    first | refine pI rfl rfl ?_ | refine pu rfl rfl ?_
    first | refine pL rfl rfl ?_ | refine pu rfl rfl ?_
    refine pu rfl rfl ?_
    refine pc rfl rfl (fun c18 => ?_) (fun c18 => ?_)
    · skip
      refine SL_nil ?_
      refine nx ?_
      refine SWP_ct rfl ?_
      refine SWP_skip ?_
      refine nx ?_
      refine SWP_seq ?_
      refine SWP_block ?_
      obtain ⟨y, hy⟩ : ∃ y, b[k]? = some y := ⟨_, List.getElem?_eq_getElem (by omega)⟩
      obtain ⟨ad2, e2, _, hat2⟩ := h2.atI hy
      cases e2
      refine SWP_draws (by kernel_rfl) (by kernel_rfl) ?_
      refine pu (v := .bool (decide (x ∈ b.take k))) rfl rfl ?_
      refine psp 21 rfl (fun c21 => ?_) (fun c21 => ?_)
      · skip
        first | refine pB rfl rfl ?_ | refine pu rfl rfl ?_
        refine SL_no rfl rfl ?_
        refine SL_no rfl rfl ?_
        refine SL_no rfl rfl ?_
        refine SL_no rfl rfl ?_
        refine SL_no rfl rfl ?_
        refine SL_no rfl rfl ?_
        refine SL_no rfl rfl ?_
        refine SL_no rfl rfl ?_
        refine SL_no rfl rfl ?_
        refine pB rfl rfl ?_
        refine pB rfl rfl ?_
        refine SL_nil ?_
        refine nb ?_
        refine nx ?_
        refine SWP_region ?_
        first | refine pI rfl rfl ?_ | refine pu rfl rfl ?_
        first | refine pw rfl rfl (w64 (by omega) (by omega)) ?_ | refine pu rfl rfl ?_
        refine pI rfl rfl ?_
        refine SL_nil ?_
        refine nx ?_
        refine ⟨by repeat (first | exact Under.upds rfl (Under.hav _ _ _) | exact Under.hav _ _ _ | refine Under.upd rfl ?_ | refine Under.upds rfl ?_ | refine Under.hav2 rfl ?_), ?_, ?_⟩
        · refine ⟨k + 1, ?_, by omega, rfl, rfl⟩
          rw [decide_eq_true (show x ∈ b.take (k + 1) by rw [take_snocA hy]; exact List.mem_append_left _ c21)]; rfl
        · simp only [L_vals, List.map, List.getD]; show b.length - (k + 1) < b.length - k; omega
      first | refine pB rfl rfl ?_ | refine pu rfl rfl ?_
      refine SL_yes rfl ?_
      first | refine pL rfl rfl ?_ | refine pu rfl rfl ?_
      refine SL_yes rfl ?_
      first | refine pu (v := .int .i64 _) rfl rfl ?_ | refine pu rfl rfl ?_
      refine SL_yes rfl ?_
      first | refine ia (es := 1) rfl rfl rfl (Nat.mul_one _) rfl rfl (by omega) rfl ?_ | refine iai (es := 1) rfl rfl rfl (Nat.mul_one _) rfl rfl (by omega) (by omega) rfl ?_
      refine SL_yes rfl ?_
      refine ldA (v := .int .i64 _) rfl (by assumption) rfl rfl ?_
      refine SL_yes rfl ?_
      first | refine pL rfl rfl ?_ | refine pu rfl rfl ?_
      refine SL_yes rfl ?_
      first | refine pI rfl rfl ?_ | refine pu rfl rfl ?_
      refine SL_yes rfl ?_
      first | refine ia (es := 1) rfl rfl rfl (Nat.mul_one _) rfl rfl (by omega) rfl ?_ | refine iai (es := 1) rfl rfl rfl (Nat.mul_one _) rfl rfl (by omega) (by omega) rfl ?_
      refine SL_yes rfl ?_
      refine ldA (v := .int .i64 _) rfl (by assumption) rfl rfl ?_
      refine SL_yes rfl ?_
      refine pc rfl rfl (fun c31 => ?_) (fun c31 => ?_)
      · skip
        refine pB rfl rfl ?_
        refine pB rfl rfl ?_
        refine SL_nil ?_
        refine nb ?_
        refine nx ?_
        refine SWP_region ?_
        first | refine pI rfl rfl ?_ | refine pu rfl rfl ?_
        first | refine pw rfl rfl (w64 (by omega) (by omega)) ?_ | refine pu rfl rfl ?_
        refine pI rfl rfl ?_
        refine SL_nil ?_
        refine nx ?_
        refine ⟨by repeat (first | exact Under.upds rfl (Under.hav _ _ _) | exact Under.hav _ _ _ | refine Under.upd rfl ?_ | refine Under.upds rfl ?_ | refine Under.hav2 rfl ?_), ?_, ?_⟩
        · refine ⟨k + 1, ?_, by omega, rfl, rfl⟩
          rw [decide_eq_true (show x ∈ b.take (k + 1) by rw [take_snocA hy]; exact List.mem_append_right _ (by rw [c31]; exact List.mem_singleton.2 rfl))]; rfl
        · simp only [L_vals, List.map, List.getD]; show b.length - (k + 1) < b.length - k; omega
      refine pB rfl rfl ?_
      refine pB rfl rfl ?_
      refine SL_nil ?_
      refine nb ?_
      refine nx ?_
      refine SWP_region ?_
      first | refine pI rfl rfl ?_ | refine pu rfl rfl ?_
      first | refine pw rfl rfl (w64 (by omega) (by omega)) ?_ | refine pu rfl rfl ?_
      refine pI rfl rfl ?_
      refine SL_nil ?_
      refine nx ?_
      refine ⟨by repeat (first | exact Under.upds rfl (Under.hav _ _ _) | exact Under.hav _ _ _ | refine Under.upd rfl ?_ | refine Under.upds rfl ?_ | refine Under.hav2 rfl ?_), ?_, ?_⟩
      · refine ⟨k + 1, ?_, by omega, rfl, rfl⟩
        rw [decide_eq_false (show x ∉ b.take (k + 1) by rw [take_snocA hy]; exact fun h => (List.mem_append.1 h).elim c21 (fun h => c31 (List.mem_singleton.1 h).symm))]; rfl
      · simp only [L_vals, List.map, List.getD]; show b.length - (k + 1) < b.length - k; omega
    refine SL_nil ?_
    refine nx ?_
    refine SWP_cf rfl ?_
    refine SWP_exit ?_
    refine ne ?_
    refine ne ?_
    refine be rfl ?_
    refine nx ?_
    refine SWP_seq ?_
    refine SWP_region ?_
    have ek : k = b.length := by omega
    rw [ek, List.take_length]
    refine pu (v := .bool (decide (x ∈ b))) rfl rfl ?_
    refine psp 33 rfl (fun c33 => ?_) (fun c33 => ?_)
    · skip
      refine SL_nil ?_
      refine nx ?_
      refine SWP_ct rfl ?_
      refine SWP_region ?_
      first | refine pI rfl rfl ?_ | refine pu rfl rfl ?_
      first | refine pw rfl rfl (w64 (by omega) (by omega)) ?_ | refine pu rfl rfl ?_
      refine pI rfl rfl ?_
      refine SL_nil ?_
      refine nb ?_
      refine nx ?_
      refine SWP_region ?_
      first | refine pI rfl rfl ?_ | refine pu rfl rfl ?_
      first | refine pw rfl rfl (w64 (by omega) (by omega)) ?_ | refine pu rfl rfl ?_
      refine pI rfl rfl ?_
      refine SL_nil ?_
      refine nx ?_
      refine ⟨by repeat (first | exact Under.upds rfl (Under.hav _ _ _) | exact Under.hav _ _ _ | refine Under.upd rfl ?_ | refine Under.upds rfl ?_ | refine Under.hav2 rfl ?_), ?_, ?_⟩
      · refine ⟨i + 1, ?_, by omega, rfl, rfl⟩
        rw [countP_snoc hx, if_pos (decide_eq_true c33)]; rfl
      · simp only [L_vals, List.map, List.getD]; show l.length - (i + 1) < l.length - i; omega
    refine SL_nil ?_
    refine nx ?_
    refine SWP_cf rfl ?_
    refine SWP_skip ?_
    refine nb ?_
    refine nx ?_
    refine SWP_region ?_
    first | refine pI rfl rfl ?_ | refine pu rfl rfl ?_
    first | refine pw rfl rfl (w64 (by omega) (by omega)) ?_ | refine pu rfl rfl ?_
    refine pI rfl rfl ?_
    refine SL_nil ?_
    refine nx ?_
    refine ⟨by repeat (first | exact Under.upds rfl (Under.hav _ _ _) | exact Under.hav _ _ _ | refine Under.upd rfl ?_ | refine Under.upds rfl ?_ | refine Under.hav2 rfl ?_), ?_, ?_⟩
    · refine ⟨i + 1, ?_, by omega, rfl, rfl⟩
      rw [countP_snoc hx, if_neg (by simp [c33])]; rfl
    · simp only [L_vals, List.map, List.getD]; show l.length - (i + 1) < l.length - i; omega
  refine SL_nil ?_
  refine nx ?_
  refine SWP_cf rfl ?_
  refine SWP_exit ?_
  refine ne ?_
  refine ne ?_
  refine be rfl ?_
  refine nx ?_
  refine SWP_seq ?_
  refine SWP_region ?_
  first | refine pI rfl rfl ?_ | refine pu rfl rfl ?_
  first | refine pI rfl rfl ?_ | refine pu rfl rfl ?_
  refine SL_nil ?_
  refine nx ?_
  refine SWP_ret ?_
  refine fin [_] ⟨rfl, trivial⟩ ?_
  have e : i = l.length := by omega
  rw [e, List.take_length]; rfl

set_option maxRecDepth 100000 in
theorem chkI {m : Mem} {g : Game} {l : Line} {r : Res} (hin : g.In m) (hl : l.In m) (hr : r.In m) (hs : r.serial.size ≤ 9223372036854775807) : PureCall Try.prog 24 [g.val, l.val, r.val] m (.int .i64 (chkErr g l r)) := by
  refine CallsS.pure ?_
  dsimp only [Game.val, Line.val, Res.val]
  refine enter Try.func24 Try.ntmps24 rfl rfl ?_
  refine SWP_seq ?_
  refine SWP_region ?_
  refine bx (v := .agg _) rfl rfl (fun B3 => ?_)
  refine bx (v := .agg _) rfl rfl (fun B4 => ?_)
  refine bx (v := .agg _) rfl rfl (fun B5 => ?_)
  refine pI rfl rfl ?_
  refine SL_nil ?_
  refine nx ?_
  refine SWP_seq ?_
  refine SWP_seq ?_
  refine SWP_region ?_
  refine lw (v := .agg _) B3 0 rfl rfl rfl rfl ?_
  refine SL_call rfl rfl cb33 (CallsS.frame0 (checkI hin)) rfl (fun v1_1 σ1_1 m1_1 hl1_1 hR1_1 => ?_)
  obtain ⟨σc, rfl, rfl, hm1_1, s, rfl⟩ := hR1_1
  have hn1_1 := hm1_1.symm
  subst hn1_1
  refine pu rfl rfl ?_
  first | refine pI rfl rfl ?_ | refine pu rfl rfl ?_
  first | refine pS rfl rfl ?_ | refine pu rfl rfl ?_
  first | refine pI rfl rfl ?_ | refine pu rfl rfl ?_
  first | refine pS rfl rfl ?_ | refine pu rfl rfl ?_
  refine SL_nil ?_
  refine nx ?_
  refine SWP_seq ?_
  refine SWP_region ?_
  first | refine pI rfl rfl ?_ | refine pu rfl rfl ?_
  refine pc rfl rfl (fun c16 => ?_) (fun c16 => ?_)
  · skip
    refine SL_nil ?_
    refine nx ?_
    refine SWP_ct rfl ?_
    refine SWP_seq ?_
    refine SWP_region ?_
    first | refine pI rfl rfl ?_ | refine pu rfl rfl ?_
    first | refine pI rfl rfl ?_ | refine pu rfl rfl ?_
    refine SL_nil ?_
    refine nx ?_
    refine SWP_ret ?_
    refine nr ?_
    refine fin [_] ⟨rfl, trivial⟩ ?_
    refine congrArg (Value.int .i64) ?_
    exact (chkErr_game (by omega)).symm
  refine SL_nil ?_
  refine nx ?_
  refine SWP_cf rfl ?_
  refine SWP_skip ?_
  refine nx ?_
  refine SWP_seq ?_
  refine SWP_seq ?_
  refine SWP_region ?_
  refine lw (v := .agg _) B3 0 rfl rfl rfl rfl ?_
  refine lw (v := .agg _) B4 0 rfl rfl rfl rfl ?_
  refine SL_pcall rfl rfl cb34 (lineI hin hl) rfl ?_
  first | refine pI rfl rfl ?_ | refine pu rfl rfl ?_
  refine SL_nil ?_
  refine nx ?_
  refine SWP_seq ?_
  refine SWP_region ?_
  first | refine pI rfl rfl ?_ | refine pu rfl rfl ?_
  refine pc rfl rfl (fun c22 => ?_) (fun c22 => ?_)
  · skip
    refine SL_nil ?_
    refine nx ?_
    refine SWP_ct rfl ?_
    refine SWP_seq ?_
    refine SWP_region ?_
    first | refine pI rfl rfl ?_ | refine pu rfl rfl ?_
    first | refine pI rfl rfl ?_ | refine pu rfl rfl ?_
    refine SL_nil ?_
    refine nx ?_
    refine SWP_ret ?_
    refine nr ?_
    refine fin [_] ⟨rfl, trivial⟩ ?_
    refine congrArg (Value.int .i64) ?_
    unfold chkErr
    rw [if_pos (by omega)]
  refine SL_nil ?_
  refine nx ?_
  refine SWP_cf rfl ?_
  refine SWP_skip ?_
  refine nx ?_
  refine SWP_seq ?_
  refine SWP_region ?_
  refine lw (v := .agg _) B3 0 rfl rfl rfl rfl ?_
  refine lw (v := .agg _) B5 0 rfl rfl rfl rfl ?_
  refine SL_pcall rfl rfl cb35 (resI hin hr hs) rfl ?_
  first | refine pI rfl rfl ?_ | refine pu rfl rfl ?_
  refine SL_nil ?_
  refine nx ?_
  refine SWP_ret ?_
  refine fin [_] ⟨rfl, trivial⟩ ?_
  refine congrArg (Value.int .i64) ?_
  unfold chkErr
  rw [if_neg (by omega)]

set_option maxRecDepth 100000 in
theorem chkR {m : Mem} {g : Game} {l : Line} {r : Res} (hin : g.In m) (hl : l.In m) (hr : r.In m) (hs : r.serial.size ≤ 9223372036854775807) : PureCall Try.prog 26 [g.val, l.val, r.val] m (.int .i64 (chkErr g l r)) := by
  refine CallsS.pure ?_
  dsimp only [Game.val, Line.val, Res.val]
  refine enter Try.func26 Try.ntmps26 rfl rfl ?_
  refine SWP_seq ?_
  refine SWP_region ?_
  refine bx (v := .agg _) rfl rfl (fun B3 => ?_)
  refine bx (v := .agg _) rfl rfl (fun B4 => ?_)
  refine bx (v := .agg _) rfl rfl (fun B5 => ?_)
  refine pI rfl rfl ?_
  refine SL_nil ?_
  refine nx ?_
  refine SWP_seq ?_
  refine SWP_region ?_
  refine lw (v := .agg _) B3 0 rfl rfl rfl rfl ?_
  refine SL_call rfl rfl cb37 (CallsS.frame0 (checkR hin)) rfl (fun v1_1 σ1_1 m1_1 hl1_1 hR1_1 => ?_)
  obtain ⟨σc, rfl, rfl, hm1_1, s, rfl⟩ := hR1_1
  have hn1_1 := hm1_1.symm
  subst hn1_1
  refine pu rfl rfl ?_
  first | refine pI rfl rfl ?_ | refine pu rfl rfl ?_
  first | refine pS rfl rfl ?_ | refine pu rfl rfl ?_
  first | refine pI rfl rfl ?_ | refine pu rfl rfl ?_
  first | refine pS rfl rfl ?_ | refine pu rfl rfl ?_
  refine SL_nil ?_
  refine nx ?_
  refine SWP_seq ?_
  refine SWP_seq ?_
  refine SWP_region ?_
  first | refine pI rfl rfl ?_ | refine pu rfl rfl ?_
  refine pc rfl rfl (fun c15 => ?_) (fun c15 => ?_)
  · skip
    refine SL_nil ?_
    refine nx ?_
    refine SWP_ct rfl ?_
    refine SWP_seq ?_
    refine SWP_region ?_
    first | refine pI rfl rfl ?_ | refine pu rfl rfl ?_
    first | refine pI rfl rfl ?_ | refine pu rfl rfl ?_
    refine SL_nil ?_
    refine nx ?_
    refine SWP_ret ?_
    refine nr ?_
    refine fin [_] ⟨rfl, trivial⟩ ?_
    refine congrArg (Value.int .i64) ?_
    exact (chkErr_game (by omega)).symm
  refine SL_nil ?_
  refine nx ?_
  refine SWP_cf rfl ?_
  refine SWP_skip ?_
  refine nx ?_
  refine SWP_seq ?_
  refine SWP_region ?_
  refine lw (v := .agg _) B3 0 rfl rfl rfl rfl ?_
  refine lw (v := .agg _) B4 0 rfl rfl rfl rfl ?_
  refine SL_pcall rfl rfl cb38 (lineR hin hl) rfl ?_
  first | refine pI rfl rfl ?_ | refine pu rfl rfl ?_
  refine SL_nil ?_
  refine nx ?_
  refine SWP_seq ?_
  refine SWP_seq ?_
  refine SWP_region ?_
  first | refine pI rfl rfl ?_ | refine pu rfl rfl ?_
  refine pc rfl rfl (fun c21 => ?_) (fun c21 => ?_)
  · skip
    refine SL_nil ?_
    refine nx ?_
    refine SWP_ct rfl ?_
    refine SWP_seq ?_
    refine SWP_region ?_
    first | refine pI rfl rfl ?_ | refine pu rfl rfl ?_
    first | refine pI rfl rfl ?_ | refine pu rfl rfl ?_
    refine SL_nil ?_
    refine nx ?_
    refine SWP_ret ?_
    refine nr ?_
    refine fin [_] ⟨rfl, trivial⟩ ?_
    refine congrArg (Value.int .i64) ?_
    unfold chkErr
    rw [if_pos (by omega)]
  refine SL_nil ?_
  refine nx ?_
  refine SWP_cf rfl ?_
  refine SWP_skip ?_
  refine nx ?_
  refine SWP_seq ?_
  refine SWP_region ?_
  refine lw (v := .agg _) B3 0 rfl rfl rfl rfl ?_
  refine lw (v := .agg _) B5 0 rfl rfl rfl rfl ?_
  refine SL_pcall rfl rfl cb39 (resR hin hr hs) rfl ?_
  first | refine pI rfl rfl ?_ | refine pu rfl rfl ?_
  refine SL_nil ?_
  refine nx ?_
  refine SWP_ret ?_
  refine fin [_] ⟨rfl, trivial⟩ ?_
  refine congrArg (Value.int .i64) ?_
  unfold chkErr
  rw [if_neg (by omega)]

set_option maxRecDepth 100000 in
theorem hitsI {m : Mem} {g : Game} {l : Line} {r : Res} (hin : g.In m) (hl : l.In m) (hr : r.In m) (hs : r.serial.size ≤ 9223372036854775807) (lo : LineOk g l) (ro : ResOk g r) : PureCall Try.prog 25 [g.val, l.val, r.val] m (.tuple #[.int .i64 ((hitV g l r).1 : Nat), .int .i64 ((hitV g l r).2.1 : Nat), .int .i64 ((hitV g l r).2.2 : Nat)]) := by
  refine CallsS.pure ?_
  have hml := lo.ml
  have hrl := ro.nu.ml
  have hsm := hl.mn.small
  dsimp only [Game.val, Line.val, Res.val]
  refine enter Try.func25 Try.ntmps25 rfl rfl ?_
  refine SWP_seq ?_
  refine SWP_region ?_
  refine bx (v := .agg _) rfl rfl (fun B3 => ?_)
  refine bx (v := .agg _) rfl rfl (fun B4 => ?_)
  refine bx (v := .agg _) rfl rfl (fun B5 => ?_)
  refine pI rfl rfl ?_
  refine pI rfl rfl ?_
  refine pI rfl rfl ?_
  refine SL_nil ?_
  refine nx ?_
  refine SWP_seq ?_
  refine SWP_seq ?_
  refine SWP_region ?_
  refine pu rfl rfl ?_
  refine lw (v := .int .i64 _) B3 1 rfl rfl rfl rfl ?_
  refine pc rfl rfl (fun c14 => ?_) (fun c14 => ?_)
  · skip
    refine SL_nil ?_
    refine nx ?_
    refine SWP_ct rfl ?_
    refine SWP_seq ?_
    refine SWP_region ?_
    refine pI rfl rfl ?_
    refine SL_nil ?_
    refine nx ?_
    refine SWP_seq ?_
    refine SWP_seq ?_
    refine SWP_region ?_
    refine pu rfl rfl ?_
    refine lw (v := .slice _ _ _) B4 0 rfl rfl rfl rfl ?_
    refine pu rfl rfl ?_
    refine pI rfl rfl ?_
    refine SL_nil ?_
    refine nx ?_
    refine SWP_block ?_
    refine SWP_loop [9, 10, 11, 18, 19, 20, 21, 22, 23, 24, 25, 26, 27, 28, 29, 30, 31, 32] [9, 18]
        (fun vs σ' m' => ∃ (i : Nat), vs = [.int .i64 (posTo l.main r.main i : Nat), .int .i64 (i : Nat)] ∧ i ≤ l.main.length ∧ σ' = [(B5, Cells 31 r.enc), (B4, Cells 29 l.enc), (B3, Cells 27 g.enc)] ∧ m = m')
        (fun vs => l.main.length - nOf (vs.getD 1 undef)) rfl ?_ ?_
    · exact ⟨0, rfl, by omega, rfl, rfl⟩
    intro u0 vs0 σ0 m0 hJ0 _
    obtain ⟨i, rfl, hi, rfl, rfl⟩ := hJ0
    have hcn := posTo_le l.main r.main i
    dsimp only [Res.enc, Line.enc, Game.enc]
    refine SWP_seq ?_
    refine SWP_region ?_
    refine pc rfl rfl (fun c19 => ?_) (fun c19 => ?_)
    · skip
      refine SL_nil ?_
      refine nx ?_
      refine SWP_seq ?_
      refine SWP_ct rfl ?_
      refine SWP_skip ?_
      refine nx ?_
      refine SWP_seq ?_
      refine SWP_block ?_
      refine SWP_seq ?_
      obtain ⟨x, hx⟩ : ∃ x, l.main[i]? = some x := ⟨_, List.getElem?_eq_getElem (by omega)⟩
      obtain ⟨ad, e0, _, hat⟩ := hl.mn.atI hx
      obtain ⟨y, hy⟩ : ∃ y, r.main[i]? = some y := ⟨_, List.getElem?_eq_getElem (by omega)⟩
      obtain ⟨ad2, e2, _, hat2⟩ := hr.mn.atI hy
      rw [e0]
      refine SWP_region ?_
      first | refine pI rfl rfl ?_ | refine pu rfl rfl ?_
      first | refine ia (es := 1) rfl rfl rfl (Nat.mul_one _) rfl rfl (by omega) rfl ?_ | refine iai (es := 1) rfl rfl rfl (Nat.mul_one _) rfl rfl (by omega) (by omega) rfl ?_
      refine ldA (v := .int .i64 _) rfl (by assumption) rfl rfl ?_
      first | refine pI rfl rfl ?_ | refine pu rfl rfl ?_
      refine pI rfl rfl ?_
      refine SL_nil ?_
      refine nx ?_
      refine SWP_seq ?_
      rw [e2]
      refine SWP_region ?_
      refine pu rfl rfl ?_
      refine lw (v := .slice _ _ _) B5 0 rfl rfl rfl rfl ?_
      first | refine pI rfl rfl ?_ | refine pu rfl rfl ?_
      first | refine ia (es := 1) rfl rfl rfl (Nat.mul_one _) rfl rfl (by omega) rfl ?_ | refine iai (es := 1) rfl rfl rfl (Nat.mul_one _) rfl rfl (by omega) (by omega) rfl ?_
      refine ldA (v := .int .i64 _) rfl (by assumption) rfl rfl ?_
      refine pI rfl rfl ?_
      refine pc rfl rfl (fun c29 => ?_) (fun c29 => ?_)
      · skip
        refine SL_nil ?_
        refine nx ?_
        refine SWP_ct rfl ?_
        rw [← e2]
        rw [e2]
        refine SWP_region ?_
        first | refine pI rfl rfl ?_ | refine pu rfl rfl ?_
        first | refine pw rfl rfl (w64 (by omega) (by omega)) ?_ | refine pu rfl rfl ?_
        refine pI rfl rfl ?_
        refine SL_nil ?_
        refine nb ?_
        refine nx ?_
        rw [← e0, ← e2]
        refine SWP_region ?_
        first | refine pw rfl rfl (w64 (by omega) (by omega)) ?_ | refine pu rfl rfl ?_
        refine pI rfl rfl ?_
        refine SL_nil ?_
        refine nx ?_
        refine ⟨by repeat (first | exact Under.upds rfl (Under.hav _ _ _) | exact Under.hav _ _ _ | refine Under.upd rfl ?_), ?_, ?_⟩
        · refine ⟨i + 1, ?_, by omega, rfl, rfl⟩
          rw [posTo_succ, if_pos (by rw [getD_at hx, getD_at hy]; exact c29.symm)]; rfl
        · simp only [L_vals, List.map, List.getD]; show l.main.length - (i + 1) < l.main.length - i; omega
      refine SL_nil ?_
      refine nx ?_
      refine SWP_cf rfl ?_
      refine SWP_skip ?_
      refine nb ?_
      refine nx ?_
      rw [← e0, ← e2]
      refine SWP_region ?_
      first | refine pw rfl rfl (w64 (by omega) (by omega)) ?_ | refine pu rfl rfl ?_
      refine pI rfl rfl ?_
      refine SL_nil ?_
      refine nx ?_
      refine ⟨by repeat (first | exact Under.upds rfl (Under.hav _ _ _) | exact Under.hav _ _ _ | refine Under.upd rfl ?_), ?_, ?_⟩
      · refine ⟨i + 1, ?_, by omega, rfl, rfl⟩
        rw [posTo_succ, if_neg (by rw [getD_at hx, getD_at hy]; exact fun h => c29 h.symm)]; rfl
      · simp only [L_vals, List.map, List.getD]; show l.main.length - (i + 1) < l.main.length - i; omega
    refine SL_nil ?_
    refine nx ?_
    refine SWP_seq ?_
    refine SWP_cf rfl ?_
    refine SWP_exit ?_
    refine ne ?_
    refine ne ?_
    refine be rfl ?_
    refine nx ?_
    refine SWP_seq ?_
    refine SWP_region ?_
    first | refine pI rfl rfl ?_ | refine pu rfl rfl ?_
    first | refine pI rfl rfl ?_ | refine pu rfl rfl ?_
    refine pI rfl rfl ?_
    refine pI rfl rfl ?_
    refine SL_nil ?_
    refine nx ?_
    refine SWP_ret ?_
    refine nr ?_
    refine fin [_, _, _] ⟨rfl, rfl, rfl, trivial⟩ ?_
    have e : i = l.main.length := by omega
    have hv : hitV g l r = (posN l.main r.main, 0, 0) := if_pos c14
    rw [hv, e]; rfl
  refine SL_nil ?_
  refine nx ?_
  refine SWP_cf rfl ?_
  refine SWP_skip ?_
  refine nx ?_
  refine SWP_seq ?_
  refine SWP_draws (by kernel_rfl) (by kernel_rfl) ?_
  refine pu rfl rfl ?_
  refine lw (v := .slice _ _ _) B4 0 rfl rfl rfl rfl ?_
  refine pu rfl rfl ?_
  refine lw (v := .slice _ _ _) B5 0 rfl rfl rfl rfl ?_
  refine SL_pcall rfl rfl cb36 (commonI hl.mn hr.mn) rfl ?_
  refine pu rfl rfl ?_
  refine lw (v := .slice _ _ _) B4 1 rfl rfl rfl rfl ?_
  refine pu rfl rfl ?_
  refine lw (v := .slice _ _ _) B5 1 rfl rfl rfl rfl ?_
  refine SL_pcall rfl rfl cb36 (commonI hl.bn hr.bn) rfl ?_
  refine pu rfl rfl ?_
  refine lw (v := .slice _ _ _) B4 0 rfl rfl rfl rfl ?_
  refine pu rfl rfl ?_
  refine lw (v := .slice _ _ _) B5 2 rfl rfl rfl rfl ?_
  refine SL_pcall rfl rfl cb36 (commonI hl.mn hr.xn) rfl ?_
  first | refine pI rfl rfl ?_ | refine pu rfl rfl ?_
  first | refine pI rfl rfl ?_ | refine pu rfl rfl ?_
  first | refine pI rfl rfl ?_ | refine pu rfl rfl ?_
  refine SL_nil ?_
  refine nx ?_
  refine SWP_ret ?_
  refine fin [_, _, _] ⟨rfl, rfl, rfl, trivial⟩ ?_
  have hv : hitV g l r = (comN l.main r.main, comN l.bonus r.bonus, comN l.main r.extra) := if_neg c14
  rw [hv]; rfl

set_option maxRecDepth 100000 in
theorem HitsI {m : Mem} {g : Game} {l : Line} {r : Res} (hin : g.In m) (hl : l.In m) (hr : r.In m) (hs : r.serial.size ≤ 9223372036854775807) : PureCall Try.prog 11 [g.val, l.val, r.val] m (hitR g l r) := by
  refine CallsS.pure ?_
  dsimp only [Game.val, Line.val, Res.val]
  refine enter Try.func11 Try.ntmps11 rfl rfl ?_
  refine SWP_seq ?_
  refine SWP_region ?_
  refine bx (v := .agg _) rfl rfl (fun B3 => ?_)
  refine bx (v := .agg _) rfl rfl (fun B4 => ?_)
  refine bx (v := .agg _) rfl rfl (fun B5 => ?_)
  refine pI rfl rfl ?_
  refine pI rfl rfl ?_
  refine pI rfl rfl ?_
  refine pI rfl rfl ?_
  refine SL_nil ?_
  refine nx ?_
  refine SWP_seq ?_
  refine SWP_seq ?_
  refine SWP_region ?_
  refine lw (v := .agg _) B3 0 rfl rfl rfl rfl ?_
  refine lw (v := .agg _) B4 0 rfl rfl rfl rfl ?_
  refine lw (v := .agg _) B5 0 rfl rfl rfl rfl ?_
  refine SL_pcall rfl rfl cb24 (chkI hin hl hr hs) rfl ?_
  first | refine pI rfl rfl ?_ | refine pu rfl rfl ?_
  refine SL_nil ?_
  refine nx ?_
  refine SWP_seq ?_
  refine SWP_region ?_
  first | refine pI rfl rfl ?_ | refine pu rfl rfl ?_
  refine pc rfl rfl (fun c19 => ?_) (fun c19 => ?_)
  · skip
    refine SL_nil ?_
    refine nx ?_
    refine SWP_ct rfl ?_
    refine SWP_seq ?_
    refine SWP_region ?_
    first | refine pI rfl rfl ?_ | refine pu rfl rfl ?_
    refine pI rfl rfl ?_
    refine pI rfl rfl ?_
    refine pI rfl rfl ?_
    first | refine pI rfl rfl ?_ | refine pu rfl rfl ?_
    refine SL_nil ?_
    refine nx ?_
    refine SWP_ret ?_
    refine nr ?_
    refine fin [_, _, _, _] ⟨rfl, rfl, rfl, rfl, trivial⟩ ?_
    unfold hitR
    rw [if_pos c19]; rfl
  refine SL_nil ?_
  refine nx ?_
  refine SWP_cf rfl ?_
  refine SWP_skip ?_
  refine nx ?_
  refine SWP_seq ?_
  refine SWP_region ?_
  refine lw (v := .agg _) B3 0 rfl rfl rfl rfl ?_
  refine lw (v := .agg _) B4 0 rfl rfl rfl rfl ?_
  refine lw (v := .agg _) B5 0 rfl rfl rfl rfl ?_
  refine SL_pcall rfl rfl cb25 (hitsI hin hl hr hs (chkErr_zero (Classical.not_not.1 c19)).1 (chkErr_zero (Classical.not_not.1 c19)).2) rfl ?_
  refine pu rfl rfl ?_
  first | refine pI rfl rfl ?_ | refine pu rfl rfl ?_
  first | refine pI rfl rfl ?_ | refine pu rfl rfl ?_
  first | refine pI rfl rfl ?_ | refine pu rfl rfl ?_
  first | refine pI rfl rfl ?_ | refine pu rfl rfl ?_
  first | refine pI rfl rfl ?_ | refine pu rfl rfl ?_
  first | refine pI rfl rfl ?_ | refine pu rfl rfl ?_
  refine SL_nil ?_
  refine nx ?_
  refine SWP_seq ?_
  refine SWP_region ?_
  first | refine pI rfl rfl ?_ | refine pu rfl rfl ?_
  first | refine pI rfl rfl ?_ | refine pu rfl rfl ?_
  first | refine pI rfl rfl ?_ | refine pu rfl rfl ?_
  first | refine pI rfl rfl ?_ | refine pu rfl rfl ?_
  first | refine pI rfl rfl ?_ | refine pu rfl rfl ?_
  first | refine pI rfl rfl ?_ | refine pu rfl rfl ?_
  refine pI rfl rfl ?_
  refine SL_nil ?_
  refine nx ?_
  refine SWP_ret ?_
  refine fin [_, _, _, _] ⟨rfl, rfl, rfl, rfl, trivial⟩ ?_
  unfold hitR
  rw [if_neg c19]; rfl

set_option maxRecDepth 100000 in
theorem HitsR {m : Mem} {g : Game} {l : Line} {r : Res} (hin : g.In m) (hl : l.In m) (hr : r.In m) (hs : r.serial.size ≤ 9223372036854775807) : PureCall Try.prog 12 [g.val, l.val, r.val] m (hitR g l r) := by
  refine CallsS.pure ?_
  dsimp only [Game.val, Line.val, Res.val]
  have hsm := hl.mn.small
  refine enter Try.func12 Try.ntmps12 rfl rfl ?_
  refine SWP_seq ?_
  refine SWP_region ?_
  refine bx (v := .agg _) rfl rfl (fun B3 => ?_)
  refine bx (v := .agg _) rfl rfl (fun B4 => ?_)
  refine bx (v := .agg _) rfl rfl (fun B5 => ?_)
  refine pI rfl rfl ?_
  refine pI rfl rfl ?_
  refine pI rfl rfl ?_
  refine pI rfl rfl ?_
  refine SL_nil ?_
  refine nx ?_
  refine SWP_seq ?_
  refine SWP_region ?_
  refine lw (v := .agg _) B3 0 rfl rfl rfl rfl ?_
  refine lw (v := .agg _) B4 0 rfl rfl rfl rfl ?_
  refine lw (v := .agg _) B5 0 rfl rfl rfl rfl ?_
  refine SL_pcall rfl rfl cb26 (chkR hin hl hr hs) rfl ?_
  first | refine pI rfl rfl ?_ | refine pu rfl rfl ?_
  refine SL_nil ?_
  refine nx ?_
  refine SWP_seq ?_
  refine SWP_seq ?_
  refine SWP_region ?_
  first | refine pI rfl rfl ?_ | refine pu rfl rfl ?_
  refine pc rfl rfl (fun c18 => ?_) (fun c18 => ?_)
  · skip
    refine SL_nil ?_
    refine nx ?_
    refine SWP_ct rfl ?_
    refine SWP_seq ?_
    refine SWP_region ?_
    first | refine pI rfl rfl ?_ | refine pu rfl rfl ?_
    refine pI rfl rfl ?_
    refine pI rfl rfl ?_
    refine pI rfl rfl ?_
    first | refine pI rfl rfl ?_ | refine pu rfl rfl ?_
    refine SL_nil ?_
    refine nx ?_
    refine SWP_ret ?_
    refine nr ?_
    refine fin [_, _, _, _] ⟨rfl, rfl, rfl, rfl, trivial⟩ ?_
    unfold hitR
    rw [if_pos c18]; rfl
  refine SL_nil ?_
  refine nx ?_
  refine SWP_cf rfl ?_
  refine SWP_skip ?_
  refine nx ?_
  refine SWP_seq ?_
  refine SWP_seq ?_
  obtain ⟨lo, ro⟩ := chkErr_zero (Classical.not_not.1 c18)
  have hml := lo.ml
  have hrl := ro.nu.ml
  have hk12 := (gameOk lo.g0).kind
  refine SWP_region ?_
  refine pu rfl rfl ?_
  refine lw (v := .int .i64 _) B3 1 rfl rfl rfl rfl ?_
  refine pc rfl rfl (fun c22 => ?_) (fun c22 => ?_)
  · skip
    refine SL_nil ?_
    refine nx ?_
    refine SWP_ct rfl ?_
    refine SWP_seq ?_
    refine SWP_draws (by kernel_rfl) (by kernel_rfl) ?_
    refine pu rfl rfl ?_
    refine lw (v := .slice _ _ _) B4 0 rfl rfl rfl rfl ?_
    refine pu rfl rfl ?_
    refine lw (v := .slice _ _ _) B5 0 rfl rfl rfl rfl ?_
    refine SL_pcall rfl rfl cb27 (commonR hl.mn hr.mn) rfl ?_
    refine pu rfl rfl ?_
    refine lw (v := .slice _ _ _) B4 1 rfl rfl rfl rfl ?_
    refine pu rfl rfl ?_
    refine lw (v := .slice _ _ _) B5 1 rfl rfl rfl rfl ?_
    refine SL_pcall rfl rfl cb27 (commonR hl.bn hr.bn) rfl ?_
    refine pu rfl rfl ?_
    refine lw (v := .slice _ _ _) B4 0 rfl rfl rfl rfl ?_
    refine pu rfl rfl ?_
    refine lw (v := .slice _ _ _) B5 2 rfl rfl rfl rfl ?_
    refine SL_pcall rfl rfl cb27 (commonR hl.mn hr.xn) rfl ?_
    first | refine pI rfl rfl ?_ | refine pu rfl rfl ?_
    first | refine pI rfl rfl ?_ | refine pu rfl rfl ?_
    first | refine pI rfl rfl ?_ | refine pu rfl rfl ?_
    refine pI rfl rfl ?_
    refine SL_nil ?_
    refine nx ?_
    refine SWP_ret ?_
    refine nr ?_
    refine fin [_, _, _, _] ⟨rfl, rfl, rfl, rfl, trivial⟩ ?_
    have hv : hitV g l r = (comN l.main r.main, comN l.bonus r.bonus, comN l.main r.extra) := if_neg (by omega)
    unfold hitR
    rw [if_neg c18, hv]; rfl
  refine SL_nil ?_
  refine nx ?_
  refine SWP_cf rfl ?_
  refine SWP_skip ?_
  refine nx ?_
  refine SWP_seq ?_
  refine SWP_region ?_
  refine pI rfl rfl ?_
  refine SL_nil ?_
  refine nx ?_
  refine SWP_seq ?_
  refine SWP_seq ?_
  refine SWP_region ?_
  refine pI rfl rfl ?_
  refine SL_nil ?_
  refine nx ?_
  refine SWP_block ?_
  refine SWP_loop [11, 12, 38, 39, 40, 41, 42, 43, 44, 45, 46, 47, 48, 49, 50, 51, 52, 53, 54, 55, 56, 57] [11, 12]
      (fun vs σ' m' => ∃ (i : Nat), vs = [.int .i64 (posTo l.main r.main i : Nat), .int .i64 (i : Nat)] ∧ i ≤ l.main.length ∧ σ' = [(B5, Cells 31 r.enc), (B4, Cells 29 l.enc), (B3, Cells 27 g.enc)] ∧ m = m')
      (fun vs => l.main.length - nOf (vs.getD 1 undef)) rfl ?_ ?_
  · exact ⟨0, rfl, by omega, rfl, rfl⟩
  intro u0 vs0 σ0 m0 hJ0 _
  obtain ⟨i, rfl, hi, rfl, rfl⟩ := hJ0
  have hcn := posTo_le l.main r.main i
  dsimp only [Res.enc, Line.enc, Game.enc]
  refine SWP_seq ?_
  refine SWP_seq ?_
  refine SWP_region ?_
  first | refine pI rfl rfl ?_ | refine pu rfl rfl ?_
  refine pu rfl rfl ?_
  refine lw (v := .slice _ _ _) B4 0 rfl rfl rfl rfl ?_
  refine pu rfl rfl ?_
  refine pc rfl rfl (fun c42 => ?_) (fun c42 => ?_)
  · skip
    refine SL_nil ?_
    refine nx ?_
    refine SWP_ct rfl ?_
    refine SWP_skip ?_
    refine nx ?_
    refine SWP_seq ?_
    refine SWP_block ?_
    refine SWP_seq ?_
    obtain ⟨x, hx⟩ : ∃ x, l.main[i]? = some x := ⟨_, List.getElem?_eq_getElem (by omega)⟩
    obtain ⟨ad, e0, _, hat⟩ := hl.mn.atI hx
    obtain ⟨y, hy⟩ : ∃ y, r.main[i]? = some y := ⟨_, List.getElem?_eq_getElem (by omega)⟩
    obtain ⟨ad2, e2, _, hat2⟩ := hr.mn.atI hy
    refine SWP_draws (by kernel_rfl) (by kernel_rfl) ?_
    refine pu rfl rfl ?_
    refine lw (v := .slice _ _ _) B4 0 rfl rfl rfl rfl ?_
    first | refine pI rfl rfl ?_ | refine pu rfl rfl ?_
    rw [e0]
    refine ia (es := 1) rfl rfl rfl (Nat.mul_one _) rfl rfl (by omega) rfl ?_
    rw [← e0]
    refine ldA (v := .int .i64 _) rfl (by assumption) rfl rfl ?_
    refine pu rfl rfl ?_
    refine lw (v := .slice _ _ _) B5 0 rfl rfl rfl rfl ?_
    first | refine pI rfl rfl ?_ | refine pu rfl rfl ?_
    rw [e2]
    refine ia (es := 1) rfl rfl rfl (Nat.mul_one _) rfl rfl (by omega) rfl ?_
    rw [← e2]
    refine ldA (v := .int .i64 _) rfl (by assumption) rfl rfl ?_
    refine pc rfl rfl (fun c55 => ?_) (fun c55 => ?_)
    · skip
      refine SL_nil ?_
      refine nx ?_
      refine SWP_ct rfl ?_
      refine SWP_region ?_
      first | refine pI rfl rfl ?_ | refine pu rfl rfl ?_
      first | refine pw rfl rfl (w64 (by omega) (by omega)) ?_ | refine pu rfl rfl ?_
      refine pI rfl rfl ?_
      refine SL_nil ?_
      refine nb ?_
      refine nx ?_
      refine SWP_region ?_
      first | refine pI rfl rfl ?_ | refine pu rfl rfl ?_
      first | refine pw rfl rfl (w64 (by omega) (by omega)) ?_ | refine pu rfl rfl ?_
      refine pI rfl rfl ?_
      refine SL_nil ?_
      refine nx ?_
      refine ⟨by repeat (first | exact Under.upds rfl (Under.hav _ _ _) | exact Under.hav _ _ _ | refine Under.upd rfl ?_), ?_, ?_⟩
      · refine ⟨i + 1, ?_, by omega, rfl, rfl⟩
        rw [posTo_succ, if_pos (by rw [getD_at hx, getD_at hy]; exact c55)]; rfl
      · simp only [L_vals, List.map, List.getD]; show l.main.length - (i + 1) < l.main.length - i; omega
    refine SL_nil ?_
    refine nx ?_
    refine SWP_cf rfl ?_
    refine SWP_skip ?_
    refine nb ?_
    refine nx ?_
    refine SWP_region ?_
    first | refine pI rfl rfl ?_ | refine pu rfl rfl ?_
    first | refine pw rfl rfl (w64 (by omega) (by omega)) ?_ | refine pu rfl rfl ?_
    refine pI rfl rfl ?_
    refine SL_nil ?_
    refine nx ?_
    refine ⟨by repeat (first | exact Under.upds rfl (Under.hav _ _ _) | exact Under.hav _ _ _ | refine Under.upd rfl ?_), ?_, ?_⟩
    · refine ⟨i + 1, ?_, by omega, rfl, rfl⟩
      rw [posTo_succ, if_neg (by rw [getD_at hx, getD_at hy]; exact c55)]; rfl
    · simp only [L_vals, List.map, List.getD]; show l.main.length - (i + 1) < l.main.length - i; omega
  refine SL_nil ?_
  refine nx ?_
  refine SWP_cf rfl ?_
  refine SWP_exit ?_
  refine ne ?_
  refine ne ?_
  refine be rfl ?_
  refine nx ?_
  refine SWP_seq ?_
  refine SWP_region ?_
  first | refine pI rfl rfl ?_ | refine pu rfl rfl ?_
  first | refine pI rfl rfl ?_ | refine pu rfl rfl ?_
  refine pI rfl rfl ?_
  refine pI rfl rfl ?_
  refine pI rfl rfl ?_
  refine SL_nil ?_
  refine nx ?_
  refine SWP_ret ?_
  refine fin [_, _, _, _] ⟨rfl, rfl, rfl, rfl, trivial⟩ ?_
  have e : i = l.main.length := by omega
  have hv : hitV g l r = (posN l.main r.main, 0, 0) := if_pos (by omega)
  unfold hitR
  rw [if_neg c18, hv, e]; rfl

end Go.Proofs.Ytakjedhlcnnalaa

