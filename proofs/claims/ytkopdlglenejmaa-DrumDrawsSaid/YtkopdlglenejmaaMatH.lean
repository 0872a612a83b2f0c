/- Hits of a line: match.Hits, lotteryref32.Hits, lotterylaw32.MatchHits. -/
import Derived.Test.YtkopdlglenejmaaGamL
namespace Go.Proofs.Ytkopdlglenejmaa
open Eng

theorem gameErr_of {g : Game} (h : GameOk g) : gameErr g = 0 := by
  unfold gameErr
  rw [if_neg (by rw [h.name]; exact Bool.noConfusion), if_neg (by have := h.kind; omega), okE_t ⟨h.mx, h.tm⟩, if_neg (by rw [h.ad]; decide)]
  exact h.tr
structure LineOk (g : Game) (l : Line) : Prop where
  g0 : gameErr g = 0
  ml : (l.main.length : Int) = g.main
  bl : (l.bonus.length : Int) = g.bonus
  mi : allIn (if g.kind = 2 then 0 else 1) (if g.kind = 2 then g.of - 1 else g.of) l.main
  bi : allIn 1 g.bonusOf l.bonus
  mn : g.kind ≠ 2 → l.main.Nodup
  bn : l.bonus.Nodup
theorem lineOk {g : Game} {l : Line} (h : lineErr g l = 0) : LineOk g l := by
  unfold lineErr at h
  by_cases h1 : gameErr g ≠ 0
  · rw [if_pos h1] at h; exact absurd h h1
  rw [if_neg h1] at h
  by_cases h2 : (l.main.length : Int) ≠ g.main ∨ (l.bonus.length : Int) ≠ g.bonus
  · rw [if_pos h2] at h; exact absurd h (by decide)
  rw [if_neg h2] at h
  by_cases h3 : ¬ allIn (if g.kind = 2 then 0 else 1) (if g.kind = 2 then g.of - 1 else g.of) l.main ∨ ¬ allIn 1 g.bonusOf l.bonus
  · rw [if_pos h3] at h; exact absurd h (by decide)
  rw [if_neg h3] at h
  by_cases h4 : (g.kind ≠ 2 ∧ ¬ l.main.Nodup) ∨ ¬ l.bonus.Nodup
  · rw [if_pos h4] at h; exact absurd h (by decide)
  exact ⟨Classical.not_not.1 h1, by omega, by omega, Classical.byContradiction fun hc => h3 (.inl hc), Classical.byContradiction fun hc => h3 (.inr hc), fun hk => Classical.byContradiction fun hc => h4 (.inl ⟨hk, hc⟩), Classical.byContradiction fun hc => h4 (.inr hc)⟩
theorem lineErr_of {g : Game} {l : Line} (h : LineOk g l) : lineErr g l = 0 := by
  unfold lineErr
  have h1 := h.ml
  have h2 := h.bl
  exact (if_neg (by rw [h.g0]; decide)).trans ((if_neg (by omega)).trans ((if_neg (fun hc => hc.elim (fun hc => hc h.mi) (fun hc => hc h.bi))).trans (if_neg (fun hc => hc.elim (fun hc => hc.2 (h.mn hc.1)) (fun hc => hc h.bn)))))
structure NumsOk (g : Game) (r : Res) : Prop where
  ml : (r.main.length : Int) = g.main
  bl : (r.bonus.length : Int) = g.bonus
  xl : (r.extra.length : Int) = g.extra
  dm : g.kind = 2 → listErr 0 (g.of - 1) false r.main = 0
  cm : g.kind ≠ 2 → listErr 1 g.of true r.main = 0
  cb : g.kind ≠ 2 → listErr 1 g.bonusOf true r.bonus = 0
  cx : g.kind ≠ 2 → listErr 1 g.of true r.extra = 0
  ap : g.kind ≠ 2 → ∀ x ∈ r.extra, x ∉ r.main
theorem numsOk {g : Game} {r : Res} (h : numsErr g r = 0) : NumsOk g r := by
  unfold numsErr at h
  split at h
  · cases h
  · rename_i h0
    split at h
    · rename_i hk
      exact ⟨by omega, by omega, by omega, fun _ => h, fun hn => absurd hk hn, fun hn => absurd hk hn, fun hn => absurd hk hn, fun hn => absurd hk hn⟩
    · rename_i hk
      split at h
      · rename_i h1; exact absurd h h1
      · split at h
        · rename_i h1; exact absurd h h1
        · split at h
          · rename_i h1; exact absurd h h1
          · split at h
            · cases h
            · rename_i h1 h2 h3 h4
              exact ⟨by omega, by omega, by omega, fun hn => absurd hn hk, fun _ => Classical.not_not.1 h1, fun _ => Classical.not_not.1 h2, fun _ => Classical.not_not.1 h3, fun _ x hx hm => h4 ⟨x, hx, hm⟩⟩
theorem numsErr_of {g : Game} {r : Res} (h : NumsOk g r) : numsErr g r = 0 := by
  unfold numsErr
  have h1 := h.ml
  have h2 := h.bl
  have h3 := h.xl
  refine (if_neg (by omega)).trans ?_
  by_cases hk : g.kind = 2
  · rw [if_pos hk]; exact h.dm hk
  · exact (if_neg hk).trans ((if_neg (Classical.not_not.2 (h.cm hk))).trans ((if_neg (Classical.not_not.2 (h.cb hk))).trans ((if_neg (Classical.not_not.2 (h.cx hk))).trans (if_neg fun ⟨x, h1, h2⟩ => h.ap hk x h1 h2))))
structure ResOk (g : Game) (r : Res) : Prop where
  g0 : gameErr g = 0
  nu : NumsOk g r
  xt : xtraErr g r = 0
theorem resOk {g : Game} {r : Res} (h : resErr g r = 0) : ResOk g r := by
  unfold resErr at h
  split at h
  · rename_i h1; exact absurd h h1
  · rename_i h1
    split at h
    · rename_i h2; exact absurd h h2
    · rename_i h2
      exact ⟨Classical.not_not.1 h1, numsOk (Classical.not_not.1 h2), h⟩
theorem resErr_of {g : Game} {r : Res} (h : ResOk g r) : resErr g r = 0 := by
  unfold resErr
  rw [if_neg (by rw [h.g0]; decide), if_neg (by rw [numsErr_of h.nu]; decide)]
  exact h.xt
noncomputable def chkErr (g : Game) (l : Line) (r : Res) : Int := if lineErr g l ≠ 0 then lineErr g l else resErr g r
theorem chkErr_zero {g : Game} {l : Line} {r : Res} (h : chkErr g l r = 0) : LineOk g l ∧ ResOk g r := by
  unfold chkErr at h
  split at h
  · rename_i h1; exact absurd h h1
  · rename_i h1
    exact ⟨lineOk (Classical.not_not.1 h1), resOk h⟩
theorem chkErr_of {g : Game} {l : Line} {r : Res} (h : LineOk g l) (h' : ResOk g r) : chkErr g l r = 0 := by
  unfold chkErr
  rw [if_neg (by rw [lineErr_of h]; decide)]
  exact resErr_of h'
theorem lineErr_game {g : Game} {l : Line} (h : gameErr g ≠ 0) : lineErr g l = gameErr g := if_pos h
theorem chkErr_game {g : Game} {l : Line} {r : Res} (h : gameErr g ≠ 0) : chkErr g l r = gameErr g := by
  unfold chkErr
  rw [lineErr_game h, if_pos h]
def comN (a b : List Int) : Nat := a.countP fun x => decide (x ∈ b)
def posN (a b : List Int) : Nat := (List.range a.length).countP fun i => decide (a.getD i 0 = b.getD i 0)
theorem countP_snoc {α : Type} {p : α → Bool} {l : List α} {i : Nat} {x : α} (hx : l[i]? = some x) : (l.take (i + 1)).countP p = if p x = true then (l.take i).countP p + 1 else (l.take i).countP p := by
  rw [take_snocA hx, List.countP_append, List.countP_singleton]
  split <;> rfl
theorem comN_take {l b : List Int} {i : Nat} : (l.take i).countP (fun x => decide (x ∈ b)) ≤ i := Nat.le_trans List.countP_le_length (by rw [List.length_take]; omega)
def posTo (a b : List Int) (n : Nat) : Nat := (List.range n).countP fun i => decide (a.getD i 0 = b.getD i 0)
theorem posTo_succ (a b : List Int) (n : Nat) : posTo a b (n + 1) = if a.getD n 0 = b.getD n 0 then posTo a b n + 1 else posTo a b n := by
  unfold posTo
  rw [List.range_succ, List.countP_append, List.countP_singleton]
  by_cases h : a.getD n 0 = b.getD n 0
  · rw [if_pos h, decide_eq_true h]; rfl
  · rw [if_neg h, decide_eq_false h]; rfl
theorem posTo_le (a b : List Int) (n : Nat) : posTo a b n ≤ n := Nat.le_trans List.countP_le_length (by rw [List.length_range]; omega)
def hitV (g : Game) (l : Line) (r : Res) : Nat × Nat × Nat := if g.kind = 2 then (posN l.main r.main, 0, 0) else (comN l.main r.main, comN l.bonus r.bonus, comN l.main r.extra)
noncomputable def hitR (g : Game) (l : Line) (r : Res) : Value :=
  if chkErr g l r ≠ 0 then .tuple #[.int .i64 0, .int .i64 0, .int .i64 0, .int .i64 (chkErr g l r)]
  else .tuple #[.int .i64 ((hitV g l r).1 : Nat), .int .i64 ((hitV g l r).2.1 : Nat), .int .i64 ((hitV g l r).2.2 : Nat), .int .i64 0]








end Go.Proofs.Ytkopdlglenejmaa

