/- lotteryref29.Result: the same result of balls. -/
import Derived.Test.YtnpnleapnbdllaaMecU
namespace Go.Proofs.Ytnpnleapnbdllaa
open Eng

theorem mem_numsD {d x : Int} {l : List Ball} : x ∈ numsD d l ↔ ∃ a ∈ l, a.drum = d ∧ a.num = x := by
  unfold numsD
  simp only [List.mem_map, List.mem_filter, decide_eq_true_eq]
  constructor
  · rintro ⟨a, ⟨h1, h2⟩, h3⟩; exact ⟨a, h1, h2, h3⟩
  · rintro ⟨a, h1, h2, h3⟩; exact ⟨a, ⟨h1, h2⟩, h3⟩
theorem rep2 {pre : List Ball} {b : Ball} (hb : b.drum = 2) : (∃ a ∈ pre, repB a b) ↔ b.num ∈ numsD 2 pre := by
  rw [mem_numsD]
  constructor
  · rintro ⟨a, h, h1, h2⟩; exact ⟨a, h, h2.2 hb, h1⟩
  · rintro ⟨a, h, h1, h2⟩; exact ⟨a, h, h2, by rw [h1, hb]⟩
theorem rep13 {g : Game} {pre : List Ball} {b : Ball} (hp : ∀ a ∈ pre, inB g a) (hb : b.drum ≠ 2) : (∃ a ∈ pre, repB a b) ↔ b.num ∈ numsD 1 pre ∨ b.num ∈ numsD 3 pre := by
  rw [mem_numsD, mem_numsD]
  constructor
  · rintro ⟨a, h, h1, h2⟩
    have hd := inB_drum (hp a h)
    rcases hd with hd | hd | hd
    · exact .inl ⟨a, h, hd, h1⟩
    · exact absurd (h2.1 hd) hb
    · exact .inr ⟨a, h, hd, h1⟩
  · rintro (⟨a, h, h1, h2⟩ | ⟨a, h, h1, h2⟩)
    · exact ⟨a, h, h2, by omega⟩
    · exact ⟨a, h, h2, by omega⟩
/-- What 'add' gives. -/
def AddOf (r : Value) (m : Mem) (g : Game) (pre : List Ball) (b : Ball) : Prop :=
  ∃ x : Res, r = .tuple #[x.val, .int .i64 (ballErr g pre b)] ∧ x.In m ∧ (ballErr g pre b = 0 → OutIs x (numsD 1 (pre ++ [b])) (numsD 2 (pre ++ [b])) (numsD 3 (pre ++ [b])))
/-- The result with one list anew, which the running code owns. -/
def OwnA (r : Value) (σ : Sig) (m : Mem) (g : Game) (pre : List Ball) (b : Ball) : Prop :=
  (AddOf r m g pre b) ∨ ∃ (x : Res) (d : Int) (a : Option Addr) (c : Nat) (σ1 τ0 : Sig), x.In m ∧ OutIs x (numsD 1 pre) (numsD 2 pre) (numsD 3 pre) ∧ ballErr g pre b = 0 ∧ b.drum = d ∧ (d = 1 ∨ d = 2 ∨ d = 3) ∧ σ.Perm (σ1 ++ τ0) ∧ OwnS 3 1 (.slice a (numsD d (pre ++ [b])).length c) ((numsD d (pre ++ [b])).flatMap intE) σ1 ∧
    r = .tuple #[(if d = 1 then { x with ma := a, mc := c, main := numsD 1 (pre ++ [b]) } else if d = 2 then { x with ba := a, bc := c, bonus := numsD 2 (pre ++ [b]) } else { x with ea := a, ec := c, extra := numsD 3 (pre ++ [b]) } : Res).val, .int .i64 0]
theorem OwnA.let {r : Value} {σ : Sig} {m : Mem} {g : Game} {pre : List Ball} {b : Ball} (h : OwnA r σ m g pre b) {gh : Gh} {W : World} (hC : Conc gh W m σ) : ∃ m', Conc gh W m' [] ∧ Le m m' ∧ AddOf r m' g pre b := by
  rcases h with h | ⟨x, d, a, c, σ1, τ0, hx, ho, he, hd, hdd, hp, hown, rfl⟩
  · exact ⟨m, hC.sublist (List.nil_sublist _), Le.refl m, h⟩
  · obtain ⟨m', hl, hC', hr⟩ := hown.freezeL (by omega) intE_len (hC.perm hp)
    have hx' := hx.mono hl
    refine ⟨m', hC'.sublist (List.nil_sublist _), hl, ?_⟩
    have h1 := numsD_snoc 1 pre b
    have h2 := numsD_snoc 2 pre b
    have h3 := numsD_snoc 3 pre b
    rcases hdd with rfl | rfl | rfl
    · refine ⟨{ x with ma := a, mc := c, main := numsD 1 (pre ++ [b]) }, by rw [he]; rfl, ⟨hr, hx'.bn, hx'.xn⟩, fun _ => ⟨rfl, ?_, ?_, ho.fc, ho.sr⟩⟩
      · rw [h2, if_neg (by omega)]; exact ho.bn
      · rw [h3, if_neg (by omega)]; exact ho.xn
    · refine ⟨{ x with ba := a, bc := c, bonus := numsD 2 (pre ++ [b]) }, by rw [he]; rfl, ⟨hx'.mn, hr, hx'.xn⟩, fun _ => ⟨?_, rfl, ?_, ho.fc, ho.sr⟩⟩
      · rw [h1, if_neg (by omega)]; exact ho.mn
      · rw [h3, if_neg (by omega)]; exact ho.xn
    · refine ⟨{ x with ea := a, ec := c, extra := numsD 3 (pre ++ [b]) }, by rw [he]; rfl, ⟨hx'.mn, hx'.bn, hr⟩, fun _ => ⟨?_, ?_, rfl, ho.fc, ho.sr⟩⟩
      · rw [h1, if_neg (by omega)]; exact ho.mn
      · rw [h2, if_neg (by omega)]; exact ho.bn
theorem room1 {l : List Int} (h : l.length ≤ 4000000) : (([] : List Value).length + l.length * 1) * 8 ≤ 140737488355328 * 1 := by simp; omega
theorem room2 {l : List Int} (h : l.length ≤ 4000000) : (([] ++ l.flatMap intE).length + 1 * 1) * 8 ≤ 140737488355328 * 1 := by
  rw [List.nil_append, flatMap_len intE_len]; omega

theorem hasM {m : Mem} {v : Value} {l : List Int} (h : RL m intE 1 v l) (x : Int) : PureCall Try.prog 62 [v, .int .i64 x] m (.bool (decide (x ∈ l))) := by
  refine CallsS.pure ?_
  have hsm := h.small
  obtain ⟨pa, pcap, rfl⟩ := h.len
  refine enter Try.func62 Try.ntmps62 rfl rfl ?_
  refine SWP_seq ?_
  refine SWP_region ?_
  refine pB rfl rfl ?_
  refine SL_nil ?_
  refine nx ?_
  refine SWP_seq ?_
  refine SWP_seq ?_
  refine SWP_region ?_
  refine pI rfl rfl ?_
  refine SL_nil ?_
  refine nx ?_
  refine SWP_block ?_
  refine SWP_loop [4, 5, 6, 7, 8, 9, 10, 11, 12, 13, 14, 15, 16, 17] [5]
      (fun vs σ' m' => ∃ (i : Nat), vs = [.int .i64 (i : Nat)] ∧ i ≤ l.length ∧ x ∉ l.take i ∧ σ' = [] ∧ m = m')
      (fun vs => l.length - nOf (vs.getD 0 undef)) rfl ?_ ?_
  · exact ⟨0, rfl, by omega, by simp, rfl, rfl⟩
  intro u0 vs0 σ0 m0 hJ0 _
  obtain ⟨i, rfl, hi, hno, rfl, rfl⟩ := hJ0
  refine SWP_seq ?_
  refine SWP_seq ?_
  refine SWP_region ?_
  first | refine pI rfl rfl ?_ | refine pu rfl rfl ?_
  first | refine pL rfl rfl ?_ | refine pu rfl rfl ?_
  refine pu rfl rfl ?_
  refine pc rfl rfl (fun c9 => ?_) (fun c9 => ?_)
  · skip
    refine SL_nil ?_
    refine nx ?_
    refine SWP_ct rfl ?_
    refine SWP_skip ?_
    refine nx ?_
    refine SWP_seq ?_
    refine SWP_block ?_
    refine SWP_seq ?_
    obtain ⟨y, hy⟩ : ∃ y, l[i]? = some y := ⟨_, List.getElem?_eq_getElem (by omega)⟩
    obtain ⟨ad, e0, _, hat⟩ := h.atI hy
    cases e0
    refine SWP_region ?_
    first | refine pL rfl rfl ?_ | refine pu rfl rfl ?_
    first | refine pI rfl rfl ?_ | refine pu rfl rfl ?_
    first | refine ia (es := 1) rfl rfl rfl (Nat.mul_one _) rfl rfl (by omega) rfl ?_ | refine iai (es := 1) rfl rfl rfl (Nat.mul_one _) rfl rfl (by omega) (by omega) rfl ?_
    refine ldA (v := .int .i64 _) rfl (by assumption) rfl rfl ?_
    first | refine pI rfl rfl ?_ | refine pu rfl rfl ?_
    refine pc rfl rfl (fun c17 => ?_) (fun c17 => ?_)
    · skip
      refine SL_nil ?_
      refine nx ?_
      refine SWP_ct rfl ?_
      refine SWP_seq ?_
      refine SWP_region ?_
      refine pB rfl rfl ?_
      refine SL_nil ?_
      refine nx ?_
      refine SWP_ret ?_
      refine br ?_
      refine nr ?_
      refine nr ?_
      refine br ?_
      refine nr ?_
      refine fin [_] ⟨rfl, trivial⟩ ?_
      exact congrArg Value.bool (decide_eq_true (by rw [← c17]; exact List.mem_of_getElem? hy)).symm
    refine SL_nil ?_
    refine nx ?_
    refine SWP_cf rfl ?_
    refine SWP_skip ?_
    refine nb ?_
    refine nx ?_
    refine SWP_region ?_
    first | refine pI rfl rfl ?_ | refine pu rfl rfl ?_
    first | refine pw rfl rfl (w64 (by omega) (by omega)) ?_ | refine pu rfl rfl ?_
    refine pI rfl rfl ?_
    refine SL_nil ?_
    refine nx ?_
    refine ⟨by repeat (first | exact Under.upds rfl (Under.hav _ _ _) | exact Under.hav _ _ _ | refine Under.upd rfl ?_), ?_, ?_⟩
    · refine ⟨i + 1, rfl, by omega, fun hm => ?_, rfl, rfl⟩
      rw [take_snocA hy] at hm
      rcases List.mem_append.1 hm with hm | hm
      · exact hno hm
      · rw [List.mem_singleton] at hm; exact c17 hm.symm
    · simp only [L_vals, List.map, List.getD]; show l.length - (i + 1) < l.length - i; omega
  refine SL_nil ?_
  refine nx ?_
  refine SWP_cf rfl ?_
  refine SWP_exit ?_
  refine ne ?_
  refine ne ?_
  refine be rfl ?_
  refine nx ?_
  refine SWP_seq ?_
  refine SWP_region ?_
  refine pB rfl rfl ?_
  refine SL_nil ?_
  refine nx ?_
  refine SWP_ret ?_
  refine fin [_] ⟨rfl, trivial⟩ ?_
  rw [List.take_of_length_le (by omega)] at hno
  exact congrArg Value.bool (decide_eq_false hno).symm

set_option maxRecDepth 100000 in
theorem addR {m : Mem} {g : Game} {r : Res} {b : Ball} {pre : List Ball} (hr : r.In m) (ho : OutIs r (numsD 1 pre) (numsD 2 pre) (numsD 3 pre)) (hp : ∀ a ∈ pre, inB g a) (hl : pre.length ≤ 4000000) : CallsS Try.prog 42 [g.val, r.val, b.val].toArray [] m fun r' σ' m' => σ' = [] ∧ AddOf r' m' g pre b := by
  refine CallsS.ghost (R' := fun r' σ' m' => OwnA r' σ' m' g pre b) ?_ ?h2
  case h2 =>
    intro r σ' m' hR g0 W hC
    obtain ⟨m2, h1, h2, h3⟩ := hR.let hC
    exact ⟨[], m2, h1, h2, rfl, h3⟩
  have hmain : r.main.length ≤ 4000000 := by rw [ho.mn]; have := cntD_le 1 pre; unfold cntD at this; omega
  have hbonus : r.bonus.length ≤ 4000000 := by rw [ho.bn]; have := cntD_le 2 pre; unfold cntD at this; omega
  have hextra : r.extra.length ≤ 4000000 := by rw [ho.xn]; have := cntD_le 3 pre; unfold cntD at this; omega
  have gm : cntD 1 pre = r.main.length := by rw [ho.mn]; rfl
  have gb : cntD 2 pre = r.bonus.length := by rw [ho.bn]; rfl
  have gx : cntD 3 pre = r.extra.length := by rw [ho.xn]; rfl
  dsimp only [Game.val, Res.val, Ball.val]
  refine enter Try.func42 Try.ntmps42 rfl rfl ?_
  refine SWP_seq ?_
  refine SWP_region ?_
  refine bx (v := .agg _) rfl rfl (fun B3 => ?_)
  refine bx (v := .agg _) rfl rfl (fun B4 => ?_)
  refine bx (v := .agg _) rfl rfl (fun B5 => ?_)
  refine al rfl rfl (fun B6 => ?_)
  refine pI rfl rfl ?_
  refine SL_nil ?_
  refine nx ?_
  refine SWP_seq ?_
  refine SWP_seq ?_
  refine SWP_region ?_
  refine lw (v := .agg _) B3 0 rfl rfl rfl rfl ?_
  refine lw (v := .agg _) B5 0 rfl rfl rfl rfl ?_
  refine SL_pcall rfl rfl cb61 (fitsR g b) rfl ?_
  refine psp 11 rfl (fun c11 => ?_) (fun c11 => ?_)
  · skip
    refine pB rfl rfl ?_
    refine SL_nil ?_
    refine nx ?_
    refine SWP_cf rfl ?_
    refine SWP_skip ?_
    refine nx ?_
    refine SWP_merge1 [7, 8, 14, 15, 16, 17, 18, 19, 20, 21, 22, 23, 24, 25, 26, 27, 28, 29, 30, 31, 32, 33, 34, 35, 36, 37, 38] []
        (fun vs σ' m' => vs = [] ∧ ¬ (g.kind = 1 ∧ ∃ a ∈ pre, repB a b) ∧ σ' = [(B6, Cells 30 zeroR.enc), (B5, Cells 42 b.enc), (B4, Cells 30 r.enc), (B3, Cells 25 g.enc)] ∧ m = m')
        rfl ?_ ?_
    · skip
      refine SWP_seq ?_
      refine SWP_region ?_
      refine pu rfl rfl ?_
      refine lw (v := .int .i64 _) B3 1 rfl rfl rfl rfl ?_
      refine pc rfl rfl (fun c16 => ?_) (fun c16 => ?_)
      · skip
        refine SL_nil ?_
        refine nx ?_
        refine SWP_ct rfl ?_
        refine SWP_seq ?_
        refine SWP_region ?_
        refine pu rfl rfl ?_
        refine lw (v := .slice _ _ _) B4 1 rfl rfl rfl rfl ?_
        refine pu rfl rfl ?_
        refine lw (v := .int .i64 _) B5 2 rfl rfl rfl rfl ?_
        refine SL_pcall rfl rfl cb62 (hasM hr.bn b.num) rfl ?_
        first | refine pB rfl rfl ?_ | refine pu rfl rfl ?_
        refine SL_nil ?_
        refine nx ?_
        refine SWP_seq ?_
        refine SWP_seq ?_
        refine SWP_region ?_
        refine pu rfl rfl ?_
        refine lw (v := .int .i64 _) B5 1 rfl rfl rfl rfl ?_
        refine pc rfl rfl (fun c24 => ?_) (fun c24 => ?_)
        · skip
          refine SL_nil ?_
          refine nx ?_
          refine SWP_ct rfl ?_
          refine SWP_region ?_
          refine pu rfl rfl ?_
          refine lw (v := .slice _ _ _) B4 0 rfl rfl rfl rfl ?_
          refine pu rfl rfl ?_
          refine lw (v := .int .i64 _) B5 2 rfl rfl rfl rfl ?_
          refine SL_pcall rfl rfl cb62 (hasM hr.mn b.num) rfl ?_
          refine psp 29 rfl (fun c29 => ?_) (fun c29 => ?_)
          · skip
            first | refine pB rfl rfl ?_ | refine pu rfl rfl ?_
            refine SL_no rfl rfl ?_
            refine SL_no rfl rfl ?_
            refine SL_no rfl rfl ?_
            refine SL_no rfl rfl ?_
            refine SL_no rfl rfl ?_
            refine pB rfl rfl ?_
            refine pB rfl rfl ?_
            refine SL_nil ?_
            refine nx ?_
            refine SWP_seq ?_
            refine SWP_region ?_
            refine pB rfl rfl ?_
            refine SL_nil ?_
            refine nx ?_
            refine SWP_ct rfl ?_
            refine SWP_seq ?_
            refine SWP_region ?_
            refine lw (v := .agg _) B4 0 rfl rfl rfl rfl ?_
            refine sw (v := .agg _) B6 0 rfl rfl rfl rfl rfl rfl rfl ?_
            refine pI rfl rfl ?_
            refine SL_nil ?_
            refine nx ?_
            refine SWP_ret ?_
            refine nr ?_
            refine fin [_, _] ⟨⟨_, _, rfl, Rd.of_cells (MemO.mem (B := B6)), rfl⟩, rfl, trivial⟩ ?_
            skip
            have hex : ∃ a ∈ pre, repB a b := by
              first
                | exact (rep13 hp (by omega)).2 (.inl (by rw [← ho.mn]; assumption))
                | exact (rep13 hp (by omega)).2 (.inr (by rw [← ho.xn]; assumption))
                | exact (rep2 (by omega)).2 (by rw [← ho.bn]; assumption)
            left
            have e : ballErr g pre b = 6 := by
              unfold ballErr
              rw [if_neg (Classical.not_not.2 (by assumption)), if_pos ⟨by omega, hex⟩]
            exact ⟨r, by rw [e]; rfl, hr, fun h => by rw [e] at h; exact absurd h (by decide)⟩
          first | refine pB rfl rfl ?_ | refine pu rfl rfl ?_
          refine SL_yes rfl ?_
          refine pu rfl rfl ?_
          refine SL_yes rfl ?_
          refine lw (v := .slice _ _ _) B4 2 rfl rfl rfl rfl ?_
          refine SL_yes rfl ?_
          refine pu rfl rfl ?_
          refine SL_yes rfl ?_
          refine lw (v := .int .i64 _) B5 2 rfl rfl rfl rfl ?_
          refine SL_yes rfl ?_
          refine SL_pcall rfl rfl cb62 (hasM hr.xn b.num) rfl ?_
          refine psp 35 rfl (fun c35 => ?_) (fun c35 => ?_)
          · skip
            refine pB rfl rfl ?_
            refine pB rfl rfl ?_
            refine SL_nil ?_
            refine nx ?_
            refine SWP_seq ?_
            refine SWP_region ?_
            refine pB rfl rfl ?_
            refine SL_nil ?_
            refine nx ?_
            refine SWP_ct rfl ?_
            refine SWP_seq ?_
            refine SWP_region ?_
            refine lw (v := .agg _) B4 0 rfl rfl rfl rfl ?_
            refine sw (v := .agg _) B6 0 rfl rfl rfl rfl rfl rfl rfl ?_
            refine pI rfl rfl ?_
            refine SL_nil ?_
            refine nx ?_
            refine SWP_ret ?_
            refine nr ?_
            refine fin [_, _] ⟨⟨_, _, rfl, Rd.of_cells (MemO.mem (B := B6)), rfl⟩, rfl, trivial⟩ ?_
            skip
            have hex : ∃ a ∈ pre, repB a b := by
              first
                | exact (rep13 hp (by omega)).2 (.inl (by rw [← ho.mn]; assumption))
                | exact (rep13 hp (by omega)).2 (.inr (by rw [← ho.xn]; assumption))
                | exact (rep2 (by omega)).2 (by rw [← ho.bn]; assumption)
            left
            have e : ballErr g pre b = 6 := by
              unfold ballErr
              rw [if_neg (Classical.not_not.2 (by assumption)), if_pos ⟨by omega, hex⟩]
            exact ⟨r, by rw [e]; rfl, hr, fun h => by rw [e] at h; exact absurd h (by decide)⟩
          refine pB rfl rfl ?_
          refine pB rfl rfl ?_
          refine SL_nil ?_
          refine nx ?_
          refine SWP_seq ?_
          refine SWP_region ?_
          refine pB rfl rfl ?_
          refine SL_nil ?_
          refine nx ?_
          refine SWP_cf rfl ?_
          refine SWP_skip ?_
          refine nx ?_
          refine ⟨by repeat (first | with_reducible exact Under.refl _ _ | exact Under.upds rfl (Under.hav _ _ _) | exact Under.hav _ _ _ | refine Under.upd rfl ?_ | refine Under.upds rfl ?_ | refine Under.hav2 rfl ?_), ?_⟩
          refine ⟨rfl, fun h => ?_, rfl, rfl⟩
          first
            | omega
            | (have h2 := (rep2 (by omega)).1 h.2; rw [← ho.bn] at h2; contradiction)
            | (have h2 := (rep13 hp (by omega)).1 h.2; rw [← ho.mn, ← ho.xn] at h2; rcases h2 with h2 | h2 <;> contradiction)
        refine SL_nil ?_
        refine nx ?_
        refine SWP_cf rfl ?_
        refine SWP_skip ?_
        refine nx ?_
        refine SWP_seq ?_
        refine SWP_region ?_
        refine pB rfl rfl ?_
        refine psp 37 rfl (fun c37 => ?_) (fun c37 => ?_)
        · skip
          refine SL_nil ?_
          refine nx ?_
          refine SWP_ct rfl ?_
          refine SWP_seq ?_
          refine SWP_region ?_
          refine lw (v := .agg _) B4 0 rfl rfl rfl rfl ?_
          refine sw (v := .agg _) B6 0 rfl rfl rfl rfl rfl rfl rfl ?_
          refine pI rfl rfl ?_
          refine SL_nil ?_
          refine nx ?_
          refine SWP_ret ?_
          refine nr ?_
          refine fin [_, _] ⟨⟨_, _, rfl, Rd.of_cells (MemO.mem (B := B6)), rfl⟩, rfl, trivial⟩ ?_
          skip
          have hex : ∃ a ∈ pre, repB a b := by
            first
              | exact (rep13 hp (by omega)).2 (.inl (by rw [← ho.mn]; assumption))
              | exact (rep13 hp (by omega)).2 (.inr (by rw [← ho.xn]; assumption))
              | exact (rep2 (by omega)).2 (by rw [← ho.bn]; assumption)
          left
          have e : ballErr g pre b = 6 := by
            unfold ballErr
            rw [if_neg (Classical.not_not.2 (by assumption)), if_pos ⟨by omega, hex⟩]
          exact ⟨r, by rw [e]; rfl, hr, fun h => by rw [e] at h; exact absurd h (by decide)⟩
        refine SL_nil ?_
        refine nx ?_
        refine SWP_cf rfl ?_
        refine SWP_skip ?_
        refine nx ?_
        refine ⟨by repeat (first | with_reducible exact Under.refl _ _ | exact Under.upds rfl (Under.hav _ _ _) | exact Under.hav _ _ _ | refine Under.upd rfl ?_ | refine Under.upds rfl ?_ | refine Under.hav2 rfl ?_), ?_⟩
        refine ⟨rfl, fun h => ?_, rfl, rfl⟩
        first
          | omega
          | (have h2 := (rep2 (by omega)).1 h.2; rw [← ho.bn] at h2; contradiction)
          | (have h2 := (rep13 hp (by omega)).1 h.2; rw [← ho.mn, ← ho.xn] at h2; rcases h2 with h2 | h2 <;> contradiction)
      refine SL_nil ?_
      refine nx ?_
      refine SWP_cf rfl ?_
      refine SWP_skip ?_
      refine nx ?_
      refine ⟨by repeat (first | with_reducible exact Under.refl _ _ | exact Under.upds rfl (Under.hav _ _ _) | exact Under.hav _ _ _ | refine Under.upd rfl ?_ | refine Under.upds rfl ?_ | refine Under.hav2 rfl ?_), ?_⟩
      refine ⟨rfl, fun h => ?_, rfl, rfl⟩
      first
        | omega
        | (have h2 := (rep2 (by omega)).1 h.2; rw [← ho.bn] at h2; contradiction)
        | (have h2 := (rep13 hp (by omega)).1 h.2; rw [← ho.mn, ← ho.xn] at h2; rcases h2 with h2 | h2 <;> contradiction)
    intro uM0 vM0 σM0 mM0 hM0 _
    obtain ⟨rfl, hnr, rfl, rfl⟩ := hM0
    have hdr := inB_drum (by assumption : inB g b)
    dsimp only [Game.enc, Res.enc, Ball.enc]
    refine SWP_seq ?_
    refine SWP_seq ?_
    refine SWP_region ?_
    refine pu rfl rfl ?_
    refine lw (v := .int .i64 _) B5 1 rfl rfl rfl rfl ?_
    refine pc rfl rfl (fun c41 => ?_) (fun c41 => ?_)
    · skip
      refine SL_nil ?_
      refine nx ?_
      refine SWP_ct rfl ?_
      refine SWP_seq ?_
      refine SWP_seq ?_
      refine SWP_region ?_
      refine pu rfl rfl ?_
      refine lw (v := .slice _ _ _) B4 0 rfl rfl rfl rfl ?_
      refine pu rfl rfl ?_
      refine pu rfl rfl ?_
      refine lw (v := .int .i64 _) B3 3 rfl rfl rfl rfl ?_
      refine pc rfl rfl (fun c47 => ?_) (fun c47 => ?_)
      · skip
        refine SL_nil ?_
        refine nx ?_
        refine SWP_ct rfl ?_
        refine SWP_seq ?_
        refine SWP_region ?_
        refine lw (v := .agg _) B4 0 rfl rfl rfl rfl ?_
        refine sw (v := .agg _) B6 0 rfl rfl rfl rfl rfl rfl rfl ?_
        refine pI rfl rfl ?_
        refine SL_nil ?_
        refine nx ?_
        refine SWP_ret ?_
        refine nr ?_
        refine nr ?_
        refine fin [_, _] ⟨⟨_, _, rfl, Rd.of_cells (MemO.mem (B := B6)), rfl⟩, rfl, trivial⟩ ?_
        left
        have e : ballErr g pre b = 3 := by
          unfold ballErr
          rw [if_neg (Classical.not_not.2 (by assumption)), if_neg (by assumption), if_pos (by rw [show b.drum = 1 by omega]; show g.main ≤ _; omega)]
        exact ⟨r, by rw [e]; rfl, hr, fun h => by rw [e] at h; exact absurd h (by decide)⟩
      refine SL_nil ?_
      refine nx ?_
      refine SWP_cf rfl ?_
      refine SWP_skip ?_
      refine nx ?_
      refine SWP_tree [(B6, Cells 30 zeroR.enc), (B5, Cells 42 b.enc), (B4, Cells 30 r.enc), (B3, Cells 25 g.enc)] 8 (.one 1 (.one 2 (.one 4 (.one 5 (.fork (.alt 0 (.fork (.alt 3 (.one 6 (.one 7 (.tail [8, 9]))) (.alt 6 (.one 3 (.one 7 (.tail [8, 9]))) (.none)))) (.alt 6 (.one 0 (.one 3 (.one 7 (.tail [8, 9])))) (.none)))))))) (by kernel_rfl) (by kernel_rfl) (by repeat (first | exact Sub.refl _ | exact Sub.nil _ | refine Sub.cons2 _ ?_ | refine Sub.cons _ ?_)) ?_
      refine T1 rfl ?_
      refine pu rfl rfl ?_
      refine SL_nil ?_
      refine T1 rfl ?_
      refine lw (v := .slice _ _ _) B4 0 rfl rfl rfl rfl ?_
      refine SL_nil ?_
      refine T1 rfl ?_
      refine pu rfl rfl ?_
      refine SL_nil ?_
      refine T1 rfl ?_
      refine lw (v := .int .i64 _) B5 2 rfl rfl rfl rfl ?_
      refine SL_nil ?_
      refine TF ?_
      refine TA rfl ?_ ?_
      · skip
        refine bs rfl rfl rfl rfl rfl (fun B49 => ?_)
        refine SL_imp (row_nil _ 1) ?_
        refine SL_nil ?_
        refine TF ?_
        refine TA rfl ?_ ?_
        · skip
          refine apR (e := 3) (size := 1) (bytes := 8) rfl rfl rfl rfl rfl rfl rfl (.row B49 0 0 [] rfl (Nat.le_refl _) (Nat.zero_le _)) (by first | exact .refl _ | exact .swap _ _ _) rfl hr.mn (all_intE _) (room1 hmain) rfl rfl (fun v52 σ52 hown52 => ?_)
          refine SL_nil ?_
          refine T1 rfl ?_
          refine bs rfl rfl rfl rfl rfl (fun B55 => ?_)
          refine SL_nil ?_
          refine T1 rfl ?_
          refine ap (e := 3) (size := 1) (bytes := 8) rfl rfl rfl rfl rfl rfl rfl hown52 (by first | exact .refl _ | exact permX [_] σ52 _) rfl (Rd.of_cells (MemO.mem (B := B55))) rfl rfl (room2 hmain) rfl rfl (fun v56 σ56 hown56 => ?_)
          have hown9 : OwnS 3 1 v56 ((numsD 1 (pre ++ [b])).flatMap intE) σ56 := by
            rw [numsD_snoc, if_pos (by omega), List.flatMap_append, ← ho.mn]
            exact hown56
          obtain ⟨a9, k9, rfl⟩ := hown9.lenL (by omega) intE_len
          refine SL_nil ?_
          refine TT ?_
          refine pu rfl rfl ?_
          refine sw (v := .slice _ _ _) B4 0 rfl rfl rfl rfl rfl rfl rfl ?_
          refine SL_nil ?_
          refine on_ ?_
          refine nx ?_
          refine SWP_seq ?_
          refine SWP_seq ?_
          refine SWP_region ?_
          refine pu rfl rfl ?_
          refine lw (v := .int .i64 _) B5 1 rfl rfl rfl rfl ?_
          refine pn rfl rfl (by omega) ?_
          refine SL_nil ?_
          refine nx ?_
          refine SWP_cf rfl ?_
          refine SWP_skip ?_
          refine nx ?_
          refine SWP_seq ?_
          refine SWP_seq ?_
          refine SWP_region ?_
          refine pu rfl rfl ?_
          refine lw (v := .int .i64 _) B5 1 rfl rfl rfl rfl ?_
          refine pn rfl rfl (by omega) ?_
          refine SL_nil ?_
          refine nx ?_
          refine SWP_cf rfl ?_
          refine SWP_skip ?_
          refine nx ?_
          refine SWP_seq ?_
          refine SWP_region ?_
          refine lw (v := .agg _) B4 0 rfl rfl rfl rfl ?_
          refine sw (v := .agg _) B6 0 rfl rfl rfl rfl rfl rfl rfl ?_
          refine pI rfl rfl ?_
          refine SL_nil ?_
          refine nx ?_
          refine SWP_ret ?_
          refine fin [_, _] ⟨⟨_, _, rfl, Rd.of_cells (MemO.mem (B := B6)), rfl⟩, rfl, trivial⟩ ?_
          right
          refine ⟨r, 1, a9, k9, _, _, hr, ho, ?_, by omega, by omega, .refl _, hown9, rfl⟩
          unfold ballErr
          rw [if_neg (Classical.not_not.2 (by assumption)), if_neg (by assumption), if_neg (by rw [show b.drum = 1 by omega]; show ¬ g.main ≤ _; omega)]
        refine TA rfl ?_ ?_
        · skip
          refine bs rfl rfl rfl rfl rfl (fun B55 => ?_)
          refine SL_nil ?_
          refine T1 rfl ?_
          refine apR (e := 3) (size := 1) (bytes := 8) rfl rfl rfl rfl rfl rfl rfl (.row B49 0 0 [] rfl (Nat.le_refl _) (Nat.zero_le _)) (by first | exact .refl _ | exact .swap _ _ _) rfl hr.mn (all_intE _) (room1 hmain) rfl rfl (fun v52 σ52 hown52 => ?_)
          refine SL_nil ?_
          refine T1 rfl ?_
          refine ap (e := 3) (size := 1) (bytes := 8) rfl rfl rfl rfl rfl rfl rfl hown52 (by first | exact .refl _ | exact permX [_] σ52 _) rfl (Rd.of_cells (MemO.mem (B := B55))) rfl rfl (room2 hmain) rfl rfl (fun v56 σ56 hown56 => ?_)
          have hown9 : OwnS 3 1 v56 ((numsD 1 (pre ++ [b])).flatMap intE) σ56 := by
            rw [numsD_snoc, if_pos (by omega), List.flatMap_append, ← ho.mn]
            exact hown56
          obtain ⟨a9, k9, rfl⟩ := hown9.lenL (by omega) intE_len
          refine SL_nil ?_
          refine TT ?_
          refine pu rfl rfl ?_
          refine sw (v := .slice _ _ _) B4 0 rfl rfl rfl rfl rfl rfl rfl ?_
          refine SL_nil ?_
          refine on_ ?_
          refine nx ?_
          refine SWP_seq ?_
          refine SWP_seq ?_
          refine SWP_region ?_
          refine pu rfl rfl ?_
          refine lw (v := .int .i64 _) B5 1 rfl rfl rfl rfl ?_
          refine pn rfl rfl (by omega) ?_
          refine SL_nil ?_
          refine nx ?_
          refine SWP_cf rfl ?_
          refine SWP_skip ?_
          refine nx ?_
          refine SWP_seq ?_
          refine SWP_seq ?_
          refine SWP_region ?_
          refine pu rfl rfl ?_
          refine lw (v := .int .i64 _) B5 1 rfl rfl rfl rfl ?_
          refine pn rfl rfl (by omega) ?_
          refine SL_nil ?_
          refine nx ?_
          refine SWP_cf rfl ?_
          refine SWP_skip ?_
          refine nx ?_
          refine SWP_seq ?_
          refine SWP_region ?_
          refine lw (v := .agg _) B4 0 rfl rfl rfl rfl ?_
          refine sw (v := .agg _) B6 0 rfl rfl rfl rfl rfl rfl rfl ?_
          refine pI rfl rfl ?_
          refine SL_nil ?_
          refine nx ?_
          refine SWP_ret ?_
          refine fin [_, _] ⟨⟨_, _, rfl, Rd.of_cells (MemO.mem (B := B6)), rfl⟩, rfl, trivial⟩ ?_
          right
          refine ⟨r, 1, a9, k9, _, _, hr, ho, ?_, by omega, by omega, .refl _, hown9, rfl⟩
          unfold ballErr
          rw [if_neg (Classical.not_not.2 (by assumption)), if_neg (by assumption), if_neg (by rw [show b.drum = 1 by omega]; show ¬ g.main ≤ _; omega)]
        exact True.intro
      refine TA rfl ?_ ?_
      · skip
        refine bs rfl rfl rfl rfl rfl (fun B55 => ?_)
        refine SL_nil ?_
        refine T1 rfl ?_
        refine bs rfl rfl rfl rfl rfl (fun B49 => ?_)
        refine SL_imp (row_nil _ 1) ?_
        refine SL_nil ?_
        refine T1 rfl ?_
        refine apR (e := 3) (size := 1) (bytes := 8) rfl rfl rfl rfl rfl rfl rfl (.row B49 0 0 [] rfl (Nat.le_refl _) (Nat.zero_le _)) (by first | exact .refl _ | exact .swap _ _ _) rfl hr.mn (all_intE _) (room1 hmain) rfl rfl (fun v52 σ52 hown52 => ?_)
        refine SL_nil ?_
        refine T1 rfl ?_
        refine ap (e := 3) (size := 1) (bytes := 8) rfl rfl rfl rfl rfl rfl rfl hown52 (by first | exact .refl _ | exact permX [_] σ52 _) rfl (Rd.of_cells (MemO.mem (B := B55))) rfl rfl (room2 hmain) rfl rfl (fun v56 σ56 hown56 => ?_)
        have hown9 : OwnS 3 1 v56 ((numsD 1 (pre ++ [b])).flatMap intE) σ56 := by
          rw [numsD_snoc, if_pos (by omega), List.flatMap_append, ← ho.mn]
          exact hown56
        obtain ⟨a9, k9, rfl⟩ := hown9.lenL (by omega) intE_len
        refine SL_nil ?_
        refine TT ?_
        refine pu rfl rfl ?_
        refine sw (v := .slice _ _ _) B4 0 rfl rfl rfl rfl rfl rfl rfl ?_
        refine SL_nil ?_
        refine on_ ?_
        refine nx ?_
        refine SWP_seq ?_
        refine SWP_seq ?_
        refine SWP_region ?_
        refine pu rfl rfl ?_
        refine lw (v := .int .i64 _) B5 1 rfl rfl rfl rfl ?_
        refine pn rfl rfl (by omega) ?_
        refine SL_nil ?_
        refine nx ?_
        refine SWP_cf rfl ?_
        refine SWP_skip ?_
        refine nx ?_
        refine SWP_seq ?_
        refine SWP_seq ?_
        refine SWP_region ?_
        refine pu rfl rfl ?_
        refine lw (v := .int .i64 _) B5 1 rfl rfl rfl rfl ?_
        refine pn rfl rfl (by omega) ?_
        refine SL_nil ?_
        refine nx ?_
        refine SWP_cf rfl ?_
        refine SWP_skip ?_
        refine nx ?_
        refine SWP_seq ?_
        refine SWP_region ?_
        refine lw (v := .agg _) B4 0 rfl rfl rfl rfl ?_
        refine sw (v := .agg _) B6 0 rfl rfl rfl rfl rfl rfl rfl ?_
        refine pI rfl rfl ?_
        refine SL_nil ?_
        refine nx ?_
        refine SWP_ret ?_
        refine fin [_, _] ⟨⟨_, _, rfl, Rd.of_cells (MemO.mem (B := B6)), rfl⟩, rfl, trivial⟩ ?_
        right
        refine ⟨r, 1, a9, k9, _, _, hr, ho, ?_, by omega, by omega, .refl _, hown9, rfl⟩
        unfold ballErr
        rw [if_neg (Classical.not_not.2 (by assumption)), if_neg (by assumption), if_neg (by rw [show b.drum = 1 by omega]; show ¬ g.main ≤ _; omega)]
      exact True.intro
    refine SL_nil ?_
    refine nx ?_
    refine SWP_cf rfl ?_
    refine SWP_skip ?_
    refine nx ?_
    refine SWP_seq ?_
    refine SWP_seq ?_
    refine SWP_region ?_
    refine pu rfl rfl ?_
    refine lw (v := .int .i64 _) B5 1 rfl rfl rfl rfl ?_
    refine pc rfl rfl (fun c60 => ?_) (fun c60 => ?_)
    · skip
      refine SL_nil ?_
      refine nx ?_
      refine SWP_ct rfl ?_
      refine SWP_seq ?_
      refine SWP_seq ?_
      refine SWP_region ?_
      refine pu rfl rfl ?_
      refine lw (v := .slice _ _ _) B4 1 rfl rfl rfl rfl ?_
      refine pu rfl rfl ?_
      refine pu rfl rfl ?_
      refine lw (v := .int .i64 _) B3 5 rfl rfl rfl rfl ?_
      refine pc rfl rfl (fun c66 => ?_) (fun c66 => ?_)
      · skip
        refine SL_nil ?_
        refine nx ?_
        refine SWP_ct rfl ?_
        refine SWP_seq ?_
        refine SWP_region ?_
        refine lw (v := .agg _) B4 0 rfl rfl rfl rfl ?_
        refine sw (v := .agg _) B6 0 rfl rfl rfl rfl rfl rfl rfl ?_
        refine pI rfl rfl ?_
        refine SL_nil ?_
        refine nx ?_
        refine SWP_ret ?_
        refine nr ?_
        refine nr ?_
        refine fin [_, _] ⟨⟨_, _, rfl, Rd.of_cells (MemO.mem (B := B6)), rfl⟩, rfl, trivial⟩ ?_
        left
        have e : ballErr g pre b = 3 := by
          unfold ballErr
          rw [if_neg (Classical.not_not.2 (by assumption)), if_neg (by assumption), if_pos (by rw [show b.drum = 2 by omega]; show g.bonus ≤ _; omega)]
        exact ⟨r, by rw [e]; rfl, hr, fun h => by rw [e] at h; exact absurd h (by decide)⟩
      refine SL_nil ?_
      refine nx ?_
      refine SWP_cf rfl ?_
      refine SWP_skip ?_
      refine nx ?_
      refine SWP_tree [(B6, Cells 30 zeroR.enc), (B5, Cells 42 b.enc), (B4, Cells 30 r.enc), (B3, Cells 25 g.enc)] 8 (.one 1 (.one 2 (.one 4 (.one 5 (.fork (.alt 0 (.fork (.alt 3 (.one 6 (.one 7 (.tail [8, 9]))) (.alt 6 (.one 3 (.one 7 (.tail [8, 9]))) (.none)))) (.alt 6 (.one 0 (.one 3 (.one 7 (.tail [8, 9])))) (.none)))))))) (by kernel_rfl) (by kernel_rfl) (by repeat (first | exact Sub.refl _ | exact Sub.nil _ | refine Sub.cons2 _ ?_ | refine Sub.cons _ ?_)) ?_
      refine T1 rfl ?_
      refine pu rfl rfl ?_
      refine SL_nil ?_
      refine T1 rfl ?_
      refine lw (v := .slice _ _ _) B4 1 rfl rfl rfl rfl ?_
      refine SL_nil ?_
      refine T1 rfl ?_
      refine pu rfl rfl ?_
      refine SL_nil ?_
      refine T1 rfl ?_
      refine lw (v := .int .i64 _) B5 2 rfl rfl rfl rfl ?_
      refine SL_nil ?_
      refine TF ?_
      refine TA rfl ?_ ?_
      · skip
        refine bs rfl rfl rfl rfl rfl (fun B68 => ?_)
        refine SL_imp (row_nil _ 1) ?_
        refine SL_nil ?_
        refine TF ?_
        refine TA rfl ?_ ?_
        · skip
          refine apR (e := 3) (size := 1) (bytes := 8) rfl rfl rfl rfl rfl rfl rfl (.row B68 0 0 [] rfl (Nat.le_refl _) (Nat.zero_le _)) (by first | exact .refl _ | exact .swap _ _ _) rfl hr.bn (all_intE _) (room1 hbonus) rfl rfl (fun v71 σ71 hown71 => ?_)
          refine SL_nil ?_
          refine T1 rfl ?_
          refine bs rfl rfl rfl rfl rfl (fun B74 => ?_)
          refine SL_nil ?_
          refine T1 rfl ?_
          refine ap (e := 3) (size := 1) (bytes := 8) rfl rfl rfl rfl rfl rfl rfl hown71 (by first | exact .refl _ | exact permX [_] σ71 _) rfl (Rd.of_cells (MemO.mem (B := B74))) rfl rfl (room2 hbonus) rfl rfl (fun v75 σ75 hown75 => ?_)
          have hown9 : OwnS 3 1 v75 ((numsD 2 (pre ++ [b])).flatMap intE) σ75 := by
            rw [numsD_snoc, if_pos (by omega), List.flatMap_append, ← ho.bn]
            exact hown75
          obtain ⟨a9, k9, rfl⟩ := hown9.lenL (by omega) intE_len
          refine SL_nil ?_
          refine TT ?_
          refine pu rfl rfl ?_
          refine sw (v := .slice _ _ _) B4 1 rfl rfl rfl rfl rfl rfl rfl ?_
          refine SL_nil ?_
          refine on_ ?_
          refine nx ?_
          refine SWP_seq ?_
          refine SWP_seq ?_
          refine SWP_region ?_
          refine pu rfl rfl ?_
          refine lw (v := .int .i64 _) B5 1 rfl rfl rfl rfl ?_
          refine pn rfl rfl (by omega) ?_
          refine SL_nil ?_
          refine nx ?_
          refine SWP_cf rfl ?_
          refine SWP_skip ?_
          refine nx ?_
          refine SWP_seq ?_
          refine SWP_region ?_
          refine lw (v := .agg _) B4 0 rfl rfl rfl rfl ?_
          refine sw (v := .agg _) B6 0 rfl rfl rfl rfl rfl rfl rfl ?_
          refine pI rfl rfl ?_
          refine SL_nil ?_
          refine nx ?_
          refine SWP_ret ?_
          refine fin [_, _] ⟨⟨_, _, rfl, Rd.of_cells (MemO.mem (B := B6)), rfl⟩, rfl, trivial⟩ ?_
          right
          refine ⟨r, 2, a9, k9, _, _, hr, ho, ?_, by omega, by omega, .refl _, hown9, rfl⟩
          unfold ballErr
          rw [if_neg (Classical.not_not.2 (by assumption)), if_neg (by assumption), if_neg (by rw [show b.drum = 2 by omega]; show ¬ g.bonus ≤ _; omega)]
        refine TA rfl ?_ ?_
        · skip
          refine bs rfl rfl rfl rfl rfl (fun B74 => ?_)
          refine SL_nil ?_
          refine T1 rfl ?_
          refine apR (e := 3) (size := 1) (bytes := 8) rfl rfl rfl rfl rfl rfl rfl (.row B68 0 0 [] rfl (Nat.le_refl _) (Nat.zero_le _)) (by first | exact .refl _ | exact .swap _ _ _) rfl hr.bn (all_intE _) (room1 hbonus) rfl rfl (fun v71 σ71 hown71 => ?_)
          refine SL_nil ?_
          refine T1 rfl ?_
          refine ap (e := 3) (size := 1) (bytes := 8) rfl rfl rfl rfl rfl rfl rfl hown71 (by first | exact .refl _ | exact permX [_] σ71 _) rfl (Rd.of_cells (MemO.mem (B := B74))) rfl rfl (room2 hbonus) rfl rfl (fun v75 σ75 hown75 => ?_)
          have hown9 : OwnS 3 1 v75 ((numsD 2 (pre ++ [b])).flatMap intE) σ75 := by
            rw [numsD_snoc, if_pos (by omega), List.flatMap_append, ← ho.bn]
            exact hown75
          obtain ⟨a9, k9, rfl⟩ := hown9.lenL (by omega) intE_len
          refine SL_nil ?_
          refine TT ?_
          refine pu rfl rfl ?_
          refine sw (v := .slice _ _ _) B4 1 rfl rfl rfl rfl rfl rfl rfl ?_
          refine SL_nil ?_
          refine on_ ?_
          refine nx ?_
          refine SWP_seq ?_
          refine SWP_seq ?_
          refine SWP_region ?_
          refine pu rfl rfl ?_
          refine lw (v := .int .i64 _) B5 1 rfl rfl rfl rfl ?_
          refine pn rfl rfl (by omega) ?_
          refine SL_nil ?_
          refine nx ?_
          refine SWP_cf rfl ?_
          refine SWP_skip ?_
          refine nx ?_
          refine SWP_seq ?_
          refine SWP_region ?_
          refine lw (v := .agg _) B4 0 rfl rfl rfl rfl ?_
          refine sw (v := .agg _) B6 0 rfl rfl rfl rfl rfl rfl rfl ?_
          refine pI rfl rfl ?_
          refine SL_nil ?_
          refine nx ?_
          refine SWP_ret ?_
          refine fin [_, _] ⟨⟨_, _, rfl, Rd.of_cells (MemO.mem (B := B6)), rfl⟩, rfl, trivial⟩ ?_
          right
          refine ⟨r, 2, a9, k9, _, _, hr, ho, ?_, by omega, by omega, .refl _, hown9, rfl⟩
          unfold ballErr
          rw [if_neg (Classical.not_not.2 (by assumption)), if_neg (by assumption), if_neg (by rw [show b.drum = 2 by omega]; show ¬ g.bonus ≤ _; omega)]
        exact True.intro
      refine TA rfl ?_ ?_
      · skip
        refine bs rfl rfl rfl rfl rfl (fun B74 => ?_)
        refine SL_nil ?_
        refine T1 rfl ?_
        refine bs rfl rfl rfl rfl rfl (fun B68 => ?_)
        refine SL_imp (row_nil _ 1) ?_
        refine SL_nil ?_
        refine T1 rfl ?_
        refine apR (e := 3) (size := 1) (bytes := 8) rfl rfl rfl rfl rfl rfl rfl (.row B68 0 0 [] rfl (Nat.le_refl _) (Nat.zero_le _)) (by first | exact .refl _ | exact .swap _ _ _) rfl hr.bn (all_intE _) (room1 hbonus) rfl rfl (fun v71 σ71 hown71 => ?_)
        refine SL_nil ?_
        refine T1 rfl ?_
        refine ap (e := 3) (size := 1) (bytes := 8) rfl rfl rfl rfl rfl rfl rfl hown71 (by first | exact .refl _ | exact permX [_] σ71 _) rfl (Rd.of_cells (MemO.mem (B := B74))) rfl rfl (room2 hbonus) rfl rfl (fun v75 σ75 hown75 => ?_)
        have hown9 : OwnS 3 1 v75 ((numsD 2 (pre ++ [b])).flatMap intE) σ75 := by
          rw [numsD_snoc, if_pos (by omega), List.flatMap_append, ← ho.bn]
          exact hown75
        obtain ⟨a9, k9, rfl⟩ := hown9.lenL (by omega) intE_len
        refine SL_nil ?_
        refine TT ?_
        refine pu rfl rfl ?_
        refine sw (v := .slice _ _ _) B4 1 rfl rfl rfl rfl rfl rfl rfl ?_
        refine SL_nil ?_
        refine on_ ?_
        refine nx ?_
        refine SWP_seq ?_
        refine SWP_seq ?_
        refine SWP_region ?_
        refine pu rfl rfl ?_
        refine lw (v := .int .i64 _) B5 1 rfl rfl rfl rfl ?_
        refine pn rfl rfl (by omega) ?_
        refine SL_nil ?_
        refine nx ?_
        refine SWP_cf rfl ?_
        refine SWP_skip ?_
        refine nx ?_
        refine SWP_seq ?_
        refine SWP_region ?_
        refine lw (v := .agg _) B4 0 rfl rfl rfl rfl ?_
        refine sw (v := .agg _) B6 0 rfl rfl rfl rfl rfl rfl rfl ?_
        refine pI rfl rfl ?_
        refine SL_nil ?_
        refine nx ?_
        refine SWP_ret ?_
        refine fin [_, _] ⟨⟨_, _, rfl, Rd.of_cells (MemO.mem (B := B6)), rfl⟩, rfl, trivial⟩ ?_
        right
        refine ⟨r, 2, a9, k9, _, _, hr, ho, ?_, by omega, by omega, .refl _, hown9, rfl⟩
        unfold ballErr
        rw [if_neg (Classical.not_not.2 (by assumption)), if_neg (by assumption), if_neg (by rw [show b.drum = 2 by omega]; show ¬ g.bonus ≤ _; omega)]
      exact True.intro
    refine SL_nil ?_
    refine nx ?_
    refine SWP_cf rfl ?_
    refine SWP_skip ?_
    refine nx ?_
    refine SWP_seq ?_
    refine SWP_seq ?_
    refine SWP_region ?_
    refine pu rfl rfl ?_
    refine lw (v := .int .i64 _) B5 1 rfl rfl rfl rfl ?_
    refine pt rfl rfl (by have := inB_drum (by assumption : inB g b); omega) ?_
    refine SL_nil ?_
    refine nx ?_
    refine SWP_ct rfl ?_
    refine SWP_seq ?_
    refine SWP_seq ?_
    refine SWP_region ?_
    refine pu rfl rfl ?_
    refine lw (v := .slice _ _ _) B4 2 rfl rfl rfl rfl ?_
    refine pu rfl rfl ?_
    refine pu rfl rfl ?_
    refine lw (v := .int .i64 _) B3 7 rfl rfl rfl rfl ?_
    refine pc rfl rfl (fun c85 => ?_) (fun c85 => ?_)
    · skip
      refine SL_nil ?_
      refine nx ?_
      refine SWP_ct rfl ?_
      refine SWP_seq ?_
      refine SWP_region ?_
      refine lw (v := .agg _) B4 0 rfl rfl rfl rfl ?_
      refine sw (v := .agg _) B6 0 rfl rfl rfl rfl rfl rfl rfl ?_
      refine pI rfl rfl ?_
      refine SL_nil ?_
      refine nx ?_
      refine SWP_ret ?_
      refine nr ?_
      refine nr ?_
      refine fin [_, _] ⟨⟨_, _, rfl, Rd.of_cells (MemO.mem (B := B6)), rfl⟩, rfl, trivial⟩ ?_
      left
      have e : ballErr g pre b = 3 := by
        unfold ballErr
        rw [if_neg (Classical.not_not.2 (by assumption)), if_neg (by assumption), if_pos (by rw [show b.drum = 3 by omega]; show g.extra ≤ _; omega)]
      exact ⟨r, by rw [e]; rfl, hr, fun h => by rw [e] at h; exact absurd h (by decide)⟩
    refine SL_nil ?_
    refine nx ?_
    refine SWP_cf rfl ?_
    refine SWP_skip ?_
    refine nx ?_
    refine SWP_tree [(B6, Cells 30 zeroR.enc), (B5, Cells 42 b.enc), (B4, Cells 30 r.enc), (B3, Cells 25 g.enc)] 8 (.one 1 (.one 2 (.one 4 (.one 5 (.fork (.alt 0 (.fork (.alt 3 (.one 6 (.one 7 (.tail [8, 9]))) (.alt 6 (.one 3 (.one 7 (.tail [8, 9]))) (.none)))) (.alt 6 (.one 0 (.one 3 (.one 7 (.tail [8, 9])))) (.none)))))))) (by kernel_rfl) (by kernel_rfl) (by repeat (first | exact Sub.refl _ | exact Sub.nil _ | refine Sub.cons2 _ ?_ | refine Sub.cons _ ?_)) ?_
    refine T1 rfl ?_
    refine pu rfl rfl ?_
    refine SL_nil ?_
    refine T1 rfl ?_
    refine lw (v := .slice _ _ _) B4 2 rfl rfl rfl rfl ?_
    refine SL_nil ?_
    refine T1 rfl ?_
    refine pu rfl rfl ?_
    refine SL_nil ?_
    refine T1 rfl ?_
    refine lw (v := .int .i64 _) B5 2 rfl rfl rfl rfl ?_
    refine SL_nil ?_
    refine TF ?_
    refine TA rfl ?_ ?_
    · skip
      refine bs rfl rfl rfl rfl rfl (fun B87 => ?_)
      refine SL_imp (row_nil _ 1) ?_
      refine SL_nil ?_
      refine TF ?_
      refine TA rfl ?_ ?_
      · skip
        refine apR (e := 3) (size := 1) (bytes := 8) rfl rfl rfl rfl rfl rfl rfl (.row B87 0 0 [] rfl (Nat.le_refl _) (Nat.zero_le _)) (by first | exact .refl _ | exact .swap _ _ _) rfl hr.xn (all_intE _) (room1 hextra) rfl rfl (fun v90 σ90 hown90 => ?_)
        refine SL_nil ?_
        refine T1 rfl ?_
        refine bs rfl rfl rfl rfl rfl (fun B93 => ?_)
        refine SL_nil ?_
        refine T1 rfl ?_
        refine ap (e := 3) (size := 1) (bytes := 8) rfl rfl rfl rfl rfl rfl rfl hown90 (by first | exact .refl _ | exact permX [_] σ90 _) rfl (Rd.of_cells (MemO.mem (B := B93))) rfl rfl (room2 hextra) rfl rfl (fun v94 σ94 hown94 => ?_)
        have hown9 : OwnS 3 1 v94 ((numsD 3 (pre ++ [b])).flatMap intE) σ94 := by
          rw [numsD_snoc, if_pos (by omega), List.flatMap_append, ← ho.xn]
          exact hown94
        obtain ⟨a9, k9, rfl⟩ := hown9.lenL (by omega) intE_len
        refine SL_nil ?_
        refine TT ?_
        refine pu rfl rfl ?_
        refine sw (v := .slice _ _ _) B4 2 rfl rfl rfl rfl rfl rfl rfl ?_
        refine SL_nil ?_
        refine on_ ?_
        refine nx ?_
        refine SWP_seq ?_
        refine SWP_region ?_
        refine lw (v := .agg _) B4 0 rfl rfl rfl rfl ?_
        refine sw (v := .agg _) B6 0 rfl rfl rfl rfl rfl rfl rfl ?_
        refine pI rfl rfl ?_
        refine SL_nil ?_
        refine nx ?_
        refine SWP_ret ?_
        refine fin [_, _] ⟨⟨_, _, rfl, Rd.of_cells (MemO.mem (B := B6)), rfl⟩, rfl, trivial⟩ ?_
        right
        refine ⟨r, 3, a9, k9, _, _, hr, ho, ?_, by omega, by omega, .refl _, hown9, rfl⟩
        unfold ballErr
        rw [if_neg (Classical.not_not.2 (by assumption)), if_neg (by assumption), if_neg (by rw [show b.drum = 3 by omega]; show ¬ g.extra ≤ _; omega)]
      refine TA rfl ?_ ?_
      · skip
        refine bs rfl rfl rfl rfl rfl (fun B93 => ?_)
        refine SL_nil ?_
        refine T1 rfl ?_
        refine apR (e := 3) (size := 1) (bytes := 8) rfl rfl rfl rfl rfl rfl rfl (.row B87 0 0 [] rfl (Nat.le_refl _) (Nat.zero_le _)) (by first | exact .refl _ | exact .swap _ _ _) rfl hr.xn (all_intE _) (room1 hextra) rfl rfl (fun v90 σ90 hown90 => ?_)
        refine SL_nil ?_
        refine T1 rfl ?_
        refine ap (e := 3) (size := 1) (bytes := 8) rfl rfl rfl rfl rfl rfl rfl hown90 (by first | exact .refl _ | exact permX [_] σ90 _) rfl (Rd.of_cells (MemO.mem (B := B93))) rfl rfl (room2 hextra) rfl rfl (fun v94 σ94 hown94 => ?_)
        have hown9 : OwnS 3 1 v94 ((numsD 3 (pre ++ [b])).flatMap intE) σ94 := by
          rw [numsD_snoc, if_pos (by omega), List.flatMap_append, ← ho.xn]
          exact hown94
        obtain ⟨a9, k9, rfl⟩ := hown9.lenL (by omega) intE_len
        refine SL_nil ?_
        refine TT ?_
        refine pu rfl rfl ?_
        refine sw (v := .slice _ _ _) B4 2 rfl rfl rfl rfl rfl rfl rfl ?_
        refine SL_nil ?_
        refine on_ ?_
        refine nx ?_
        refine SWP_seq ?_
        refine SWP_region ?_
        refine lw (v := .agg _) B4 0 rfl rfl rfl rfl ?_
        refine sw (v := .agg _) B6 0 rfl rfl rfl rfl rfl rfl rfl ?_
        refine pI rfl rfl ?_
        refine SL_nil ?_
        refine nx ?_
        refine SWP_ret ?_
        refine fin [_, _] ⟨⟨_, _, rfl, Rd.of_cells (MemO.mem (B := B6)), rfl⟩, rfl, trivial⟩ ?_
        right
        refine ⟨r, 3, a9, k9, _, _, hr, ho, ?_, by omega, by omega, .refl _, hown9, rfl⟩
        unfold ballErr
        rw [if_neg (Classical.not_not.2 (by assumption)), if_neg (by assumption), if_neg (by rw [show b.drum = 3 by omega]; show ¬ g.extra ≤ _; omega)]
      exact True.intro
    refine TA rfl ?_ ?_
    · skip
      refine bs rfl rfl rfl rfl rfl (fun B93 => ?_)
      refine SL_nil ?_
      refine T1 rfl ?_
      refine bs rfl rfl rfl rfl rfl (fun B87 => ?_)
      refine SL_imp (row_nil _ 1) ?_
      refine SL_nil ?_
      refine T1 rfl ?_
      refine apR (e := 3) (size := 1) (bytes := 8) rfl rfl rfl rfl rfl rfl rfl (.row B87 0 0 [] rfl (Nat.le_refl _) (Nat.zero_le _)) (by first | exact .refl _ | exact .swap _ _ _) rfl hr.xn (all_intE _) (room1 hextra) rfl rfl (fun v90 σ90 hown90 => ?_)
      refine SL_nil ?_
      refine T1 rfl ?_
      refine ap (e := 3) (size := 1) (bytes := 8) rfl rfl rfl rfl rfl rfl rfl hown90 (by first | exact .refl _ | exact permX [_] σ90 _) rfl (Rd.of_cells (MemO.mem (B := B93))) rfl rfl (room2 hextra) rfl rfl (fun v94 σ94 hown94 => ?_)
      have hown9 : OwnS 3 1 v94 ((numsD 3 (pre ++ [b])).flatMap intE) σ94 := by
        rw [numsD_snoc, if_pos (by omega), List.flatMap_append, ← ho.xn]
        exact hown94
      obtain ⟨a9, k9, rfl⟩ := hown9.lenL (by omega) intE_len
      refine SL_nil ?_
      refine TT ?_
      refine pu rfl rfl ?_
      refine sw (v := .slice _ _ _) B4 2 rfl rfl rfl rfl rfl rfl rfl ?_
      refine SL_nil ?_
      refine on_ ?_
      refine nx ?_
      refine SWP_seq ?_
      refine SWP_region ?_
      refine lw (v := .agg _) B4 0 rfl rfl rfl rfl ?_
      refine sw (v := .agg _) B6 0 rfl rfl rfl rfl rfl rfl rfl ?_
      refine pI rfl rfl ?_
      refine SL_nil ?_
      refine nx ?_
      refine SWP_ret ?_
      refine fin [_, _] ⟨⟨_, _, rfl, Rd.of_cells (MemO.mem (B := B6)), rfl⟩, rfl, trivial⟩ ?_
      right
      refine ⟨r, 3, a9, k9, _, _, hr, ho, ?_, by omega, by omega, .refl _, hown9, rfl⟩
      unfold ballErr
      rw [if_neg (Classical.not_not.2 (by assumption)), if_neg (by assumption), if_neg (by rw [show b.drum = 3 by omega]; show ¬ g.extra ≤ _; omega)]
    exact True.intro
  refine pB rfl rfl ?_
  refine SL_nil ?_
  refine nx ?_
  refine SWP_ct rfl ?_
  refine SWP_seq ?_
  refine SWP_region ?_
  refine lw (v := .agg _) B4 0 rfl rfl rfl rfl ?_
  refine sw (v := .agg _) B6 0 rfl rfl rfl rfl rfl rfl rfl ?_
  refine pI rfl rfl ?_
  refine SL_nil ?_
  refine nx ?_
  refine SWP_ret ?_
  refine nr ?_
  refine fin [_, _] ⟨⟨_, _, rfl, Rd.of_cells (MemO.mem (B := B6)), rfl⟩, rfl, trivial⟩ ?_
  left
  have e : ballErr g pre b = 2 := by
    unfold ballErr
    rw [if_pos (by assumption)]
  exact ⟨r, by rw [e]; rfl, hr, fun h => by rw [e] at h; exact absurd h (by decide)⟩

end Go.Proofs.Ytnpnleapnbdllaa

