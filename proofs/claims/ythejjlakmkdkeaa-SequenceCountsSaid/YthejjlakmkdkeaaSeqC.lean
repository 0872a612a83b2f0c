/- lotterylaw20.SequenceCounts. -/
import Derived.Test.YthejjlakmkdkeaaSeqO
namespace Go.Proofs.Ythejjlakmkdkeaa
open Eng

def gapsL : Int → List Int → Pairs
  | _, [] => []
  | last, n :: S => (if last + 1 < n then [(last + 1, n - 1)] else []) ++ gapsL n S
theorem gapsL_len : ∀ (S : List Int) (last : Int), (gapsL last S).length ≤ S.length
  | [], _ => Nat.le_refl _
  | n :: S, last => by
    unfold gapsL
    rw [List.length_append, List.length_cons]
    have := gapsL_len S n
    split
    · simp only [List.length_singleton]; omega
    · simp only [List.length_nil]; omega
theorem gapsF_L : ∀ (S : List Int) (last : Int) (out : Pairs), out.length + S.length ≤ 64 → gapsF last out S = out ++ gapsL last S
  | [], _, out, _ => by simp [gapsF, gapsL]
  | n :: S, last, out, h => by
    rw [List.length_cons] at h
    unfold gapsF gapsL gapAdd
    by_cases hg : last + 1 < n
    · rw [if_pos ⟨hg, by omega⟩, if_pos hg, gapsF_L S n _ (by rw [List.length_append, List.length_singleton]; omega), List.append_assoc]
    · rw [if_neg (by omega), if_neg hg, gapsF_L S n _ (by omega), List.nil_append]
def topOf : Int → List Int → Int
  | last, [] => last
  | _, n :: S => topOf n S
theorem gl_props : ∀ {S : List Int} {last : Int}, Asc S → (∀ x ∈ S, last < x) → ∀ p ∈ gapsL last S, last < p.1 ∧ p.1 ≤ p.2 ∧ p.2 + 1 ∈ S ∧ p.1 ∉ S ∧ p.2 ∉ S ∧ (p.1 - 1 = last ∨ p.1 - 1 ∈ S)
  | [], _, _, _, p, hp => by cases hp
  | n :: S, last, hA, hl, p, hp => by
    have hA' := List.pairwise_cons.1 hA
    have hn := hl n (by simp)
    unfold gapsL at hp
    rcases List.mem_append.1 hp with hp | hp
    · split at hp
      · rename_i hg
        obtain rfl : p = (last + 1, n - 1) := by simpa using hp
        refine ⟨by show last < last + 1; omega, by show last + 1 ≤ n - 1; omega, ?_, ?_, ?_, .inl (by show last + 1 - 1 = last; omega)⟩
        · show n - 1 + 1 ∈ _
          rw [show n - 1 + 1 = n by omega]; simp
        · intro hm
          rcases List.mem_cons.1 hm with e | hm
          · have e' : last + 1 = n := e
            omega
          · have h1 : n < last + 1 := hA'.1 _ hm
            omega
        · intro hm
          rcases List.mem_cons.1 hm with e | hm
          · have e' : n - 1 = n := e
            omega
          · have h1 : n < n - 1 := hA'.1 _ hm
            omega
      · cases hp
    · obtain ⟨h1, h2, h3, h4, h5, h6⟩ := gl_props hA'.2 hA'.1 p hp
      refine ⟨by omega, h2, List.mem_cons_of_mem _ h3, fun hm => ?_, fun hm => ?_, ?_⟩
      · rcases List.mem_cons.1 hm with e | hm
        · omega
        · exact h4 hm
      · rcases List.mem_cons.1 hm with e | hm
        · omega
        · exact h5 hm
      · rcases h6 with e | h6
        · exact .inr (by rw [e]; simp)
        · exact .inr (List.mem_cons_of_mem _ h6)
theorem gl_sep : ∀ {S : List Int} {last : Int}, Asc S → (∀ x ∈ S, last < x) → (gapsL last S).Pairwise fun p q => p.2 + 1 < q.1
  | [], _, _, _ => List.Pairwise.nil
  | n :: S, last, hA, hl => by
    have hA' := List.pairwise_cons.1 hA
    unfold gapsL
    rw [List.pairwise_append]
    refine ⟨by split <;> simp, gl_sep hA'.2 hA'.1, fun p hp q hq => ?_⟩
    split at hp
    · obtain rfl : p = (last + 1, n - 1) := by simpa using hp
      have h1 := (gl_props hA'.2 hA'.1 q hq).1
      show n - 1 + 1 < q.1
      omega
    · cases hp
def gapLen (p : Int × Int) : Int := p.2 - p.1 + 1
theorem gl_sum : ∀ {S : List Int} {last : Int}, Asc S → (∀ x ∈ S, last < x) → ((gapsL last S).map gapLen).sum = topOf last S - last - (S.length : Nat)
  | [], last, _, _ => by simp [gapsL, topOf]
  | n :: S, last, hA, hl => by
    have hA' := List.pairwise_cons.1 hA
    have hn := hl n (by simp)
    unfold gapsL topOf
    rw [List.map_append, List.sum_append, gl_sum hA'.2 hA'.1, List.length_cons]
    split
    · simp only [List.map_cons, List.map_nil, List.sum_cons, List.sum_nil, gapLen]; push_cast; omega
    · simp only [List.map_nil, List.sum_nil]; push_cast; omega
theorem gl_next : ∀ {S : List Int} {last : Int}, Asc S → (∀ x ∈ S, last < x) → nextFrom (last + 1) S = match gapsL last S with | [] => topOf last S + 1 | p :: _ => p.1
  | [], last, _, _ => rfl
  | n :: S, last, hA, hl => by
    have hA' := List.pairwise_cons.1 hA
    have hn := hl n (by simp)
    unfold gapsL topOf nextFrom
    by_cases hg : last + 1 < n
    · rw [if_neg (by omega), if_pos hg]; rfl
    · rw [if_pos (by omega), if_neg hg, List.nil_append, ← gl_next hA'.2 hA'.1, show last + 1 = n by omega]
theorem topOf_max : ∀ {S : List Int} {last : Int}, Asc S → (∀ x ∈ S, last < x) → (∀ x ∈ S, x ≤ topOf last S) ∧ last ≤ topOf last S ∧ (topOf last S = last ∨ topOf last S ∈ S)
  | [], last, _, _ => ⟨by simp, Int.le_refl _, .inl rfl⟩
  | n :: S, last, hA, hl => by
    have hA' := List.pairwise_cons.1 hA
    have hn := hl n (by simp)
    obtain ⟨h1, h2, h3⟩ := topOf_max hA'.2 hA'.1
    unfold topOf
    refine ⟨fun x hx => ?_, by omega, .inr ?_⟩
    · rcases List.mem_cons.1 hx with rfl | hx
      · exact h2
      · exact h1 x hx
    · rcases h3 with e | h3
      · rw [e]; simp
      · exact List.mem_cons_of_mem _ h3
/-- The greatest number taken, or 0. -/
structure Top (S : List Int) (tp : Int) : Prop where
  ge : ∀ x ∈ S, x ≤ tp
  is : (tp = 0 ∧ S = []) ∨ tp ∈ S
theorem Top.take {most : Int} {S : List Int} {tp n : Int} (h : Top S tp) : Top (takeS most S n) (if takeE most S n = 0 then max tp n else tp) := by
  by_cases he : takeE most S n = 0
  · rw [if_pos he]
    obtain ⟨h1, h2, h3⟩ := takeE_zero he
    unfold takeS
    rw [if_pos he]
    refine ⟨fun x hx => ?_, .inr ?_⟩
    · rcases mem_ins.1 hx with rfl | hx
      · omega
      · have := h.ge x hx; omega
    · rw [mem_ins]
      by_cases hm : tp ≤ n
      · left; omega
      · right
        rw [show max tp n = tp by omega]
        rcases h.is with ⟨e, _⟩ | h
        · omega
        · exact h
  · rw [if_neg he, takeS_none he]; exact h
theorem Top.eq {most : Int} {S : List Int} {tp : Int} (h : Top S tp) (hg : Good most S) : tp = topOf 0 S := by
  obtain ⟨h1, h2, h3⟩ := topOf_max (last := 0) hg.asc fun x hx => by have := (hg.rng x hx).1; omega
  rcases h.is with ⟨rfl, rfl⟩ | hm
  · rfl
  · have := h1 tp hm
    rcases h3 with e | h3
    · have := (hg.rng tp hm).1; omega
    · have := h.ge _ h3; omega
def lastB (G : Pairs) : Int := ((G.getLast?).map (·.2)).getD 0
theorem take_snocP {x : Int × Int} {G : Pairs} {i : Nat} (hx : G[i]? = some x) : G.take (i + 1) = G.take i ++ [x] := by
  have hk := List.getElem?_eq_some_iff.1 hx
  rw [List.take_succ_eq_append_getElem hk.1, hk.2]
/-- All that is known of the gaps. -/
structure Gaps (S : List Int) (tp : Int) (G : Pairs) : Prop where
  at_ : ∀ p ∈ G, 1 ≤ p.1 ∧ p.1 ≤ p.2 ∧ p.2 < tp ∧ p.1 ∉ S ∧ p.2 ∉ S ∧ (1 < p.1 → p.1 - 1 ∈ S) ∧ p.2 + 1 ∈ S
  sep : G.Pairwise fun p q => p.2 + 1 < q.1
  sum : (G.map gapLen).sum = tp - (S.length : Nat)
  next : nextFrom 1 S = match G with | [] => tp + 1 | p :: _ => p.1
theorem Gaps.of {most : Int} {S : List Int} {tp : Int} (h : Top S tp) (hg : Good most S) (hl : S.length ≤ 60) : Gaps S tp (gapsOf S) := by
  have hpos : ∀ x ∈ S, (0 : Int) < x := fun x hx => by have := (hg.rng x hx).1; omega
  have e : gapsOf S = gapsL 0 S := by
    unfold gapsOf
    rw [gapsF_L S 0 [] (by simp; omega)]; rfl
  rw [e]
  have htp := h.eq hg
  refine ⟨fun p hp => ?_, gl_sep hg.asc hpos, ?_, ?_⟩
  · obtain ⟨h1, h2, h3, h4, h5, h6⟩ := gl_props hg.asc hpos p hp
    have h7 := h.ge _ h3
    exact ⟨by omega, h2, by omega, h4, h5, fun h8 => by
      rcases h6 with h6 | h6
      · omega
      · exact h6, h3⟩
  · rw [gl_sum hg.asc hpos, htp]; omega
  · have := gl_next hg.asc hpos
    rw [← htp] at this
    exact this

theorem lastB_snoc (G : Pairs) (p : Int × Int) : lastB (G ++ [p]) = p.2 := by unfold lastB; rw [List.getLast?_append]; rfl
theorem lastB_take {G : Pairs} {k : Nat} {p : Int × Int} (hp : G[k]? = some p) : lastB (G.take (k + 1)) = p.2 := by rw [take_snocP hp, lastB_snoc]
theorem Gaps.lb {S : List Int} {tp : Int} {G : Pairs} (h : Gaps S tp G) : ∀ {k : Nat}, k ≤ G.length → 0 ≤ lastB (G.take k) ∧ (lastB (G.take k) < tp ∨ lastB (G.take k) = 0) ∧ ∀ p, G[k]? = some p → lastB (G.take k) = 0 ∨ lastB (G.take k) + 1 < p.1
  | 0, _ => ⟨Int.le_refl _, .inr rfl, fun _ _ => .inl rfl⟩
  | k + 1, hk => by
    obtain ⟨q, hq⟩ : ∃ q, G[k]? = some q := ⟨_, List.getElem?_eq_getElem (by omega)⟩
    have h1 := h.at_ q (List.mem_of_getElem? hq)
    rw [lastB_take hq]
    refine ⟨by omega, .inl h1.2.2.1, fun p hp => .inr ?_⟩
    have hq' := List.getElem?_eq_some_iff.1 hq
    have hp' := List.getElem?_eq_some_iff.1 hp
    have := List.pairwise_iff_getElem.1 h.sep k (k + 1) hq'.1 hp'.1 (by omega)
    rwa [hq'.2, hp'.2] at this
theorem sum_take_le : ∀ {l : List Int} {k : Nat}, (∀ x ∈ l, 0 ≤ x) → 0 ≤ (l.take k).sum ∧ (l.take k).sum ≤ l.sum
  | [], k, _ => by simp
  | x :: l, 0, h => by
    have h1 := sum_take_le (l := l) (k := l.length) fun y hy => h y (List.mem_cons_of_mem _ hy)
    rw [List.take_length] at h1
    have h2 := h x (by simp)
    simp only [List.take_zero, List.sum_nil, List.sum_cons]; omega
  | x :: l, k + 1, h => by
    have h1 := sum_take_le (l := l) (k := k) fun y hy => h y (List.mem_cons_of_mem _ hy)
    have h2 := h x (by simp)
    simp only [List.take_succ_cons, List.sum_cons]; omega
theorem next_pos {a tp : Int} {G : Pairs} {p : Int × Int} (h : a = match G with | [] => tp + 1 | p :: _ => p.1) (hp : G[0]? = some p) : a = p.1 := by
  cases G with
  | nil => cases hp
  | cons q G => simp only [List.getElem?_cons_zero, Option.some.injEq] at hp; subst hp; exact h
theorem next_nil {a tp : Int} {G : Pairs} (h : a = match G with | [] => tp + 1 | p :: _ => p.1) (hG : G.length = 0) : a = tp + 1 := by
  cases G with
  | nil => exact h
  | cons q G => cases hG
def missOf (G : Pairs) : Int := (G.map gapLen).sum
theorem miss_snoc {G : Pairs} {k : Nat} {p : Int × Int} (hp : G[k]? = some p) : missOf (G.take (k + 1)) = missOf (G.take k) + (p.2 - p.1 + 1) := by
  unfold missOf
  rw [take_snocP hp, List.map_append, List.sum_append]
  simp [gapLen]
theorem Gaps.miss {S : List Int} {tp : Int} {G : Pairs} (h : Gaps S tp G) (k : Nat) : 0 ≤ missOf (G.take k) ∧ missOf (G.take k) ≤ tp - (S.length : Nat) := by
  have h1 := sum_take_le (l := G.map gapLen) (k := k) fun x hx => by
    obtain ⟨p, hp, rfl⟩ := List.mem_map.1 hx
    have := h.at_ p hp
    unfold gapLen; omega
  rw [h.sum, ← List.map_take] at h1
  exact h1

theorem lawSequenceCounts {m : Mem} {v : Value} {l : List Int} (most : Int) (h : RL m intE 1 v l) : CallsS Try.prog 5 [.int .i64 most, v].toArray [] m fun r _ _ => r = .bool true := by
  obtain ⟨a, cap, rfl⟩ := h.len
  refine enter Try.func5 Try.ntmps5 rfl rfl ?_
  refine SWP_seq ?_
  refine SWP_region ?_
  first | refine pu (v := .bool _) rfl rfl ?_ | refine pu rfl rfl ?_
  refine SL_nil ?_
  refine nx ?_
  refine SWP_seq ?_
  refine SWP_seq ?_
  refine SWP_region ?_
  first | refine pu (v := .slice _ _ _) rfl rfl ?_ | refine pu rfl rfl ?_
  refine pu rfl rfl ?_
  refine pc rfl rfl (fun c16 => ?_) (fun c16 => ?_)
  · skip
    refine SL_nil ?_
    refine nx ?_
    refine SWP_ct rfl ?_
    refine SWP_seq ?_
    refine SWP_region ?_
    refine SL_pcall rfl rfl cb11 (awakeOk) rfl ?_
    first | refine pu (v := .bool _) rfl rfl ?_ | refine pu rfl rfl ?_
    refine SL_nil ?_
    refine nx ?_
    refine SWP_ret ?_
    refine nr ?_
    refine fin [_] ⟨rfl, trivial⟩ ?_
    rfl
  · skip
    refine SL_nil ?_
    refine nx ?_
    refine SWP_cf rfl ?_
    refine SWP_skip ?_
    refine nx ?_
    refine SWP_seq ?_
    refine SWP_region ?_
    first | refine pu (v := .int .i64 _) rfl rfl ?_ | refine pu rfl rfl ?_
    refine SL_call rfl rfl cb9 (guNew most) rfl (fun v3_1 σ3_1 m3_1 hl3_1 hR3_1 => ?_)
    obtain ⟨B, M, rfl, rfl, hm3_1⟩ := hR3_1
    have hn3_1 := hm3_1.symm
    subst hn3_1
    first | refine pu (v := .pointer _) rfl rfl ?_ | refine pu rfl rfl ?_
    refine SL_nil ?_
    refine nx ?_
    refine SWP_seq ?_
    refine SWP_region ?_
    first | refine pu (v := .int .i64 _) rfl rfl ?_ | refine pu rfl rfl ?_
    refine SL_nil ?_
    refine nx ?_
    refine SWP_seq ?_
    refine SWP_seq ?_
    refine SWP_region ?_
    first | refine pu (v := .slice _ _ _) rfl rfl ?_ | refine pu rfl rfl ?_
    refine pu rfl rfl ?_
    first | refine pu (v := .int .i64 _) rfl rfl ?_ | refine pu rfl rfl ?_
    refine SL_nil ?_
    refine nx ?_
    refine SWP_block ?_
    refine SWP_loop [6, 7, 22, 23, 24, 25, 26, 27, 28, 29, 30, 31, 32, 33, 34, 35, 36, 37, 38] [6, 22]
        (fun vs σ' m' => ∃ (i low : Nat) (lm : IMap) (S : List Int) (tp : Int), vs = [.int .i64 tp, .int .i64 (i : Nat)] ∧ i ≤ l.length ∧ Rep (clampI most) S low lm ∧ (low : Int) + 1 ∉ keysL lm ∧ S.length ≤ i ∧ Top S tp ∧ σ' = GuC B M (clampI most) low lm ∧ m = m')
        (fun vs => l.length - nOf (vs.getD 1 undef)) rfl ?_ ?_
    · exact ⟨0, 0, [], [], 0, rfl, by omega, Rep.new (clamp_lo _) (clamp_hi _), by simp, by simp, ⟨by simp, .inl ⟨rfl, rfl⟩⟩, rfl, rfl⟩
    · intro u0 vs0 σ0 m0 hJ0 _
      obtain ⟨i, low, lm, S, tp, rfl, hi, hrep, hlow, hSl, htop, rfl, rfl⟩ := hJ0
      refine SWP_seq ?_
      refine SWP_region ?_
      refine pc rfl rfl (fun c23 => ?_) (fun c23 => ?_)
      · skip
        refine SL_nil ?_
        refine nx ?_
        refine SWP_seq ?_
        refine SWP_ct rfl ?_
        refine SWP_skip ?_
        refine nx ?_
        refine SWP_seq ?_
        refine SWP_block ?_
        refine SWP_seq ?_
        refine SWP_region ?_
        first | refine pu (v := .int .i64 _) rfl rfl ?_ | refine pu rfl rfl ?_
        first | refine pu (v := .int .i64 _) rfl rfl ?_ | refine pu rfl rfl ?_
        refine SL_nil ?_
        refine nx ?_
        refine SWP_seq ?_
        obtain ⟨x, hx⟩ : ∃ x, l[i]? = some x := ⟨_, List.getElem?_eq_getElem (by omega)⟩
        obtain ⟨ad, cap', e1, hat⟩ := RL.at1 intE_len h hx
        cases e1
        refine SWP_region ?_
        first | refine pu (v := .pointer _) rfl rfl ?_ | refine pu rfl rfl ?_
        first | refine pu (v := .slice _ _ _) rfl rfl ?_ | refine pu rfl rfl ?_
        first | refine pu (v := .int .i64 _) rfl rfl ?_ | refine pu rfl rfl ?_
        first | refine ia (es := 1) rfl rfl rfl (Nat.mul_one _) rfl rfl (by omega) rfl ?_ | refine iai (es := 1) rfl rfl rfl (Nat.mul_one _) rfl rfl (by omega) (by omega) rfl ?_
        refine ldA (v := .int .i64 _) rfl (by assumption) rfl rfl ?_
        refine SL_call rfl rfl cb14 (guTake hrep hlow x) rfl (fun v8_5 σ8_5 m8_5 hl8_5 hR8_5 => ?_)
        obtain ⟨rfl, hm8_5, low2, lm2, rfl, hrep2, hlow2⟩ := hR8_5
        have hn8_5 := hm8_5.symm
        subst hn8_5
        refine pc rfl rfl (fun c31 => ?_) (fun c31 => ?_)
        · skip
          refine SL_nil ?_
          refine nx ?_
          refine SWP_ct rfl ?_
          refine SWP_region ?_
          first | refine pu (v := .int .i64 _) rfl rfl ?_ | refine pu rfl rfl ?_
          first | refine pu (v := .slice _ _ _) rfl rfl ?_ | refine pu rfl rfl ?_
          first | refine pu (v := .int .i64 _) rfl rfl ?_ | refine pu rfl rfl ?_
          first | refine ia (es := 1) rfl rfl rfl (Nat.mul_one _) rfl rfl (by omega) rfl ?_ | refine iai (es := 1) rfl rfl rfl (Nat.mul_one _) rfl rfl (by omega) (by omega) rfl ?_
          refine ldA (v := .int .i64 _) rfl (by assumption) rfl rfl ?_
          refine pu rfl rfl ?_
          first | refine pu (v := .int .i64 _) rfl rfl ?_ | refine pu rfl rfl ?_
          refine SL_nil ?_
          refine nb ?_
          refine nx ?_
          refine SWP_region ?_
          first | refine pw rfl rfl (w64 (by omega) (by omega)) ?_ | refine pu rfl rfl ?_
          first | refine pu (v := .int .i64 _) rfl rfl ?_ | refine pu rfl rfl ?_
          refine SL_nil ?_
          refine nx ?_
          refine ⟨by repeat (first | exact Under.upds rfl (Under.hav _ _ _) | exact Under.hav _ _ _ | refine Under.upd rfl ?_ | refine Under.upds rfl ?_ | refine Under.hav2 rfl ?_), ?_, ?_⟩
          · have hlen2 := takeS_len (clampI most) S x
            have ht2 := htop.take (most := clampI most) (n := x)
            first | rw [if_pos c31] at ht2 | rw [if_neg c31] at ht2
            exact ⟨i + 1, low2, lm2, takeS (clampI most) S x, _, rfl, by omega, hrep2, hlow2, by omega, ht2, rfl, rfl⟩
          · simp only [L_vals, List.map, List.getD]; show l.length - (i + 1) < l.length - i; omega
        · skip
          refine SL_nil ?_
          refine nx ?_
          refine SWP_cf rfl ?_
          refine SWP_skip ?_
          refine nb ?_
          refine nx ?_
          refine SWP_region ?_
          first | refine pw rfl rfl (w64 (by omega) (by omega)) ?_ | refine pu rfl rfl ?_
          first | refine pu (v := .int .i64 _) rfl rfl ?_ | refine pu rfl rfl ?_
          refine SL_nil ?_
          refine nx ?_
          refine ⟨by repeat (first | exact Under.upds rfl (Under.hav _ _ _) | exact Under.hav _ _ _ | refine Under.upd rfl ?_ | refine Under.upds rfl ?_ | refine Under.hav2 rfl ?_), ?_, ?_⟩
          · have hlen2 := takeS_len (clampI most) S x
            have ht2 := htop.take (most := clampI most) (n := x)
            first | rw [if_pos c31] at ht2 | rw [if_neg c31] at ht2
            exact ⟨i + 1, low2, lm2, takeS (clampI most) S x, _, rfl, by omega, hrep2, hlow2, by omega, ht2, rfl, rfl⟩
          · simp only [L_vals, List.map, List.getD]; show l.length - (i + 1) < l.length - i; omega
      · skip
        refine SL_nil ?_
        refine nx ?_
        refine SWP_seq ?_
        refine SWP_cf rfl ?_
        refine SWP_exit ?_
        refine ne ?_
        refine ne ?_
        refine be rfl ?_
        refine nx ?_
        refine SWP_seq ?_
        refine SWP_region ?_
        first | refine pu (v := .pointer _) rfl rfl ?_ | refine pu rfl rfl ?_
        refine SL_call rfl rfl cb21 (guGaps hrep (by omega)) rfl (fun v11_1 σ11_1 m11_1 hl11_1 hR11_1 => ?_)
        obtain ⟨rfl, hg⟩ := hR11_1
        have hG := Gaps.of htop hrep.good (by omega)
        have hGl := gapsOf_len S
        generalize gapsOf S = G at hg hG hGl
        obtain ⟨ag, capg, rfl⟩ := hg.len
        have htb : 0 ≤ tp ∧ tp ≤ 1048576 := by
          have h1 := hrep.good.m1
          rcases htop.is with ⟨rfl, _⟩ | hm
          · omega
          · have := hrep.good.rng tp hm; omega
        first | refine pu (v := .slice _ _ _) rfl rfl ?_ | refine pu rfl rfl ?_
        refine SL_nil ?_
        refine nx ?_
        refine SWP_seq ?_
        refine SWP_region ?_
        first | refine pu (v := .int .i64 _) rfl rfl ?_ | refine pu rfl rfl ?_
        first | refine pu (v := .int .i64 _) rfl rfl ?_ | refine pu rfl rfl ?_
        refine SL_nil ?_
        refine nx ?_
        refine SWP_seq ?_
        refine SWP_seq ?_
        refine SWP_region ?_
        first | refine pu (v := .slice _ _ _) rfl rfl ?_ | refine pu rfl rfl ?_
        refine pu rfl rfl ?_
        first | refine pu (v := .int .i64 _) rfl rfl ?_ | refine pu rfl rfl ?_
        refine SL_nil ?_
        refine nx ?_
        refine SWP_block ?_
        refine SWP_loop [4, 9, 10, 12, 43, 44, 45, 46, 47, 48, 49, 50, 51, 52, 53, 54, 55, 56, 57, 58, 59, 60, 61, 62, 63, 64, 65, 66, 67, 68, 69, 70, 71, 72, 73, 74, 75, 76, 77, 78, 79, 80, 81, 82, 83, 84, 85, 86, 87, 88, 89, 90, 91, 92, 93, 94, 95, 96, 97, 98, 99, 100, 101, 102, 103, 104, 105, 106, 107, 108, 109, 110, 111, 112, 113, 114, 115, 116, 117] [9, 10, 43]
            (fun vs σ' m' => ∃ (k : Nat), vs = [.int .i64 (missOf (G.take k)), .int .i64 (lastB (G.take k)), .int .i64 (k : Nat)] ∧ k ≤ G.length ∧ σ' = GuC B M (clampI most) low lm ∧ m11_1 = m')
            (fun vs => G.length - nOf (vs.getD 2 undef)) rfl ?_ ?_
        · exact ⟨0, rfl, by omega, rfl, rfl⟩
        · intro u1 vs1 σ1 m1 hJ1 _
          obtain ⟨k, rfl, hk, rfl, rfl⟩ := hJ1
          refine SWP_seq ?_
          refine SWP_region ?_
          refine pc rfl rfl (fun c44 => ?_) (fun c44 => ?_)
          · skip
            refine SL_nil ?_
            refine nx ?_
            refine SWP_seq ?_
            refine SWP_ct rfl ?_
            refine SWP_skip ?_
            refine nx ?_
            refine SWP_seq ?_
            refine SWP_block ?_
            refine SWP_seq ?_
            obtain ⟨p, hp⟩ : ∃ p, G[k]? = some p := ⟨_, List.getElem?_eq_getElem (by omega)⟩
            obtain ⟨ad2, cap2, e2, hat2⟩ := RL.at_ pairE_len hg hp
            cases e2
            obtain ⟨hp1, hp2, hp3, hp4, hp5, hp6, hp7⟩ := hG.at_ p (List.mem_of_getElem? hp)
            obtain ⟨hb1, hb2, hb3⟩ := hG.lb hk
            have hb4 := hb3 p hp
            have hm1 := hG.miss k
            refine SWP_region ?_
            first | refine ia (es := 2) rfl rfl rfl rfl rfl rfl (by omega) rfl ?_ | refine iai (es := 2) rfl rfl rfl rfl rfl rfl (by omega) (by omega) rfl ?_
            refine ldA (v := .agg _) rfl (by assumption) rfl rfl ?_
            refine al rfl rfl (fun B12 => ?_)
            first | refine st (v := .agg _) (off := 0) (σ₁ := []) rfl rfl rfl rfl rfl rfl rfl rfl ?_ | refine st (v := .agg _) (off := 0) (σ₁ := [_]) rfl rfl rfl rfl rfl rfl rfl rfl ?_ | refine st (v := .agg _) (off := 0) (σ₁ := [_, _]) rfl rfl rfl rfl rfl rfl rfl rfl ?_ | refine st (v := .agg _) (off := 0) (σ₁ := [_, _, _]) rfl rfl rfl rfl rfl rfl rfl rfl ?_ | refine st (v := .agg _) (off := 0) (σ₁ := [_, _, _, _]) rfl rfl rfl rfl rfl rfl rfl rfl ?_ | refine st (v := .agg _) (off := 0) (σ₁ := [_, _, _, _, _]) rfl rfl rfl rfl rfl rfl rfl rfl ?_ | refine st (v := .agg _) (off := 0) (σ₁ := [_, _, _, _, _, _]) rfl rfl rfl rfl rfl rfl rfl rfl ?_
            refine SL_nil ?_
            refine nx ?_
            refine SWP_seq ?_
            refine SWP_seq ?_
            refine SWP_region ?_
            refine iar (es := 1) (k := 0) rfl rfl rfl (Nat.mul_one _) rfl rfl (by omega) rfl ?_
            first | refine ld (v := .int .i64 _) (off := 0) (Rd.of_cells (.head _)) rfl rfl rfl rfl ?_ | refine ld (v := .int .i64 _) (off := 0) (Rd.of_cells (.tail _ (.head _))) rfl rfl rfl rfl ?_ | refine ld (v := .int .i64 _) (off := 0) (Rd.of_cells (.tail _ (.tail _ (.head _)))) rfl rfl rfl rfl ?_ | refine ld (v := .int .i64 _) (off := 0) (Rd.of_cells (.tail _ (.tail _ (.tail _ (.head _))))) rfl rfl rfl rfl ?_ | refine ld (v := .int .i64 _) (off := 0) (Rd.of_cells (.tail _ (.tail _ (.tail _ (.tail _ (.head _)))))) rfl rfl rfl rfl ?_ | refine ld (v := .int .i64 _) (off := 0) (Rd.of_cells (.tail _ (.tail _ (.tail _ (.tail _ (.tail _ (.head _))))))) rfl rfl rfl rfl ?_ | refine ld (v := .int .i64 _) (off := 0) (Rd.of_cells (.tail _ (.tail _ (.tail _ (.tail _ (.tail _ (.tail _ (.head _)))))))) rfl rfl rfl rfl ?_
            first | refine pu (v := .int .i64 _) rfl rfl ?_ | refine pu rfl rfl ?_
            first | refine pw rfl rfl (w64 (by omega) (by omega)) ?_ | refine pu rfl rfl ?_
            refine pc rfl rfl (fun c51 => ?_) (fun c51 => ?_)
            · skip
              first | refine pu (v := .bool _) rfl rfl ?_ | refine pu rfl rfl ?_
              refine SL_yes rfl ?_
              first | refine pu (v := .int .i64 _) rfl rfl ?_ | refine pu rfl rfl ?_
              refine SL_yes rfl ?_
              refine pn rfl rfl (by omega) ?_
              first | refine pu (v := .bool _) rfl rfl ?_ | refine pu rfl rfl ?_
              first | refine pu (v := .bool _) rfl rfl ?_ | refine pu rfl rfl ?_
              refine SL_yes rfl ?_
              refine iar (es := 1) (k := 0) rfl rfl rfl (Nat.mul_one _) rfl rfl (by omega) rfl ?_
              refine SL_yes rfl ?_
              first | refine ld (v := .int .i64 _) (off := 0) (Rd.of_cells (.head _)) rfl rfl rfl rfl ?_ | refine ld (v := .int .i64 _) (off := 0) (Rd.of_cells (.tail _ (.head _))) rfl rfl rfl rfl ?_ | refine ld (v := .int .i64 _) (off := 0) (Rd.of_cells (.tail _ (.tail _ (.head _)))) rfl rfl rfl rfl ?_ | refine ld (v := .int .i64 _) (off := 0) (Rd.of_cells (.tail _ (.tail _ (.tail _ (.head _))))) rfl rfl rfl rfl ?_ | refine ld (v := .int .i64 _) (off := 0) (Rd.of_cells (.tail _ (.tail _ (.tail _ (.tail _ (.head _)))))) rfl rfl rfl rfl ?_ | refine ld (v := .int .i64 _) (off := 0) (Rd.of_cells (.tail _ (.tail _ (.tail _ (.tail _ (.tail _ (.head _))))))) rfl rfl rfl rfl ?_ | refine ld (v := .int .i64 _) (off := 0) (Rd.of_cells (.tail _ (.tail _ (.tail _ (.tail _ (.tail _ (.tail _ (.head _)))))))) rfl rfl rfl rfl ?_
              refine SL_yes rfl ?_
              refine pn rfl rfl (by omega) ?_
              first | refine pu (v := .bool _) rfl rfl ?_ | refine pu rfl rfl ?_
              first | refine pu (v := .bool _) rfl rfl ?_ | refine pu rfl rfl ?_
              refine SL_yes rfl ?_
              refine iar (es := 1) (k := 1) rfl rfl rfl (Nat.mul_one _) rfl rfl (by omega) rfl ?_
              refine SL_yes rfl ?_
              first | refine ld (v := .int .i64 _) (off := 1) (Rd.of_cells (.head _)) rfl rfl rfl rfl ?_ | refine ld (v := .int .i64 _) (off := 1) (Rd.of_cells (.tail _ (.head _))) rfl rfl rfl rfl ?_ | refine ld (v := .int .i64 _) (off := 1) (Rd.of_cells (.tail _ (.tail _ (.head _)))) rfl rfl rfl rfl ?_ | refine ld (v := .int .i64 _) (off := 1) (Rd.of_cells (.tail _ (.tail _ (.tail _ (.head _))))) rfl rfl rfl rfl ?_ | refine ld (v := .int .i64 _) (off := 1) (Rd.of_cells (.tail _ (.tail _ (.tail _ (.tail _ (.head _)))))) rfl rfl rfl rfl ?_ | refine ld (v := .int .i64 _) (off := 1) (Rd.of_cells (.tail _ (.tail _ (.tail _ (.tail _ (.tail _ (.head _))))))) rfl rfl rfl rfl ?_ | refine ld (v := .int .i64 _) (off := 1) (Rd.of_cells (.tail _ (.tail _ (.tail _ (.tail _ (.tail _ (.tail _ (.head _)))))))) rfl rfl rfl rfl ?_
              refine SL_yes rfl ?_
              refine iar (es := 1) (k := 0) rfl rfl rfl (Nat.mul_one _) rfl rfl (by omega) rfl ?_
              refine SL_yes rfl ?_
              first | refine ld (v := .int .i64 _) (off := 0) (Rd.of_cells (.head _)) rfl rfl rfl rfl ?_ | refine ld (v := .int .i64 _) (off := 0) (Rd.of_cells (.tail _ (.head _))) rfl rfl rfl rfl ?_ | refine ld (v := .int .i64 _) (off := 0) (Rd.of_cells (.tail _ (.tail _ (.head _)))) rfl rfl rfl rfl ?_ | refine ld (v := .int .i64 _) (off := 0) (Rd.of_cells (.tail _ (.tail _ (.tail _ (.head _))))) rfl rfl rfl rfl ?_ | refine ld (v := .int .i64 _) (off := 0) (Rd.of_cells (.tail _ (.tail _ (.tail _ (.tail _ (.head _)))))) rfl rfl rfl rfl ?_ | refine ld (v := .int .i64 _) (off := 0) (Rd.of_cells (.tail _ (.tail _ (.tail _ (.tail _ (.tail _ (.head _))))))) rfl rfl rfl rfl ?_ | refine ld (v := .int .i64 _) (off := 0) (Rd.of_cells (.tail _ (.tail _ (.tail _ (.tail _ (.tail _ (.tail _ (.head _)))))))) rfl rfl rfl rfl ?_
              refine SL_yes rfl ?_
              refine pn rfl rfl (by omega) ?_
              first | refine pu (v := .bool _) rfl rfl ?_ | refine pu rfl rfl ?_
              first | refine pu (v := .bool _) rfl rfl ?_ | refine pu rfl rfl ?_
              refine SL_yes rfl ?_
              refine iar (es := 1) (k := 1) rfl rfl rfl (Nat.mul_one _) rfl rfl (by omega) rfl ?_
              refine SL_yes rfl ?_
              first | refine ld (v := .int .i64 _) (off := 1) (Rd.of_cells (.head _)) rfl rfl rfl rfl ?_ | refine ld (v := .int .i64 _) (off := 1) (Rd.of_cells (.tail _ (.head _))) rfl rfl rfl rfl ?_ | refine ld (v := .int .i64 _) (off := 1) (Rd.of_cells (.tail _ (.tail _ (.head _)))) rfl rfl rfl rfl ?_ | refine ld (v := .int .i64 _) (off := 1) (Rd.of_cells (.tail _ (.tail _ (.tail _ (.head _))))) rfl rfl rfl rfl ?_ | refine ld (v := .int .i64 _) (off := 1) (Rd.of_cells (.tail _ (.tail _ (.tail _ (.tail _ (.head _)))))) rfl rfl rfl rfl ?_ | refine ld (v := .int .i64 _) (off := 1) (Rd.of_cells (.tail _ (.tail _ (.tail _ (.tail _ (.tail _ (.head _))))))) rfl rfl rfl rfl ?_ | refine ld (v := .int .i64 _) (off := 1) (Rd.of_cells (.tail _ (.tail _ (.tail _ (.tail _ (.tail _ (.tail _ (.head _)))))))) rfl rfl rfl rfl ?_
              refine SL_yes rfl ?_
              first | refine pu (v := .int .i64 _) rfl rfl ?_ | refine pu rfl rfl ?_
              refine SL_yes rfl ?_
              refine pn rfl rfl (by omega) ?_
              first | refine pu (v := .bool _) rfl rfl ?_ | refine pu rfl rfl ?_
              first | refine pu (v := .bool _) rfl rfl ?_ | refine pu rfl rfl ?_
              refine SL_yes rfl ?_
              first | refine pu (v := .pointer _) rfl rfl ?_ | refine pu rfl rfl ?_
              refine SL_yes rfl ?_
              refine iar (es := 1) (k := 0) rfl rfl rfl (Nat.mul_one _) rfl rfl (by omega) rfl ?_
              refine SL_yes rfl ?_
              first | refine ld (v := .int .i64 _) (off := 0) (Rd.of_cells (.head _)) rfl rfl rfl rfl ?_ | refine ld (v := .int .i64 _) (off := 0) (Rd.of_cells (.tail _ (.head _))) rfl rfl rfl rfl ?_ | refine ld (v := .int .i64 _) (off := 0) (Rd.of_cells (.tail _ (.tail _ (.head _)))) rfl rfl rfl rfl ?_ | refine ld (v := .int .i64 _) (off := 0) (Rd.of_cells (.tail _ (.tail _ (.tail _ (.head _))))) rfl rfl rfl rfl ?_ | refine ld (v := .int .i64 _) (off := 0) (Rd.of_cells (.tail _ (.tail _ (.tail _ (.tail _ (.head _)))))) rfl rfl rfl rfl ?_ | refine ld (v := .int .i64 _) (off := 0) (Rd.of_cells (.tail _ (.tail _ (.tail _ (.tail _ (.tail _ (.head _))))))) rfl rfl rfl rfl ?_ | refine ld (v := .int .i64 _) (off := 0) (Rd.of_cells (.tail _ (.tail _ (.tail _ (.tail _ (.tail _ (.tail _ (.head _)))))))) rfl rfl rfl rfl ?_
              refine SL_yes rfl ?_
              refine SL_call rfl rfl cb12 (CallsS.subF [_] (guSeen hrep (p.1)) (List.perm_append_comm (l₁ := [_]))) rfl (fun v16_31 σ16_31 m16_31 hl16_31 hR16_31 => ?_)
              obtain ⟨σ₁, rfl, rfl, rfl, hm16_31⟩ := hR16_31
              have hn16_31 := hm16_31.symm
              subst hn16_31
              rw [decide_eq_false (show p.1 ∉ S from hp4)]
              first | refine pu (v := .bool _) rfl rfl ?_ | refine pu rfl rfl ?_
              first | refine pu (v := .bool _) rfl rfl ?_ | refine pu rfl rfl ?_
              refine SL_yes rfl ?_
              first | refine pu (v := .pointer _) rfl rfl ?_ | refine pu rfl rfl ?_
              refine SL_yes rfl ?_
              refine iar (es := 1) (k := 1) rfl rfl rfl (Nat.mul_one _) rfl rfl (by omega) rfl ?_
              refine SL_yes rfl ?_
              first | refine ld (v := .int .i64 _) (off := 1) (Rd.of_cells (.head _)) rfl rfl rfl rfl ?_ | refine ld (v := .int .i64 _) (off := 1) (Rd.of_cells (.tail _ (.head _))) rfl rfl rfl rfl ?_ | refine ld (v := .int .i64 _) (off := 1) (Rd.of_cells (.tail _ (.tail _ (.head _)))) rfl rfl rfl rfl ?_ | refine ld (v := .int .i64 _) (off := 1) (Rd.of_cells (.tail _ (.tail _ (.tail _ (.head _))))) rfl rfl rfl rfl ?_ | refine ld (v := .int .i64 _) (off := 1) (Rd.of_cells (.tail _ (.tail _ (.tail _ (.tail _ (.head _)))))) rfl rfl rfl rfl ?_ | refine ld (v := .int .i64 _) (off := 1) (Rd.of_cells (.tail _ (.tail _ (.tail _ (.tail _ (.tail _ (.head _))))))) rfl rfl rfl rfl ?_ | refine ld (v := .int .i64 _) (off := 1) (Rd.of_cells (.tail _ (.tail _ (.tail _ (.tail _ (.tail _ (.tail _ (.head _)))))))) rfl rfl rfl rfl ?_
              refine SL_yes rfl ?_
              refine SL_call rfl rfl cb12 (CallsS.subF [_] (guSeen hrep (p.2)) (.refl _)) rfl (fun v16_37 σ16_37 m16_37 hl16_37 hR16_37 => ?_)
              obtain ⟨σ₁, rfl, rfl, rfl, hm16_37⟩ := hR16_37
              have hn16_37 := hm16_37.symm
              subst hn16_37
              rw [decide_eq_false (show p.2 ∉ S from hp5)]
              first | refine pu (v := .bool _) rfl rfl ?_ | refine pu rfl rfl ?_
              first | refine pu (v := .bool _) rfl rfl ?_ | refine pu rfl rfl ?_
              refine SL_yes rfl ?_
              refine iar (es := 1) (k := 0) rfl rfl rfl (Nat.mul_one _) rfl rfl (by omega) rfl ?_
              refine SL_yes rfl ?_
              first | refine ld (v := .int .i64 _) (off := 0) (Rd.of_cells (.head _)) rfl rfl rfl rfl ?_ | refine ld (v := .int .i64 _) (off := 0) (Rd.of_cells (.tail _ (.head _))) rfl rfl rfl rfl ?_ | refine ld (v := .int .i64 _) (off := 0) (Rd.of_cells (.tail _ (.tail _ (.head _)))) rfl rfl rfl rfl ?_ | refine ld (v := .int .i64 _) (off := 0) (Rd.of_cells (.tail _ (.tail _ (.tail _ (.head _))))) rfl rfl rfl rfl ?_ | refine ld (v := .int .i64 _) (off := 0) (Rd.of_cells (.tail _ (.tail _ (.tail _ (.tail _ (.head _)))))) rfl rfl rfl rfl ?_ | refine ld (v := .int .i64 _) (off := 0) (Rd.of_cells (.tail _ (.tail _ (.tail _ (.tail _ (.tail _ (.head _))))))) rfl rfl rfl rfl ?_ | refine ld (v := .int .i64 _) (off := 0) (Rd.of_cells (.tail _ (.tail _ (.tail _ (.tail _ (.tail _ (.tail _ (.head _)))))))) rfl rfl rfl rfl ?_
              refine SL_yes rfl ?_
              refine pc rfl rfl (fun c89 => ?_) (fun c89 => ?_)
              · skip
                refine SL_yes rfl ?_
                first | refine pu (v := .bool _) rfl rfl ?_ | refine pu rfl rfl ?_
                refine SL_yes rfl ?_
                first | refine pu (v := .pointer _) rfl rfl ?_ | refine pu rfl rfl ?_
                refine SL_yes rfl ?_
                refine iar (es := 1) (k := 0) rfl rfl rfl (Nat.mul_one _) rfl rfl (by omega) rfl ?_
                refine SL_yes rfl ?_
                first | refine ld (v := .int .i64 _) (off := 0) (Rd.of_cells (.head _)) rfl rfl rfl rfl ?_ | refine ld (v := .int .i64 _) (off := 0) (Rd.of_cells (.tail _ (.head _))) rfl rfl rfl rfl ?_ | refine ld (v := .int .i64 _) (off := 0) (Rd.of_cells (.tail _ (.tail _ (.head _)))) rfl rfl rfl rfl ?_ | refine ld (v := .int .i64 _) (off := 0) (Rd.of_cells (.tail _ (.tail _ (.tail _ (.head _))))) rfl rfl rfl rfl ?_ | refine ld (v := .int .i64 _) (off := 0) (Rd.of_cells (.tail _ (.tail _ (.tail _ (.tail _ (.head _)))))) rfl rfl rfl rfl ?_ | refine ld (v := .int .i64 _) (off := 0) (Rd.of_cells (.tail _ (.tail _ (.tail _ (.tail _ (.tail _ (.head _))))))) rfl rfl rfl rfl ?_ | refine ld (v := .int .i64 _) (off := 0) (Rd.of_cells (.tail _ (.tail _ (.tail _ (.tail _ (.tail _ (.tail _ (.head _)))))))) rfl rfl rfl rfl ?_
                refine SL_yes rfl ?_
                first | refine pw rfl rfl (w64 (by omega) (by omega)) ?_ | refine pu rfl rfl ?_
                refine SL_yes rfl ?_
                refine SL_call rfl rfl cb12 (CallsS.subF [_] (guSeen hrep (p.1 - 1)) (.refl _)) rfl (fun v16_48 σ16_48 m16_48 hl16_48 hR16_48 => ?_)
                obtain ⟨σ₁, rfl, rfl, rfl, hm16_48⟩ := hR16_48
                have hn16_48 := hm16_48.symm
                subst hn16_48
                rw [decide_eq_true (show p.1 - 1 ∈ S from hp6 (by omega))]
                refine SL_yes rfl ?_
                first | refine pu (v := .bool _) rfl rfl ?_ | refine pu rfl rfl ?_
                refine SL_yes rfl ?_
                first | refine pu (v := .bool _) rfl rfl ?_ | refine pu rfl rfl ?_
                first | refine pu (v := .bool _) rfl rfl ?_ | refine pu rfl rfl ?_
                first | refine pu (v := .bool _) rfl rfl ?_ | refine pu rfl rfl ?_
                refine SL_yes rfl ?_
                first | refine pu (v := .pointer _) rfl rfl ?_ | refine pu rfl rfl ?_
                refine SL_yes rfl ?_
                refine iar (es := 1) (k := 1) rfl rfl rfl (Nat.mul_one _) rfl rfl (by omega) rfl ?_
                refine SL_yes rfl ?_
                first | refine ld (v := .int .i64 _) (off := 1) (Rd.of_cells (.head _)) rfl rfl rfl rfl ?_ | refine ld (v := .int .i64 _) (off := 1) (Rd.of_cells (.tail _ (.head _))) rfl rfl rfl rfl ?_ | refine ld (v := .int .i64 _) (off := 1) (Rd.of_cells (.tail _ (.tail _ (.head _)))) rfl rfl rfl rfl ?_ | refine ld (v := .int .i64 _) (off := 1) (Rd.of_cells (.tail _ (.tail _ (.tail _ (.head _))))) rfl rfl rfl rfl ?_ | refine ld (v := .int .i64 _) (off := 1) (Rd.of_cells (.tail _ (.tail _ (.tail _ (.tail _ (.head _)))))) rfl rfl rfl rfl ?_ | refine ld (v := .int .i64 _) (off := 1) (Rd.of_cells (.tail _ (.tail _ (.tail _ (.tail _ (.tail _ (.head _))))))) rfl rfl rfl rfl ?_ | refine ld (v := .int .i64 _) (off := 1) (Rd.of_cells (.tail _ (.tail _ (.tail _ (.tail _ (.tail _ (.tail _ (.head _)))))))) rfl rfl rfl rfl ?_
                refine SL_yes rfl ?_
                first | refine pw rfl rfl (w64 (by omega) (by omega)) ?_ | refine pu rfl rfl ?_
                refine SL_yes rfl ?_
                refine SL_call rfl rfl cb12 (CallsS.subF [_] (guSeen hrep (p.2 + 1)) (.refl _)) rfl (fun v16_57 σ16_57 m16_57 hl16_57 hR16_57 => ?_)
                obtain ⟨σ₁, rfl, rfl, rfl, hm16_57⟩ := hR16_57
                have hn16_57 := hm16_57.symm
                subst hn16_57
                rw [decide_eq_true (show p.2 + 1 ∈ S from hp7)]
                refine SL_yes rfl ?_
                first | refine pu (v := .bool _) rfl rfl ?_ | refine pu rfl rfl ?_
                first | refine pu (v := .bool _) rfl rfl ?_ | refine pu rfl rfl ?_
                refine SL_nil ?_
                refine nx ?_
                refine SWP_cf rfl ?_
                refine SWP_skip ?_
                refine nx ?_
                refine SWP_seq ?_
                refine SWP_region ?_
                first | refine pu (v := .int .i64 _) rfl rfl ?_ | refine pu rfl rfl ?_
                refine iar (es := 1) (k := 1) rfl rfl rfl (Nat.mul_one _) rfl rfl (by omega) rfl ?_
                first | refine ld (v := .int .i64 _) (off := 1) (Rd.of_cells (.head _)) rfl rfl rfl rfl ?_ | refine ld (v := .int .i64 _) (off := 1) (Rd.of_cells (.tail _ (.head _))) rfl rfl rfl rfl ?_ | refine ld (v := .int .i64 _) (off := 1) (Rd.of_cells (.tail _ (.tail _ (.head _)))) rfl rfl rfl rfl ?_ | refine ld (v := .int .i64 _) (off := 1) (Rd.of_cells (.tail _ (.tail _ (.tail _ (.head _))))) rfl rfl rfl rfl ?_ | refine ld (v := .int .i64 _) (off := 1) (Rd.of_cells (.tail _ (.tail _ (.tail _ (.tail _ (.head _)))))) rfl rfl rfl rfl ?_ | refine ld (v := .int .i64 _) (off := 1) (Rd.of_cells (.tail _ (.tail _ (.tail _ (.tail _ (.tail _ (.head _))))))) rfl rfl rfl rfl ?_ | refine ld (v := .int .i64 _) (off := 1) (Rd.of_cells (.tail _ (.tail _ (.tail _ (.tail _ (.tail _ (.tail _ (.head _)))))))) rfl rfl rfl rfl ?_
                refine iar (es := 1) (k := 0) rfl rfl rfl (Nat.mul_one _) rfl rfl (by omega) rfl ?_
                first | refine ld (v := .int .i64 _) (off := 0) (Rd.of_cells (.head _)) rfl rfl rfl rfl ?_ | refine ld (v := .int .i64 _) (off := 0) (Rd.of_cells (.tail _ (.head _))) rfl rfl rfl rfl ?_ | refine ld (v := .int .i64 _) (off := 0) (Rd.of_cells (.tail _ (.tail _ (.head _)))) rfl rfl rfl rfl ?_ | refine ld (v := .int .i64 _) (off := 0) (Rd.of_cells (.tail _ (.tail _ (.tail _ (.head _))))) rfl rfl rfl rfl ?_ | refine ld (v := .int .i64 _) (off := 0) (Rd.of_cells (.tail _ (.tail _ (.tail _ (.tail _ (.head _)))))) rfl rfl rfl rfl ?_ | refine ld (v := .int .i64 _) (off := 0) (Rd.of_cells (.tail _ (.tail _ (.tail _ (.tail _ (.tail _ (.head _))))))) rfl rfl rfl rfl ?_ | refine ld (v := .int .i64 _) (off := 0) (Rd.of_cells (.tail _ (.tail _ (.tail _ (.tail _ (.tail _ (.tail _ (.head _)))))))) rfl rfl rfl rfl ?_
                first | refine pw rfl rfl (w64 (by omega) (by omega)) ?_ | refine pu rfl rfl ?_
                first | refine pw rfl rfl (w64 (by omega) (by omega)) ?_ | refine pu rfl rfl ?_
                first | refine pw rfl rfl (w64 (by omega) (by omega)) ?_ | refine pu rfl rfl ?_
                first | refine pu (v := .int .i64 _) rfl rfl ?_ | refine pu rfl rfl ?_
                refine SL_nil ?_
                refine nx ?_
                refine SWP_region ?_
                refine iar (es := 1) (k := 1) rfl rfl rfl (Nat.mul_one _) rfl rfl (by omega) rfl ?_
                first | refine ld (v := .int .i64 _) (off := 1) (Rd.of_cells (.head _)) rfl rfl rfl rfl ?_ | refine ld (v := .int .i64 _) (off := 1) (Rd.of_cells (.tail _ (.head _))) rfl rfl rfl rfl ?_ | refine ld (v := .int .i64 _) (off := 1) (Rd.of_cells (.tail _ (.tail _ (.head _)))) rfl rfl rfl rfl ?_ | refine ld (v := .int .i64 _) (off := 1) (Rd.of_cells (.tail _ (.tail _ (.tail _ (.head _))))) rfl rfl rfl rfl ?_ | refine ld (v := .int .i64 _) (off := 1) (Rd.of_cells (.tail _ (.tail _ (.tail _ (.tail _ (.head _)))))) rfl rfl rfl rfl ?_ | refine ld (v := .int .i64 _) (off := 1) (Rd.of_cells (.tail _ (.tail _ (.tail _ (.tail _ (.tail _ (.head _))))))) rfl rfl rfl rfl ?_ | refine ld (v := .int .i64 _) (off := 1) (Rd.of_cells (.tail _ (.tail _ (.tail _ (.tail _ (.tail _ (.tail _ (.head _)))))))) rfl rfl rfl rfl ?_
                first | refine pu (v := .int .i64 _) rfl rfl ?_ | refine pu rfl rfl ?_
                refine SL_nil ?_
                refine nb ?_
                refine nx ?_
                refine SWP_weak (List.sublist_append_left _ _) ?_
                refine SWP_region ?_
                first | refine pw rfl rfl (w64 (by omega) (by omega)) ?_ | refine pu rfl rfl ?_
                first | refine pu (v := .int .i64 _) rfl rfl ?_ | refine pu rfl rfl ?_
                refine SL_nil ?_
                refine nx ?_
                refine ⟨by repeat (first | exact Under.upds rfl (Under.hav _ _ _) | exact Under.hav _ _ _ | refine Under.upd rfl ?_ | refine Under.upds rfl ?_ | refine Under.hav2 rfl ?_), ?_, ?_⟩
                · exact ⟨k + 1, by rw [miss_snoc hp, lastB_take hp]; rfl, by omega, rfl, rfl⟩
                · simp only [L_vals, List.map, List.getD]; show G.length - (k + 1) < G.length - k; omega
              · skip
                refine SL_yes rfl ?_
                first | refine pu (v := .bool _) rfl rfl ?_ | refine pu rfl rfl ?_
                refine SL_no rfl rfl ?_
                refine SL_no rfl rfl ?_
                refine SL_no rfl rfl ?_
                refine SL_no rfl rfl ?_
                refine SL_no rfl rfl ?_
                refine SL_no rfl rfl ?_
                refine SL_yes rfl ?_
                first | refine pu (v := .bool _) rfl rfl ?_ | refine pu rfl rfl ?_
                first | refine pu (v := .bool _) rfl rfl ?_ | refine pu rfl rfl ?_
                first | refine pu (v := .bool _) rfl rfl ?_ | refine pu rfl rfl ?_
                refine SL_yes rfl ?_
                first | refine pu (v := .pointer _) rfl rfl ?_ | refine pu rfl rfl ?_
                refine SL_yes rfl ?_
                refine iar (es := 1) (k := 1) rfl rfl rfl (Nat.mul_one _) rfl rfl (by omega) rfl ?_
                refine SL_yes rfl ?_
                first | refine ld (v := .int .i64 _) (off := 1) (Rd.of_cells (.head _)) rfl rfl rfl rfl ?_ | refine ld (v := .int .i64 _) (off := 1) (Rd.of_cells (.tail _ (.head _))) rfl rfl rfl rfl ?_ | refine ld (v := .int .i64 _) (off := 1) (Rd.of_cells (.tail _ (.tail _ (.head _)))) rfl rfl rfl rfl ?_ | refine ld (v := .int .i64 _) (off := 1) (Rd.of_cells (.tail _ (.tail _ (.tail _ (.head _))))) rfl rfl rfl rfl ?_ | refine ld (v := .int .i64 _) (off := 1) (Rd.of_cells (.tail _ (.tail _ (.tail _ (.tail _ (.head _)))))) rfl rfl rfl rfl ?_ | refine ld (v := .int .i64 _) (off := 1) (Rd.of_cells (.tail _ (.tail _ (.tail _ (.tail _ (.tail _ (.head _))))))) rfl rfl rfl rfl ?_ | refine ld (v := .int .i64 _) (off := 1) (Rd.of_cells (.tail _ (.tail _ (.tail _ (.tail _ (.tail _ (.tail _ (.head _)))))))) rfl rfl rfl rfl ?_
                refine SL_yes rfl ?_
                first | refine pw rfl rfl (w64 (by omega) (by omega)) ?_ | refine pu rfl rfl ?_
                refine SL_yes rfl ?_
                refine SL_call rfl rfl cb12 (CallsS.subF [_] (guSeen hrep (p.2 + 1)) (.refl _)) rfl (fun v16_57 σ16_57 m16_57 hl16_57 hR16_57 => ?_)
                obtain ⟨σ₁, rfl, rfl, rfl, hm16_57⟩ := hR16_57
                have hn16_57 := hm16_57.symm
                subst hn16_57
                rw [decide_eq_true (show p.2 + 1 ∈ S from hp7)]
                refine SL_yes rfl ?_
                first | refine pu (v := .bool _) rfl rfl ?_ | refine pu rfl rfl ?_
                first | refine pu (v := .bool _) rfl rfl ?_ | refine pu rfl rfl ?_
                refine SL_nil ?_
                refine nx ?_
                refine SWP_cf rfl ?_
                refine SWP_skip ?_
                refine nx ?_
                refine SWP_seq ?_
                refine SWP_region ?_
                first | refine pu (v := .int .i64 _) rfl rfl ?_ | refine pu rfl rfl ?_
                refine iar (es := 1) (k := 1) rfl rfl rfl (Nat.mul_one _) rfl rfl (by omega) rfl ?_
                first | refine ld (v := .int .i64 _) (off := 1) (Rd.of_cells (.head _)) rfl rfl rfl rfl ?_ | refine ld (v := .int .i64 _) (off := 1) (Rd.of_cells (.tail _ (.head _))) rfl rfl rfl rfl ?_ | refine ld (v := .int .i64 _) (off := 1) (Rd.of_cells (.tail _ (.tail _ (.head _)))) rfl rfl rfl rfl ?_ | refine ld (v := .int .i64 _) (off := 1) (Rd.of_cells (.tail _ (.tail _ (.tail _ (.head _))))) rfl rfl rfl rfl ?_ | refine ld (v := .int .i64 _) (off := 1) (Rd.of_cells (.tail _ (.tail _ (.tail _ (.tail _ (.head _)))))) rfl rfl rfl rfl ?_ | refine ld (v := .int .i64 _) (off := 1) (Rd.of_cells (.tail _ (.tail _ (.tail _ (.tail _ (.tail _ (.head _))))))) rfl rfl rfl rfl ?_ | refine ld (v := .int .i64 _) (off := 1) (Rd.of_cells (.tail _ (.tail _ (.tail _ (.tail _ (.tail _ (.tail _ (.head _)))))))) rfl rfl rfl rfl ?_
                refine iar (es := 1) (k := 0) rfl rfl rfl (Nat.mul_one _) rfl rfl (by omega) rfl ?_
                first | refine ld (v := .int .i64 _) (off := 0) (Rd.of_cells (.head _)) rfl rfl rfl rfl ?_ | refine ld (v := .int .i64 _) (off := 0) (Rd.of_cells (.tail _ (.head _))) rfl rfl rfl rfl ?_ | refine ld (v := .int .i64 _) (off := 0) (Rd.of_cells (.tail _ (.tail _ (.head _)))) rfl rfl rfl rfl ?_ | refine ld (v := .int .i64 _) (off := 0) (Rd.of_cells (.tail _ (.tail _ (.tail _ (.head _))))) rfl rfl rfl rfl ?_ | refine ld (v := .int .i64 _) (off := 0) (Rd.of_cells (.tail _ (.tail _ (.tail _ (.tail _ (.head _)))))) rfl rfl rfl rfl ?_ | refine ld (v := .int .i64 _) (off := 0) (Rd.of_cells (.tail _ (.tail _ (.tail _ (.tail _ (.tail _ (.head _))))))) rfl rfl rfl rfl ?_ | refine ld (v := .int .i64 _) (off := 0) (Rd.of_cells (.tail _ (.tail _ (.tail _ (.tail _ (.tail _ (.tail _ (.head _)))))))) rfl rfl rfl rfl ?_
                first | refine pw rfl rfl (w64 (by omega) (by omega)) ?_ | refine pu rfl rfl ?_
                first | refine pw rfl rfl (w64 (by omega) (by omega)) ?_ | refine pu rfl rfl ?_
                first | refine pw rfl rfl (w64 (by omega) (by omega)) ?_ | refine pu rfl rfl ?_
                first | refine pu (v := .int .i64 _) rfl rfl ?_ | refine pu rfl rfl ?_
                refine SL_nil ?_
                refine nx ?_
                refine SWP_region ?_
                refine iar (es := 1) (k := 1) rfl rfl rfl (Nat.mul_one _) rfl rfl (by omega) rfl ?_
                first | refine ld (v := .int .i64 _) (off := 1) (Rd.of_cells (.head _)) rfl rfl rfl rfl ?_ | refine ld (v := .int .i64 _) (off := 1) (Rd.of_cells (.tail _ (.head _))) rfl rfl rfl rfl ?_ | refine ld (v := .int .i64 _) (off := 1) (Rd.of_cells (.tail _ (.tail _ (.head _)))) rfl rfl rfl rfl ?_ | refine ld (v := .int .i64 _) (off := 1) (Rd.of_cells (.tail _ (.tail _ (.tail _ (.head _))))) rfl rfl rfl rfl ?_ | refine ld (v := .int .i64 _) (off := 1) (Rd.of_cells (.tail _ (.tail _ (.tail _ (.tail _ (.head _)))))) rfl rfl rfl rfl ?_ | refine ld (v := .int .i64 _) (off := 1) (Rd.of_cells (.tail _ (.tail _ (.tail _ (.tail _ (.tail _ (.head _))))))) rfl rfl rfl rfl ?_ | refine ld (v := .int .i64 _) (off := 1) (Rd.of_cells (.tail _ (.tail _ (.tail _ (.tail _ (.tail _ (.tail _ (.head _)))))))) rfl rfl rfl rfl ?_
                first | refine pu (v := .int .i64 _) rfl rfl ?_ | refine pu rfl rfl ?_
                refine SL_nil ?_
                refine nb ?_
                refine nx ?_
                refine SWP_weak (List.sublist_append_left _ _) ?_
                refine SWP_region ?_
                first | refine pw rfl rfl (w64 (by omega) (by omega)) ?_ | refine pu rfl rfl ?_
                first | refine pu (v := .int .i64 _) rfl rfl ?_ | refine pu rfl rfl ?_
                refine SL_nil ?_
                refine nx ?_
                refine ⟨by repeat (first | exact Under.upds rfl (Under.hav _ _ _) | exact Under.hav _ _ _ | refine Under.upd rfl ?_ | refine Under.upds rfl ?_ | refine Under.hav2 rfl ?_), ?_, ?_⟩
                · exact ⟨k + 1, by rw [miss_snoc hp, lastB_take hp]; rfl, by omega, rfl, rfl⟩
                · simp only [L_vals, List.map, List.getD]; show G.length - (k + 1) < G.length - k; omega
            · skip
              first | refine pu (v := .bool _) rfl rfl ?_ | refine pu rfl rfl ?_
              refine SL_no rfl rfl ?_
              refine SL_no rfl rfl ?_
              first | refine pu (v := .bool _) rfl rfl ?_ | refine pu rfl rfl ?_
              first | refine pu (v := .bool _) rfl rfl ?_ | refine pu rfl rfl ?_
              refine SL_yes rfl ?_
              refine iar (es := 1) (k := 0) rfl rfl rfl (Nat.mul_one _) rfl rfl (by omega) rfl ?_
              refine SL_yes rfl ?_
              first | refine ld (v := .int .i64 _) (off := 0) (Rd.of_cells (.head _)) rfl rfl rfl rfl ?_ | refine ld (v := .int .i64 _) (off := 0) (Rd.of_cells (.tail _ (.head _))) rfl rfl rfl rfl ?_ | refine ld (v := .int .i64 _) (off := 0) (Rd.of_cells (.tail _ (.tail _ (.head _)))) rfl rfl rfl rfl ?_ | refine ld (v := .int .i64 _) (off := 0) (Rd.of_cells (.tail _ (.tail _ (.tail _ (.head _))))) rfl rfl rfl rfl ?_ | refine ld (v := .int .i64 _) (off := 0) (Rd.of_cells (.tail _ (.tail _ (.tail _ (.tail _ (.head _)))))) rfl rfl rfl rfl ?_ | refine ld (v := .int .i64 _) (off := 0) (Rd.of_cells (.tail _ (.tail _ (.tail _ (.tail _ (.tail _ (.head _))))))) rfl rfl rfl rfl ?_ | refine ld (v := .int .i64 _) (off := 0) (Rd.of_cells (.tail _ (.tail _ (.tail _ (.tail _ (.tail _ (.tail _ (.head _)))))))) rfl rfl rfl rfl ?_
              refine SL_yes rfl ?_
              refine pn rfl rfl (by omega) ?_
              first | refine pu (v := .bool _) rfl rfl ?_ | refine pu rfl rfl ?_
              first | refine pu (v := .bool _) rfl rfl ?_ | refine pu rfl rfl ?_
              refine SL_yes rfl ?_
              refine iar (es := 1) (k := 1) rfl rfl rfl (Nat.mul_one _) rfl rfl (by omega) rfl ?_
              refine SL_yes rfl ?_
              first | refine ld (v := .int .i64 _) (off := 1) (Rd.of_cells (.head _)) rfl rfl rfl rfl ?_ | refine ld (v := .int .i64 _) (off := 1) (Rd.of_cells (.tail _ (.head _))) rfl rfl rfl rfl ?_ | refine ld (v := .int .i64 _) (off := 1) (Rd.of_cells (.tail _ (.tail _ (.head _)))) rfl rfl rfl rfl ?_ | refine ld (v := .int .i64 _) (off := 1) (Rd.of_cells (.tail _ (.tail _ (.tail _ (.head _))))) rfl rfl rfl rfl ?_ | refine ld (v := .int .i64 _) (off := 1) (Rd.of_cells (.tail _ (.tail _ (.tail _ (.tail _ (.head _)))))) rfl rfl rfl rfl ?_ | refine ld (v := .int .i64 _) (off := 1) (Rd.of_cells (.tail _ (.tail _ (.tail _ (.tail _ (.tail _ (.head _))))))) rfl rfl rfl rfl ?_ | refine ld (v := .int .i64 _) (off := 1) (Rd.of_cells (.tail _ (.tail _ (.tail _ (.tail _ (.tail _ (.tail _ (.head _)))))))) rfl rfl rfl rfl ?_
              refine SL_yes rfl ?_
              refine iar (es := 1) (k := 0) rfl rfl rfl (Nat.mul_one _) rfl rfl (by omega) rfl ?_
              refine SL_yes rfl ?_
              first | refine ld (v := .int .i64 _) (off := 0) (Rd.of_cells (.head _)) rfl rfl rfl rfl ?_ | refine ld (v := .int .i64 _) (off := 0) (Rd.of_cells (.tail _ (.head _))) rfl rfl rfl rfl ?_ | refine ld (v := .int .i64 _) (off := 0) (Rd.of_cells (.tail _ (.tail _ (.head _)))) rfl rfl rfl rfl ?_ | refine ld (v := .int .i64 _) (off := 0) (Rd.of_cells (.tail _ (.tail _ (.tail _ (.head _))))) rfl rfl rfl rfl ?_ | refine ld (v := .int .i64 _) (off := 0) (Rd.of_cells (.tail _ (.tail _ (.tail _ (.tail _ (.head _)))))) rfl rfl rfl rfl ?_ | refine ld (v := .int .i64 _) (off := 0) (Rd.of_cells (.tail _ (.tail _ (.tail _ (.tail _ (.tail _ (.head _))))))) rfl rfl rfl rfl ?_ | refine ld (v := .int .i64 _) (off := 0) (Rd.of_cells (.tail _ (.tail _ (.tail _ (.tail _ (.tail _ (.tail _ (.head _)))))))) rfl rfl rfl rfl ?_
              refine SL_yes rfl ?_
              refine pn rfl rfl (by omega) ?_
              first | refine pu (v := .bool _) rfl rfl ?_ | refine pu rfl rfl ?_
              first | refine pu (v := .bool _) rfl rfl ?_ | refine pu rfl rfl ?_
              refine SL_yes rfl ?_
              refine iar (es := 1) (k := 1) rfl rfl rfl (Nat.mul_one _) rfl rfl (by omega) rfl ?_
              refine SL_yes rfl ?_
              first | refine ld (v := .int .i64 _) (off := 1) (Rd.of_cells (.head _)) rfl rfl rfl rfl ?_ | refine ld (v := .int .i64 _) (off := 1) (Rd.of_cells (.tail _ (.head _))) rfl rfl rfl rfl ?_ | refine ld (v := .int .i64 _) (off := 1) (Rd.of_cells (.tail _ (.tail _ (.head _)))) rfl rfl rfl rfl ?_ | refine ld (v := .int .i64 _) (off := 1) (Rd.of_cells (.tail _ (.tail _ (.tail _ (.head _))))) rfl rfl rfl rfl ?_ | refine ld (v := .int .i64 _) (off := 1) (Rd.of_cells (.tail _ (.tail _ (.tail _ (.tail _ (.head _)))))) rfl rfl rfl rfl ?_ | refine ld (v := .int .i64 _) (off := 1) (Rd.of_cells (.tail _ (.tail _ (.tail _ (.tail _ (.tail _ (.head _))))))) rfl rfl rfl rfl ?_ | refine ld (v := .int .i64 _) (off := 1) (Rd.of_cells (.tail _ (.tail _ (.tail _ (.tail _ (.tail _ (.tail _ (.head _)))))))) rfl rfl rfl rfl ?_
              refine SL_yes rfl ?_
              first | refine pu (v := .int .i64 _) rfl rfl ?_ | refine pu rfl rfl ?_
              refine SL_yes rfl ?_
              refine pn rfl rfl (by omega) ?_
              first | refine pu (v := .bool _) rfl rfl ?_ | refine pu rfl rfl ?_
              first | refine pu (v := .bool _) rfl rfl ?_ | refine pu rfl rfl ?_
              refine SL_yes rfl ?_
              first | refine pu (v := .pointer _) rfl rfl ?_ | refine pu rfl rfl ?_
              refine SL_yes rfl ?_
              refine iar (es := 1) (k := 0) rfl rfl rfl (Nat.mul_one _) rfl rfl (by omega) rfl ?_
              refine SL_yes rfl ?_
              first | refine ld (v := .int .i64 _) (off := 0) (Rd.of_cells (.head _)) rfl rfl rfl rfl ?_ | refine ld (v := .int .i64 _) (off := 0) (Rd.of_cells (.tail _ (.head _))) rfl rfl rfl rfl ?_ | refine ld (v := .int .i64 _) (off := 0) (Rd.of_cells (.tail _ (.tail _ (.head _)))) rfl rfl rfl rfl ?_ | refine ld (v := .int .i64 _) (off := 0) (Rd.of_cells (.tail _ (.tail _ (.tail _ (.head _))))) rfl rfl rfl rfl ?_ | refine ld (v := .int .i64 _) (off := 0) (Rd.of_cells (.tail _ (.tail _ (.tail _ (.tail _ (.head _)))))) rfl rfl rfl rfl ?_ | refine ld (v := .int .i64 _) (off := 0) (Rd.of_cells (.tail _ (.tail _ (.tail _ (.tail _ (.tail _ (.head _))))))) rfl rfl rfl rfl ?_ | refine ld (v := .int .i64 _) (off := 0) (Rd.of_cells (.tail _ (.tail _ (.tail _ (.tail _ (.tail _ (.tail _ (.head _)))))))) rfl rfl rfl rfl ?_
              refine SL_yes rfl ?_
              refine SL_call rfl rfl cb12 (CallsS.subF [_] (guSeen hrep (p.1)) (List.perm_append_comm (l₁ := [_]))) rfl (fun v16_31 σ16_31 m16_31 hl16_31 hR16_31 => ?_)
              obtain ⟨σ₁, rfl, rfl, rfl, hm16_31⟩ := hR16_31
              have hn16_31 := hm16_31.symm
              subst hn16_31
              rw [decide_eq_false (show p.1 ∉ S from hp4)]
              first | refine pu (v := .bool _) rfl rfl ?_ | refine pu rfl rfl ?_
              first | refine pu (v := .bool _) rfl rfl ?_ | refine pu rfl rfl ?_
              refine SL_yes rfl ?_
              first | refine pu (v := .pointer _) rfl rfl ?_ | refine pu rfl rfl ?_
              refine SL_yes rfl ?_
              refine iar (es := 1) (k := 1) rfl rfl rfl (Nat.mul_one _) rfl rfl (by omega) rfl ?_
              refine SL_yes rfl ?_
              first | refine ld (v := .int .i64 _) (off := 1) (Rd.of_cells (.head _)) rfl rfl rfl rfl ?_ | refine ld (v := .int .i64 _) (off := 1) (Rd.of_cells (.tail _ (.head _))) rfl rfl rfl rfl ?_ | refine ld (v := .int .i64 _) (off := 1) (Rd.of_cells (.tail _ (.tail _ (.head _)))) rfl rfl rfl rfl ?_ | refine ld (v := .int .i64 _) (off := 1) (Rd.of_cells (.tail _ (.tail _ (.tail _ (.head _))))) rfl rfl rfl rfl ?_ | refine ld (v := .int .i64 _) (off := 1) (Rd.of_cells (.tail _ (.tail _ (.tail _ (.tail _ (.head _)))))) rfl rfl rfl rfl ?_ | refine ld (v := .int .i64 _) (off := 1) (Rd.of_cells (.tail _ (.tail _ (.tail _ (.tail _ (.tail _ (.head _))))))) rfl rfl rfl rfl ?_ | refine ld (v := .int .i64 _) (off := 1) (Rd.of_cells (.tail _ (.tail _ (.tail _ (.tail _ (.tail _ (.tail _ (.head _)))))))) rfl rfl rfl rfl ?_
              refine SL_yes rfl ?_
              refine SL_call rfl rfl cb12 (CallsS.subF [_] (guSeen hrep (p.2)) (.refl _)) rfl (fun v16_37 σ16_37 m16_37 hl16_37 hR16_37 => ?_)
              obtain ⟨σ₁, rfl, rfl, rfl, hm16_37⟩ := hR16_37
              have hn16_37 := hm16_37.symm
              subst hn16_37
              rw [decide_eq_false (show p.2 ∉ S from hp5)]
              first | refine pu (v := .bool _) rfl rfl ?_ | refine pu rfl rfl ?_
              first | refine pu (v := .bool _) rfl rfl ?_ | refine pu rfl rfl ?_
              refine SL_yes rfl ?_
              refine iar (es := 1) (k := 0) rfl rfl rfl (Nat.mul_one _) rfl rfl (by omega) rfl ?_
              refine SL_yes rfl ?_
              first | refine ld (v := .int .i64 _) (off := 0) (Rd.of_cells (.head _)) rfl rfl rfl rfl ?_ | refine ld (v := .int .i64 _) (off := 0) (Rd.of_cells (.tail _ (.head _))) rfl rfl rfl rfl ?_ | refine ld (v := .int .i64 _) (off := 0) (Rd.of_cells (.tail _ (.tail _ (.head _)))) rfl rfl rfl rfl ?_ | refine ld (v := .int .i64 _) (off := 0) (Rd.of_cells (.tail _ (.tail _ (.tail _ (.head _))))) rfl rfl rfl rfl ?_ | refine ld (v := .int .i64 _) (off := 0) (Rd.of_cells (.tail _ (.tail _ (.tail _ (.tail _ (.head _)))))) rfl rfl rfl rfl ?_ | refine ld (v := .int .i64 _) (off := 0) (Rd.of_cells (.tail _ (.tail _ (.tail _ (.tail _ (.tail _ (.head _))))))) rfl rfl rfl rfl ?_ | refine ld (v := .int .i64 _) (off := 0) (Rd.of_cells (.tail _ (.tail _ (.tail _ (.tail _ (.tail _ (.tail _ (.head _)))))))) rfl rfl rfl rfl ?_
              refine SL_yes rfl ?_
              refine pc rfl rfl (fun c89 => ?_) (fun c89 => ?_)
              · skip
                refine SL_yes rfl ?_
                first | refine pu (v := .bool _) rfl rfl ?_ | refine pu rfl rfl ?_
                refine SL_yes rfl ?_
                first | refine pu (v := .pointer _) rfl rfl ?_ | refine pu rfl rfl ?_
                refine SL_yes rfl ?_
                refine iar (es := 1) (k := 0) rfl rfl rfl (Nat.mul_one _) rfl rfl (by omega) rfl ?_
                refine SL_yes rfl ?_
                first | refine ld (v := .int .i64 _) (off := 0) (Rd.of_cells (.head _)) rfl rfl rfl rfl ?_ | refine ld (v := .int .i64 _) (off := 0) (Rd.of_cells (.tail _ (.head _))) rfl rfl rfl rfl ?_ | refine ld (v := .int .i64 _) (off := 0) (Rd.of_cells (.tail _ (.tail _ (.head _)))) rfl rfl rfl rfl ?_ | refine ld (v := .int .i64 _) (off := 0) (Rd.of_cells (.tail _ (.tail _ (.tail _ (.head _))))) rfl rfl rfl rfl ?_ | refine ld (v := .int .i64 _) (off := 0) (Rd.of_cells (.tail _ (.tail _ (.tail _ (.tail _ (.head _)))))) rfl rfl rfl rfl ?_ | refine ld (v := .int .i64 _) (off := 0) (Rd.of_cells (.tail _ (.tail _ (.tail _ (.tail _ (.tail _ (.head _))))))) rfl rfl rfl rfl ?_ | refine ld (v := .int .i64 _) (off := 0) (Rd.of_cells (.tail _ (.tail _ (.tail _ (.tail _ (.tail _ (.tail _ (.head _)))))))) rfl rfl rfl rfl ?_
                refine SL_yes rfl ?_
                first | refine pw rfl rfl (w64 (by omega) (by omega)) ?_ | refine pu rfl rfl ?_
                refine SL_yes rfl ?_
                refine SL_call rfl rfl cb12 (CallsS.subF [_] (guSeen hrep (p.1 - 1)) (.refl _)) rfl (fun v16_48 σ16_48 m16_48 hl16_48 hR16_48 => ?_)
                obtain ⟨σ₁, rfl, rfl, rfl, hm16_48⟩ := hR16_48
                have hn16_48 := hm16_48.symm
                subst hn16_48
                rw [decide_eq_true (show p.1 - 1 ∈ S from hp6 (by omega))]
                refine SL_yes rfl ?_
                first | refine pu (v := .bool _) rfl rfl ?_ | refine pu rfl rfl ?_
                refine SL_yes rfl ?_
                first | refine pu (v := .bool _) rfl rfl ?_ | refine pu rfl rfl ?_
                first | refine pu (v := .bool _) rfl rfl ?_ | refine pu rfl rfl ?_
                first | refine pu (v := .bool _) rfl rfl ?_ | refine pu rfl rfl ?_
                refine SL_yes rfl ?_
                first | refine pu (v := .pointer _) rfl rfl ?_ | refine pu rfl rfl ?_
                refine SL_yes rfl ?_
                refine iar (es := 1) (k := 1) rfl rfl rfl (Nat.mul_one _) rfl rfl (by omega) rfl ?_
                refine SL_yes rfl ?_
                first | refine ld (v := .int .i64 _) (off := 1) (Rd.of_cells (.head _)) rfl rfl rfl rfl ?_ | refine ld (v := .int .i64 _) (off := 1) (Rd.of_cells (.tail _ (.head _))) rfl rfl rfl rfl ?_ | refine ld (v := .int .i64 _) (off := 1) (Rd.of_cells (.tail _ (.tail _ (.head _)))) rfl rfl rfl rfl ?_ | refine ld (v := .int .i64 _) (off := 1) (Rd.of_cells (.tail _ (.tail _ (.tail _ (.head _))))) rfl rfl rfl rfl ?_ | refine ld (v := .int .i64 _) (off := 1) (Rd.of_cells (.tail _ (.tail _ (.tail _ (.tail _ (.head _)))))) rfl rfl rfl rfl ?_ | refine ld (v := .int .i64 _) (off := 1) (Rd.of_cells (.tail _ (.tail _ (.tail _ (.tail _ (.tail _ (.head _))))))) rfl rfl rfl rfl ?_ | refine ld (v := .int .i64 _) (off := 1) (Rd.of_cells (.tail _ (.tail _ (.tail _ (.tail _ (.tail _ (.tail _ (.head _)))))))) rfl rfl rfl rfl ?_
                refine SL_yes rfl ?_
                first | refine pw rfl rfl (w64 (by omega) (by omega)) ?_ | refine pu rfl rfl ?_
                refine SL_yes rfl ?_
                refine SL_call rfl rfl cb12 (CallsS.subF [_] (guSeen hrep (p.2 + 1)) (.refl _)) rfl (fun v16_57 σ16_57 m16_57 hl16_57 hR16_57 => ?_)
                obtain ⟨σ₁, rfl, rfl, rfl, hm16_57⟩ := hR16_57
                have hn16_57 := hm16_57.symm
                subst hn16_57
                rw [decide_eq_true (show p.2 + 1 ∈ S from hp7)]
                refine SL_yes rfl ?_
                first | refine pu (v := .bool _) rfl rfl ?_ | refine pu rfl rfl ?_
                first | refine pu (v := .bool _) rfl rfl ?_ | refine pu rfl rfl ?_
                refine SL_nil ?_
                refine nx ?_
                refine SWP_cf rfl ?_
                refine SWP_skip ?_
                refine nx ?_
                refine SWP_seq ?_
                refine SWP_region ?_
                first | refine pu (v := .int .i64 _) rfl rfl ?_ | refine pu rfl rfl ?_
                refine iar (es := 1) (k := 1) rfl rfl rfl (Nat.mul_one _) rfl rfl (by omega) rfl ?_
                first | refine ld (v := .int .i64 _) (off := 1) (Rd.of_cells (.head _)) rfl rfl rfl rfl ?_ | refine ld (v := .int .i64 _) (off := 1) (Rd.of_cells (.tail _ (.head _))) rfl rfl rfl rfl ?_ | refine ld (v := .int .i64 _) (off := 1) (Rd.of_cells (.tail _ (.tail _ (.head _)))) rfl rfl rfl rfl ?_ | refine ld (v := .int .i64 _) (off := 1) (Rd.of_cells (.tail _ (.tail _ (.tail _ (.head _))))) rfl rfl rfl rfl ?_ | refine ld (v := .int .i64 _) (off := 1) (Rd.of_cells (.tail _ (.tail _ (.tail _ (.tail _ (.head _)))))) rfl rfl rfl rfl ?_ | refine ld (v := .int .i64 _) (off := 1) (Rd.of_cells (.tail _ (.tail _ (.tail _ (.tail _ (.tail _ (.head _))))))) rfl rfl rfl rfl ?_ | refine ld (v := .int .i64 _) (off := 1) (Rd.of_cells (.tail _ (.tail _ (.tail _ (.tail _ (.tail _ (.tail _ (.head _)))))))) rfl rfl rfl rfl ?_
                refine iar (es := 1) (k := 0) rfl rfl rfl (Nat.mul_one _) rfl rfl (by omega) rfl ?_
                first | refine ld (v := .int .i64 _) (off := 0) (Rd.of_cells (.head _)) rfl rfl rfl rfl ?_ | refine ld (v := .int .i64 _) (off := 0) (Rd.of_cells (.tail _ (.head _))) rfl rfl rfl rfl ?_ | refine ld (v := .int .i64 _) (off := 0) (Rd.of_cells (.tail _ (.tail _ (.head _)))) rfl rfl rfl rfl ?_ | refine ld (v := .int .i64 _) (off := 0) (Rd.of_cells (.tail _ (.tail _ (.tail _ (.head _))))) rfl rfl rfl rfl ?_ | refine ld (v := .int .i64 _) (off := 0) (Rd.of_cells (.tail _ (.tail _ (.tail _ (.tail _ (.head _)))))) rfl rfl rfl rfl ?_ | refine ld (v := .int .i64 _) (off := 0) (Rd.of_cells (.tail _ (.tail _ (.tail _ (.tail _ (.tail _ (.head _))))))) rfl rfl rfl rfl ?_ | refine ld (v := .int .i64 _) (off := 0) (Rd.of_cells (.tail _ (.tail _ (.tail _ (.tail _ (.tail _ (.tail _ (.head _)))))))) rfl rfl rfl rfl ?_
                first | refine pw rfl rfl (w64 (by omega) (by omega)) ?_ | refine pu rfl rfl ?_
                first | refine pw rfl rfl (w64 (by omega) (by omega)) ?_ | refine pu rfl rfl ?_
                first | refine pw rfl rfl (w64 (by omega) (by omega)) ?_ | refine pu rfl rfl ?_
                first | refine pu (v := .int .i64 _) rfl rfl ?_ | refine pu rfl rfl ?_
                refine SL_nil ?_
                refine nx ?_
                refine SWP_region ?_
                refine iar (es := 1) (k := 1) rfl rfl rfl (Nat.mul_one _) rfl rfl (by omega) rfl ?_
                first | refine ld (v := .int .i64 _) (off := 1) (Rd.of_cells (.head _)) rfl rfl rfl rfl ?_ | refine ld (v := .int .i64 _) (off := 1) (Rd.of_cells (.tail _ (.head _))) rfl rfl rfl rfl ?_ | refine ld (v := .int .i64 _) (off := 1) (Rd.of_cells (.tail _ (.tail _ (.head _)))) rfl rfl rfl rfl ?_ | refine ld (v := .int .i64 _) (off := 1) (Rd.of_cells (.tail _ (.tail _ (.tail _ (.head _))))) rfl rfl rfl rfl ?_ | refine ld (v := .int .i64 _) (off := 1) (Rd.of_cells (.tail _ (.tail _ (.tail _ (.tail _ (.head _)))))) rfl rfl rfl rfl ?_ | refine ld (v := .int .i64 _) (off := 1) (Rd.of_cells (.tail _ (.tail _ (.tail _ (.tail _ (.tail _ (.head _))))))) rfl rfl rfl rfl ?_ | refine ld (v := .int .i64 _) (off := 1) (Rd.of_cells (.tail _ (.tail _ (.tail _ (.tail _ (.tail _ (.tail _ (.head _)))))))) rfl rfl rfl rfl ?_
                first | refine pu (v := .int .i64 _) rfl rfl ?_ | refine pu rfl rfl ?_
                refine SL_nil ?_
                refine nb ?_
                refine nx ?_
                refine SWP_weak (List.sublist_append_left _ _) ?_
                refine SWP_region ?_
                first | refine pw rfl rfl (w64 (by omega) (by omega)) ?_ | refine pu rfl rfl ?_
                first | refine pu (v := .int .i64 _) rfl rfl ?_ | refine pu rfl rfl ?_
                refine SL_nil ?_
                refine nx ?_
                refine ⟨by repeat (first | exact Under.upds rfl (Under.hav _ _ _) | exact Under.hav _ _ _ | refine Under.upd rfl ?_ | refine Under.upds rfl ?_ | refine Under.hav2 rfl ?_), ?_, ?_⟩
                · exact ⟨k + 1, by rw [miss_snoc hp, lastB_take hp]; rfl, by omega, rfl, rfl⟩
                · simp only [L_vals, List.map, List.getD]; show G.length - (k + 1) < G.length - k; omega
              · skip
                refine SL_yes rfl ?_
                first | refine pu (v := .bool _) rfl rfl ?_ | refine pu rfl rfl ?_
                refine SL_no rfl rfl ?_
                refine SL_no rfl rfl ?_
                refine SL_no rfl rfl ?_
                refine SL_no rfl rfl ?_
                refine SL_no rfl rfl ?_
                refine SL_no rfl rfl ?_
                refine SL_yes rfl ?_
                first | refine pu (v := .bool _) rfl rfl ?_ | refine pu rfl rfl ?_
                first | refine pu (v := .bool _) rfl rfl ?_ | refine pu rfl rfl ?_
                first | refine pu (v := .bool _) rfl rfl ?_ | refine pu rfl rfl ?_
                refine SL_yes rfl ?_
                first | refine pu (v := .pointer _) rfl rfl ?_ | refine pu rfl rfl ?_
                refine SL_yes rfl ?_
                refine iar (es := 1) (k := 1) rfl rfl rfl (Nat.mul_one _) rfl rfl (by omega) rfl ?_
                refine SL_yes rfl ?_
                first | refine ld (v := .int .i64 _) (off := 1) (Rd.of_cells (.head _)) rfl rfl rfl rfl ?_ | refine ld (v := .int .i64 _) (off := 1) (Rd.of_cells (.tail _ (.head _))) rfl rfl rfl rfl ?_ | refine ld (v := .int .i64 _) (off := 1) (Rd.of_cells (.tail _ (.tail _ (.head _)))) rfl rfl rfl rfl ?_ | refine ld (v := .int .i64 _) (off := 1) (Rd.of_cells (.tail _ (.tail _ (.tail _ (.head _))))) rfl rfl rfl rfl ?_ | refine ld (v := .int .i64 _) (off := 1) (Rd.of_cells (.tail _ (.tail _ (.tail _ (.tail _ (.head _)))))) rfl rfl rfl rfl ?_ | refine ld (v := .int .i64 _) (off := 1) (Rd.of_cells (.tail _ (.tail _ (.tail _ (.tail _ (.tail _ (.head _))))))) rfl rfl rfl rfl ?_ | refine ld (v := .int .i64 _) (off := 1) (Rd.of_cells (.tail _ (.tail _ (.tail _ (.tail _ (.tail _ (.tail _ (.head _)))))))) rfl rfl rfl rfl ?_
                refine SL_yes rfl ?_
                first | refine pw rfl rfl (w64 (by omega) (by omega)) ?_ | refine pu rfl rfl ?_
                refine SL_yes rfl ?_
                refine SL_call rfl rfl cb12 (CallsS.subF [_] (guSeen hrep (p.2 + 1)) (.refl _)) rfl (fun v16_57 σ16_57 m16_57 hl16_57 hR16_57 => ?_)
                obtain ⟨σ₁, rfl, rfl, rfl, hm16_57⟩ := hR16_57
                have hn16_57 := hm16_57.symm
                subst hn16_57
                rw [decide_eq_true (show p.2 + 1 ∈ S from hp7)]
                refine SL_yes rfl ?_
                first | refine pu (v := .bool _) rfl rfl ?_ | refine pu rfl rfl ?_
                first | refine pu (v := .bool _) rfl rfl ?_ | refine pu rfl rfl ?_
                refine SL_nil ?_
                refine nx ?_
                refine SWP_cf rfl ?_
                refine SWP_skip ?_
                refine nx ?_
                refine SWP_seq ?_
                refine SWP_region ?_
                first | refine pu (v := .int .i64 _) rfl rfl ?_ | refine pu rfl rfl ?_
                refine iar (es := 1) (k := 1) rfl rfl rfl (Nat.mul_one _) rfl rfl (by omega) rfl ?_
                first | refine ld (v := .int .i64 _) (off := 1) (Rd.of_cells (.head _)) rfl rfl rfl rfl ?_ | refine ld (v := .int .i64 _) (off := 1) (Rd.of_cells (.tail _ (.head _))) rfl rfl rfl rfl ?_ | refine ld (v := .int .i64 _) (off := 1) (Rd.of_cells (.tail _ (.tail _ (.head _)))) rfl rfl rfl rfl ?_ | refine ld (v := .int .i64 _) (off := 1) (Rd.of_cells (.tail _ (.tail _ (.tail _ (.head _))))) rfl rfl rfl rfl ?_ | refine ld (v := .int .i64 _) (off := 1) (Rd.of_cells (.tail _ (.tail _ (.tail _ (.tail _ (.head _)))))) rfl rfl rfl rfl ?_ | refine ld (v := .int .i64 _) (off := 1) (Rd.of_cells (.tail _ (.tail _ (.tail _ (.tail _ (.tail _ (.head _))))))) rfl rfl rfl rfl ?_ | refine ld (v := .int .i64 _) (off := 1) (Rd.of_cells (.tail _ (.tail _ (.tail _ (.tail _ (.tail _ (.tail _ (.head _)))))))) rfl rfl rfl rfl ?_
                refine iar (es := 1) (k := 0) rfl rfl rfl (Nat.mul_one _) rfl rfl (by omega) rfl ?_
                first | refine ld (v := .int .i64 _) (off := 0) (Rd.of_cells (.head _)) rfl rfl rfl rfl ?_ | refine ld (v := .int .i64 _) (off := 0) (Rd.of_cells (.tail _ (.head _))) rfl rfl rfl rfl ?_ | refine ld (v := .int .i64 _) (off := 0) (Rd.of_cells (.tail _ (.tail _ (.head _)))) rfl rfl rfl rfl ?_ | refine ld (v := .int .i64 _) (off := 0) (Rd.of_cells (.tail _ (.tail _ (.tail _ (.head _))))) rfl rfl rfl rfl ?_ | refine ld (v := .int .i64 _) (off := 0) (Rd.of_cells (.tail _ (.tail _ (.tail _ (.tail _ (.head _)))))) rfl rfl rfl rfl ?_ | refine ld (v := .int .i64 _) (off := 0) (Rd.of_cells (.tail _ (.tail _ (.tail _ (.tail _ (.tail _ (.head _))))))) rfl rfl rfl rfl ?_ | refine ld (v := .int .i64 _) (off := 0) (Rd.of_cells (.tail _ (.tail _ (.tail _ (.tail _ (.tail _ (.tail _ (.head _)))))))) rfl rfl rfl rfl ?_
                first | refine pw rfl rfl (w64 (by omega) (by omega)) ?_ | refine pu rfl rfl ?_
                first | refine pw rfl rfl (w64 (by omega) (by omega)) ?_ | refine pu rfl rfl ?_
                first | refine pw rfl rfl (w64 (by omega) (by omega)) ?_ | refine pu rfl rfl ?_
                first | refine pu (v := .int .i64 _) rfl rfl ?_ | refine pu rfl rfl ?_
                refine SL_nil ?_
                refine nx ?_
                refine SWP_region ?_
                refine iar (es := 1) (k := 1) rfl rfl rfl (Nat.mul_one _) rfl rfl (by omega) rfl ?_
                first | refine ld (v := .int .i64 _) (off := 1) (Rd.of_cells (.head _)) rfl rfl rfl rfl ?_ | refine ld (v := .int .i64 _) (off := 1) (Rd.of_cells (.tail _ (.head _))) rfl rfl rfl rfl ?_ | refine ld (v := .int .i64 _) (off := 1) (Rd.of_cells (.tail _ (.tail _ (.head _)))) rfl rfl rfl rfl ?_ | refine ld (v := .int .i64 _) (off := 1) (Rd.of_cells (.tail _ (.tail _ (.tail _ (.head _))))) rfl rfl rfl rfl ?_ | refine ld (v := .int .i64 _) (off := 1) (Rd.of_cells (.tail _ (.tail _ (.tail _ (.tail _ (.head _)))))) rfl rfl rfl rfl ?_ | refine ld (v := .int .i64 _) (off := 1) (Rd.of_cells (.tail _ (.tail _ (.tail _ (.tail _ (.tail _ (.head _))))))) rfl rfl rfl rfl ?_ | refine ld (v := .int .i64 _) (off := 1) (Rd.of_cells (.tail _ (.tail _ (.tail _ (.tail _ (.tail _ (.tail _ (.head _)))))))) rfl rfl rfl rfl ?_
                first | refine pu (v := .int .i64 _) rfl rfl ?_ | refine pu rfl rfl ?_
                refine SL_nil ?_
                refine nb ?_
                refine nx ?_
                refine SWP_weak (List.sublist_append_left _ _) ?_
                refine SWP_region ?_
                first | refine pw rfl rfl (w64 (by omega) (by omega)) ?_ | refine pu rfl rfl ?_
                first | refine pu (v := .int .i64 _) rfl rfl ?_ | refine pu rfl rfl ?_
                refine SL_nil ?_
                refine nx ?_
                refine ⟨by repeat (first | exact Under.upds rfl (Under.hav _ _ _) | exact Under.hav _ _ _ | refine Under.upd rfl ?_ | refine Under.upds rfl ?_ | refine Under.hav2 rfl ?_), ?_, ?_⟩
                · exact ⟨k + 1, by rw [miss_snoc hp, lastB_take hp]; rfl, by omega, rfl, rfl⟩
                · simp only [L_vals, List.map, List.getD]; show G.length - (k + 1) < G.length - k; omega
          · skip
            refine SL_nil ?_
            refine nx ?_
            refine SWP_seq ?_
            refine SWP_cf rfl ?_
            refine SWP_exit ?_
            refine ne ?_
            refine ne ?_
            refine be rfl ?_
            refine nx ?_
            refine SWP_seq ?_
            have e0 : k = G.length := by omega
            have hm1 := hG.miss k
            have hms : missOf (G.take k) = tp - (S.length : Nat) := by rw [e0, List.take_length]; exact hG.sum
            have hnx0 := hG.next
            refine SWP_region ?_
            first | refine pu (v := .int .i64 _) rfl rfl ?_ | refine pu rfl rfl ?_
            first | refine pw rfl rfl (w64 (by omega) (by omega)) ?_ | refine pu rfl rfl ?_
            first | refine pu (v := .int .i64 _) rfl rfl ?_ | refine pu rfl rfl ?_
            refine SL_nil ?_
            refine nx ?_
            refine SWP_seq ?_
            refine SWP_seq ?_
            refine SWP_region ?_
            first | refine pu (v := .slice _ _ _) rfl rfl ?_ | refine pu rfl rfl ?_
            refine pu rfl rfl ?_
            refine pc rfl rfl (fun c122 => ?_) (fun c122 => ?_)
            · skip
              refine SL_nil ?_
              refine nx ?_
              refine SWP_ct rfl ?_
              obtain ⟨p, hp⟩ : ∃ p, G[0]? = some p := ⟨_, List.getElem?_eq_getElem (by omega)⟩
              obtain ⟨ad2, cap2, e2, hat2⟩ := RL.at_ pairE_len hg hp
              cases e2
              refine SWP_region ?_
              first | refine pu (v := .slice _ _ _) rfl rfl ?_ | refine pu rfl rfl ?_
              refine ia (es := 2) (k := 0) rfl rfl rfl rfl rfl rfl (by omega) rfl ?_
              first | refine iar (es := 1) rfl rfl rfl (Nat.mul_one _) rfl rfl (by omega) rfl ?_ | refine iari (es := 1) rfl rfl rfl (Nat.mul_one _) rfl rfl (by omega) (by omega) rfl ?_
              refine ldA (v := .int .i64 _) rfl (by assumption) rfl rfl ?_
              first | refine pu (v := .int .i64 _) rfl rfl ?_ | refine pu rfl rfl ?_
              refine SL_nil ?_
              refine nx ?_
              refine SWP_seq ?_
              refine SWP_region ?_
              first | refine pu (v := .pointer _) rfl rfl ?_ | refine pu rfl rfl ?_
              refine SL_call rfl rfl cb18 (guCount hrep (by omega)) rfl (fun v24_1 σ24_1 m24_1 hl24_1 hR24_1 => ?_)
              obtain ⟨rfl, rfl, hm24_1⟩ := hR24_1
              have hn24_1 := hm24_1.symm
              subst hn24_1
              first | refine pu (v := .int .i64 _) rfl rfl ?_ | refine pu rfl rfl ?_
              first | refine pu (v := .int .i64 _) rfl rfl ?_ | refine pu rfl rfl ?_
              first | refine pw rfl rfl (w64 (by omega) (by omega)) ?_ | refine pu rfl rfl ?_
              refine pt rfl rfl (by omega) ?_
              first | refine pu (v := .bool _) rfl rfl ?_ | refine pu rfl rfl ?_
              refine SL_yes rfl ?_
              first | refine pu (v := .pointer _) rfl rfl ?_ | refine pu rfl rfl ?_
              refine SL_yes rfl ?_
              refine SL_call rfl rfl cb16 (guNext hrep hlow) rfl (fun v24_8 σ24_8 m24_8 hl24_8 hR24_8 => ?_)
              obtain ⟨rfl, rfl, hm24_8⟩ := hR24_8
              have hn24_8 := hm24_8.symm
              subst hn24_8
              refine SL_yes rfl ?_
              first | refine pu (v := .int .i64 _) rfl rfl ?_ | refine pu rfl rfl ?_
              refine SL_yes rfl ?_
              refine pt rfl rfl (by first | exact next_pos hnx0 hp | exact next_nil hnx0 (by omega)) ?_
              first | refine pu (v := .bool _) rfl rfl ?_ | refine pu rfl rfl ?_
              first | refine pu (v := .bool _) rfl rfl ?_ | refine pu rfl rfl ?_
              refine SL_yes rfl ?_
              refine SL_pcall rfl rfl cb11 (awakeOk) rfl ?_
              first | refine pu (v := .bool _) rfl rfl ?_ | refine pu rfl rfl ?_
              first | refine pu (v := .bool _) rfl rfl ?_ | refine pu rfl rfl ?_
              refine SL_nil ?_
              refine nx ?_
              refine SWP_ret ?_
              refine fin [_] ⟨rfl, trivial⟩ ?_
              rfl
            · skip
              refine SL_nil ?_
              refine nx ?_
              refine SWP_cf rfl ?_
              refine SWP_skip ?_
              refine nx ?_
              refine SWP_seq ?_
              refine SWP_region ?_
              first | refine pu (v := .pointer _) rfl rfl ?_ | refine pu rfl rfl ?_
              refine SL_call rfl rfl cb18 (guCount hrep (by omega)) rfl (fun v24_1 σ24_1 m24_1 hl24_1 hR24_1 => ?_)
              obtain ⟨rfl, rfl, hm24_1⟩ := hR24_1
              have hn24_1 := hm24_1.symm
              subst hn24_1
              first | refine pu (v := .int .i64 _) rfl rfl ?_ | refine pu rfl rfl ?_
              first | refine pu (v := .int .i64 _) rfl rfl ?_ | refine pu rfl rfl ?_
              first | refine pw rfl rfl (w64 (by omega) (by omega)) ?_ | refine pu rfl rfl ?_
              refine pt rfl rfl (by omega) ?_
              first | refine pu (v := .bool _) rfl rfl ?_ | refine pu rfl rfl ?_
              refine SL_yes rfl ?_
              first | refine pu (v := .pointer _) rfl rfl ?_ | refine pu rfl rfl ?_
              refine SL_yes rfl ?_
              refine SL_call rfl rfl cb16 (guNext hrep hlow) rfl (fun v24_8 σ24_8 m24_8 hl24_8 hR24_8 => ?_)
              obtain ⟨rfl, rfl, hm24_8⟩ := hR24_8
              have hn24_8 := hm24_8.symm
              subst hn24_8
              refine SL_yes rfl ?_
              first | refine pu (v := .int .i64 _) rfl rfl ?_ | refine pu rfl rfl ?_
              refine SL_yes rfl ?_
              refine pt rfl rfl (by first | exact next_pos hnx0 hp | exact next_nil hnx0 (by omega)) ?_
              first | refine pu (v := .bool _) rfl rfl ?_ | refine pu rfl rfl ?_
              first | refine pu (v := .bool _) rfl rfl ?_ | refine pu rfl rfl ?_
              refine SL_yes rfl ?_
              refine SL_pcall rfl rfl cb11 (awakeOk) rfl ?_
              first | refine pu (v := .bool _) rfl rfl ?_ | refine pu rfl rfl ?_
              first | refine pu (v := .bool _) rfl rfl ?_ | refine pu rfl rfl ?_
              refine SL_nil ?_
              refine nx ?_
              refine SWP_ret ?_
              refine fin [_] ⟨rfl, trivial⟩ ?_
              rfl

end Go.Proofs.Ythejjlakmkdkeaa

