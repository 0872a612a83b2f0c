/- Plain laws of ledgers: balances as sums, orders, what is listed. -/
import Derived.Test.YtadnflbohflckaaLedP
namespace Go.Proofs.Ytadnflbohflckaa
open Eng

abbrev wr (x : Int) : Int := IntKind.wrap .i64 x
theorem wr_wr (a : Int) : wr (wr a) = wr a := by unfold wr; rw [IntKind.wrap_i64, IntKind.wrap_i64]; omega
theorem wr_add (a b : Int) : wr (wr a + b) = wr (a + b) := by unfold wr; rw [IntKind.wrap_i64, IntKind.wrap_i64, IntKind.wrap_i64]; omega
theorem wr_cong {a b : Int} (c : Int) (h : wr a = wr b) : wr (a + c) = wr (b + c) := by rw [← wr_add a, h, wr_add]
theorem bal_mput (k k' : ByteArray) (v : Int) (l : Acc) : bal k' (mput k v l) = if k' = k then v else bal k' l := by
  unfold bal
  rw [mput_look]
  split <;> rfl
/-- A posting that is good by itself. -/
structure Good (p : Posting) : Prop where
  a : nameB p.src = true
  b : nameB p.dst = true
  ne : p.src ≠ p.dst
  lo : 1 ≤ p.amt
  hi : p.amt ≤ 1000000000000
theorem postAcc_len {la : Acc} {p : Posting} (h : p.src ≠ p.dst) : ((postAcc la p).length : Int) = (la.length : Int) + mis p.src la + mis p.dst la := by
  unfold postAcc mis
  dsimp only
  rw [mput_len, mput_len, mput_look, if_neg (c := p.dst = p.src) (fun e => h e.symm)]
  cases (mlook p.src la).isSome <;> cases (mlook p.dst la).isSome <;> simp <;> omega
theorem err_iff {la : Acc} {t : Int} {p : Posting} (hl : la.length ≤ 1000) (h0 : 0 ≤ t) (ht : t ≤ 1000000000000000) : postErr la t p = 0 ↔ Good p ∧ (postAcc la p).length ≤ 128 := by
  have h1 := mis_le p.src la
  have h2 := mis_le p.dst la
  unfold postErr
  constructor
  · intro h
    split at h
    · cases h
    · rename_i hn
      split at h
      · cases h
      · rename_i hne
        split at h
        · cases h
        · rename_i ha
          split at h
          · cases h
          · rename_i hc
            have hn' : nameB p.src = true ∧ nameB p.dst = true := by
              cases ha' : nameB p.src <;> cases hb' : nameB p.dst <;> simp [ha', hb'] at hn ⊢
            have ha' : 1 ≤ p.amt ∧ p.amt ≤ 1000000000000 := by
              simp only [Bool.and_eq_false_iff, decide_eq_false_iff_not] at ha
              omega
            refine ⟨⟨hn'.1, hn'.2, hne, ha'.1, ha'.2⟩, ?_⟩
            have e := postAcc_len (la := la) hne
            unfold wadd at hc
            rw [w64 (x := (la.length : Int) + mis p.src la) (by omega) (by omega), w64 (by omega) (by omega)] at hc
            omega
  · rintro ⟨g, hlen⟩
    have e := postAcc_len (la := la) g.ne
    have := g.lo
    have := g.hi
    rw [g.a, g.b]
    rw [if_neg (by simp), if_neg g.ne, if_neg (by rw [decide_eq_true (by omega), decide_eq_true (p := (0 ≤ p.amt ∧ p.amt ≤ 1000000000000)) (by omega)]; exact Bool.noConfusion)]
    rw [if_neg, if_neg]
    · unfold wsub; rw [w64 (by omega) (by omega)]; omega
    · unfold wadd
      rw [w64 (x := (la.length : Int) + mis p.src la) (by omega) (by omega), w64 (by omega) (by omega)]
      omega
/-- What one posting adds to an account. -/
def delta (k : ByteArray) (p : Posting) : Int := if k = p.dst then p.amt else if k = p.src then -p.amt else 0
theorem bal_post {la : Acc} {p : Posting} (h : p.src ≠ p.dst) (k : ByteArray) (hr : wr (bal k la) = bal k la) : bal k (postAcc la p) = wr (bal k la + delta k p) := by
  unfold postAcc delta
  dsimp only
  rw [bal_mput]
  by_cases h1 : k = p.dst
  · subst h1
    rw [if_pos rfl, if_pos rfl, bal_mput, if_neg (fun e => h e.symm)]; rfl
  · rw [if_neg h1, if_neg h1, bal_mput]
    by_cases h2 : k = p.src
    · subst h2
      rw [if_pos rfl, if_pos rfl]; rfl
    · rw [if_neg h2, if_neg h2, Int.add_zero, hr]
/-- Every balance is a number of 64 bits. -/
def InR (la : Acc) : Prop := ∀ k, wr (bal k la) = bal k la
theorem InR.nil : InR [] := fun _ => (w64 (x := 0) (by omega) (by omega))
theorem InR.post {la : Acc} (h : InR la) {p : Posting} (hne : p.src ≠ p.dst) : InR (postAcc la p) := fun k => by
  rw [bal_post hne k (h k), wr_wr]
/-- All postings, one after another. -/
def runP (la : Acc) (l : List Posting) : Acc := l.foldl postAcc la
theorem bal_run {k : ByteArray} : ∀ {l : List Posting} {la : Acc}, InR la → (∀ p ∈ l, p.src ≠ p.dst) → bal k (runP la l) = wr (bal k la + (l.map (delta k)).sum)
  | [], la, h, _ => by simp [runP, h k]
  | p :: l, la, h, hg => by
    have hp := hg p (by simp)
    show bal k (runP (postAcc la p) l) = _
    rw [bal_run (h.post hp) (fun q hq => hg q (List.mem_cons_of_mem _ hq)), bal_post hp k (h k), wr_add, List.map_cons, List.sum_cons, Int.add_assoc]
theorem mem_mput (k : ByteArray) (v : Int) {l : Acc} {k' : ByteArray} : k' ∈ (mput k v l).map (·.1) ↔ k' = k ∨ k' ∈ l.map (·.1) := by
  rw [← mlook_mem, mput_look, ← mlook_mem]
  by_cases h : k' = k <;> simp [h]
theorem mem_post {la : Acc} {p : Posting} {k : ByteArray} : k ∈ (postAcc la p).map (·.1) ↔ k = p.dst ∨ k = p.src ∨ k ∈ la.map (·.1) := by
  unfold postAcc
  dsimp only
  rw [mem_mput, mem_mput]
theorem mem_run {k : ByteArray} : ∀ {l : List Posting} {la : Acc}, k ∈ (runP la l).map (·.1) ↔ (∃ p ∈ l, k = p.dst ∨ k = p.src) ∨ k ∈ la.map (·.1)
  | [], la => by simp [runP]
  | p :: l, la => by
    show k ∈ (runP (postAcc la p) l).map (·.1) ↔ _
    rw [mem_run, mem_post]
    constructor
    · rintro (⟨q, hq, h⟩ | h | h | h)
      · exact .inl ⟨q, List.mem_cons_of_mem _ hq, h⟩
      · exact .inl ⟨p, by simp, .inl h⟩
      · exact .inl ⟨p, by simp, .inr h⟩
      · exact .inr h
    · rintro (⟨q, hq, h⟩ | h)
      · rcases List.mem_cons.1 hq with rfl | hq
        · rcases h with h | h
          · exact .inr (.inl h)
          · exact .inr (.inr (.inl h))
        · exact .inl ⟨q, hq, h⟩
      · exact .inr (.inr (.inr h))
theorem run_nodup : ∀ {l : List Posting} {la : Acc}, (la.map (·.1)).Nodup → ((runP la l).map (·.1)).Nodup
  | [], _, h => h
  | p :: l, la, h => by
    show ((runP (postAcc la p) l).map (·.1)).Nodup
    exact run_nodup (mput_keys _ _ (mput_keys _ _ h))
theorem post_len_le {la : Acc} {p : Posting} : la.length ≤ (postAcc la p).length := by
  unfold postAcc
  dsimp only
  rw [mput_len, mput_len]; omega
theorem run_len_le : ∀ {l : List Posting} {la : Acc}, la.length ≤ (runP la l).length
  | [], _ => Nat.le_refl _
  | p :: l, la => Nat.le_trans (post_len_le (p := p)) (run_len_le (l := l))
theorem step_pos {la : Acc} {t : Int} {p : Posting} (h : postErr la t p = 0) : stepAcc la t p = postAcc la p ∧ stepT la t p = wadd t p.amt := by
  unfold stepAcc stepT; rw [if_pos h, if_pos h]; exact ⟨rfl, rfl⟩
/-- Replay accepts exactly lists of good postings whose accounts are at most 128. -/
theorem replay_ok : ∀ {l : List Posting} {la : Acc} {t : Int}, la.length ≤ 128 → 0 ≤ t → t + 1000000000000 * l.length ≤ 1000000000000000 →
    ((replay la t l).1 = 0 ↔ (∀ p ∈ l, Good p) ∧ (runP la l).length ≤ 128) ∧ ((replay la t l).1 = 0 → (replay la t l).2 = runP la l)
  | [], la, t, h, _, _ => ⟨⟨fun _ => ⟨by simp, h⟩, fun _ => rfl⟩, fun _ => rfl⟩
  | p :: l, la, t, h, h0, ht => by
    rw [List.length_cons] at ht
    have hiff := err_iff (p := p) (show la.length ≤ 1000 by omega) h0 (by omega)
    unfold replay
    by_cases he : postErr la t p = 0
    · rw [if_pos he, (step_pos he).1, (step_pos he).2]
      obtain ⟨g, hlen⟩ := hiff.1 he
      have e : wadd t p.amt = t + p.amt := by
        have := g.lo
        have := g.hi
        unfold wadd; rw [w64 (by omega) (by omega)]
      rw [e]
      have ih := replay_ok (l := l) (la := postAcc la p) (t := t + p.amt) hlen (by have := g.lo; omega) (by have := g.hi; omega)
      refine ⟨?_, ih.2⟩
      rw [ih.1]
      constructor
      · rintro ⟨h1, h2⟩
        exact ⟨fun q hq => by rcases List.mem_cons.1 hq with rfl | hq; exact g; exact h1 q hq, h2⟩
      · rintro ⟨h1, h2⟩
        exact ⟨fun q hq => h1 q (List.mem_cons_of_mem _ hq), h2⟩
    · rw [if_neg he]
      refine ⟨⟨fun h' => absurd h' he, fun ⟨h1, h2⟩ => absurd (hiff.2 ⟨h1 p (by simp), ?_⟩) he⟩, fun h' => absurd h' he⟩
      exact Nat.le_trans (run_len_le (l := l)) h2
/-- What is listed is fixed by the balances. -/
theorem nz_eq {la lb : Acc} {ks ks' : List ByteArray} (h : ∀ k, bal k la = bal k lb) (hk : ks.Perm (la.map (·.1))) (hk' : ks'.Perm (lb.map (·.1))) (hn : (la.map (·.1)).Nodup) (hn' : (lb.map (·.1)).Nodup) : nz la (sortK ks) = nz lb (sortK ks') := by
  have e : (sortK ks).filter (fun k => decide (bal k la ≠ 0)) = (sortK ks').filter (fun k => decide (bal k lb ≠ 0)) := by
    refine srt_eq _ _ ((sortK_strict (hk.nodup_iff.2 hn)).filter _) ((sortK_strict (hk'.nodup_iff.2 hn')).filter _) fun x => ?_
    rw [List.mem_filter, List.mem_filter, (sortK_perm ks).mem_iff, (sortK_perm ks').mem_iff, hk.mem_iff, hk'.mem_iff, ← mlook_mem, ← mlook_mem]
    have h1 : ∀ {l : Acc}, bal x l ≠ 0 → (mlook x l).isSome = true := fun {l} hb => by
      unfold bal at hb
      cases hm : mlook x l with
      | none => rw [hm] at hb; exact absurd rfl hb
      | some v => rfl
    simp only [decide_eq_true_eq]
    constructor
    · rintro ⟨_, h3⟩
      have : bal x lb ≠ 0 := by rw [← h x]; exact h3
      exact ⟨h1 this, this⟩
    · rintro ⟨_, h3⟩
      have : bal x la ≠ 0 := by rw [h x]; exact h3
      exact ⟨h1 this, this⟩
  unfold nz
  rw [e]
  exact List.map_congr_left fun k _ => by rw [h k]
theorem sum_rev (l : List Int) : l.reverse.sum = l.sum := by
  induction l with
  | nil => rfl
  | cons a l ih => rw [List.reverse_cons, List.sum_append, ih, List.sum_cons, List.sum_cons, List.sum_nil]; omega
theorem keys_len_eq {la lb : Acc} (h : ∀ k, k ∈ la.map (·.1) ↔ k ∈ lb.map (·.1)) (hn : (la.map (·.1)).Nodup) (hn' : (lb.map (·.1)).Nodup) : la.length = lb.length := by
  have := ((List.perm_ext_iff_of_nodup hn hn').2 h).length_eq
  rwa [List.length_map, List.length_map] at this
/-- The order turned round. -/
theorem replay_rev {l : List Posting} (hl : l.length ≤ 200) : ((replay [] 0 l).1 = 0 ↔ (replay [] 0 l.reverse).1 = 0) ∧ ((replay [] 0 l).1 = 0 → ∀ k, bal k (replay [] 0 l).2 = bal k (replay [] 0 l.reverse).2) := by
  have h1 := replay_ok (l := l) (la := []) (t := 0) (by simp) (by omega) (by omega)
  have h2 := replay_ok (l := l.reverse) (la := []) (t := 0) (by simp) (by omega) (by rw [List.length_reverse]; omega)
  have hlen : (runP [] l).length = (runP [] l.reverse).length := keys_len_eq (fun k => by rw [mem_run, mem_run]; simp) (run_nodup List.nodup_nil) (run_nodup List.nodup_nil)
  have hiff : (replay [] 0 l).1 = 0 ↔ (replay [] 0 l.reverse).1 = 0 := by
    rw [h1.1, h2.1, hlen]
    simp
  refine ⟨hiff, fun h k => ?_⟩
  rw [h1.2 h, h2.2 (hiff.1 h)]
  have hg := (h1.1.1 h).1
  rw [bal_run InR.nil (fun p hp => (hg p hp).ne), bal_run InR.nil (fun p hp => (hg p (List.mem_reverse.1 hp)).ne), List.map_reverse, sum_rev]

theorem sum_mput (k : ByteArray) (v : Int) : ∀ {l : Acc}, ((mput k v l).map (·.2)).sum = (l.map (·.2)).sum + v - bal k l
  | [] => by simp [mput, bal, mlook]
  | p :: l => by
    unfold mput
    by_cases h : k = p.1
    · rw [if_pos h]
      have : bal k (p :: l) = p.2 := by unfold bal mlook; rw [if_pos h]; rfl
      rw [this]
      simp only [List.map_cons, List.sum_cons]; omega
    · rw [if_neg h]
      have : bal k (p :: l) = bal k l := by unfold bal; conv => lhs; unfold mlook
                                            rw [if_neg h]
      rw [this, List.map_cons, List.sum_cons, sum_mput k v (l := l), List.map_cons, List.sum_cons]; omega
theorem sum_post {la : Acc} {p : Posting} : wr (((postAcc la p).map (·.2)).sum) = wr ((la.map (·.2)).sum) := by
  unfold postAcc
  dsimp only
  rw [sum_mput, sum_mput]
  generalize bal p.dst _ = x
  generalize bal p.src la = y
  generalize (la.map (·.2)).sum = s
  unfold wr wsub wadd
  rw [IntKind.wrap_i64, IntKind.wrap_i64, IntKind.wrap_i64, IntKind.wrap_i64]
  omega
structure Inv (la : Acc) (t : Int) (n : Nat) : Prop extends Few la n where
  inr : InR la
  t0 : 0 ≤ t
  t1 : t ≤ 1000000000000 * n
  zero : wr ((la.map (·.2)).sum) = 0
theorem Inv.new : Inv [] 0 0 := ⟨⟨by simp, List.nodup_nil⟩, InR.nil, by omega, by omega, by decide +kernel⟩
theorem Inv.step {la : Acc} {t : Int} {n : Nat} (h : Inv la t n) (hn : n ≤ 400) (p : Posting) : Inv (stepAcc la t p) (stepT la t p) (n + 1) := by
  have hl := h.len
  have h0 := h.t0
  have h1 := h.t1
  refine ⟨h.toFew.step t p, ?_, ?_, ?_, ?_⟩ <;> by_cases he : postErr la t p = 0
  · rw [(step_pos he).1]
    exact h.inr.post ((err_iff (by omega) h0 (by omega)).1 he).1.ne
  · unfold stepAcc; rw [if_neg he]; exact h.inr
  · have g := ((err_iff (by omega) h0 (by omega)).1 he).1
    have := g.lo
    have := g.hi
    rw [(step_pos he).2]; unfold wadd; rw [w64 (by omega) (by omega)]; omega
  · unfold stepT; rw [if_neg he]; exact h0
  · have g := ((err_iff (by omega) h0 (by omega)).1 he).1
    have := g.lo
    have := g.hi
    rw [(step_pos he).2]; unfold wadd; rw [w64 (by omega) (by omega)]; omega
  · unfold stepT; rw [if_neg he]; omega
  · rw [(step_pos he).1, sum_post]; exact h.zero
  · unfold stepAcc; rw [if_neg he]; exact h.zero
/-- The posting turned round. -/
def Posting.rev (p : Posting) : Posting := ⟨p.dst, p.src, p.amt⟩
theorem rev_err {la : Acc} {t : Int} {n : Nat} {p : Posting} (h : Inv la t n) (hn : n ≤ 200) (he : postErr la t p = 0) : postErr (stepAcc la t p) (stepT la t p) p.rev = 0 := by
  have hl := h.len
  have h0 := h.t0
  have h1 := h.t1
  obtain ⟨g, hlen⟩ := (err_iff (by omega) h0 (by omega)).1 he
  have hi := h.step (by omega) p
  have hl' := hi.len
  have h0' := hi.t0
  have h1' := hi.t1
  rw [err_iff (by omega) h0' (by omega)]
  refine ⟨⟨g.b, g.a, fun e => g.ne e.symm, g.lo, g.hi⟩, ?_⟩
  rw [(step_pos he).1]
  have hk : ((postAcc la p).map (·.1)).Nodup := mput_keys _ _ (mput_keys _ _ h.keys)
  rw [keys_len_eq (la := postAcc (postAcc la p) p.rev) (lb := postAcc la p) (fun k => ?_) (mput_keys _ _ (mput_keys _ _ hk)) hk]
  · exact hlen
  · rw [mem_post, mem_post]
    unfold Posting.rev
    dsimp only
    constructor
    · rintro (h | h | h)
      · exact .inr (.inl h)
      · exact .inl h
      · exact h
    · intro h; exact .inr (.inr h)
theorem rev_bal {la : Acc} {t : Int} {n : Nat} {p : Posting} (h : Inv la t n) (hn : n ≤ 200) (he : postErr la t p = 0) (k : ByteArray) : bal k (stepAcc (stepAcc la t p) (stepT la t p) p.rev) = bal k la := by
  have hl := h.len
  have h0 := h.t0
  have h1 := h.t1
  obtain ⟨g, hlen⟩ := (err_iff (by omega) h0 (by omega)).1 he
  rw [(step_pos (rev_err h hn he)).1, (step_pos he).1]
  rw [bal_post (fun e => g.ne e.symm) k (h.inr.post g.ne k), bal_post g.ne k (h.inr k), wr_add]
  have e : delta k p + delta k p.rev = 0 := by
    unfold delta Posting.rev
    dsimp only
    have := g.ne
    by_cases h1 : k = p.dst
    · have h2 : k ≠ p.src := fun e => this (e.symm.trans h1)
      rw [if_pos h1, if_neg h2, if_pos h1]; omega
    · rw [if_neg h1]
      by_cases h2 : k = p.src
      · rw [if_pos h2, if_pos h2]; omega
      · rw [if_neg h2, if_neg h2, if_neg h1]; omega
  rw [Int.add_assoc, e, Int.add_zero, h.inr k]
/-- The amounts that are listed add up to what all balances add up to. -/
theorem nz_sum (la : Acc) : ∀ (ks : List ByteArray), ((nz la ks).map (·.2)).sum = (ks.map fun k => bal k la).sum
  | [] => rfl
  | k :: ks => by
    have ih := nz_sum la ks
    unfold nz at ih ⊢
    by_cases hb : bal k la ≠ 0
    · rw [List.filter_cons_of_pos (by simpa using hb)]
      simp only [List.map_cons, List.sum_cons, ih]
    · rw [List.filter_cons_of_neg (by simpa using hb)]
      simp only [List.map_cons, List.sum_cons, ih]
      omega
theorem perm_sum {a b : List Int} (h : a.Perm b) : a.sum = b.sum := by
  induction h with
  | nil => rfl
  | cons x _ ih => rw [List.sum_cons, List.sum_cons, ih]
  | swap x y l => simp only [List.sum_cons]; omega
  | trans _ _ h1 h2 => exact h1.trans h2
theorem nz_zero {la : Acc} {t : Int} {n : Nat} (h : Inv la t n) {ks : List ByteArray} (hk : ks.Perm (la.map (·.1))) : wr (((nz la (sortK ks)).map (·.2)).sum) = 0 := by
  rw [nz_sum, perm_sum (((sortK_perm ks).trans hk).map fun k => bal k la), List.map_map]
  rw [← h.zero]
  congr 2
  exact List.map_congr_left fun p hp => by
    show bal p.1 la = p.2
    unfold bal
    rw [mlook_of_mem h.keys hp]; rfl
theorem nz_get {la : Acc} {ks : List ByteArray} {p : ByteArray × Int} (h : p ∈ nz la ks) : p.2 = bal p.1 la ∧ p.2 ≠ 0 := by
  unfold nz at h
  obtain ⟨k, hk, rfl⟩ := List.mem_map.1 h
  have := (List.mem_filter.1 hk).2
  exact ⟨rfl, by simpa using this⟩
theorem nz_sorted {la : Acc} {ks : List ByteArray} (h : ks.Perm (la.map (·.1))) (hn : (la.map (·.1)).Nodup) : (nz la (sortK ks)).Pairwise fun a b => klt a.1 b.1 = true := by
  unfold nz
  rw [List.pairwise_map]
  exact ((sortK_strict (h.nodup_iff.2 hn)).filter _).imp fun {a b} h => h

end Go.Proofs.Ytadnflbohflckaa

