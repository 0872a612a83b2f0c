/- lotteryref48: place, add, Post, Balance: what they compute. -/
import Derived.Test.YtadnflbohflckaaLedI
import Derived.Test.YtadnflbohflckaaEngOwn
namespace Go.Proofs.Ytadnflbohflckaa
open Eng

def balE (p : ByteArray × Int) : List Value := [.string p.1, .int .i64 p.2]
theorem balE_len (p : ByteArray × Int) : (balE p).length = 2 := rfl
def RefC (B : Nat) (sv : Value) (t : Int) (σe : Sig) : Sig := (B, Cells 49 [sv, .int .i64 t]) :: σe
def plcFrom (k : ByteArray) : Acc → Nat → Int
  | [], _ => -1
  | p :: l, i => if p.1 = k then (i : Int) else plcFrom k l (i + 1)
def plc (k : ByteArray) (l : Acc) : Int := plcFrom k l 0
theorem plc_found (k : ByteArray) : ∀ (l : Acc) (i j : Nat) (p : ByteArray × Int), l[i]? = some p → p.1 = k → (l.take i).all (fun q => decide (q.1 ≠ k)) = true → plcFrom k l j = ((i + j : Nat) : Int)
  | [], _, _, _, h, _, _ => by simp at h
  | q :: l, 0, j, p, h, h1, _ => by
    simp only [List.getElem?_cons_zero, Option.some.injEq] at h
    subst h
    simp [plcFrom, h1]
  | q :: l, i + 1, j, p, h, h1, h2 => by
    simp only [List.getElem?_cons_succ] at h
    simp only [List.take_succ_cons, List.all_cons, Bool.and_eq_true, decide_eq_true_eq] at h2
    rw [plcFrom, if_neg h2.1, plc_found k l i (j + 1) p h h1 h2.2]
    congr 1; omega
theorem plc_none (k : ByteArray) : ∀ (l : Acc) (j : Nat), l.all (fun q => decide (q.1 ≠ k)) = true → plcFrom k l j = -1
  | [], _, _ => rfl
  | q :: l, j, h => by
    simp only [List.all_cons, Bool.and_eq_true, decide_eq_true_eq] at h
    rw [plcFrom, if_neg h.1, plc_none k l (j + 1) h.2]

theorem refPlace {m : Mem} {B : Nat} {sv : Value} {L : Acc} {t : Int} {σe : Sig} (hown : OwnS 37 2 sv (L.flatMap balE) σe) (k : ByteArray) :
    CallsS Try.prog 28 [.pointer (some ⟨B, 0, none⟩), .string k].toArray (RefC B sv t σe) m fun r σ' m' => r = .int .i64 (plc k L) ∧ σ' = RefC B sv t σe ∧ m' = m := by
  obtain ⟨a, cap, rfl⟩ := hown.lenL (by omega) balE_len
  have hsm := hown.small (by omega) balE_len
  unfold maxLen at hsm
  refine enter Try.func28 Try.ntmps28 rfl rfl ?_
  refine SWP_seq ?_
  refine SWP_region ?_
  first | refine pu (v := .int .i64 _) rfl rfl ?_ | refine pu rfl rfl ?_
  refine SL_nil ?_
  refine nx ?_
  refine SWP_seq ?_
  refine SWP_seq ?_
  refine SWP_region ?_
  first | refine pu (v := .int .i64 _) rfl rfl ?_ | refine pu rfl rfl ?_
  refine SL_nil ?_
  refine nx ?_
  refine SWP_block ?_
  refine SWP_loop [4, 5, 6, 7, 8, 9, 10, 11, 12, 13, 14, 15, 16, 17, 18, 19, 20, 21, 22, 23, 24, 25] [5]
      (fun vs σ' m' => ∃ i, i ≤ L.length ∧ vs = [.int .i64 (i : Nat)] ∧ (L.take i).all (fun q => decide (q.1 ≠ k)) = true ∧ σ' = RefC B (.slice a L.length cap) t σe ∧ m = m')
      (fun vs => L.length - nOf (vs.getD 0 undef)) rfl ?_ ?_
  · exact ⟨0, by omega, rfl, by simp, rfl, rfl⟩
  · intro u0 vs0 σ0 m0 hJ0 _
    obtain ⟨i, hi, rfl, hall, rfl, rfl⟩ := hJ0
    refine SWP_seq ?_
    refine SWP_seq ?_
    refine SWP_region ?_
    first | refine pu (v := .int .i64 _) rfl rfl ?_ | refine pu rfl rfl ?_
    first | refine pu (v := .pointer _) rfl rfl ?_ | refine pu rfl rfl ?_
    refine pu rfl rfl ?_
    refine pu rfl rfl ?_
    first | refine ld (v := .slice _ _ _) (off := 0) (Rd.of_cells (.head _)) rfl rfl rfl rfl ?_ | refine ld (v := .slice _ _ _) (off := 0) (Rd.of_cells (.tail _ (.head _))) rfl rfl rfl rfl ?_ | refine ld (v := .slice _ _ _) (off := 0) (Rd.of_cells (.tail _ (.tail _ (.head _)))) rfl rfl rfl rfl ?_ | refine ld (v := .slice _ _ _) (off := 0) (Rd.of_cells (.tail _ (.tail _ (.tail _ (.head _))))) rfl rfl rfl rfl ?_ | refine ld (v := .slice _ _ _) (off := 0) (Rd.of_cells (.tail _ (.tail _ (.tail _ (.tail _ (.head _)))))) rfl rfl rfl rfl ?_ | refine ld (v := .slice _ _ _) (off := 0) (Rd.of_cells (.tail _ (.tail _ (.tail _ (.tail _ (.tail _ (.head _))))))) rfl rfl rfl rfl ?_ | refine ld (v := .slice _ _ _) (off := 0) (Rd.of_cells (.tail _ (.tail _ (.tail _ (.tail _ (.tail _ (.tail _ (.head _)))))))) rfl rfl rfl rfl ?_
    refine pu rfl rfl ?_
    refine pc rfl rfl (fun c12 => ?_) (fun c12 => ?_)
    · skip
      refine SL_nil ?_
      refine nx ?_
      refine SWP_ct rfl ?_
      refine SWP_skip ?_
      refine nx ?_
      refine SWP_seq ?_
      refine SWP_block ?_
      refine SWP_seq ?_
      obtain ⟨b, hb⟩ : ∃ b, L[i]? = some b := ⟨_, List.getElem?_eq_getElem (by omega)⟩
      obtain ⟨ad, cap', e1, hrd⟩ := hown.atL (by omega) balE_len hb
      cases e1
      refine SWP_region ?_
      first | refine pu (v := .pointer _) rfl rfl ?_ | refine pu rfl rfl ?_
      refine pu rfl rfl ?_
      refine pu rfl rfl ?_
      first | refine ld (v := .slice _ _ _) (off := 0) (Rd.of_cells (.head _)) rfl rfl rfl rfl ?_ | refine ld (v := .slice _ _ _) (off := 0) (Rd.of_cells (.tail _ (.head _))) rfl rfl rfl rfl ?_ | refine ld (v := .slice _ _ _) (off := 0) (Rd.of_cells (.tail _ (.tail _ (.head _)))) rfl rfl rfl rfl ?_ | refine ld (v := .slice _ _ _) (off := 0) (Rd.of_cells (.tail _ (.tail _ (.tail _ (.head _))))) rfl rfl rfl rfl ?_ | refine ld (v := .slice _ _ _) (off := 0) (Rd.of_cells (.tail _ (.tail _ (.tail _ (.tail _ (.head _)))))) rfl rfl rfl rfl ?_ | refine ld (v := .slice _ _ _) (off := 0) (Rd.of_cells (.tail _ (.tail _ (.tail _ (.tail _ (.tail _ (.head _))))))) rfl rfl rfl rfl ?_ | refine ld (v := .slice _ _ _) (off := 0) (Rd.of_cells (.tail _ (.tail _ (.tail _ (.tail _ (.tail _ (.tail _ (.head _)))))))) rfl rfl rfl rfl ?_
      first | refine pu (v := .int .i64 _) rfl rfl ?_ | refine pu rfl rfl ?_
      first | refine ia (es := 2) rfl rfl rfl rfl rfl rfl (by omega) rfl ?_ | refine iai (es := 2) rfl rfl rfl rfl rfl rfl (by omega) (by omega) rfl ?_
      refine pu rfl rfl ?_
      refine ldO (v := .string _) (hrd _ _ (fun _ h => .tail _ h)) rfl rfl rfl rfl ?_
      first | refine pu (v := .string _) rfl rfl ?_ | refine pu rfl rfl ?_
      refine pc rfl rfl (fun c24 => ?_) (fun c24 => ?_)
      · skip
        refine SL_nil ?_
        refine nx ?_
        refine SWP_ct rfl ?_
        refine SWP_seq ?_
        refine SWP_region ?_
        first | refine pu (v := .int .i64 _) rfl rfl ?_ | refine pu rfl rfl ?_
        first | refine pu (v := .int .i64 _) rfl rfl ?_ | refine pu rfl rfl ?_
        refine SL_nil ?_
        refine nx ?_
        refine SWP_ret ?_
        refine br ?_
        refine nr ?_
        refine nr ?_
        refine br ?_
        refine nr ?_
        refine fin [_] ⟨rfl, trivial⟩ ?_
        refine ⟨congrArg (Value.int .i64) ?_, rfl, rfl⟩
        have := plc_found k L i 0 b hb c24 hall
        rw [Nat.add_zero] at this
        exact this.symm
      · skip
        refine SL_nil ?_
        refine nx ?_
        refine SWP_cf rfl ?_
        refine SWP_skip ?_
        refine nb ?_
        refine nx ?_
        refine SWP_region ?_
        first | refine pu (v := .int .i64 _) rfl rfl ?_ | refine pu rfl rfl ?_
        first | refine pw rfl rfl (w64 (by omega) (by omega)) ?_ | refine pu rfl rfl ?_
        first | refine pu (v := .int .i64 _) rfl rfl ?_ | refine pu rfl rfl ?_
        refine SL_nil ?_
        refine nx ?_
        refine ⟨by repeat (first | exact Under.upds rfl (Under.hav _ _ _) | exact Under.hav _ _ _ | refine Under.upd rfl ?_), ?_, ?_⟩
        · exact ⟨i + 1, by omega, rfl, by rw [all_snoc hb, hall]; exact decide_eq_true c24, rfl, rfl⟩
        · simp only [L_vals, List.map, List.getD]; show L.length - (i + 1) < L.length - i; omega
    · skip
      refine SL_nil ?_
      refine nx ?_
      refine SWP_cf rfl ?_
      refine SWP_exit ?_
      refine ne ?_
      refine ne ?_
      refine be rfl ?_
      refine nx ?_
      refine SWP_seq ?_
      refine SWP_region ?_
      first | refine pu (v := .int .i64 _) rfl rfl ?_ | refine pu rfl rfl ?_
      refine SL_nil ?_
      refine nx ?_
      refine SWP_ret ?_
      refine fin [_] ⟨rfl, trivial⟩ ?_
      refine ⟨congrArg (Value.int .i64) ?_, rfl, rfl⟩
      have e : i = L.length := by omega
      rw [e, List.take_length] at hall
      exact (plc_none k L 0 hall).symm

theorem plc_look (k : ByteArray) : ∀ (l : Acc) (j : Nat), (plcFrom k l j = -1 ∧ mlook k l = none) ∨ ∃ i n, plcFrom k l j = ((i + j : Nat) : Int) ∧ l[i]? = some (k, n) ∧ mlook k l = some n
  | [], _ => .inl ⟨rfl, rfl⟩
  | q :: l, j => by
    unfold plcFrom mlook
    by_cases h : q.1 = k
    · rw [if_pos h, if_pos h.symm]
      exact .inr ⟨0, q.2, by rw [Nat.zero_add], by subst h; rfl, rfl⟩
    · rw [if_neg h, if_neg (fun e => h e.symm)]
      rcases plc_look k l (j + 1) with ⟨h1, h2⟩ | ⟨i, n, h1, h2, h3⟩
      · exact .inl ⟨h1, h2⟩
      · exact .inr ⟨i + 1, n, by rw [h1]; congr 1; omega, by simpa using h2, h3⟩
theorem plc_cases (k : ByteArray) (l : Acc) : (plc k l = -1 ∧ mlook k l = none) ∨ ∃ i n, plc k l = ((i : Nat) : Int) ∧ l[i]? = some (k, n) ∧ mlook k l = some n := plc_look k l 0
theorem sub1 (i : Nat) (h : i < 9223372036854775807) : IntKind.wrap .i64 (((i + 1 : Nat) : Int) - 1) = (i : Int) := by
  rw [w64 (by omega) (by omega)]; omega

theorem refNew {m : Mem} : CallsS Try.prog 12 [].toArray [] m fun r σ' m' => ∃ B, r = .pointer (some ⟨B, 0, none⟩) ∧ σ' = RefC B (.slice none 0 0) 0 [] ∧ m' = m := by
  refine enter Try.func12 Try.ntmps12 rfl rfl ?_
  refine SWP_seq ?_
  refine SWP_region ?_
  first | refine pu (v := .pointer _) rfl rfl ?_ | refine pu rfl rfl ?_
  refine SL_nil ?_
  refine nx ?_
  refine SWP_seq ?_
  refine SWP_region ?_
  first | refine pu (v := .agg _) rfl rfl ?_ | refine pu rfl rfl ?_
  refine bx (v := .agg _) rfl rfl (fun B2 => ?_)
  first | refine pu (v := .pointer _) rfl rfl ?_ | refine pu rfl rfl ?_
  refine SL_nil ?_
  refine nx ?_
  refine SWP_ret ?_
  refine fin [_] ⟨rfl, trivial⟩ ?_
  exact ⟨_, rfl, rfl, rfl⟩

theorem refBalance {m : Mem} {B : Nat} {sv : Value} {L : Acc} {t : Int} {σe : Sig} (hown : OwnS 37 2 sv (L.flatMap balE) σe) (k : ByteArray) :
    CallsS Try.prog 16 [.pointer (some ⟨B, 0, none⟩), .string k].toArray (RefC B sv t σe) m fun r σ' m' => r = .int .i64 (bal k L) ∧ σ' = RefC B sv t σe ∧ m' = m := by
  refine enter Try.func16 Try.ntmps16 rfl rfl ?_
  refine SWP_seq ?_
  refine SWP_region ?_
  first | refine pu (v := .int .i64 _) rfl rfl ?_ | refine pu rfl rfl ?_
  refine SL_nil ?_
  refine nx ?_
  refine SWP_seq ?_
  refine SWP_region ?_
  first | refine pu (v := .pointer _) rfl rfl ?_ | refine pu rfl rfl ?_
  first | refine pu (v := .string _) rfl rfl ?_ | refine pu rfl rfl ?_
  refine SL_pcallS rfl rfl cb28 (refPlace hown _) rfl ?_
  first | refine pu (v := .int .i64 _) rfl rfl ?_ | refine pu rfl rfl ?_
  refine SL_nil ?_
  refine nx ?_
  refine SWP_seq ?_
  refine SWP_seq ?_
  refine SWP_region ?_
  first | refine pu (v := .int .i64 _) rfl rfl ?_ | refine pu rfl rfl ?_
  refine pc rfl rfl (fun c10 => ?_) (fun c10 => ?_)
  · skip
    refine SL_nil ?_
    refine nx ?_
    refine SWP_ct rfl ?_
    refine SWP_seq ?_
    refine SWP_region ?_
    first | refine pu (v := .int .i64 _) rfl rfl ?_ | refine pu rfl rfl ?_
    refine SL_nil ?_
    refine nx ?_
    refine SWP_ret ?_
    refine nr ?_
    refine fin [_] ⟨rfl, trivial⟩ ?_
    rcases plc_cases k L with ⟨e1, e2⟩ | ⟨i, nn, e1, hb, e2⟩
    · exact ⟨by unfold bal; rw [e2]; rfl, rfl, rfl⟩
    · omega
  · skip
    refine SL_nil ?_
    refine nx ?_
    refine SWP_cf rfl ?_
    refine SWP_skip ?_
    refine nx ?_
    refine SWP_seq ?_
    rcases plc_cases k L with ⟨e1, e2⟩ | ⟨i, nn, e1, hb, e2⟩
    · omega
    obtain ⟨ad, cap', rfl, hrd⟩ := hown.atL (by omega) balE_len hb
    have hlt := (List.getElem?_eq_some_iff.1 hb).1
    refine SWP_region ?_
    first | refine pu (v := .pointer _) rfl rfl ?_ | refine pu rfl rfl ?_
    refine pu rfl rfl ?_
    refine pu rfl rfl ?_
    first | refine ld (v := .slice _ _ _) (off := 0) (Rd.of_cells (.head _)) rfl rfl rfl rfl ?_ | refine ld (v := .slice _ _ _) (off := 0) (Rd.of_cells (.tail _ (.head _))) rfl rfl rfl rfl ?_ | refine ld (v := .slice _ _ _) (off := 0) (Rd.of_cells (.tail _ (.tail _ (.head _)))) rfl rfl rfl rfl ?_ | refine ld (v := .slice _ _ _) (off := 0) (Rd.of_cells (.tail _ (.tail _ (.tail _ (.head _))))) rfl rfl rfl rfl ?_ | refine ld (v := .slice _ _ _) (off := 0) (Rd.of_cells (.tail _ (.tail _ (.tail _ (.tail _ (.head _)))))) rfl rfl rfl rfl ?_ | refine ld (v := .slice _ _ _) (off := 0) (Rd.of_cells (.tail _ (.tail _ (.tail _ (.tail _ (.tail _ (.head _))))))) rfl rfl rfl rfl ?_ | refine ld (v := .slice _ _ _) (off := 0) (Rd.of_cells (.tail _ (.tail _ (.tail _ (.tail _ (.tail _ (.tail _ (.head _)))))))) rfl rfl rfl rfl ?_
    refine pu (v := .int .i64 (i : Nat)) (by show some (Value.int .i64 (plc k L)) = _; rw [e1]) rfl ?_
    first | refine ia (es := 2) rfl rfl rfl rfl rfl rfl (by omega) rfl ?_ | refine iai (es := 2) rfl rfl rfl rfl rfl rfl (by omega) (by omega) rfl ?_
    refine pu rfl rfl ?_
    refine ldO (v := .int .i64 _) (hrd _ _ (fun _ h => .tail _ h)) rfl rfl rfl rfl ?_
    first | refine pu (v := .int .i64 _) rfl rfl ?_ | refine pu rfl rfl ?_
    refine SL_nil ?_
    refine nx ?_
    refine SWP_ret ?_
    refine fin [_] ⟨rfl, trivial⟩ ?_
    exact ⟨by unfold bal; rw [e2]; rfl, rfl, rfl⟩

theorem bless_trans : ∀ (a b c : List UInt8), Op.bytesLess a b = true → Op.bytesLess b c = true → Op.bytesLess a c = true
  | _, [], _, h, _ => by simp [Op.bytesLess] at h
  | _, _ :: _, [], _, h => by simp [Op.bytesLess] at h
  | [], _ :: _, _ :: _, _, _ => rfl
  | x :: a, y :: b, z :: c, h, h' => by
    simp only [Op.bytesLess, Bool.or_eq_true, decide_eq_true_eq, Bool.and_eq_true, beq_iff_eq] at h h' ⊢
    rcases h with h | ⟨rfl, h⟩
    · rcases h' with h' | ⟨rfl, _⟩
      · exact .inl (UInt8.lt_trans h h')
      · exact .inl h
    · rcases h' with h' | ⟨rfl, h'⟩
      · exact .inl h'
      · exact .inr ⟨rfl, bless_trans a b c h h'⟩
theorem bless_total : ∀ (a b : List UInt8), Op.bytesLess a b = false → a ≠ b → Op.bytesLess b a = true
  | [], [], _, h => absurd rfl h
  | _ :: _, [], _, _ => rfl
  | [], _ :: _, h, _ => by simp [Op.bytesLess] at h
  | x :: a, y :: b, h, hne => by
    simp only [Op.bytesLess, Bool.or_eq_false_iff, decide_eq_false_iff_not, Bool.and_eq_false_iff] at h
    simp only [Op.bytesLess, Bool.or_eq_true, decide_eq_true_eq, Bool.and_eq_true, beq_iff_eq]
    by_cases e : x = y
    · subst e
      refine .inr ⟨rfl, bless_total a b ?_ (fun e => hne (by rw [e]))⟩
      rcases h.2 with h2 | h2
      · simp at h2
      · exact h2
    · refine .inl ?_
      rcases UInt8.lt_or_lt_of_ne e with h3 | h3
      · exact absurd h3 h.1
      · exact h3
theorem bless_irrefl : ∀ (a : List UInt8), Op.bytesLess a a = false
  | [] => rfl
  | x :: a => by simp [Op.bytesLess, bless_irrefl a]
def klt (a b : ByteArray) : Bool := Op.bytesLess a.toList b.toList
theorem klt_trans {a b c : ByteArray} (h : klt a b = true) (h' : klt b c = true) : klt a c = true := bless_trans _ _ _ h h'
theorem klt_total {a b : ByteArray} (h : klt a b = false) (hne : a ≠ b) : klt b a = true := bless_total _ _ h fun e => hne (by
  rw [ByteArray.toList_eq, ByteArray.toList_eq] at e
  exact ByteArray.ext (Array.toList_inj.1 e))
theorem klt_ne {a b : ByteArray} (h : klt a b = true) : a ≠ b := fun e => by subst e; unfold klt at h; rw [bless_irrefl] at h; cases h
def Srt (L : Acc) : Prop := (L.map (·.1)).Pairwise fun a b => klt a b = true
/-- The account is in the list, with its balance. -/
structure Ins (k : ByteArray) (L LF : Acc) : Prop where
  look : ∀ k', mlook k' LF = if k' = k then some (bal k L) else mlook k' L
  len : LF.length = L.length + (if (mlook k L).isSome = true then 0 else 1)
  srt : Srt L → Srt LF
theorem ins_same {k : ByteArray} {L : Acc} {v : Int} (h : mlook k L = some v) : Ins k L L :=
  ⟨fun k' => by
    by_cases e : k' = k
    · subst e; rw [if_pos rfl]; unfold bal; rw [h]; rfl
    · rw [if_neg e], by rw [h]; rfl, fun h => h⟩
theorem mlook_app (k : ByteArray) : ∀ (a b : Acc), mlook k (a ++ b) = match mlook k a with | some v => some v | none => mlook k b
  | [], _ => rfl
  | p :: a, b => by
    simp only [List.cons_append, mlook]
    split
    · rfl
    · exact mlook_app k a b
theorem mlook_none {k : ByteArray} : ∀ {l : Acc}, mlook k l = none → ∀ q ∈ l, q.1 ≠ k
  | [], _, _, h => by cases h
  | p :: l, h, q, hq => by
    unfold mlook at h
    split at h
    · cases h
    · rename_i hne
      rcases List.mem_cons.1 hq with rfl | hq
      · exact fun e => hne e.symm
      · exact mlook_none h q hq
theorem ins_new {k : ByteArray} {L pre post : Acc} (h : mlook k L = none) (hL : L = pre ++ post) (hpost : ∀ q ∈ post, klt k q.1 = true) (hpre : ∀ p pre', pre = pre' ++ [p] → klt k p.1 = false) : Ins k L (pre ++ (k, 0) :: post) := by
  subst hL
  have h1 : mlook k pre = none := by
    rw [mlook_app] at h
    cases hp : mlook k pre with
    | none => rfl
    | some v => rw [hp] at h; cases h
  refine ⟨fun k' => ?_, by rw [h]; simp; omega, fun hs => ?_⟩
  · rw [mlook_app, mlook_app]
    by_cases e : k' = k
    · subst e
      rw [if_pos rfl, h1]
      simp only [mlook, if_true]
      unfold bal
      rw [h]; rfl
    · rw [if_neg e]
      cases mlook k' pre with
      | some v => rfl
      | none => simp only [mlook, if_neg e]
  · unfold Srt at hs ⊢
    simp only [List.map_append, List.map_cons] at hs ⊢
    rw [List.pairwise_append] at hs ⊢
    refine ⟨hs.1, List.pairwise_cons.2 ⟨fun b hb => ?_, hs.2.1⟩, fun a ha b hb => ?_⟩
    · obtain ⟨q, hq, rfl⟩ := List.mem_map.1 hb
      exact hpost q hq
    · have hak : klt a k = true := by
        rcases List.eq_nil_or_concat pre with e | ⟨pre', p, e⟩
        · subst e; cases ha
        · have e' : pre = pre' ++ [p] := by rw [e]; simp
          have h2 := hpre p pre' e'
          have hpk : klt p.1 k = true := klt_total h2 (fun e => mlook_none h p (by rw [e']; simp) e.symm)
          rw [e', List.map_append, List.mem_append] at ha
          rcases ha with ha | ha
          · have h3 := hs.1
            rw [e', List.map_append, List.pairwise_append] at h3
            exact klt_trans (h3.2.2 a ha p.1 (by simp)) hpk
          · simp at ha; subst ha; exact hpk
      rcases List.mem_cons.1 hb with rfl | hb
      · exact hak
      · obtain ⟨q, hq, rfl⟩ := List.mem_map.1 hb
        exact klt_trans hak (hpost q hq)
theorem plc_set (k : ByteArray) (x : Int) : ∀ (l : Acc) (i j : Nat) (n : Int), plcFrom k l j = ((i + j : Nat) : Int) → l[i]? = some (k, n) → ∀ k', mlook k' (l.set i (k, x)) = if k' = k then some x else mlook k' l
  | [], _, _, _, _, h, _ => by simp at h
  | q :: l, 0, j, n, _, h, k' => by
    simp only [List.getElem?_cons_zero, Option.some.injEq] at h
    subst h
    simp only [List.set_cons_zero, mlook]
    split <;> rfl
  | q :: l, i + 1, j, n, h1, h, k' => by
    simp only [List.getElem?_cons_succ] at h
    unfold plcFrom at h1
    split at h1
    · exfalso; omega
    · rename_i hne
      simp only [List.set_cons_succ, mlook]
      by_cases e : k' = q.1
      · rw [if_pos e, if_pos e, if_neg (fun e2 => hne (by rw [← e, e2]))]
      · rw [if_neg e, if_neg e]
        exact plc_set k x l i (j + 1) n (by rw [h1]; congr 1; omega) h k'
theorem srt_set {L : Acc} {i : Nat} {k : ByteArray} {v x : Int} (h : L[i]? = some (k, v)) (hs : Srt L) : Srt (L.set i (k, x)) := by
  unfold Srt at hs ⊢
  have e : (L.set i (k, x)).map (·.1) = L.map (·.1) := by
    rw [List.map_set]
    apply List.ext_getElem?
    intro j
    rw [List.getElem?_set]
    split
    · rename_i e
      subst e
      split
      · rw [List.getElem?_map, h]; rfl
      · rename_i hlt
        have := (List.getElem?_eq_some_iff.1 h).1
        simp at hlt
        omega
    · rfl
  rw [e]; exact hs
theorem add_set {k : ByteArray} {L LF : Acc} {i : Nat} {n v : Int} (hI : Ins k L LF) (hp : plc k LF = (i : Int)) (hv : LF[i]? = some (k, v)) (hm : mlook k LF = some v) :
    (∀ k', mlook k' (LF.set i (k, wadd v n)) = if k' = k then some (wadd (bal k L) n) else mlook k' L) ∧ (LF.set i (k, wadd v n)).length = L.length + (if (mlook k L).isSome = true then 0 else 1) ∧ (Srt L → Srt (LF.set i (k, wadd v n))) := by
  have hb : v = bal k L := by
    have := hI.look k
    rw [hm, if_pos rfl] at this
    exact Option.some.inj this
  refine ⟨fun k' => ?_, by rw [List.length_set]; exact hI.len, fun hs => srt_set hv (hI.srt hs)⟩
  rw [plc_set k _ LF i 0 v hp hv]
  split
  · rw [hb]
  · rename_i e
    rw [hI.look k', if_neg e]

/-- What add does to the list. -/
structure AddR (k : ByteArray) (n : Int) (L L' : Acc) : Prop where
  look : ∀ k', mlook k' L' = if k' = k then some (wadd (bal k L) n) else mlook k' L
  len : L'.length = L.length + (if (mlook k L).isSome = true then 0 else 1)
  srt : Srt L → Srt L'
theorem swap_back (pre : Acc) (p x : ByteArray × Int) (post : Acc) (i : Nat) (hi : i = pre.length) : (((pre ++ [p]) ++ x :: post).set (i + 1) p).set i x = pre ++ x :: p :: post := by
  subst hi
  simp [List.set_append]
theorem ins_at {k : ByteArray} {L LF : Acc} (h : Ins k L LF) : ∃ i v, plc k LF = ((i : Nat) : Int) ∧ LF[i]? = some (k, v) ∧ mlook k LF = some v := by
  rcases plc_cases k LF with ⟨_, h2⟩ | h2
  · have := h.look k
    rw [h2, if_pos rfl] at this
    cases this
  · exact h2

theorem refAdd {m : Mem} {B : Nat} {sv : Value} {L : Acc} {t : Int} {σe : Sig} (hown : OwnS 37 2 sv (L.flatMap balE) σe) (hlen : L.length ≤ 1000) (k : ByteArray) (n : Int) :
    CallsS Try.prog 29 [.pointer (some ⟨B, 0, none⟩), .string k, .int .i64 n].toArray (RefC B sv t σe) m fun _ σ' m' => ∃ sv' σe' L', σ' = RefC B sv' t σe' ∧ OwnS 37 2 sv' (L'.flatMap balE) σe' ∧ m' = m ∧ AddR k n L L' := by
  obtain ⟨a, cap, rfl⟩ := hown.lenL (by omega) balE_len
  refine enter Try.func29 Try.ntmps29 rfl rfl ?_
  refine SWP_seq ?_
  refine SWP_seq ?_
  refine SWP_region ?_
  first | refine pu (v := .pointer _) rfl rfl ?_ | refine pu rfl rfl ?_
  first | refine pu (v := .string _) rfl rfl ?_ | refine pu rfl rfl ?_
  refine SL_pcallS rfl rfl cb28 (refPlace hown _) rfl ?_
  refine pc rfl rfl (fun c12 => ?_) (fun c12 => ?_)
  · skip
    refine SL_nil ?_
    refine nx ?_
    refine SWP_ct rfl ?_
    refine SWP_seq ?_
    have hnone : mlook k L = none := by
      rcases plc_cases k L with ⟨_, h⟩ | ⟨i, _, h, _⟩
      · exact h
      · omega
    refine SWP_region ?_
    first | refine pu (v := .pointer _) rfl rfl ?_ | refine pu rfl rfl ?_
    first | refine pu (v := .pointer _) rfl rfl ?_ | refine pu rfl rfl ?_
    refine pu rfl rfl ?_
    refine pu rfl rfl ?_
    first | refine ld (v := .slice _ _ _) (off := 0) (Rd.of_cells (.head _)) rfl rfl rfl rfl ?_ | refine ld (v := .slice _ _ _) (off := 0) (Rd.of_cells (.tail _ (.head _))) rfl rfl rfl rfl ?_ | refine ld (v := .slice _ _ _) (off := 0) (Rd.of_cells (.tail _ (.tail _ (.head _)))) rfl rfl rfl rfl ?_ | refine ld (v := .slice _ _ _) (off := 0) (Rd.of_cells (.tail _ (.tail _ (.tail _ (.head _))))) rfl rfl rfl rfl ?_ | refine ld (v := .slice _ _ _) (off := 0) (Rd.of_cells (.tail _ (.tail _ (.tail _ (.tail _ (.head _)))))) rfl rfl rfl rfl ?_ | refine ld (v := .slice _ _ _) (off := 0) (Rd.of_cells (.tail _ (.tail _ (.tail _ (.tail _ (.tail _ (.head _))))))) rfl rfl rfl rfl ?_ | refine ld (v := .slice _ _ _) (off := 0) (Rd.of_cells (.tail _ (.tail _ (.tail _ (.tail _ (.tail _ (.tail _ (.head _)))))))) rfl rfl rfl rfl ?_
    first | refine pu (v := .string _) rfl rfl ?_ | refine pu rfl rfl ?_
    first | refine pu (v := .agg _) rfl rfl ?_ | refine pu rfl rfl ?_
    refine bs rfl rfl rfl rfl rfl (fun B20 => ?_)
    refine ap (e := 37) (size := 2) (bytes := 24) rfl rfl rfl rfl rfl rfl rfl hown (List.perm_append_comm (l₁ := [_, _])) rfl (Rd.of_cells (.head _)) rfl rfl (by rw [flatMap_len balE_len]; omega) rfl rfl (fun v21 σ21 hown21 => ?_)
    have hown2 : OwnS 37 2 v21 ((L ++ [(k, 0)]).flatMap balE) σ21 := by rw [List.flatMap_append]; exact hown21
    obtain ⟨a2, cap2, hv21⟩ := hown2.lenL (by omega) balE_len
    rw [List.length_append, List.length_singleton] at hv21
    subst hv21
    refine SL_weak (List.Sublist.append_left (List.sublist_cons_self _ _) _) ?_
    refine SL_perm (List.perm_append_comm (l₂ := [_])) ?_
    refine pu rfl rfl ?_
    refine pu rfl rfl ?_
    first | refine st (v := .slice _ _ _) (off := 0) (σ₁ := []) rfl rfl rfl rfl rfl rfl rfl rfl ?_ | refine st (v := .slice _ _ _) (off := 0) (σ₁ := [_]) rfl rfl rfl rfl rfl rfl rfl rfl ?_ | refine st (v := .slice _ _ _) (off := 0) (σ₁ := [_, _]) rfl rfl rfl rfl rfl rfl rfl rfl ?_ | refine st (v := .slice _ _ _) (off := 0) (σ₁ := [_, _, _]) rfl rfl rfl rfl rfl rfl rfl rfl ?_ | refine st (v := .slice _ _ _) (off := 0) (σ₁ := [_, _, _, _]) rfl rfl rfl rfl rfl rfl rfl rfl ?_ | refine st (v := .slice _ _ _) (off := 0) (σ₁ := [_, _, _, _, _]) rfl rfl rfl rfl rfl rfl rfl rfl ?_ | refine st (v := .slice _ _ _) (off := 0) (σ₁ := [_, _, _, _, _, _]) rfl rfl rfl rfl rfl rfl rfl rfl ?_
    refine SL_nil ?_
    refine nx ?_
    refine SWP_seq ?_
    refine SWP_region ?_
    first | refine pu (v := .pointer _) rfl rfl ?_ | refine pu rfl rfl ?_
    refine pu rfl rfl ?_
    refine pu rfl rfl ?_
    first | refine ld (v := .slice _ _ _) (off := 0) (Rd.of_cells (.head _)) rfl rfl rfl rfl ?_ | refine ld (v := .slice _ _ _) (off := 0) (Rd.of_cells (.tail _ (.head _))) rfl rfl rfl rfl ?_ | refine ld (v := .slice _ _ _) (off := 0) (Rd.of_cells (.tail _ (.tail _ (.head _)))) rfl rfl rfl rfl ?_ | refine ld (v := .slice _ _ _) (off := 0) (Rd.of_cells (.tail _ (.tail _ (.tail _ (.head _))))) rfl rfl rfl rfl ?_ | refine ld (v := .slice _ _ _) (off := 0) (Rd.of_cells (.tail _ (.tail _ (.tail _ (.tail _ (.head _)))))) rfl rfl rfl rfl ?_ | refine ld (v := .slice _ _ _) (off := 0) (Rd.of_cells (.tail _ (.tail _ (.tail _ (.tail _ (.tail _ (.head _))))))) rfl rfl rfl rfl ?_ | refine ld (v := .slice _ _ _) (off := 0) (Rd.of_cells (.tail _ (.tail _ (.tail _ (.tail _ (.tail _ (.tail _ (.head _)))))))) rfl rfl rfl rfl ?_
    refine pu rfl rfl ?_
    refine pu (v := .int .i64 (L.length : Nat)) (by show some (Value.int .i64 (IntKind.wrap .i64 (((L.length + 1 : Nat) : Int) - 1))) = _; rw [sub1 L.length (by omega)]) rfl ?_
    first | refine pu (v := .int .i64 _) rfl rfl ?_ | refine pu rfl rfl ?_
    refine SL_nil ?_
    refine nx ?_
    refine SWP_block ?_
    refine SWP_loop [6, 7, 30, 31, 32, 33, 34, 35, 36, 37, 38, 39, 40, 41, 42, 43, 44, 45, 46, 47, 48, 49, 50, 51, 52, 53, 54, 55, 56, 57, 58, 59, 60, 61, 62, 63, 64, 65, 66, 67, 68, 69, 70, 71, 72, 73, 74, 75, 76, 77, 78, 79, 80, 81, 82] [6]
        (fun vs σ' m' => ∃ i pre post σx, vs = [.int .i64 (i : Nat)] ∧ i = pre.length ∧ L = pre ++ post ∧ (∀ q ∈ post, klt k q.1 = true) ∧ OwnS 37 2 (.slice a2 (L.length + 1) cap2) ((pre ++ (k, 0) :: post).flatMap balE) σx ∧ σ' = RefC B (.slice a2 (L.length + 1) cap2) t σx ∧ m = m')
        (fun vs => nOf (vs.getD 0 undef)) rfl ?_ ?_
    · exact ⟨L.length, L, [], _, rfl, rfl, by simp, by simp, hown2, rfl, rfl⟩
    · intro u0 vs0 σ0 m0 hJ0 _
      obtain ⟨i, pre, post, σx, rfl, hi, hL2, hpost, hownx, rfl, rfl⟩ := hJ0
      refine SWP_seq ?_
      refine SWP_seq ?_
      refine SWP_draws (by kernel_rfl) (by kernel_rfl) ?_
      first | refine pu (v := .int .i64 _) rfl rfl ?_ | refine pu rfl rfl ?_
      refine pc rfl rfl (fun c31 => ?_) (fun c31 => ?_)
      · skip
        first | refine pu (v := .bool _) rfl rfl ?_ | refine pu rfl rfl ?_
        refine SL_yes rfl ?_
        obtain ⟨pre', p, hpp⟩ : ∃ pre' p, pre = pre' ++ [p] := by
          rcases List.eq_nil_or_concat pre with e | ⟨x, y, e⟩
          · subst e; simp at hi; omega
          · exact ⟨x, y, by rw [e]; simp⟩
        obtain ⟨i', rfl⟩ : ∃ i', i = i' + 1 := ⟨pre'.length, by rw [hi, hpp]; simp⟩
        have hb0 : (pre ++ (k, (0 : Int)) :: post)[i' + 1]? = some (k, 0) := by rw [hi]; simp
        have hb1 : (pre ++ (k, (0 : Int)) :: post)[i']? = some p := by
          have : i' = pre'.length := by rw [hpp] at hi; simp at hi; omega
          rw [hpp, this]; simp
        obtain ⟨ad, rfl, hnx, hltx, hrd0⟩ := hownx.atN (by omega) balE_len hb0
        obtain ⟨ad', ead, _, _, hrd1⟩ := hownx.atN (by omega) balE_len hb1
        cases ead
        refine pu rfl rfl ?_
        refine SL_yes rfl ?_
        refine pu rfl rfl ?_
        refine SL_yes rfl ?_
        refine pu rfl rfl ?_
        refine SL_yes rfl ?_
        first | refine ld (v := .slice _ _ _) (off := 0) (Rd.of_cells (.head _)) rfl rfl rfl rfl ?_ | refine ld (v := .slice _ _ _) (off := 0) (Rd.of_cells (.tail _ (.head _))) rfl rfl rfl rfl ?_ | refine ld (v := .slice _ _ _) (off := 0) (Rd.of_cells (.tail _ (.tail _ (.head _)))) rfl rfl rfl rfl ?_ | refine ld (v := .slice _ _ _) (off := 0) (Rd.of_cells (.tail _ (.tail _ (.tail _ (.head _))))) rfl rfl rfl rfl ?_ | refine ld (v := .slice _ _ _) (off := 0) (Rd.of_cells (.tail _ (.tail _ (.tail _ (.tail _ (.head _)))))) rfl rfl rfl rfl ?_ | refine ld (v := .slice _ _ _) (off := 0) (Rd.of_cells (.tail _ (.tail _ (.tail _ (.tail _ (.tail _ (.head _))))))) rfl rfl rfl rfl ?_ | refine ld (v := .slice _ _ _) (off := 0) (Rd.of_cells (.tail _ (.tail _ (.tail _ (.tail _ (.tail _ (.tail _ (.head _)))))))) rfl rfl rfl rfl ?_
        refine SL_yes rfl ?_
        first | refine pu (v := .int .i64 _) rfl rfl ?_ | refine pu rfl rfl ?_
        refine SL_yes rfl ?_
        first | refine ia (es := 2) rfl rfl rfl rfl rfl rfl (by omega) rfl ?_ | refine iai (es := 2) rfl rfl rfl rfl rfl rfl (by omega) (by omega) rfl ?_
        refine SL_yes rfl ?_
        refine pu rfl rfl ?_
        refine SL_yes rfl ?_
        refine ldO (v := .string _) (hrd0 _ _ (fun _ h => .tail _ h)) rfl rfl rfl rfl ?_
        refine SL_yes rfl ?_
        first | refine pu (v := .pointer _) rfl rfl ?_ | refine pu rfl rfl ?_
        refine SL_yes rfl ?_
        refine pu rfl rfl ?_
        refine SL_yes rfl ?_
        refine pu rfl rfl ?_
        refine SL_yes rfl ?_
        first | refine ld (v := .slice _ _ _) (off := 0) (Rd.of_cells (.head _)) rfl rfl rfl rfl ?_ | refine ld (v := .slice _ _ _) (off := 0) (Rd.of_cells (.tail _ (.head _))) rfl rfl rfl rfl ?_ | refine ld (v := .slice _ _ _) (off := 0) (Rd.of_cells (.tail _ (.tail _ (.head _)))) rfl rfl rfl rfl ?_ | refine ld (v := .slice _ _ _) (off := 0) (Rd.of_cells (.tail _ (.tail _ (.tail _ (.head _))))) rfl rfl rfl rfl ?_ | refine ld (v := .slice _ _ _) (off := 0) (Rd.of_cells (.tail _ (.tail _ (.tail _ (.tail _ (.head _)))))) rfl rfl rfl rfl ?_ | refine ld (v := .slice _ _ _) (off := 0) (Rd.of_cells (.tail _ (.tail _ (.tail _ (.tail _ (.tail _ (.head _))))))) rfl rfl rfl rfl ?_ | refine ld (v := .slice _ _ _) (off := 0) (Rd.of_cells (.tail _ (.tail _ (.tail _ (.tail _ (.tail _ (.tail _ (.head _)))))))) rfl rfl rfl rfl ?_
        refine SL_yes rfl ?_
        first | refine pu (v := .int .i64 _) rfl rfl ?_ | refine pu rfl rfl ?_
        refine SL_yes rfl ?_
        refine pu (v := .int .i64 (i' : Nat)) (by show some (Value.int .i64 (IntKind.wrap .i64 (((i' + 1 : Nat) : Int) - 1))) = _; rw [sub1 i' (by omega)]) rfl ?_
        refine SL_yes rfl ?_
        first | refine ia (es := 2) rfl rfl rfl rfl rfl rfl (by omega) rfl ?_ | refine iai (es := 2) rfl rfl rfl rfl rfl rfl (by omega) (by omega) rfl ?_
        refine SL_yes rfl ?_
        refine pu rfl rfl ?_
        refine SL_yes rfl ?_
        refine ldO (v := .string _) (hrd1 _ _ (fun _ h => .tail _ h)) rfl rfl rfl rfl ?_
        refine SL_yes rfl ?_
        refine pu (v := .bool _) rfl rfl ?_
        refine bsp 50 rfl (fun b50 => ?_) (fun b50 => ?_)
        · skip
          first | refine pu (v := .bool _) rfl rfl ?_ | refine pu rfl rfl ?_
          refine SL_nil ?_
          refine nx ?_
          refine SWP_ct rfl ?_
          refine SWP_skip ?_
          refine nx ?_
          refine SWP_seq ?_
          refine SWP_block ?_
          refine SWP_seq ?_
          refine SWP_region ?_
          first | refine pu (v := .pointer _) rfl rfl ?_ | refine pu rfl rfl ?_
          refine pu rfl rfl ?_
          refine pu rfl rfl ?_
          first | refine ld (v := .slice _ _ _) (off := 0) (Rd.of_cells (.head _)) rfl rfl rfl rfl ?_ | refine ld (v := .slice _ _ _) (off := 0) (Rd.of_cells (.tail _ (.head _))) rfl rfl rfl rfl ?_ | refine ld (v := .slice _ _ _) (off := 0) (Rd.of_cells (.tail _ (.tail _ (.head _)))) rfl rfl rfl rfl ?_ | refine ld (v := .slice _ _ _) (off := 0) (Rd.of_cells (.tail _ (.tail _ (.tail _ (.head _))))) rfl rfl rfl rfl ?_ | refine ld (v := .slice _ _ _) (off := 0) (Rd.of_cells (.tail _ (.tail _ (.tail _ (.tail _ (.head _)))))) rfl rfl rfl rfl ?_ | refine ld (v := .slice _ _ _) (off := 0) (Rd.of_cells (.tail _ (.tail _ (.tail _ (.tail _ (.tail _ (.head _))))))) rfl rfl rfl rfl ?_ | refine ld (v := .slice _ _ _) (off := 0) (Rd.of_cells (.tail _ (.tail _ (.tail _ (.tail _ (.tail _ (.tail _ (.head _)))))))) rfl rfl rfl rfl ?_
          first | refine pu (v := .int .i64 _) rfl rfl ?_ | refine pu rfl rfl ?_
          first | refine ia (es := 2) rfl rfl rfl rfl rfl rfl (by omega) rfl ?_ | refine iai (es := 2) rfl rfl rfl rfl rfl rfl (by omega) (by omega) rfl ?_
          refine ldO (v := .agg _) (hrd0 _ _ (fun _ h => .tail _ h)) rfl (add_zero' _).symm rfl rfl ?_
          refine al rfl rfl (fun B7 => ?_)
          first | refine st (v := .agg _) (off := 0) (σ₁ := []) rfl rfl rfl rfl rfl rfl rfl rfl ?_ | refine st (v := .agg _) (off := 0) (σ₁ := [_]) rfl rfl rfl rfl rfl rfl rfl rfl ?_ | refine st (v := .agg _) (off := 0) (σ₁ := [_, _]) rfl rfl rfl rfl rfl rfl rfl rfl ?_ | refine st (v := .agg _) (off := 0) (σ₁ := [_, _, _]) rfl rfl rfl rfl rfl rfl rfl rfl ?_ | refine st (v := .agg _) (off := 0) (σ₁ := [_, _, _, _]) rfl rfl rfl rfl rfl rfl rfl rfl ?_ | refine st (v := .agg _) (off := 0) (σ₁ := [_, _, _, _, _]) rfl rfl rfl rfl rfl rfl rfl rfl ?_ | refine st (v := .agg _) (off := 0) (σ₁ := [_, _, _, _, _, _]) rfl rfl rfl rfl rfl rfl rfl rfl ?_
          refine SL_nil ?_
          refine nx ?_
          refine SWP_seq ?_
          refine SWP_tail 14 (by kernel_rfl) (by kernel_rfl) ?_
          first | refine pu (v := .pointer _) rfl rfl ?_ | refine pu rfl rfl ?_
          refine pu rfl rfl ?_
          refine pu rfl rfl ?_
          first | refine ld (v := .slice _ _ _) (off := 0) (Rd.of_cells (.head _)) rfl rfl rfl rfl ?_ | refine ld (v := .slice _ _ _) (off := 0) (Rd.of_cells (.tail _ (.head _))) rfl rfl rfl rfl ?_ | refine ld (v := .slice _ _ _) (off := 0) (Rd.of_cells (.tail _ (.tail _ (.head _)))) rfl rfl rfl rfl ?_ | refine ld (v := .slice _ _ _) (off := 0) (Rd.of_cells (.tail _ (.tail _ (.tail _ (.head _))))) rfl rfl rfl rfl ?_ | refine ld (v := .slice _ _ _) (off := 0) (Rd.of_cells (.tail _ (.tail _ (.tail _ (.tail _ (.head _)))))) rfl rfl rfl rfl ?_ | refine ld (v := .slice _ _ _) (off := 0) (Rd.of_cells (.tail _ (.tail _ (.tail _ (.tail _ (.tail _ (.head _))))))) rfl rfl rfl rfl ?_ | refine ld (v := .slice _ _ _) (off := 0) (Rd.of_cells (.tail _ (.tail _ (.tail _ (.tail _ (.tail _ (.tail _ (.head _)))))))) rfl rfl rfl rfl ?_
          first | refine pu (v := .int .i64 _) rfl rfl ?_ | refine pu rfl rfl ?_
          first | refine pu (v := .pointer _) rfl rfl ?_ | refine pu rfl rfl ?_
          refine pu rfl rfl ?_
          refine pu rfl rfl ?_
          first | refine ld (v := .slice _ _ _) (off := 0) (Rd.of_cells (.head _)) rfl rfl rfl rfl ?_ | refine ld (v := .slice _ _ _) (off := 0) (Rd.of_cells (.tail _ (.head _))) rfl rfl rfl rfl ?_ | refine ld (v := .slice _ _ _) (off := 0) (Rd.of_cells (.tail _ (.tail _ (.head _)))) rfl rfl rfl rfl ?_ | refine ld (v := .slice _ _ _) (off := 0) (Rd.of_cells (.tail _ (.tail _ (.tail _ (.head _))))) rfl rfl rfl rfl ?_ | refine ld (v := .slice _ _ _) (off := 0) (Rd.of_cells (.tail _ (.tail _ (.tail _ (.tail _ (.head _)))))) rfl rfl rfl rfl ?_ | refine ld (v := .slice _ _ _) (off := 0) (Rd.of_cells (.tail _ (.tail _ (.tail _ (.tail _ (.tail _ (.head _))))))) rfl rfl rfl rfl ?_ | refine ld (v := .slice _ _ _) (off := 0) (Rd.of_cells (.tail _ (.tail _ (.tail _ (.tail _ (.tail _ (.tail _ (.head _)))))))) rfl rfl rfl rfl ?_
          first | refine pu (v := .int .i64 _) rfl rfl ?_ | refine pu rfl rfl ?_
          refine pu (v := .int .i64 (i' : Nat)) (by show some (Value.int .i64 (IntKind.wrap .i64 (((i' + 1 : Nat) : Int) - 1))) = _; rw [sub1 i' (by omega)]) rfl ?_
          first | refine ia (es := 2) rfl rfl rfl rfl rfl rfl (by omega) rfl ?_ | refine iai (es := 2) rfl rfl rfl rfl rfl rfl (by omega) (by omega) rfl ?_
          refine ldO (v := .agg _) (hrd1 _ _ (fun _ h => .tail _ (.tail _ h))) rfl (add_zero' _).symm rfl rfl ?_
          first | refine ia (es := 2) rfl rfl rfl rfl rfl rfl (by omega) rfl ?_ | refine iai (es := 2) rfl rfl rfl rfl rfl rfl (by omega) (by omega) rfl ?_
          refine SL_nil ?_
          refine stL (b := (k, 0)) (b' := p) (k := i' + 1) (off := 0) (τ := [_, _]) balE_len rfl hownx (List.perm_append_comm (l₁ := [_, _])) hb0 rfl (add_zero' _).symm rfl rfl (Nat.le_refl 2) rfl rfl (fun σ6 hown6 => ?_)
          refine SL_perm (List.perm_append_comm (l₂ := [_, _])) ?_
          refine SL_nil ?_
          refine nx ?_
          refine SWP_tail 8 (by kernel_rfl) (by kernel_rfl) ?_
          first | refine pu (v := .pointer _) rfl rfl ?_ | refine pu rfl rfl ?_
          refine pu rfl rfl ?_
          refine pu rfl rfl ?_
          first | refine ld (v := .slice _ _ _) (off := 0) (Rd.of_cells (.head _)) rfl rfl rfl rfl ?_ | refine ld (v := .slice _ _ _) (off := 0) (Rd.of_cells (.tail _ (.head _))) rfl rfl rfl rfl ?_ | refine ld (v := .slice _ _ _) (off := 0) (Rd.of_cells (.tail _ (.tail _ (.head _)))) rfl rfl rfl rfl ?_ | refine ld (v := .slice _ _ _) (off := 0) (Rd.of_cells (.tail _ (.tail _ (.tail _ (.head _))))) rfl rfl rfl rfl ?_ | refine ld (v := .slice _ _ _) (off := 0) (Rd.of_cells (.tail _ (.tail _ (.tail _ (.tail _ (.head _)))))) rfl rfl rfl rfl ?_ | refine ld (v := .slice _ _ _) (off := 0) (Rd.of_cells (.tail _ (.tail _ (.tail _ (.tail _ (.tail _ (.head _))))))) rfl rfl rfl rfl ?_ | refine ld (v := .slice _ _ _) (off := 0) (Rd.of_cells (.tail _ (.tail _ (.tail _ (.tail _ (.tail _ (.tail _ (.head _)))))))) rfl rfl rfl rfl ?_
          first | refine pu (v := .int .i64 _) rfl rfl ?_ | refine pu rfl rfl ?_
          refine pu (v := .int .i64 (i' : Nat)) (by show some (Value.int .i64 (IntKind.wrap .i64 (((i' + 1 : Nat) : Int) - 1))) = _; rw [sub1 i' (by omega)]) rfl ?_
          first | refine ld (v := .agg _) (off := 0) (Rd.of_cells (.head _)) rfl rfl rfl rfl ?_ | refine ld (v := .agg _) (off := 0) (Rd.of_cells (.tail _ (.head _))) rfl rfl rfl rfl ?_ | refine ld (v := .agg _) (off := 0) (Rd.of_cells (.tail _ (.tail _ (.head _)))) rfl rfl rfl rfl ?_ | refine ld (v := .agg _) (off := 0) (Rd.of_cells (.tail _ (.tail _ (.tail _ (.head _))))) rfl rfl rfl rfl ?_ | refine ld (v := .agg _) (off := 0) (Rd.of_cells (.tail _ (.tail _ (.tail _ (.tail _ (.head _)))))) rfl rfl rfl rfl ?_ | refine ld (v := .agg _) (off := 0) (Rd.of_cells (.tail _ (.tail _ (.tail _ (.tail _ (.tail _ (.head _))))))) rfl rfl rfl rfl ?_ | refine ld (v := .agg _) (off := 0) (Rd.of_cells (.tail _ (.tail _ (.tail _ (.tail _ (.tail _ (.tail _ (.head _)))))))) rfl rfl rfl rfl ?_
          first | refine ia (es := 2) rfl rfl rfl rfl rfl rfl (by omega) rfl ?_ | refine iai (es := 2) rfl rfl rfl rfl rfl rfl (by omega) (by omega) rfl ?_
          refine SL_nil ?_
          have hb6 : ((pre ++ (k, (0 : Int)) :: post).set (i' + 1) p)[i']? = some p := by rw [List.getElem?_set, if_neg (by omega)]; exact hb1
          refine stL (b := p) (b' := (k, 0)) (k := i') (off := 0) (τ := [_, _]) balE_len rfl hown6 (List.perm_append_comm (l₁ := [_, _])) hb6 rfl (add_zero' _).symm rfl rfl (Nat.le_refl 2) rfl rfl (fun σ7 hown7 => ?_)
          refine SL_perm (List.perm_append_comm (l₂ := [_, _])) ?_
          refine SL_weak (List.sublist_cons_self _ _) ?_
          refine SL_nil ?_
          refine nb ?_
          refine nx ?_
          refine SWP_region ?_
          first | refine pu (v := .int .i64 _) rfl rfl ?_ | refine pu rfl rfl ?_
          refine pu (v := .int .i64 (i' : Nat)) (by show some (Value.int .i64 (IntKind.wrap .i64 (((i' + 1 : Nat) : Int) - 1))) = _; rw [sub1 i' (by omega)]) rfl ?_
          first | refine pu (v := .int .i64 _) rfl rfl ?_ | refine pu rfl rfl ?_
          refine SL_nil ?_
          refine nx ?_
          refine ⟨by repeat (first | exact Under.upds rfl (Under.hav _ _ _) | exact Under.hav _ _ _ | refine Under.upd rfl ?_), ?_, ?_⟩
          · have hi2 : i' = pre'.length := by rw [hpp] at hi; simp at hi; omega
            refine ⟨i', pre', p :: post, _, rfl, hi2, by rw [hL2, hpp]; simp, fun q hq => ?_, ?_, rfl, rfl⟩
            · rcases List.mem_cons.1 hq with rfl | hq
              · exact b50
              · exact hpost q hq
            · rw [hpp, swap_back pre' p (k, 0) post i' hi2] at hown7
              exact hown7
          · simp only [L_vals, List.map, List.getD]; show i' < i' + 1; omega
        · skip
          first | refine pu (v := .bool _) rfl rfl ?_ | refine pu rfl rfl ?_
          refine SL_nil ?_
          refine nx ?_
          refine SWP_cf rfl ?_
          refine SWP_exit ?_
          refine ne ?_
          refine ne ?_
          refine be rfl ?_
          refine nx ?_
          refine SWP_seq ?_
          have hpre : ∀ p2 pre2, pre = pre2 ++ [p2] → klt k p2.1 = false := by
            intro p2 pre2 e2
            first
              | (exfalso; have := congrArg List.length e2; simp at this; omega)
              | (rw [hpp] at e2; have := List.append_inj_right' e2 rfl; cases this; exact b50)
          have hI : Ins k L (pre ++ (k, 0) :: post) := ins_new hnone hL2 hpost hpre
          generalize pre ++ (k, (0 : Int)) :: post = LF at hI hownx
          have hownF := hownx
          obtain ⟨iF, vF, eF, hbF, hmF⟩ := ins_at hI
          obtain ⟨adF, eaF, hnF, hltF, hrdF⟩ := hownF.atN (by omega) balE_len hbF
          refine SWP_region ?_
          first | refine pu (v := .pointer _) rfl rfl ?_ | refine pu rfl rfl ?_
          first | refine pu (v := .string _) rfl rfl ?_ | refine pu rfl rfl ?_
          refine SL_pcallS rfl rfl cb28 (refPlace hownF _) rfl ?_
          first | refine pu (v := .int .i64 _) rfl rfl ?_ | refine pu rfl rfl ?_
          refine SL_nil ?_
          refine nx ?_
          refine SWP_tail 17 (by kernel_rfl) (by kernel_rfl) ?_
          cases eaF
          refine pu rfl rfl ?_
          refine pu rfl rfl ?_
          refine pu rfl rfl ?_
          first | refine ld (v := .slice _ _ _) (off := 0) (Rd.of_cells (.head _)) rfl rfl rfl rfl ?_ | refine ld (v := .slice _ _ _) (off := 0) (Rd.of_cells (.tail _ (.head _))) rfl rfl rfl rfl ?_ | refine ld (v := .slice _ _ _) (off := 0) (Rd.of_cells (.tail _ (.tail _ (.head _)))) rfl rfl rfl rfl ?_ | refine ld (v := .slice _ _ _) (off := 0) (Rd.of_cells (.tail _ (.tail _ (.tail _ (.head _))))) rfl rfl rfl rfl ?_ | refine ld (v := .slice _ _ _) (off := 0) (Rd.of_cells (.tail _ (.tail _ (.tail _ (.tail _ (.head _)))))) rfl rfl rfl rfl ?_ | refine ld (v := .slice _ _ _) (off := 0) (Rd.of_cells (.tail _ (.tail _ (.tail _ (.tail _ (.tail _ (.head _))))))) rfl rfl rfl rfl ?_ | refine ld (v := .slice _ _ _) (off := 0) (Rd.of_cells (.tail _ (.tail _ (.tail _ (.tail _ (.tail _ (.tail _ (.head _)))))))) rfl rfl rfl rfl ?_
          refine pu (v := .int .i64 (iF : Nat)) (by show some (Value.int .i64 (plc k _)) = _; rw [eF]) rfl ?_
          first | refine pu (v := .pointer _) rfl rfl ?_ | refine pu rfl rfl ?_
          refine pu rfl rfl ?_
          refine pu rfl rfl ?_
          first | refine ld (v := .slice _ _ _) (off := 0) (Rd.of_cells (.head _)) rfl rfl rfl rfl ?_ | refine ld (v := .slice _ _ _) (off := 0) (Rd.of_cells (.tail _ (.head _))) rfl rfl rfl rfl ?_ | refine ld (v := .slice _ _ _) (off := 0) (Rd.of_cells (.tail _ (.tail _ (.head _)))) rfl rfl rfl rfl ?_ | refine ld (v := .slice _ _ _) (off := 0) (Rd.of_cells (.tail _ (.tail _ (.tail _ (.head _))))) rfl rfl rfl rfl ?_ | refine ld (v := .slice _ _ _) (off := 0) (Rd.of_cells (.tail _ (.tail _ (.tail _ (.tail _ (.head _)))))) rfl rfl rfl rfl ?_ | refine ld (v := .slice _ _ _) (off := 0) (Rd.of_cells (.tail _ (.tail _ (.tail _ (.tail _ (.tail _ (.head _))))))) rfl rfl rfl rfl ?_ | refine ld (v := .slice _ _ _) (off := 0) (Rd.of_cells (.tail _ (.tail _ (.tail _ (.tail _ (.tail _ (.tail _ (.head _)))))))) rfl rfl rfl rfl ?_
          refine pu (v := .int .i64 (iF : Nat)) (by show some (Value.int .i64 (plc k _)) = _; rw [eF]) rfl ?_
          first | refine ia (es := 2) rfl rfl rfl rfl rfl rfl (by omega) rfl ?_ | refine iai (es := 2) rfl rfl rfl rfl rfl rfl (by omega) (by omega) rfl ?_
          refine pu rfl rfl ?_
          refine ldO (v := .int .i64 _) (hrdF _ _ (fun _ h => .tail _ h)) rfl rfl rfl rfl ?_
          first | refine pu (v := .int .i64 _) rfl rfl ?_ | refine pu rfl rfl ?_
          refine pu rfl rfl ?_
          first | refine ia (es := 2) rfl rfl rfl rfl rfl rfl (by omega) rfl ?_ | refine iai (es := 2) rfl rfl rfl rfl rfl rfl (by omega) (by omega) rfl ?_
          refine pu rfl rfl ?_
          refine SL_nil ?_
          refine stL (b := (k, vF)) (b' := (k, wadd vF n)) (k := iF) (off := 1) (τ := [_]) balE_len rfl hownF (List.perm_append_comm (l₁ := [_])) hbF rfl rfl rfl rfl (Nat.le_refl 2) rfl rfl (fun σ9 hown9 => ?_)
          refine SL_perm (List.perm_append_comm (l₂ := [_])) ?_
          refine SL_nil ?_
          refine finn [] trivial ?_
          obtain ⟨g1, g2, g3⟩ := add_set (n := n) hI eF hbF hmF
          exact ⟨_, _, _, rfl, hown9, rfl, g1, g2, g3⟩
      · skip
        first | refine pu (v := .bool _) rfl rfl ?_ | refine pu rfl rfl ?_
        refine SL_no rfl rfl ?_
        refine SL_no rfl rfl ?_
        refine SL_no rfl rfl ?_
        refine SL_no rfl rfl ?_
        refine SL_no rfl rfl ?_
        refine SL_no rfl rfl ?_
        refine SL_no rfl rfl ?_
        refine SL_no rfl rfl ?_
        refine SL_no rfl rfl ?_
        refine SL_no rfl rfl ?_
        refine SL_no rfl rfl ?_
        refine SL_no rfl rfl ?_
        refine SL_no rfl rfl ?_
        refine SL_no rfl rfl ?_
        refine SL_no rfl rfl ?_
        refine SL_no rfl rfl ?_
        refine SL_no rfl rfl ?_
        refine SL_no rfl rfl ?_
        first | refine pu (v := .bool _) rfl rfl ?_ | refine pu rfl rfl ?_
        refine SL_nil ?_
        refine nx ?_
        refine SWP_cf rfl ?_
        refine SWP_exit ?_
        refine ne ?_
        refine ne ?_
        refine be rfl ?_
        refine nx ?_
        refine SWP_seq ?_
        have hpre : ∀ p2 pre2, pre = pre2 ++ [p2] → klt k p2.1 = false := by
          intro p2 pre2 e2
          first
            | (exfalso; have := congrArg List.length e2; simp at this; omega)
            | (rw [hpp] at e2; have := List.append_inj_right' e2 rfl; cases this; exact b50)
        have hI : Ins k L (pre ++ (k, 0) :: post) := ins_new hnone hL2 hpost hpre
        generalize pre ++ (k, (0 : Int)) :: post = LF at hI hownx
        have hownF := hownx
        obtain ⟨iF, vF, eF, hbF, hmF⟩ := ins_at hI
        obtain ⟨adF, eaF, hnF, hltF, hrdF⟩ := hownF.atN (by omega) balE_len hbF
        refine SWP_region ?_
        first | refine pu (v := .pointer _) rfl rfl ?_ | refine pu rfl rfl ?_
        first | refine pu (v := .string _) rfl rfl ?_ | refine pu rfl rfl ?_
        refine SL_pcallS rfl rfl cb28 (refPlace hownF _) rfl ?_
        first | refine pu (v := .int .i64 _) rfl rfl ?_ | refine pu rfl rfl ?_
        refine SL_nil ?_
        refine nx ?_
        refine SWP_tail 17 (by kernel_rfl) (by kernel_rfl) ?_
        cases eaF
        refine pu rfl rfl ?_
        refine pu rfl rfl ?_
        refine pu rfl rfl ?_
        first | refine ld (v := .slice _ _ _) (off := 0) (Rd.of_cells (.head _)) rfl rfl rfl rfl ?_ | refine ld (v := .slice _ _ _) (off := 0) (Rd.of_cells (.tail _ (.head _))) rfl rfl rfl rfl ?_ | refine ld (v := .slice _ _ _) (off := 0) (Rd.of_cells (.tail _ (.tail _ (.head _)))) rfl rfl rfl rfl ?_ | refine ld (v := .slice _ _ _) (off := 0) (Rd.of_cells (.tail _ (.tail _ (.tail _ (.head _))))) rfl rfl rfl rfl ?_ | refine ld (v := .slice _ _ _) (off := 0) (Rd.of_cells (.tail _ (.tail _ (.tail _ (.tail _ (.head _)))))) rfl rfl rfl rfl ?_ | refine ld (v := .slice _ _ _) (off := 0) (Rd.of_cells (.tail _ (.tail _ (.tail _ (.tail _ (.tail _ (.head _))))))) rfl rfl rfl rfl ?_ | refine ld (v := .slice _ _ _) (off := 0) (Rd.of_cells (.tail _ (.tail _ (.tail _ (.tail _ (.tail _ (.tail _ (.head _)))))))) rfl rfl rfl rfl ?_
        refine pu (v := .int .i64 (iF : Nat)) (by show some (Value.int .i64 (plc k _)) = _; rw [eF]) rfl ?_
        first | refine pu (v := .pointer _) rfl rfl ?_ | refine pu rfl rfl ?_
        refine pu rfl rfl ?_
        refine pu rfl rfl ?_
        first | refine ld (v := .slice _ _ _) (off := 0) (Rd.of_cells (.head _)) rfl rfl rfl rfl ?_ | refine ld (v := .slice _ _ _) (off := 0) (Rd.of_cells (.tail _ (.head _))) rfl rfl rfl rfl ?_ | refine ld (v := .slice _ _ _) (off := 0) (Rd.of_cells (.tail _ (.tail _ (.head _)))) rfl rfl rfl rfl ?_ | refine ld (v := .slice _ _ _) (off := 0) (Rd.of_cells (.tail _ (.tail _ (.tail _ (.head _))))) rfl rfl rfl rfl ?_ | refine ld (v := .slice _ _ _) (off := 0) (Rd.of_cells (.tail _ (.tail _ (.tail _ (.tail _ (.head _)))))) rfl rfl rfl rfl ?_ | refine ld (v := .slice _ _ _) (off := 0) (Rd.of_cells (.tail _ (.tail _ (.tail _ (.tail _ (.tail _ (.head _))))))) rfl rfl rfl rfl ?_ | refine ld (v := .slice _ _ _) (off := 0) (Rd.of_cells (.tail _ (.tail _ (.tail _ (.tail _ (.tail _ (.tail _ (.head _)))))))) rfl rfl rfl rfl ?_
        refine pu (v := .int .i64 (iF : Nat)) (by show some (Value.int .i64 (plc k _)) = _; rw [eF]) rfl ?_
        first | refine ia (es := 2) rfl rfl rfl rfl rfl rfl (by omega) rfl ?_ | refine iai (es := 2) rfl rfl rfl rfl rfl rfl (by omega) (by omega) rfl ?_
        refine pu rfl rfl ?_
        refine ldO (v := .int .i64 _) (hrdF _ _ (fun _ h => .tail _ h)) rfl rfl rfl rfl ?_
        first | refine pu (v := .int .i64 _) rfl rfl ?_ | refine pu rfl rfl ?_
        refine pu rfl rfl ?_
        first | refine ia (es := 2) rfl rfl rfl rfl rfl rfl (by omega) rfl ?_ | refine iai (es := 2) rfl rfl rfl rfl rfl rfl (by omega) (by omega) rfl ?_
        refine pu rfl rfl ?_
        refine SL_nil ?_
        refine stL (b := (k, vF)) (b' := (k, wadd vF n)) (k := iF) (off := 1) (τ := [_]) balE_len rfl hownF (List.perm_append_comm (l₁ := [_])) hbF rfl rfl rfl rfl (Nat.le_refl 2) rfl rfl (fun σ9 hown9 => ?_)
        refine SL_perm (List.perm_append_comm (l₂ := [_])) ?_
        refine SL_nil ?_
        refine finn [] trivial ?_
        obtain ⟨g1, g2, g3⟩ := add_set (n := n) hI eF hbF hmF
        exact ⟨_, _, _, rfl, hown9, rfl, g1, g2, g3⟩
  · skip
    refine SL_nil ?_
    refine nx ?_
    refine SWP_cf rfl ?_
    refine SWP_skip ?_
    refine nx ?_
    refine SWP_seq ?_
    obtain ⟨i0, v0, _, _, hsome⟩ : ∃ i v, plc k L = ((i : Nat) : Int) ∧ L[i]? = some (k, v) ∧ mlook k L = some v := (plc_cases k L).resolve_left (fun h => by omega)
    have hI : Ins k L L := ins_same hsome
    have hownF := hown
    obtain ⟨iF, vF, eF, hbF, hmF⟩ := ins_at hI
    obtain ⟨adF, eaF, hnF, hltF, hrdF⟩ := hownF.atN (by omega) balE_len hbF
    refine SWP_region ?_
    first | refine pu (v := .pointer _) rfl rfl ?_ | refine pu rfl rfl ?_
    first | refine pu (v := .string _) rfl rfl ?_ | refine pu rfl rfl ?_
    refine SL_pcallS rfl rfl cb28 (refPlace hownF _) rfl ?_
    first | refine pu (v := .int .i64 _) rfl rfl ?_ | refine pu rfl rfl ?_
    refine SL_nil ?_
    refine nx ?_
    refine SWP_tail 17 (by kernel_rfl) (by kernel_rfl) ?_
    cases eaF
    refine pu rfl rfl ?_
    refine pu rfl rfl ?_
    refine pu rfl rfl ?_
    first | refine ld (v := .slice _ _ _) (off := 0) (Rd.of_cells (.head _)) rfl rfl rfl rfl ?_ | refine ld (v := .slice _ _ _) (off := 0) (Rd.of_cells (.tail _ (.head _))) rfl rfl rfl rfl ?_ | refine ld (v := .slice _ _ _) (off := 0) (Rd.of_cells (.tail _ (.tail _ (.head _)))) rfl rfl rfl rfl ?_ | refine ld (v := .slice _ _ _) (off := 0) (Rd.of_cells (.tail _ (.tail _ (.tail _ (.head _))))) rfl rfl rfl rfl ?_ | refine ld (v := .slice _ _ _) (off := 0) (Rd.of_cells (.tail _ (.tail _ (.tail _ (.tail _ (.head _)))))) rfl rfl rfl rfl ?_ | refine ld (v := .slice _ _ _) (off := 0) (Rd.of_cells (.tail _ (.tail _ (.tail _ (.tail _ (.tail _ (.head _))))))) rfl rfl rfl rfl ?_ | refine ld (v := .slice _ _ _) (off := 0) (Rd.of_cells (.tail _ (.tail _ (.tail _ (.tail _ (.tail _ (.tail _ (.head _)))))))) rfl rfl rfl rfl ?_
    refine pu (v := .int .i64 (iF : Nat)) (by show some (Value.int .i64 (plc k _)) = _; rw [eF]) rfl ?_
    first | refine pu (v := .pointer _) rfl rfl ?_ | refine pu rfl rfl ?_
    refine pu rfl rfl ?_
    refine pu rfl rfl ?_
    first | refine ld (v := .slice _ _ _) (off := 0) (Rd.of_cells (.head _)) rfl rfl rfl rfl ?_ | refine ld (v := .slice _ _ _) (off := 0) (Rd.of_cells (.tail _ (.head _))) rfl rfl rfl rfl ?_ | refine ld (v := .slice _ _ _) (off := 0) (Rd.of_cells (.tail _ (.tail _ (.head _)))) rfl rfl rfl rfl ?_ | refine ld (v := .slice _ _ _) (off := 0) (Rd.of_cells (.tail _ (.tail _ (.tail _ (.head _))))) rfl rfl rfl rfl ?_ | refine ld (v := .slice _ _ _) (off := 0) (Rd.of_cells (.tail _ (.tail _ (.tail _ (.tail _ (.head _)))))) rfl rfl rfl rfl ?_ | refine ld (v := .slice _ _ _) (off := 0) (Rd.of_cells (.tail _ (.tail _ (.tail _ (.tail _ (.tail _ (.head _))))))) rfl rfl rfl rfl ?_ | refine ld (v := .slice _ _ _) (off := 0) (Rd.of_cells (.tail _ (.tail _ (.tail _ (.tail _ (.tail _ (.tail _ (.head _)))))))) rfl rfl rfl rfl ?_
    refine pu (v := .int .i64 (iF : Nat)) (by show some (Value.int .i64 (plc k _)) = _; rw [eF]) rfl ?_
    first | refine ia (es := 2) rfl rfl rfl rfl rfl rfl (by omega) rfl ?_ | refine iai (es := 2) rfl rfl rfl rfl rfl rfl (by omega) (by omega) rfl ?_
    refine pu rfl rfl ?_
    refine ldO (v := .int .i64 _) (hrdF _ _ (fun _ h => .tail _ h)) rfl rfl rfl rfl ?_
    first | refine pu (v := .int .i64 _) rfl rfl ?_ | refine pu rfl rfl ?_
    refine pu rfl rfl ?_
    first | refine ia (es := 2) rfl rfl rfl rfl rfl rfl (by omega) rfl ?_ | refine iai (es := 2) rfl rfl rfl rfl rfl rfl (by omega) (by omega) rfl ?_
    refine pu rfl rfl ?_
    refine SL_nil ?_
    refine stL (b := (k, vF)) (b' := (k, wadd vF n)) (k := iF) (off := 1) (τ := [_]) balE_len rfl hownF (List.perm_append_comm (l₁ := [_])) hbF rfl rfl rfl rfl (Nat.le_refl 2) rfl rfl (fun σ9 hown9 => ?_)
    refine SL_perm (List.perm_append_comm (l₂ := [_])) ?_
    refine SL_nil ?_
    refine finn [] trivial ?_
    obtain ⟨g1, g2, g3⟩ := add_set (n := n) hI eF hbF hmF
    exact ⟨_, _, _, rfl, hown9, rfl, g1, g2, g3⟩

theorem plc_mis (k : ByteArray) (L : Acc) : (plc k L < 0 → mis k L = 1) ∧ (¬ plc k L < 0 → mis k L = 0) := by
  unfold mis
  rcases plc_cases k L with ⟨h1, h2⟩ | ⟨i, v, h1, _, h2⟩
  · rw [h2]; exact ⟨fun _ => rfl, fun h => by omega⟩
  · rw [h2]; exact ⟨fun h => by omega, fun _ => rfl⟩
def postErrR (L : Acc) (t : Int) (p : Posting) : Int :=
  if (nameB p.src && nameB p.dst) = false then 4
  else if p.src = p.dst then 6
  else if p.amt < 1 ∨ 1000000000000 < p.amt then 2
  else if 128 < (L.length : Int) + mis p.src L + mis p.dst L then 3
  else if 1000000000000000000 < wadd t p.amt then 9
  else 0
def PostR (e : Int) (L : Acc) (t : Int) (p : Posting) (L' : Acc) (t' : Int) : Prop :=
  (e = 0 → t' = wadd t p.amt ∧ ∃ L1, AddR p.src (IntKind.wrap .i64 (0 - p.amt)) L L1 ∧ AddR p.dst p.amt L1 L') ∧ (e ≠ 0 → t' = t ∧ L' = L)
theorem PostR.no {e t : Int} {L : Acc} {p : Posting} (h : e ≠ 0) : PostR e L t p L t := ⟨fun h' => absurd h' h, fun _ => ⟨rfl, rfl⟩⟩
theorem PostR.yes {t : Int} {L L1 L2 : Acc} {p : Posting} (h1 : AddR p.src (IntKind.wrap .i64 (0 - p.amt)) L L1) (h2 : AddR p.dst p.amt L1 L2) : PostR 0 L t p L2 (wadd t p.amt) := ⟨fun _ => ⟨rfl, L1, h1, h2⟩, fun h => absurd rfl h⟩

theorem refPost {m : Mem} {B : Nat} {sv : Value} {L : Acc} {t : Int} {σe : Sig} (hown : OwnS 37 2 sv (L.flatMap balE) σe) (hlen : L.length ≤ 128) (p : Posting) :
    CallsS Try.prog 14 [.pointer (some ⟨B, 0, none⟩), p.val].toArray (RefC B sv t σe) m fun r σ' m' => ∃ sv' σe' L' t', r = .int .i64 (postErrR L t p) ∧ m' = m ∧ σ' = RefC B sv' t' σe' ∧ OwnS 37 2 sv' (L'.flatMap balE) σe' ∧ PostR (postErrR L t p) L t p L' t' := by
  refine CallsS.ghost (R' := fun r σ' m' => r = .int .i64 (postErrR L t p) ∧ m' = m ∧ ∃ c sv' σe' L' t', σ' = c :: RefC B sv' t' σe' ∧ OwnS 37 2 sv' (L'.flatMap balE) σe' ∧ PostR (postErrR L t p) L t p L' t') ?_ ?h2
  case h2 =>
    rintro r σ' m' ⟨h1, rfl, c, sv', σe', L', t', rfl, h2, h3⟩ g W hC
    exact ⟨_, m', hC.sublist (List.sublist_cons_self _ _), Le.refl _, sv', σe', L', t', h1, rfl, rfl, h2, h3⟩
  obtain ⟨a, cap, rfl⟩ := hown.lenL (by omega) balE_len
  obtain ⟨ps, pd, pa⟩ := p
  dsimp only [Posting.val]
  refine enter Try.func14 Try.ntmps14 rfl rfl ?_
  refine SWP_seq ?_
  refine SWP_region ?_
  refine bx (v := .agg _) rfl rfl (fun B3 => ?_)
  first | refine pu (v := .int .i64 _) rfl rfl ?_ | refine pu rfl rfl ?_
  refine SL_nil ?_
  refine nx ?_
  refine SWP_seq ?_
  refine SWP_seq ?_
  refine SWP_region ?_
  refine pu rfl rfl ?_
  first | refine ld (v := .string _) (off := 0) (Rd.of_cells (.head _)) rfl rfl rfl rfl ?_ | refine ld (v := .string _) (off := 0) (Rd.of_cells (.tail _ (.head _))) rfl rfl rfl rfl ?_ | refine ld (v := .string _) (off := 0) (Rd.of_cells (.tail _ (.tail _ (.head _)))) rfl rfl rfl rfl ?_ | refine ld (v := .string _) (off := 0) (Rd.of_cells (.tail _ (.tail _ (.tail _ (.head _))))) rfl rfl rfl rfl ?_ | refine ld (v := .string _) (off := 0) (Rd.of_cells (.tail _ (.tail _ (.tail _ (.tail _ (.head _)))))) rfl rfl rfl rfl ?_ | refine ld (v := .string _) (off := 0) (Rd.of_cells (.tail _ (.tail _ (.tail _ (.tail _ (.tail _ (.head _))))))) rfl rfl rfl rfl ?_ | refine ld (v := .string _) (off := 0) (Rd.of_cells (.tail _ (.tail _ (.tail _ (.tail _ (.tail _ (.tail _ (.head _)))))))) rfl rfl rfl rfl ?_
  refine SL_pcall rfl rfl cb27 (nameRef _) rfl ?_
  refine bsp 8 rfl (fun b8 => ?_) (fun b8 => ?_)
  · skip
    first | refine pu (v := .bool _) rfl rfl ?_ | refine pu rfl rfl ?_
    first | refine pu (v := .bool _) rfl rfl ?_ | refine pu rfl rfl ?_
    refine SL_yes rfl ?_
    refine pu rfl rfl ?_
    refine SL_yes rfl ?_
    first | refine ld (v := .string _) (off := 1) (Rd.of_cells (.head _)) rfl rfl rfl rfl ?_ | refine ld (v := .string _) (off := 1) (Rd.of_cells (.tail _ (.head _))) rfl rfl rfl rfl ?_ | refine ld (v := .string _) (off := 1) (Rd.of_cells (.tail _ (.tail _ (.head _)))) rfl rfl rfl rfl ?_ | refine ld (v := .string _) (off := 1) (Rd.of_cells (.tail _ (.tail _ (.tail _ (.head _))))) rfl rfl rfl rfl ?_ | refine ld (v := .string _) (off := 1) (Rd.of_cells (.tail _ (.tail _ (.tail _ (.tail _ (.head _)))))) rfl rfl rfl rfl ?_ | refine ld (v := .string _) (off := 1) (Rd.of_cells (.tail _ (.tail _ (.tail _ (.tail _ (.tail _ (.head _))))))) rfl rfl rfl rfl ?_ | refine ld (v := .string _) (off := 1) (Rd.of_cells (.tail _ (.tail _ (.tail _ (.tail _ (.tail _ (.tail _ (.head _)))))))) rfl rfl rfl rfl ?_
    refine SL_yes rfl ?_
    refine SL_pcall rfl rfl cb27 (nameRef _) rfl ?_
    refine bsp 13 rfl (fun b13 => ?_) (fun b13 => ?_)
    · skip
      refine SL_yes rfl ?_
      first | refine pu (v := .bool _) rfl rfl ?_ | refine pu rfl rfl ?_
      first | refine pu (v := .bool _) rfl rfl ?_ | refine pu rfl rfl ?_
      refine SL_nil ?_
      refine nx ?_
      refine SWP_cf rfl ?_
      refine SWP_skip ?_
      refine nx ?_
      refine SWP_seq ?_
      refine SWP_seq ?_
      refine SWP_region ?_
      refine pu rfl rfl ?_
      first | refine ld (v := .string _) (off := 0) (Rd.of_cells (.head _)) rfl rfl rfl rfl ?_ | refine ld (v := .string _) (off := 0) (Rd.of_cells (.tail _ (.head _))) rfl rfl rfl rfl ?_ | refine ld (v := .string _) (off := 0) (Rd.of_cells (.tail _ (.tail _ (.head _)))) rfl rfl rfl rfl ?_ | refine ld (v := .string _) (off := 0) (Rd.of_cells (.tail _ (.tail _ (.tail _ (.head _))))) rfl rfl rfl rfl ?_ | refine ld (v := .string _) (off := 0) (Rd.of_cells (.tail _ (.tail _ (.tail _ (.tail _ (.head _)))))) rfl rfl rfl rfl ?_ | refine ld (v := .string _) (off := 0) (Rd.of_cells (.tail _ (.tail _ (.tail _ (.tail _ (.tail _ (.head _))))))) rfl rfl rfl rfl ?_ | refine ld (v := .string _) (off := 0) (Rd.of_cells (.tail _ (.tail _ (.tail _ (.tail _ (.tail _ (.tail _ (.head _)))))))) rfl rfl rfl rfl ?_
      refine pu rfl rfl ?_
      first | refine ld (v := .string _) (off := 1) (Rd.of_cells (.head _)) rfl rfl rfl rfl ?_ | refine ld (v := .string _) (off := 1) (Rd.of_cells (.tail _ (.head _))) rfl rfl rfl rfl ?_ | refine ld (v := .string _) (off := 1) (Rd.of_cells (.tail _ (.tail _ (.head _)))) rfl rfl rfl rfl ?_ | refine ld (v := .string _) (off := 1) (Rd.of_cells (.tail _ (.tail _ (.tail _ (.head _))))) rfl rfl rfl rfl ?_ | refine ld (v := .string _) (off := 1) (Rd.of_cells (.tail _ (.tail _ (.tail _ (.tail _ (.head _)))))) rfl rfl rfl rfl ?_ | refine ld (v := .string _) (off := 1) (Rd.of_cells (.tail _ (.tail _ (.tail _ (.tail _ (.tail _ (.head _))))))) rfl rfl rfl rfl ?_ | refine ld (v := .string _) (off := 1) (Rd.of_cells (.tail _ (.tail _ (.tail _ (.tail _ (.tail _ (.tail _ (.head _)))))))) rfl rfl rfl rfl ?_
      refine pc rfl rfl (fun c20 => ?_) (fun c20 => ?_)
      · skip
        refine SL_nil ?_
        refine nx ?_
        refine SWP_ct rfl ?_
        refine SWP_seq ?_
        refine SWP_region ?_
        first | refine pu (v := .int .i64 _) rfl rfl ?_ | refine pu rfl rfl ?_
        refine SL_nil ?_
        refine nx ?_
        refine SWP_ret ?_
        refine nr ?_
        refine fin [_] ⟨rfl, trivial⟩ ?_
        have e : postErrR L t ⟨ps, pd, pa⟩ = 6 := by
          dsimp only [postErrR]
          rw [b8, b13]; simp only [Bool.and_self, Bool.true_eq_false, if_false]; rw [if_pos c20]
        rw [e]
        exact ⟨rfl, rfl, _, _, _, L, t, rfl, hown, PostR.no (by decide)⟩
      · skip
        refine SL_nil ?_
        refine nx ?_
        refine SWP_cf rfl ?_
        refine SWP_skip ?_
        refine nx ?_
        refine SWP_seq ?_
        refine SWP_seq ?_
        refine SWP_region ?_
        refine pu rfl rfl ?_
        first | refine ld (v := .int .i64 _) (off := 2) (Rd.of_cells (.head _)) rfl rfl rfl rfl ?_ | refine ld (v := .int .i64 _) (off := 2) (Rd.of_cells (.tail _ (.head _))) rfl rfl rfl rfl ?_ | refine ld (v := .int .i64 _) (off := 2) (Rd.of_cells (.tail _ (.tail _ (.head _)))) rfl rfl rfl rfl ?_ | refine ld (v := .int .i64 _) (off := 2) (Rd.of_cells (.tail _ (.tail _ (.tail _ (.head _))))) rfl rfl rfl rfl ?_ | refine ld (v := .int .i64 _) (off := 2) (Rd.of_cells (.tail _ (.tail _ (.tail _ (.tail _ (.head _)))))) rfl rfl rfl rfl ?_ | refine ld (v := .int .i64 _) (off := 2) (Rd.of_cells (.tail _ (.tail _ (.tail _ (.tail _ (.tail _ (.head _))))))) rfl rfl rfl rfl ?_ | refine ld (v := .int .i64 _) (off := 2) (Rd.of_cells (.tail _ (.tail _ (.tail _ (.tail _ (.tail _ (.tail _ (.head _)))))))) rfl rfl rfl rfl ?_
        refine pc rfl rfl (fun c23 => ?_) (fun c23 => ?_)
        · skip
          first | refine pu (v := .bool _) rfl rfl ?_ | refine pu rfl rfl ?_
          refine SL_no rfl rfl ?_
          refine SL_no rfl rfl ?_
          refine SL_no rfl rfl ?_
          first | refine pu (v := .bool _) rfl rfl ?_ | refine pu rfl rfl ?_
          refine SL_nil ?_
          refine nx ?_
          refine SWP_ct rfl ?_
          refine SWP_seq ?_
          refine SWP_region ?_
          first | refine pu (v := .int .i64 _) rfl rfl ?_ | refine pu rfl rfl ?_
          refine SL_nil ?_
          refine nx ?_
          refine SWP_ret ?_
          refine nr ?_
          refine fin [_] ⟨rfl, trivial⟩ ?_
          have e : postErrR L t ⟨ps, pd, pa⟩ = 2 := by
            dsimp only [postErrR]
            rw [b8, b13]; simp only [Bool.and_self, Bool.true_eq_false, if_false]; rw [if_neg c20]; exact if_pos (.inl c23)
          rw [e]
          exact ⟨rfl, rfl, _, _, _, L, t, rfl, hown, PostR.no (by decide)⟩
        · skip
          first | refine pu (v := .bool _) rfl rfl ?_ | refine pu rfl rfl ?_
          refine SL_yes rfl ?_
          refine pu rfl rfl ?_
          refine SL_yes rfl ?_
          first | refine ld (v := .int .i64 _) (off := 2) (Rd.of_cells (.head _)) rfl rfl rfl rfl ?_ | refine ld (v := .int .i64 _) (off := 2) (Rd.of_cells (.tail _ (.head _))) rfl rfl rfl rfl ?_ | refine ld (v := .int .i64 _) (off := 2) (Rd.of_cells (.tail _ (.tail _ (.head _)))) rfl rfl rfl rfl ?_ | refine ld (v := .int .i64 _) (off := 2) (Rd.of_cells (.tail _ (.tail _ (.tail _ (.head _))))) rfl rfl rfl rfl ?_ | refine ld (v := .int .i64 _) (off := 2) (Rd.of_cells (.tail _ (.tail _ (.tail _ (.tail _ (.head _)))))) rfl rfl rfl rfl ?_ | refine ld (v := .int .i64 _) (off := 2) (Rd.of_cells (.tail _ (.tail _ (.tail _ (.tail _ (.tail _ (.head _))))))) rfl rfl rfl rfl ?_ | refine ld (v := .int .i64 _) (off := 2) (Rd.of_cells (.tail _ (.tail _ (.tail _ (.tail _ (.tail _ (.tail _ (.head _)))))))) rfl rfl rfl rfl ?_
          refine SL_yes rfl ?_
          refine pc rfl rfl (fun c27 => ?_) (fun c27 => ?_)
          · skip
            first | refine pu (v := .bool _) rfl rfl ?_ | refine pu rfl rfl ?_
            refine SL_nil ?_
            refine nx ?_
            refine SWP_ct rfl ?_
            refine SWP_seq ?_
            refine SWP_region ?_
            first | refine pu (v := .int .i64 _) rfl rfl ?_ | refine pu rfl rfl ?_
            refine SL_nil ?_
            refine nx ?_
            refine SWP_ret ?_
            refine nr ?_
            refine fin [_] ⟨rfl, trivial⟩ ?_
            have e : postErrR L t ⟨ps, pd, pa⟩ = 2 := by
              dsimp only [postErrR]
              rw [b8, b13]; simp only [Bool.and_self, Bool.true_eq_false, if_false]; rw [if_neg c20]; exact if_pos (.inr c27)
            rw [e]
            exact ⟨rfl, rfl, _, _, _, L, t, rfl, hown, PostR.no (by decide)⟩
          · skip
            first | refine pu (v := .bool _) rfl rfl ?_ | refine pu rfl rfl ?_
            refine SL_nil ?_
            refine nx ?_
            refine SWP_cf rfl ?_
            refine SWP_skip ?_
            refine nx ?_
            refine SWP_seq ?_
            refine SWP_region ?_
            first | refine pu (v := .pointer _) rfl rfl ?_ | refine pu rfl rfl ?_
            refine pu rfl rfl ?_
            refine pu rfl rfl ?_
            first | refine ld (v := .slice _ _ _) (off := 0) (Rd.of_cells (.head _)) rfl rfl rfl rfl ?_ | refine ld (v := .slice _ _ _) (off := 0) (Rd.of_cells (.tail _ (.head _))) rfl rfl rfl rfl ?_ | refine ld (v := .slice _ _ _) (off := 0) (Rd.of_cells (.tail _ (.tail _ (.head _)))) rfl rfl rfl rfl ?_ | refine ld (v := .slice _ _ _) (off := 0) (Rd.of_cells (.tail _ (.tail _ (.tail _ (.head _))))) rfl rfl rfl rfl ?_ | refine ld (v := .slice _ _ _) (off := 0) (Rd.of_cells (.tail _ (.tail _ (.tail _ (.tail _ (.head _)))))) rfl rfl rfl rfl ?_ | refine ld (v := .slice _ _ _) (off := 0) (Rd.of_cells (.tail _ (.tail _ (.tail _ (.tail _ (.tail _ (.head _))))))) rfl rfl rfl rfl ?_ | refine ld (v := .slice _ _ _) (off := 0) (Rd.of_cells (.tail _ (.tail _ (.tail _ (.tail _ (.tail _ (.tail _ (.head _)))))))) rfl rfl rfl rfl ?_
            refine pu rfl rfl ?_
            first | refine pu (v := .int .i64 _) rfl rfl ?_ | refine pu rfl rfl ?_
            refine SL_nil ?_
            refine nx ?_
            refine SWP_seq ?_
            refine SWP_seq ?_
            refine SWP_region ?_
            first | refine pu (v := .pointer _) rfl rfl ?_ | refine pu rfl rfl ?_
            refine pu rfl rfl ?_
            first | refine ld (v := .string _) (off := 0) (Rd.of_cells (.head _)) rfl rfl rfl rfl ?_ | refine ld (v := .string _) (off := 0) (Rd.of_cells (.tail _ (.head _))) rfl rfl rfl rfl ?_ | refine ld (v := .string _) (off := 0) (Rd.of_cells (.tail _ (.tail _ (.head _)))) rfl rfl rfl rfl ?_ | refine ld (v := .string _) (off := 0) (Rd.of_cells (.tail _ (.tail _ (.tail _ (.head _))))) rfl rfl rfl rfl ?_ | refine ld (v := .string _) (off := 0) (Rd.of_cells (.tail _ (.tail _ (.tail _ (.tail _ (.head _)))))) rfl rfl rfl rfl ?_ | refine ld (v := .string _) (off := 0) (Rd.of_cells (.tail _ (.tail _ (.tail _ (.tail _ (.tail _ (.head _))))))) rfl rfl rfl rfl ?_ | refine ld (v := .string _) (off := 0) (Rd.of_cells (.tail _ (.tail _ (.tail _ (.tail _ (.tail _ (.tail _ (.head _)))))))) rfl rfl rfl rfl ?_
            refine SL_pcallS rfl rfl cb28 (CallsS.pureIn (refPlace hown _) (Sub.cons _ (Sub.refl _))) rfl ?_
            refine pc rfl rfl (fun c38 => ?_) (fun c38 => ?_)
            · skip
              refine SL_nil ?_
              refine nx ?_
              refine SWP_ct rfl ?_
              refine SWP_region ?_
              first | refine pu (v := .int .i64 _) rfl rfl ?_ | refine pu rfl rfl ?_
              first | refine pw rfl rfl (w64 (by omega) (by omega)) ?_ | refine pu rfl rfl ?_
              first | refine pu (v := .int .i64 _) rfl rfl ?_ | refine pu rfl rfl ?_
              refine SL_nil ?_
              refine nx ?_
              refine SWP_seq ?_
              refine SWP_seq ?_
              refine SWP_region ?_
              first | refine pu (v := .pointer _) rfl rfl ?_ | refine pu rfl rfl ?_
              refine pu rfl rfl ?_
              first | refine ld (v := .string _) (off := 1) (Rd.of_cells (.head _)) rfl rfl rfl rfl ?_ | refine ld (v := .string _) (off := 1) (Rd.of_cells (.tail _ (.head _))) rfl rfl rfl rfl ?_ | refine ld (v := .string _) (off := 1) (Rd.of_cells (.tail _ (.tail _ (.head _)))) rfl rfl rfl rfl ?_ | refine ld (v := .string _) (off := 1) (Rd.of_cells (.tail _ (.tail _ (.tail _ (.head _))))) rfl rfl rfl rfl ?_ | refine ld (v := .string _) (off := 1) (Rd.of_cells (.tail _ (.tail _ (.tail _ (.tail _ (.head _)))))) rfl rfl rfl rfl ?_ | refine ld (v := .string _) (off := 1) (Rd.of_cells (.tail _ (.tail _ (.tail _ (.tail _ (.tail _ (.head _))))))) rfl rfl rfl rfl ?_ | refine ld (v := .string _) (off := 1) (Rd.of_cells (.tail _ (.tail _ (.tail _ (.tail _ (.tail _ (.tail _ (.head _)))))))) rfl rfl rfl rfl ?_
              refine SL_pcallS rfl rfl cb28 (CallsS.pureIn (refPlace hown _) (Sub.cons _ (Sub.refl _))) rfl ?_
              refine pc rfl rfl (fun c45 => ?_) (fun c45 => ?_)
              · skip
                refine SL_nil ?_
                refine nx ?_
                refine SWP_ct rfl ?_
                refine SWP_region ?_
                first | refine pu (v := .int .i64 _) rfl rfl ?_ | refine pu rfl rfl ?_
                first | refine pw rfl rfl (w64 (by omega) (by omega)) ?_ | refine pu rfl rfl ?_
                first | refine pu (v := .int .i64 _) rfl rfl ?_ | refine pu rfl rfl ?_
                refine SL_nil ?_
                refine nx ?_
                refine SWP_seq ?_
                refine SWP_seq ?_
                refine SWP_region ?_
                first | refine pu (v := .int .i64 _) rfl rfl ?_ | refine pu rfl rfl ?_
                refine pc rfl rfl (fun c49 => ?_) (fun c49 => ?_)
                · skip
                  refine SL_nil ?_
                  refine nx ?_
                  refine SWP_ct rfl ?_
                  refine SWP_seq ?_
                  refine SWP_region ?_
                  first | refine pu (v := .int .i64 _) rfl rfl ?_ | refine pu rfl rfl ?_
                  refine SL_nil ?_
                  refine nx ?_
                  refine SWP_ret ?_
                  refine nr ?_
                  refine fin [_] ⟨rfl, trivial⟩ ?_
                  have e : postErrR L t ⟨ps, pd, pa⟩ = 3 := by
                    dsimp only [postErrR]
                    have h1 := plc_mis ps L
                    have h2 := plc_mis pd L
                    rw [b8, b13]; simp only [Bool.and_self, Bool.true_eq_false, if_false]; rw [if_neg c20, if_neg (by omega)]; exact if_pos (by omega)
                  rw [e]
                  exact ⟨rfl, rfl, _, _, _, L, t, rfl, hown, PostR.no (by decide)⟩
                · skip
                  refine SL_nil ?_
                  refine nx ?_
                  refine SWP_cf rfl ?_
                  refine SWP_skip ?_
                  refine nx ?_
                  refine SWP_seq ?_
                  refine SWP_seq ?_
                  refine SWP_draws (by kernel_rfl) (by kernel_rfl) ?_
                  first | refine pu (v := .pointer _) rfl rfl ?_ | refine pu rfl rfl ?_
                  refine pu rfl rfl ?_
                  refine pu rfl rfl ?_
                  first | refine ld (v := .int .i64 _) (off := 1) (Rd.of_cells (.head _)) rfl rfl rfl rfl ?_ | refine ld (v := .int .i64 _) (off := 1) (Rd.of_cells (.tail _ (.head _))) rfl rfl rfl rfl ?_ | refine ld (v := .int .i64 _) (off := 1) (Rd.of_cells (.tail _ (.tail _ (.head _)))) rfl rfl rfl rfl ?_ | refine ld (v := .int .i64 _) (off := 1) (Rd.of_cells (.tail _ (.tail _ (.tail _ (.head _))))) rfl rfl rfl rfl ?_ | refine ld (v := .int .i64 _) (off := 1) (Rd.of_cells (.tail _ (.tail _ (.tail _ (.tail _ (.head _)))))) rfl rfl rfl rfl ?_ | refine ld (v := .int .i64 _) (off := 1) (Rd.of_cells (.tail _ (.tail _ (.tail _ (.tail _ (.tail _ (.head _))))))) rfl rfl rfl rfl ?_ | refine ld (v := .int .i64 _) (off := 1) (Rd.of_cells (.tail _ (.tail _ (.tail _ (.tail _ (.tail _ (.tail _ (.head _)))))))) rfl rfl rfl rfl ?_
                  refine pu rfl rfl ?_
                  first | refine ld (v := .int .i64 _) (off := 2) (Rd.of_cells (.head _)) rfl rfl rfl rfl ?_ | refine ld (v := .int .i64 _) (off := 2) (Rd.of_cells (.tail _ (.head _))) rfl rfl rfl rfl ?_ | refine ld (v := .int .i64 _) (off := 2) (Rd.of_cells (.tail _ (.tail _ (.head _)))) rfl rfl rfl rfl ?_ | refine ld (v := .int .i64 _) (off := 2) (Rd.of_cells (.tail _ (.tail _ (.tail _ (.head _))))) rfl rfl rfl rfl ?_ | refine ld (v := .int .i64 _) (off := 2) (Rd.of_cells (.tail _ (.tail _ (.tail _ (.tail _ (.head _)))))) rfl rfl rfl rfl ?_ | refine ld (v := .int .i64 _) (off := 2) (Rd.of_cells (.tail _ (.tail _ (.tail _ (.tail _ (.tail _ (.head _))))))) rfl rfl rfl rfl ?_ | refine ld (v := .int .i64 _) (off := 2) (Rd.of_cells (.tail _ (.tail _ (.tail _ (.tail _ (.tail _ (.tail _ (.head _)))))))) rfl rfl rfl rfl ?_
                  refine pu rfl rfl ?_
                  refine pc rfl rfl (fun c57 => ?_) (fun c57 => ?_)
                  · skip
                    refine SL_nil ?_
                    refine nx ?_
                    refine SWP_ct rfl ?_
                    refine SWP_seq ?_
                    refine SWP_region ?_
                    first | refine pu (v := .int .i64 _) rfl rfl ?_ | refine pu rfl rfl ?_
                    refine SL_nil ?_
                    refine nx ?_
                    refine SWP_ret ?_
                    refine nr ?_
                    refine fin [_] ⟨rfl, trivial⟩ ?_
                    have e : postErrR L t ⟨ps, pd, pa⟩ = 9 := by
                      dsimp only [postErrR]
                      have h1 := plc_mis ps L
                      have h2 := plc_mis pd L
                      rw [b8, b13]; simp only [Bool.and_self, Bool.true_eq_false, if_false]; rw [if_neg c20, if_neg (by omega), if_neg (by omega)]; exact if_pos c57
                    rw [e]
                    exact ⟨rfl, rfl, _, _, _, L, t, rfl, hown, PostR.no (by decide)⟩
                  · skip
                    refine SL_nil ?_
                    refine nx ?_
                    refine SWP_cf rfl ?_
                    refine SWP_skip ?_
                    refine nx ?_
                    refine SWP_seq ?_
                    refine SWP_region ?_
                    first | refine pu (v := .pointer _) rfl rfl ?_ | refine pu rfl rfl ?_
                    refine pu rfl rfl ?_
                    first | refine ld (v := .string _) (off := 0) (Rd.of_cells (.head _)) rfl rfl rfl rfl ?_ | refine ld (v := .string _) (off := 0) (Rd.of_cells (.tail _ (.head _))) rfl rfl rfl rfl ?_ | refine ld (v := .string _) (off := 0) (Rd.of_cells (.tail _ (.tail _ (.head _)))) rfl rfl rfl rfl ?_ | refine ld (v := .string _) (off := 0) (Rd.of_cells (.tail _ (.tail _ (.tail _ (.head _))))) rfl rfl rfl rfl ?_ | refine ld (v := .string _) (off := 0) (Rd.of_cells (.tail _ (.tail _ (.tail _ (.tail _ (.head _)))))) rfl rfl rfl rfl ?_ | refine ld (v := .string _) (off := 0) (Rd.of_cells (.tail _ (.tail _ (.tail _ (.tail _ (.tail _ (.head _))))))) rfl rfl rfl rfl ?_ | refine ld (v := .string _) (off := 0) (Rd.of_cells (.tail _ (.tail _ (.tail _ (.tail _ (.tail _ (.tail _ (.head _)))))))) rfl rfl rfl rfl ?_
                    refine pu rfl rfl ?_
                    first | refine ld (v := .int .i64 _) (off := 2) (Rd.of_cells (.head _)) rfl rfl rfl rfl ?_ | refine ld (v := .int .i64 _) (off := 2) (Rd.of_cells (.tail _ (.head _))) rfl rfl rfl rfl ?_ | refine ld (v := .int .i64 _) (off := 2) (Rd.of_cells (.tail _ (.tail _ (.head _)))) rfl rfl rfl rfl ?_ | refine ld (v := .int .i64 _) (off := 2) (Rd.of_cells (.tail _ (.tail _ (.tail _ (.head _))))) rfl rfl rfl rfl ?_ | refine ld (v := .int .i64 _) (off := 2) (Rd.of_cells (.tail _ (.tail _ (.tail _ (.tail _ (.head _)))))) rfl rfl rfl rfl ?_ | refine ld (v := .int .i64 _) (off := 2) (Rd.of_cells (.tail _ (.tail _ (.tail _ (.tail _ (.tail _ (.head _))))))) rfl rfl rfl rfl ?_ | refine ld (v := .int .i64 _) (off := 2) (Rd.of_cells (.tail _ (.tail _ (.tail _ (.tail _ (.tail _ (.tail _ (.head _)))))))) rfl rfl rfl rfl ?_
                    refine pu rfl rfl ?_
                    refine SL_call rfl rfl cb29 (CallsS.subF [_] (refAdd hown (by omega) _ _) (List.perm_append_comm (l₁ := [_]))) rfl (fun v16_6 σ16_6 m16_6 hl16_6 hR16_6 => ?_)
                    obtain ⟨σ₁, rfl, sv1, σe1, L1, rfl, hown1, rfl, hA1⟩ := hR16_6
                    have hlen1 := hA1.len
                    refine SL_perm (List.perm_append_comm (l₂ := [_])) ?_
                    refine SL_nil ?_
                    refine nx ?_
                    refine SWP_seq ?_
                    refine SWP_region ?_
                    first | refine pu (v := .pointer _) rfl rfl ?_ | refine pu rfl rfl ?_
                    refine pu rfl rfl ?_
                    first | refine ld (v := .string _) (off := 1) (Rd.of_cells (.head _)) rfl rfl rfl rfl ?_ | refine ld (v := .string _) (off := 1) (Rd.of_cells (.tail _ (.head _))) rfl rfl rfl rfl ?_ | refine ld (v := .string _) (off := 1) (Rd.of_cells (.tail _ (.tail _ (.head _)))) rfl rfl rfl rfl ?_ | refine ld (v := .string _) (off := 1) (Rd.of_cells (.tail _ (.tail _ (.tail _ (.head _))))) rfl rfl rfl rfl ?_ | refine ld (v := .string _) (off := 1) (Rd.of_cells (.tail _ (.tail _ (.tail _ (.tail _ (.head _)))))) rfl rfl rfl rfl ?_ | refine ld (v := .string _) (off := 1) (Rd.of_cells (.tail _ (.tail _ (.tail _ (.tail _ (.tail _ (.head _))))))) rfl rfl rfl rfl ?_ | refine ld (v := .string _) (off := 1) (Rd.of_cells (.tail _ (.tail _ (.tail _ (.tail _ (.tail _ (.tail _ (.head _)))))))) rfl rfl rfl rfl ?_
                    refine pu rfl rfl ?_
                    first | refine ld (v := .int .i64 _) (off := 2) (Rd.of_cells (.head _)) rfl rfl rfl rfl ?_ | refine ld (v := .int .i64 _) (off := 2) (Rd.of_cells (.tail _ (.head _))) rfl rfl rfl rfl ?_ | refine ld (v := .int .i64 _) (off := 2) (Rd.of_cells (.tail _ (.tail _ (.head _)))) rfl rfl rfl rfl ?_ | refine ld (v := .int .i64 _) (off := 2) (Rd.of_cells (.tail _ (.tail _ (.tail _ (.head _))))) rfl rfl rfl rfl ?_ | refine ld (v := .int .i64 _) (off := 2) (Rd.of_cells (.tail _ (.tail _ (.tail _ (.tail _ (.head _)))))) rfl rfl rfl rfl ?_ | refine ld (v := .int .i64 _) (off := 2) (Rd.of_cells (.tail _ (.tail _ (.tail _ (.tail _ (.tail _ (.head _))))))) rfl rfl rfl rfl ?_ | refine ld (v := .int .i64 _) (off := 2) (Rd.of_cells (.tail _ (.tail _ (.tail _ (.tail _ (.tail _ (.tail _ (.head _)))))))) rfl rfl rfl rfl ?_
                    refine SL_call rfl rfl cb29 (CallsS.subF [_] (refAdd hown1 (by split at hlen1 <;> omega) _ _) (List.perm_append_comm (l₁ := [_]))) rfl (fun v17_5 σ17_5 m17_5 hl17_5 hR17_5 => ?_)
                    obtain ⟨σ₁, rfl, sv2, σe2, L2, rfl, hown2, rfl, hA2⟩ := hR17_5
                    refine SL_perm (List.perm_append_comm (l₂ := [_])) ?_
                    refine SL_nil ?_
                    refine nx ?_
                    refine SWP_seq ?_
                    refine SWP_tail 10 (by kernel_rfl) (by kernel_rfl) ?_
                    first | refine pu (v := .pointer _) rfl rfl ?_ | refine pu rfl rfl ?_
                    first | refine pu (v := .pointer _) rfl rfl ?_ | refine pu rfl rfl ?_
                    refine pu rfl rfl ?_
                    refine pu rfl rfl ?_
                    first | refine ld (v := .int .i64 _) (off := 1) (Rd.of_cells (.head _)) rfl rfl rfl rfl ?_ | refine ld (v := .int .i64 _) (off := 1) (Rd.of_cells (.tail _ (.head _))) rfl rfl rfl rfl ?_ | refine ld (v := .int .i64 _) (off := 1) (Rd.of_cells (.tail _ (.tail _ (.head _)))) rfl rfl rfl rfl ?_ | refine ld (v := .int .i64 _) (off := 1) (Rd.of_cells (.tail _ (.tail _ (.tail _ (.head _))))) rfl rfl rfl rfl ?_ | refine ld (v := .int .i64 _) (off := 1) (Rd.of_cells (.tail _ (.tail _ (.tail _ (.tail _ (.head _)))))) rfl rfl rfl rfl ?_ | refine ld (v := .int .i64 _) (off := 1) (Rd.of_cells (.tail _ (.tail _ (.tail _ (.tail _ (.tail _ (.head _))))))) rfl rfl rfl rfl ?_ | refine ld (v := .int .i64 _) (off := 1) (Rd.of_cells (.tail _ (.tail _ (.tail _ (.tail _ (.tail _ (.tail _ (.head _)))))))) rfl rfl rfl rfl ?_
                    refine pu rfl rfl ?_
                    first | refine ld (v := .int .i64 _) (off := 2) (Rd.of_cells (.head _)) rfl rfl rfl rfl ?_ | refine ld (v := .int .i64 _) (off := 2) (Rd.of_cells (.tail _ (.head _))) rfl rfl rfl rfl ?_ | refine ld (v := .int .i64 _) (off := 2) (Rd.of_cells (.tail _ (.tail _ (.head _)))) rfl rfl rfl rfl ?_ | refine ld (v := .int .i64 _) (off := 2) (Rd.of_cells (.tail _ (.tail _ (.tail _ (.head _))))) rfl rfl rfl rfl ?_ | refine ld (v := .int .i64 _) (off := 2) (Rd.of_cells (.tail _ (.tail _ (.tail _ (.tail _ (.head _)))))) rfl rfl rfl rfl ?_ | refine ld (v := .int .i64 _) (off := 2) (Rd.of_cells (.tail _ (.tail _ (.tail _ (.tail _ (.tail _ (.head _))))))) rfl rfl rfl rfl ?_ | refine ld (v := .int .i64 _) (off := 2) (Rd.of_cells (.tail _ (.tail _ (.tail _ (.tail _ (.tail _ (.tail _ (.head _)))))))) rfl rfl rfl rfl ?_
                    refine pu rfl rfl ?_
                    refine pu rfl rfl ?_
                    refine pu rfl rfl ?_
                    refine SL_nil ?_
                    first | refine st (v := .int .i64 _) (off := 1) (σ₁ := []) rfl rfl rfl rfl rfl rfl rfl rfl ?_ | refine st (v := .int .i64 _) (off := 1) (σ₁ := [_]) rfl rfl rfl rfl rfl rfl rfl rfl ?_ | refine st (v := .int .i64 _) (off := 1) (σ₁ := [_, _]) rfl rfl rfl rfl rfl rfl rfl rfl ?_ | refine st (v := .int .i64 _) (off := 1) (σ₁ := [_, _, _]) rfl rfl rfl rfl rfl rfl rfl rfl ?_ | refine st (v := .int .i64 _) (off := 1) (σ₁ := [_, _, _, _]) rfl rfl rfl rfl rfl rfl rfl rfl ?_ | refine st (v := .int .i64 _) (off := 1) (σ₁ := [_, _, _, _, _]) rfl rfl rfl rfl rfl rfl rfl rfl ?_ | refine st (v := .int .i64 _) (off := 1) (σ₁ := [_, _, _, _, _, _]) rfl rfl rfl rfl rfl rfl rfl rfl ?_
                    refine SL_nil ?_
                    refine nx ?_
                    refine SWP_seq ?_
                    refine SWP_region ?_
                    first | refine pu (v := .int .i64 _) rfl rfl ?_ | refine pu rfl rfl ?_
                    refine SL_nil ?_
                    refine nx ?_
                    refine SWP_ret ?_
                    refine fin [_] ⟨rfl, trivial⟩ ?_
                    have e : postErrR L t ⟨ps, pd, pa⟩ = 0 := by
                      dsimp only [postErrR]
                      have h1 := plc_mis ps L
                      have h2 := plc_mis pd L
                      rw [b8, b13]; simp only [Bool.and_self, Bool.true_eq_false, if_false]; rw [if_neg c20, if_neg (by omega), if_neg (by omega)]; exact if_neg c57
                    rw [e]
                    exact ⟨rfl, rfl, _, _, _, L2, _, rfl, hown2, PostR.yes hA1 hA2⟩
              · skip
                refine SL_nil ?_
                refine nx ?_
                refine SWP_cf rfl ?_
                refine SWP_skip ?_
                refine nx ?_
                refine SWP_seq ?_
                refine SWP_seq ?_
                refine SWP_region ?_
                first | refine pu (v := .int .i64 _) rfl rfl ?_ | refine pu rfl rfl ?_
                refine pc rfl rfl (fun c49 => ?_) (fun c49 => ?_)
                · skip
                  refine SL_nil ?_
                  refine nx ?_
                  refine SWP_ct rfl ?_
                  refine SWP_seq ?_
                  refine SWP_region ?_
                  first | refine pu (v := .int .i64 _) rfl rfl ?_ | refine pu rfl rfl ?_
                  refine SL_nil ?_
                  refine nx ?_
                  refine SWP_ret ?_
                  refine nr ?_
                  refine fin [_] ⟨rfl, trivial⟩ ?_
                  have e : postErrR L t ⟨ps, pd, pa⟩ = 3 := by
                    dsimp only [postErrR]
                    have h1 := plc_mis ps L
                    have h2 := plc_mis pd L
                    rw [b8, b13]; simp only [Bool.and_self, Bool.true_eq_false, if_false]; rw [if_neg c20, if_neg (by omega)]; exact if_pos (by omega)
                  rw [e]
                  exact ⟨rfl, rfl, _, _, _, L, t, rfl, hown, PostR.no (by decide)⟩
                · skip
                  refine SL_nil ?_
                  refine nx ?_
                  refine SWP_cf rfl ?_
                  refine SWP_skip ?_
                  refine nx ?_
                  refine SWP_seq ?_
                  refine SWP_seq ?_
                  refine SWP_draws (by kernel_rfl) (by kernel_rfl) ?_
                  first | refine pu (v := .pointer _) rfl rfl ?_ | refine pu rfl rfl ?_
                  refine pu rfl rfl ?_
                  refine pu rfl rfl ?_
                  first | refine ld (v := .int .i64 _) (off := 1) (Rd.of_cells (.head _)) rfl rfl rfl rfl ?_ | refine ld (v := .int .i64 _) (off := 1) (Rd.of_cells (.tail _ (.head _))) rfl rfl rfl rfl ?_ | refine ld (v := .int .i64 _) (off := 1) (Rd.of_cells (.tail _ (.tail _ (.head _)))) rfl rfl rfl rfl ?_ | refine ld (v := .int .i64 _) (off := 1) (Rd.of_cells (.tail _ (.tail _ (.tail _ (.head _))))) rfl rfl rfl rfl ?_ | refine ld (v := .int .i64 _) (off := 1) (Rd.of_cells (.tail _ (.tail _ (.tail _ (.tail _ (.head _)))))) rfl rfl rfl rfl ?_ | refine ld (v := .int .i64 _) (off := 1) (Rd.of_cells (.tail _ (.tail _ (.tail _ (.tail _ (.tail _ (.head _))))))) rfl rfl rfl rfl ?_ | refine ld (v := .int .i64 _) (off := 1) (Rd.of_cells (.tail _ (.tail _ (.tail _ (.tail _ (.tail _ (.tail _ (.head _)))))))) rfl rfl rfl rfl ?_
                  refine pu rfl rfl ?_
                  first | refine ld (v := .int .i64 _) (off := 2) (Rd.of_cells (.head _)) rfl rfl rfl rfl ?_ | refine ld (v := .int .i64 _) (off := 2) (Rd.of_cells (.tail _ (.head _))) rfl rfl rfl rfl ?_ | refine ld (v := .int .i64 _) (off := 2) (Rd.of_cells (.tail _ (.tail _ (.head _)))) rfl rfl rfl rfl ?_ | refine ld (v := .int .i64 _) (off := 2) (Rd.of_cells (.tail _ (.tail _ (.tail _ (.head _))))) rfl rfl rfl rfl ?_ | refine ld (v := .int .i64 _) (off := 2) (Rd.of_cells (.tail _ (.tail _ (.tail _ (.tail _ (.head _)))))) rfl rfl rfl rfl ?_ | refine ld (v := .int .i64 _) (off := 2) (Rd.of_cells (.tail _ (.tail _ (.tail _ (.tail _ (.tail _ (.head _))))))) rfl rfl rfl rfl ?_ | refine ld (v := .int .i64 _) (off := 2) (Rd.of_cells (.tail _ (.tail _ (.tail _ (.tail _ (.tail _ (.tail _ (.head _)))))))) rfl rfl rfl rfl ?_
                  refine pu rfl rfl ?_
                  refine pc rfl rfl (fun c57 => ?_) (fun c57 => ?_)
                  · skip
                    refine SL_nil ?_
                    refine nx ?_
                    refine SWP_ct rfl ?_
                    refine SWP_seq ?_
                    refine SWP_region ?_
                    first | refine pu (v := .int .i64 _) rfl rfl ?_ | refine pu rfl rfl ?_
                    refine SL_nil ?_
                    refine nx ?_
                    refine SWP_ret ?_
                    refine nr ?_
                    refine fin [_] ⟨rfl, trivial⟩ ?_
                    have e : postErrR L t ⟨ps, pd, pa⟩ = 9 := by
                      dsimp only [postErrR]
                      have h1 := plc_mis ps L
                      have h2 := plc_mis pd L
                      rw [b8, b13]; simp only [Bool.and_self, Bool.true_eq_false, if_false]; rw [if_neg c20, if_neg (by omega), if_neg (by omega)]; exact if_pos c57
                    rw [e]
                    exact ⟨rfl, rfl, _, _, _, L, t, rfl, hown, PostR.no (by decide)⟩
                  · skip
                    refine SL_nil ?_
                    refine nx ?_
                    refine SWP_cf rfl ?_
                    refine SWP_skip ?_
                    refine nx ?_
                    refine SWP_seq ?_
                    refine SWP_region ?_
                    first | refine pu (v := .pointer _) rfl rfl ?_ | refine pu rfl rfl ?_
                    refine pu rfl rfl ?_
                    first | refine ld (v := .string _) (off := 0) (Rd.of_cells (.head _)) rfl rfl rfl rfl ?_ | refine ld (v := .string _) (off := 0) (Rd.of_cells (.tail _ (.head _))) rfl rfl rfl rfl ?_ | refine ld (v := .string _) (off := 0) (Rd.of_cells (.tail _ (.tail _ (.head _)))) rfl rfl rfl rfl ?_ | refine ld (v := .string _) (off := 0) (Rd.of_cells (.tail _ (.tail _ (.tail _ (.head _))))) rfl rfl rfl rfl ?_ | refine ld (v := .string _) (off := 0) (Rd.of_cells (.tail _ (.tail _ (.tail _ (.tail _ (.head _)))))) rfl rfl rfl rfl ?_ | refine ld (v := .string _) (off := 0) (Rd.of_cells (.tail _ (.tail _ (.tail _ (.tail _ (.tail _ (.head _))))))) rfl rfl rfl rfl ?_ | refine ld (v := .string _) (off := 0) (Rd.of_cells (.tail _ (.tail _ (.tail _ (.tail _ (.tail _ (.tail _ (.head _)))))))) rfl rfl rfl rfl ?_
                    refine pu rfl rfl ?_
                    first | refine ld (v := .int .i64 _) (off := 2) (Rd.of_cells (.head _)) rfl rfl rfl rfl ?_ | refine ld (v := .int .i64 _) (off := 2) (Rd.of_cells (.tail _ (.head _))) rfl rfl rfl rfl ?_ | refine ld (v := .int .i64 _) (off := 2) (Rd.of_cells (.tail _ (.tail _ (.head _)))) rfl rfl rfl rfl ?_ | refine ld (v := .int .i64 _) (off := 2) (Rd.of_cells (.tail _ (.tail _ (.tail _ (.head _))))) rfl rfl rfl rfl ?_ | refine ld (v := .int .i64 _) (off := 2) (Rd.of_cells (.tail _ (.tail _ (.tail _ (.tail _ (.head _)))))) rfl rfl rfl rfl ?_ | refine ld (v := .int .i64 _) (off := 2) (Rd.of_cells (.tail _ (.tail _ (.tail _ (.tail _ (.tail _ (.head _))))))) rfl rfl rfl rfl ?_ | refine ld (v := .int .i64 _) (off := 2) (Rd.of_cells (.tail _ (.tail _ (.tail _ (.tail _ (.tail _ (.tail _ (.head _)))))))) rfl rfl rfl rfl ?_
                    refine pu rfl rfl ?_
                    refine SL_call rfl rfl cb29 (CallsS.subF [_] (refAdd hown (by omega) _ _) (List.perm_append_comm (l₁ := [_]))) rfl (fun v16_6 σ16_6 m16_6 hl16_6 hR16_6 => ?_)
                    obtain ⟨σ₁, rfl, sv1, σe1, L1, rfl, hown1, rfl, hA1⟩ := hR16_6
                    have hlen1 := hA1.len
                    refine SL_perm (List.perm_append_comm (l₂ := [_])) ?_
                    refine SL_nil ?_
                    refine nx ?_
                    refine SWP_seq ?_
                    refine SWP_region ?_
                    first | refine pu (v := .pointer _) rfl rfl ?_ | refine pu rfl rfl ?_
                    refine pu rfl rfl ?_
                    first | refine ld (v := .string _) (off := 1) (Rd.of_cells (.head _)) rfl rfl rfl rfl ?_ | refine ld (v := .string _) (off := 1) (Rd.of_cells (.tail _ (.head _))) rfl rfl rfl rfl ?_ | refine ld (v := .string _) (off := 1) (Rd.of_cells (.tail _ (.tail _ (.head _)))) rfl rfl rfl rfl ?_ | refine ld (v := .string _) (off := 1) (Rd.of_cells (.tail _ (.tail _ (.tail _ (.head _))))) rfl rfl rfl rfl ?_ | refine ld (v := .string _) (off := 1) (Rd.of_cells (.tail _ (.tail _ (.tail _ (.tail _ (.head _)))))) rfl rfl rfl rfl ?_ | refine ld (v := .string _) (off := 1) (Rd.of_cells (.tail _ (.tail _ (.tail _ (.tail _ (.tail _ (.head _))))))) rfl rfl rfl rfl ?_ | refine ld (v := .string _) (off := 1) (Rd.of_cells (.tail _ (.tail _ (.tail _ (.tail _ (.tail _ (.tail _ (.head _)))))))) rfl rfl rfl rfl ?_
                    refine pu rfl rfl ?_
                    first | refine ld (v := .int .i64 _) (off := 2) (Rd.of_cells (.head _)) rfl rfl rfl rfl ?_ | refine ld (v := .int .i64 _) (off := 2) (Rd.of_cells (.tail _ (.head _))) rfl rfl rfl rfl ?_ | refine ld (v := .int .i64 _) (off := 2) (Rd.of_cells (.tail _ (.tail _ (.head _)))) rfl rfl rfl rfl ?_ | refine ld (v := .int .i64 _) (off := 2) (Rd.of_cells (.tail _ (.tail _ (.tail _ (.head _))))) rfl rfl rfl rfl ?_ | refine ld (v := .int .i64 _) (off := 2) (Rd.of_cells (.tail _ (.tail _ (.tail _ (.tail _ (.head _)))))) rfl rfl rfl rfl ?_ | refine ld (v := .int .i64 _) (off := 2) (Rd.of_cells (.tail _ (.tail _ (.tail _ (.tail _ (.tail _ (.head _))))))) rfl rfl rfl rfl ?_ | refine ld (v := .int .i64 _) (off := 2) (Rd.of_cells (.tail _ (.tail _ (.tail _ (.tail _ (.tail _ (.tail _ (.head _)))))))) rfl rfl rfl rfl ?_
                    refine SL_call rfl rfl cb29 (CallsS.subF [_] (refAdd hown1 (by split at hlen1 <;> omega) _ _) (List.perm_append_comm (l₁ := [_]))) rfl (fun v17_5 σ17_5 m17_5 hl17_5 hR17_5 => ?_)
                    obtain ⟨σ₁, rfl, sv2, σe2, L2, rfl, hown2, rfl, hA2⟩ := hR17_5
                    refine SL_perm (List.perm_append_comm (l₂ := [_])) ?_
                    refine SL_nil ?_
                    refine nx ?_
                    refine SWP_seq ?_
                    refine SWP_tail 10 (by kernel_rfl) (by kernel_rfl) ?_
                    first | refine pu (v := .pointer _) rfl rfl ?_ | refine pu rfl rfl ?_
                    first | refine pu (v := .pointer _) rfl rfl ?_ | refine pu rfl rfl ?_
                    refine pu rfl rfl ?_
                    refine pu rfl rfl ?_
                    first | refine ld (v := .int .i64 _) (off := 1) (Rd.of_cells (.head _)) rfl rfl rfl rfl ?_ | refine ld (v := .int .i64 _) (off := 1) (Rd.of_cells (.tail _ (.head _))) rfl rfl rfl rfl ?_ | refine ld (v := .int .i64 _) (off := 1) (Rd.of_cells (.tail _ (.tail _ (.head _)))) rfl rfl rfl rfl ?_ | refine ld (v := .int .i64 _) (off := 1) (Rd.of_cells (.tail _ (.tail _ (.tail _ (.head _))))) rfl rfl rfl rfl ?_ | refine ld (v := .int .i64 _) (off := 1) (Rd.of_cells (.tail _ (.tail _ (.tail _ (.tail _ (.head _)))))) rfl rfl rfl rfl ?_ | refine ld (v := .int .i64 _) (off := 1) (Rd.of_cells (.tail _ (.tail _ (.tail _ (.tail _ (.tail _ (.head _))))))) rfl rfl rfl rfl ?_ | refine ld (v := .int .i64 _) (off := 1) (Rd.of_cells (.tail _ (.tail _ (.tail _ (.tail _ (.tail _ (.tail _ (.head _)))))))) rfl rfl rfl rfl ?_
                    refine pu rfl rfl ?_
                    first | refine ld (v := .int .i64 _) (off := 2) (Rd.of_cells (.head _)) rfl rfl rfl rfl ?_ | refine ld (v := .int .i64 _) (off := 2) (Rd.of_cells (.tail _ (.head _))) rfl rfl rfl rfl ?_ | refine ld (v := .int .i64 _) (off := 2) (Rd.of_cells (.tail _ (.tail _ (.head _)))) rfl rfl rfl rfl ?_ | refine ld (v := .int .i64 _) (off := 2) (Rd.of_cells (.tail _ (.tail _ (.tail _ (.head _))))) rfl rfl rfl rfl ?_ | refine ld (v := .int .i64 _) (off := 2) (Rd.of_cells (.tail _ (.tail _ (.tail _ (.tail _ (.head _)))))) rfl rfl rfl rfl ?_ | refine ld (v := .int .i64 _) (off := 2) (Rd.of_cells (.tail _ (.tail _ (.tail _ (.tail _ (.tail _ (.head _))))))) rfl rfl rfl rfl ?_ | refine ld (v := .int .i64 _) (off := 2) (Rd.of_cells (.tail _ (.tail _ (.tail _ (.tail _ (.tail _ (.tail _ (.head _)))))))) rfl rfl rfl rfl ?_
                    refine pu rfl rfl ?_
                    refine pu rfl rfl ?_
                    refine pu rfl rfl ?_
                    refine SL_nil ?_
                    first | refine st (v := .int .i64 _) (off := 1) (σ₁ := []) rfl rfl rfl rfl rfl rfl rfl rfl ?_ | refine st (v := .int .i64 _) (off := 1) (σ₁ := [_]) rfl rfl rfl rfl rfl rfl rfl rfl ?_ | refine st (v := .int .i64 _) (off := 1) (σ₁ := [_, _]) rfl rfl rfl rfl rfl rfl rfl rfl ?_ | refine st (v := .int .i64 _) (off := 1) (σ₁ := [_, _, _]) rfl rfl rfl rfl rfl rfl rfl rfl ?_ | refine st (v := .int .i64 _) (off := 1) (σ₁ := [_, _, _, _]) rfl rfl rfl rfl rfl rfl rfl rfl ?_ | refine st (v := .int .i64 _) (off := 1) (σ₁ := [_, _, _, _, _]) rfl rfl rfl rfl rfl rfl rfl rfl ?_ | refine st (v := .int .i64 _) (off := 1) (σ₁ := [_, _, _, _, _, _]) rfl rfl rfl rfl rfl rfl rfl rfl ?_
                    refine SL_nil ?_
                    refine nx ?_
                    refine SWP_seq ?_
                    refine SWP_region ?_
                    first | refine pu (v := .int .i64 _) rfl rfl ?_ | refine pu rfl rfl ?_
                    refine SL_nil ?_
                    refine nx ?_
                    refine SWP_ret ?_
                    refine fin [_] ⟨rfl, trivial⟩ ?_
                    have e : postErrR L t ⟨ps, pd, pa⟩ = 0 := by
                      dsimp only [postErrR]
                      have h1 := plc_mis ps L
                      have h2 := plc_mis pd L
                      rw [b8, b13]; simp only [Bool.and_self, Bool.true_eq_false, if_false]; rw [if_neg c20, if_neg (by omega), if_neg (by omega)]; exact if_neg c57
                    rw [e]
                    exact ⟨rfl, rfl, _, _, _, L2, _, rfl, hown2, PostR.yes hA1 hA2⟩
            · skip
              refine SL_nil ?_
              refine nx ?_
              refine SWP_cf rfl ?_
              refine SWP_skip ?_
              refine nx ?_
              refine SWP_seq ?_
              refine SWP_seq ?_
              refine SWP_region ?_
              first | refine pu (v := .pointer _) rfl rfl ?_ | refine pu rfl rfl ?_
              refine pu rfl rfl ?_
              first | refine ld (v := .string _) (off := 1) (Rd.of_cells (.head _)) rfl rfl rfl rfl ?_ | refine ld (v := .string _) (off := 1) (Rd.of_cells (.tail _ (.head _))) rfl rfl rfl rfl ?_ | refine ld (v := .string _) (off := 1) (Rd.of_cells (.tail _ (.tail _ (.head _)))) rfl rfl rfl rfl ?_ | refine ld (v := .string _) (off := 1) (Rd.of_cells (.tail _ (.tail _ (.tail _ (.head _))))) rfl rfl rfl rfl ?_ | refine ld (v := .string _) (off := 1) (Rd.of_cells (.tail _ (.tail _ (.tail _ (.tail _ (.head _)))))) rfl rfl rfl rfl ?_ | refine ld (v := .string _) (off := 1) (Rd.of_cells (.tail _ (.tail _ (.tail _ (.tail _ (.tail _ (.head _))))))) rfl rfl rfl rfl ?_ | refine ld (v := .string _) (off := 1) (Rd.of_cells (.tail _ (.tail _ (.tail _ (.tail _ (.tail _ (.tail _ (.head _)))))))) rfl rfl rfl rfl ?_
              refine SL_pcallS rfl rfl cb28 (CallsS.pureIn (refPlace hown _) (Sub.cons _ (Sub.refl _))) rfl ?_
              refine pc rfl rfl (fun c45 => ?_) (fun c45 => ?_)
              · skip
                refine SL_nil ?_
                refine nx ?_
                refine SWP_ct rfl ?_
                refine SWP_region ?_
                first | refine pu (v := .int .i64 _) rfl rfl ?_ | refine pu rfl rfl ?_
                first | refine pw rfl rfl (w64 (by omega) (by omega)) ?_ | refine pu rfl rfl ?_
                first | refine pu (v := .int .i64 _) rfl rfl ?_ | refine pu rfl rfl ?_
                refine SL_nil ?_
                refine nx ?_
                refine SWP_seq ?_
                refine SWP_seq ?_
                refine SWP_region ?_
                first | refine pu (v := .int .i64 _) rfl rfl ?_ | refine pu rfl rfl ?_
                refine pc rfl rfl (fun c49 => ?_) (fun c49 => ?_)
                · skip
                  refine SL_nil ?_
                  refine nx ?_
                  refine SWP_ct rfl ?_
                  refine SWP_seq ?_
                  refine SWP_region ?_
                  first | refine pu (v := .int .i64 _) rfl rfl ?_ | refine pu rfl rfl ?_
                  refine SL_nil ?_
                  refine nx ?_
                  refine SWP_ret ?_
                  refine nr ?_
                  refine fin [_] ⟨rfl, trivial⟩ ?_
                  have e : postErrR L t ⟨ps, pd, pa⟩ = 3 := by
                    dsimp only [postErrR]
                    have h1 := plc_mis ps L
                    have h2 := plc_mis pd L
                    rw [b8, b13]; simp only [Bool.and_self, Bool.true_eq_false, if_false]; rw [if_neg c20, if_neg (by omega)]; exact if_pos (by omega)
                  rw [e]
                  exact ⟨rfl, rfl, _, _, _, L, t, rfl, hown, PostR.no (by decide)⟩
                · skip
                  refine SL_nil ?_
                  refine nx ?_
                  refine SWP_cf rfl ?_
                  refine SWP_skip ?_
                  refine nx ?_
                  refine SWP_seq ?_
                  refine SWP_seq ?_
                  refine SWP_draws (by kernel_rfl) (by kernel_rfl) ?_
                  first | refine pu (v := .pointer _) rfl rfl ?_ | refine pu rfl rfl ?_
                  refine pu rfl rfl ?_
                  refine pu rfl rfl ?_
                  first | refine ld (v := .int .i64 _) (off := 1) (Rd.of_cells (.head _)) rfl rfl rfl rfl ?_ | refine ld (v := .int .i64 _) (off := 1) (Rd.of_cells (.tail _ (.head _))) rfl rfl rfl rfl ?_ | refine ld (v := .int .i64 _) (off := 1) (Rd.of_cells (.tail _ (.tail _ (.head _)))) rfl rfl rfl rfl ?_ | refine ld (v := .int .i64 _) (off := 1) (Rd.of_cells (.tail _ (.tail _ (.tail _ (.head _))))) rfl rfl rfl rfl ?_ | refine ld (v := .int .i64 _) (off := 1) (Rd.of_cells (.tail _ (.tail _ (.tail _ (.tail _ (.head _)))))) rfl rfl rfl rfl ?_ | refine ld (v := .int .i64 _) (off := 1) (Rd.of_cells (.tail _ (.tail _ (.tail _ (.tail _ (.tail _ (.head _))))))) rfl rfl rfl rfl ?_ | refine ld (v := .int .i64 _) (off := 1) (Rd.of_cells (.tail _ (.tail _ (.tail _ (.tail _ (.tail _ (.tail _ (.head _)))))))) rfl rfl rfl rfl ?_
                  refine pu rfl rfl ?_
                  first | refine ld (v := .int .i64 _) (off := 2) (Rd.of_cells (.head _)) rfl rfl rfl rfl ?_ | refine ld (v := .int .i64 _) (off := 2) (Rd.of_cells (.tail _ (.head _))) rfl rfl rfl rfl ?_ | refine ld (v := .int .i64 _) (off := 2) (Rd.of_cells (.tail _ (.tail _ (.head _)))) rfl rfl rfl rfl ?_ | refine ld (v := .int .i64 _) (off := 2) (Rd.of_cells (.tail _ (.tail _ (.tail _ (.head _))))) rfl rfl rfl rfl ?_ | refine ld (v := .int .i64 _) (off := 2) (Rd.of_cells (.tail _ (.tail _ (.tail _ (.tail _ (.head _)))))) rfl rfl rfl rfl ?_ | refine ld (v := .int .i64 _) (off := 2) (Rd.of_cells (.tail _ (.tail _ (.tail _ (.tail _ (.tail _ (.head _))))))) rfl rfl rfl rfl ?_ | refine ld (v := .int .i64 _) (off := 2) (Rd.of_cells (.tail _ (.tail _ (.tail _ (.tail _ (.tail _ (.tail _ (.head _)))))))) rfl rfl rfl rfl ?_
                  refine pu rfl rfl ?_
                  refine pc rfl rfl (fun c57 => ?_) (fun c57 => ?_)
                  · skip
                    refine SL_nil ?_
                    refine nx ?_
                    refine SWP_ct rfl ?_
                    refine SWP_seq ?_
                    refine SWP_region ?_
                    first | refine pu (v := .int .i64 _) rfl rfl ?_ | refine pu rfl rfl ?_
                    refine SL_nil ?_
                    refine nx ?_
                    refine SWP_ret ?_
                    refine nr ?_
                    refine fin [_] ⟨rfl, trivial⟩ ?_
                    have e : postErrR L t ⟨ps, pd, pa⟩ = 9 := by
                      dsimp only [postErrR]
                      have h1 := plc_mis ps L
                      have h2 := plc_mis pd L
                      rw [b8, b13]; simp only [Bool.and_self, Bool.true_eq_false, if_false]; rw [if_neg c20, if_neg (by omega), if_neg (by omega)]; exact if_pos c57
                    rw [e]
                    exact ⟨rfl, rfl, _, _, _, L, t, rfl, hown, PostR.no (by decide)⟩
                  · skip
                    refine SL_nil ?_
                    refine nx ?_
                    refine SWP_cf rfl ?_
                    refine SWP_skip ?_
                    refine nx ?_
                    refine SWP_seq ?_
                    refine SWP_region ?_
                    first | refine pu (v := .pointer _) rfl rfl ?_ | refine pu rfl rfl ?_
                    refine pu rfl rfl ?_
                    first | refine ld (v := .string _) (off := 0) (Rd.of_cells (.head _)) rfl rfl rfl rfl ?_ | refine ld (v := .string _) (off := 0) (Rd.of_cells (.tail _ (.head _))) rfl rfl rfl rfl ?_ | refine ld (v := .string _) (off := 0) (Rd.of_cells (.tail _ (.tail _ (.head _)))) rfl rfl rfl rfl ?_ | refine ld (v := .string _) (off := 0) (Rd.of_cells (.tail _ (.tail _ (.tail _ (.head _))))) rfl rfl rfl rfl ?_ | refine ld (v := .string _) (off := 0) (Rd.of_cells (.tail _ (.tail _ (.tail _ (.tail _ (.head _)))))) rfl rfl rfl rfl ?_ | refine ld (v := .string _) (off := 0) (Rd.of_cells (.tail _ (.tail _ (.tail _ (.tail _ (.tail _ (.head _))))))) rfl rfl rfl rfl ?_ | refine ld (v := .string _) (off := 0) (Rd.of_cells (.tail _ (.tail _ (.tail _ (.tail _ (.tail _ (.tail _ (.head _)))))))) rfl rfl rfl rfl ?_
                    refine pu rfl rfl ?_
                    first | refine ld (v := .int .i64 _) (off := 2) (Rd.of_cells (.head _)) rfl rfl rfl rfl ?_ | refine ld (v := .int .i64 _) (off := 2) (Rd.of_cells (.tail _ (.head _))) rfl rfl rfl rfl ?_ | refine ld (v := .int .i64 _) (off := 2) (Rd.of_cells (.tail _ (.tail _ (.head _)))) rfl rfl rfl rfl ?_ | refine ld (v := .int .i64 _) (off := 2) (Rd.of_cells (.tail _ (.tail _ (.tail _ (.head _))))) rfl rfl rfl rfl ?_ | refine ld (v := .int .i64 _) (off := 2) (Rd.of_cells (.tail _ (.tail _ (.tail _ (.tail _ (.head _)))))) rfl rfl rfl rfl ?_ | refine ld (v := .int .i64 _) (off := 2) (Rd.of_cells (.tail _ (.tail _ (.tail _ (.tail _ (.tail _ (.head _))))))) rfl rfl rfl rfl ?_ | refine ld (v := .int .i64 _) (off := 2) (Rd.of_cells (.tail _ (.tail _ (.tail _ (.tail _ (.tail _ (.tail _ (.head _)))))))) rfl rfl rfl rfl ?_
                    refine pu rfl rfl ?_
                    refine SL_call rfl rfl cb29 (CallsS.subF [_] (refAdd hown (by omega) _ _) (List.perm_append_comm (l₁ := [_]))) rfl (fun v16_6 σ16_6 m16_6 hl16_6 hR16_6 => ?_)
                    obtain ⟨σ₁, rfl, sv1, σe1, L1, rfl, hown1, rfl, hA1⟩ := hR16_6
                    have hlen1 := hA1.len
                    refine SL_perm (List.perm_append_comm (l₂ := [_])) ?_
                    refine SL_nil ?_
                    refine nx ?_
                    refine SWP_seq ?_
                    refine SWP_region ?_
                    first | refine pu (v := .pointer _) rfl rfl ?_ | refine pu rfl rfl ?_
                    refine pu rfl rfl ?_
                    first | refine ld (v := .string _) (off := 1) (Rd.of_cells (.head _)) rfl rfl rfl rfl ?_ | refine ld (v := .string _) (off := 1) (Rd.of_cells (.tail _ (.head _))) rfl rfl rfl rfl ?_ | refine ld (v := .string _) (off := 1) (Rd.of_cells (.tail _ (.tail _ (.head _)))) rfl rfl rfl rfl ?_ | refine ld (v := .string _) (off := 1) (Rd.of_cells (.tail _ (.tail _ (.tail _ (.head _))))) rfl rfl rfl rfl ?_ | refine ld (v := .string _) (off := 1) (Rd.of_cells (.tail _ (.tail _ (.tail _ (.tail _ (.head _)))))) rfl rfl rfl rfl ?_ | refine ld (v := .string _) (off := 1) (Rd.of_cells (.tail _ (.tail _ (.tail _ (.tail _ (.tail _ (.head _))))))) rfl rfl rfl rfl ?_ | refine ld (v := .string _) (off := 1) (Rd.of_cells (.tail _ (.tail _ (.tail _ (.tail _ (.tail _ (.tail _ (.head _)))))))) rfl rfl rfl rfl ?_
                    refine pu rfl rfl ?_
                    first | refine ld (v := .int .i64 _) (off := 2) (Rd.of_cells (.head _)) rfl rfl rfl rfl ?_ | refine ld (v := .int .i64 _) (off := 2) (Rd.of_cells (.tail _ (.head _))) rfl rfl rfl rfl ?_ | refine ld (v := .int .i64 _) (off := 2) (Rd.of_cells (.tail _ (.tail _ (.head _)))) rfl rfl rfl rfl ?_ | refine ld (v := .int .i64 _) (off := 2) (Rd.of_cells (.tail _ (.tail _ (.tail _ (.head _))))) rfl rfl rfl rfl ?_ | refine ld (v := .int .i64 _) (off := 2) (Rd.of_cells (.tail _ (.tail _ (.tail _ (.tail _ (.head _)))))) rfl rfl rfl rfl ?_ | refine ld (v := .int .i64 _) (off := 2) (Rd.of_cells (.tail _ (.tail _ (.tail _ (.tail _ (.tail _ (.head _))))))) rfl rfl rfl rfl ?_ | refine ld (v := .int .i64 _) (off := 2) (Rd.of_cells (.tail _ (.tail _ (.tail _ (.tail _ (.tail _ (.tail _ (.head _)))))))) rfl rfl rfl rfl ?_
                    refine SL_call rfl rfl cb29 (CallsS.subF [_] (refAdd hown1 (by split at hlen1 <;> omega) _ _) (List.perm_append_comm (l₁ := [_]))) rfl (fun v17_5 σ17_5 m17_5 hl17_5 hR17_5 => ?_)
                    obtain ⟨σ₁, rfl, sv2, σe2, L2, rfl, hown2, rfl, hA2⟩ := hR17_5
                    refine SL_perm (List.perm_append_comm (l₂ := [_])) ?_
                    refine SL_nil ?_
                    refine nx ?_
                    refine SWP_seq ?_
                    refine SWP_tail 10 (by kernel_rfl) (by kernel_rfl) ?_
                    first | refine pu (v := .pointer _) rfl rfl ?_ | refine pu rfl rfl ?_
                    first | refine pu (v := .pointer _) rfl rfl ?_ | refine pu rfl rfl ?_
                    refine pu rfl rfl ?_
                    refine pu rfl rfl ?_
                    first | refine ld (v := .int .i64 _) (off := 1) (Rd.of_cells (.head _)) rfl rfl rfl rfl ?_ | refine ld (v := .int .i64 _) (off := 1) (Rd.of_cells (.tail _ (.head _))) rfl rfl rfl rfl ?_ | refine ld (v := .int .i64 _) (off := 1) (Rd.of_cells (.tail _ (.tail _ (.head _)))) rfl rfl rfl rfl ?_ | refine ld (v := .int .i64 _) (off := 1) (Rd.of_cells (.tail _ (.tail _ (.tail _ (.head _))))) rfl rfl rfl rfl ?_ | refine ld (v := .int .i64 _) (off := 1) (Rd.of_cells (.tail _ (.tail _ (.tail _ (.tail _ (.head _)))))) rfl rfl rfl rfl ?_ | refine ld (v := .int .i64 _) (off := 1) (Rd.of_cells (.tail _ (.tail _ (.tail _ (.tail _ (.tail _ (.head _))))))) rfl rfl rfl rfl ?_ | refine ld (v := .int .i64 _) (off := 1) (Rd.of_cells (.tail _ (.tail _ (.tail _ (.tail _ (.tail _ (.tail _ (.head _)))))))) rfl rfl rfl rfl ?_
                    refine pu rfl rfl ?_
                    first | refine ld (v := .int .i64 _) (off := 2) (Rd.of_cells (.head _)) rfl rfl rfl rfl ?_ | refine ld (v := .int .i64 _) (off := 2) (Rd.of_cells (.tail _ (.head _))) rfl rfl rfl rfl ?_ | refine ld (v := .int .i64 _) (off := 2) (Rd.of_cells (.tail _ (.tail _ (.head _)))) rfl rfl rfl rfl ?_ | refine ld (v := .int .i64 _) (off := 2) (Rd.of_cells (.tail _ (.tail _ (.tail _ (.head _))))) rfl rfl rfl rfl ?_ | refine ld (v := .int .i64 _) (off := 2) (Rd.of_cells (.tail _ (.tail _ (.tail _ (.tail _ (.head _)))))) rfl rfl rfl rfl ?_ | refine ld (v := .int .i64 _) (off := 2) (Rd.of_cells (.tail _ (.tail _ (.tail _ (.tail _ (.tail _ (.head _))))))) rfl rfl rfl rfl ?_ | refine ld (v := .int .i64 _) (off := 2) (Rd.of_cells (.tail _ (.tail _ (.tail _ (.tail _ (.tail _ (.tail _ (.head _)))))))) rfl rfl rfl rfl ?_
                    refine pu rfl rfl ?_
                    refine pu rfl rfl ?_
                    refine pu rfl rfl ?_
                    refine SL_nil ?_
                    first | refine st (v := .int .i64 _) (off := 1) (σ₁ := []) rfl rfl rfl rfl rfl rfl rfl rfl ?_ | refine st (v := .int .i64 _) (off := 1) (σ₁ := [_]) rfl rfl rfl rfl rfl rfl rfl rfl ?_ | refine st (v := .int .i64 _) (off := 1) (σ₁ := [_, _]) rfl rfl rfl rfl rfl rfl rfl rfl ?_ | refine st (v := .int .i64 _) (off := 1) (σ₁ := [_, _, _]) rfl rfl rfl rfl rfl rfl rfl rfl ?_ | refine st (v := .int .i64 _) (off := 1) (σ₁ := [_, _, _, _]) rfl rfl rfl rfl rfl rfl rfl rfl ?_ | refine st (v := .int .i64 _) (off := 1) (σ₁ := [_, _, _, _, _]) rfl rfl rfl rfl rfl rfl rfl rfl ?_ | refine st (v := .int .i64 _) (off := 1) (σ₁ := [_, _, _, _, _, _]) rfl rfl rfl rfl rfl rfl rfl rfl ?_
                    refine SL_nil ?_
                    refine nx ?_
                    refine SWP_seq ?_
                    refine SWP_region ?_
                    first | refine pu (v := .int .i64 _) rfl rfl ?_ | refine pu rfl rfl ?_
                    refine SL_nil ?_
                    refine nx ?_
                    refine SWP_ret ?_
                    refine fin [_] ⟨rfl, trivial⟩ ?_
                    have e : postErrR L t ⟨ps, pd, pa⟩ = 0 := by
                      dsimp only [postErrR]
                      have h1 := plc_mis ps L
                      have h2 := plc_mis pd L
                      rw [b8, b13]; simp only [Bool.and_self, Bool.true_eq_false, if_false]; rw [if_neg c20, if_neg (by omega), if_neg (by omega)]; exact if_neg c57
                    rw [e]
                    exact ⟨rfl, rfl, _, _, _, L2, _, rfl, hown2, PostR.yes hA1 hA2⟩
              · skip
                refine SL_nil ?_
                refine nx ?_
                refine SWP_cf rfl ?_
                refine SWP_skip ?_
                refine nx ?_
                refine SWP_seq ?_
                refine SWP_seq ?_
                refine SWP_region ?_
                first | refine pu (v := .int .i64 _) rfl rfl ?_ | refine pu rfl rfl ?_
                refine pc rfl rfl (fun c49 => ?_) (fun c49 => ?_)
                · skip
                  refine SL_nil ?_
                  refine nx ?_
                  refine SWP_ct rfl ?_
                  refine SWP_seq ?_
                  refine SWP_region ?_
                  first | refine pu (v := .int .i64 _) rfl rfl ?_ | refine pu rfl rfl ?_
                  refine SL_nil ?_
                  refine nx ?_
                  refine SWP_ret ?_
                  refine nr ?_
                  refine fin [_] ⟨rfl, trivial⟩ ?_
                  have e : postErrR L t ⟨ps, pd, pa⟩ = 3 := by
                    dsimp only [postErrR]
                    have h1 := plc_mis ps L
                    have h2 := plc_mis pd L
                    rw [b8, b13]; simp only [Bool.and_self, Bool.true_eq_false, if_false]; rw [if_neg c20, if_neg (by omega)]; exact if_pos (by omega)
                  rw [e]
                  exact ⟨rfl, rfl, _, _, _, L, t, rfl, hown, PostR.no (by decide)⟩
                · skip
                  refine SL_nil ?_
                  refine nx ?_
                  refine SWP_cf rfl ?_
                  refine SWP_skip ?_
                  refine nx ?_
                  refine SWP_seq ?_
                  refine SWP_seq ?_
                  refine SWP_draws (by kernel_rfl) (by kernel_rfl) ?_
                  first | refine pu (v := .pointer _) rfl rfl ?_ | refine pu rfl rfl ?_
                  refine pu rfl rfl ?_
                  refine pu rfl rfl ?_
                  first | refine ld (v := .int .i64 _) (off := 1) (Rd.of_cells (.head _)) rfl rfl rfl rfl ?_ | refine ld (v := .int .i64 _) (off := 1) (Rd.of_cells (.tail _ (.head _))) rfl rfl rfl rfl ?_ | refine ld (v := .int .i64 _) (off := 1) (Rd.of_cells (.tail _ (.tail _ (.head _)))) rfl rfl rfl rfl ?_ | refine ld (v := .int .i64 _) (off := 1) (Rd.of_cells (.tail _ (.tail _ (.tail _ (.head _))))) rfl rfl rfl rfl ?_ | refine ld (v := .int .i64 _) (off := 1) (Rd.of_cells (.tail _ (.tail _ (.tail _ (.tail _ (.head _)))))) rfl rfl rfl rfl ?_ | refine ld (v := .int .i64 _) (off := 1) (Rd.of_cells (.tail _ (.tail _ (.tail _ (.tail _ (.tail _ (.head _))))))) rfl rfl rfl rfl ?_ | refine ld (v := .int .i64 _) (off := 1) (Rd.of_cells (.tail _ (.tail _ (.tail _ (.tail _ (.tail _ (.tail _ (.head _)))))))) rfl rfl rfl rfl ?_
                  refine pu rfl rfl ?_
                  first | refine ld (v := .int .i64 _) (off := 2) (Rd.of_cells (.head _)) rfl rfl rfl rfl ?_ | refine ld (v := .int .i64 _) (off := 2) (Rd.of_cells (.tail _ (.head _))) rfl rfl rfl rfl ?_ | refine ld (v := .int .i64 _) (off := 2) (Rd.of_cells (.tail _ (.tail _ (.head _)))) rfl rfl rfl rfl ?_ | refine ld (v := .int .i64 _) (off := 2) (Rd.of_cells (.tail _ (.tail _ (.tail _ (.head _))))) rfl rfl rfl rfl ?_ | refine ld (v := .int .i64 _) (off := 2) (Rd.of_cells (.tail _ (.tail _ (.tail _ (.tail _ (.head _)))))) rfl rfl rfl rfl ?_ | refine ld (v := .int .i64 _) (off := 2) (Rd.of_cells (.tail _ (.tail _ (.tail _ (.tail _ (.tail _ (.head _))))))) rfl rfl rfl rfl ?_ | refine ld (v := .int .i64 _) (off := 2) (Rd.of_cells (.tail _ (.tail _ (.tail _ (.tail _ (.tail _ (.tail _ (.head _)))))))) rfl rfl rfl rfl ?_
                  refine pu rfl rfl ?_
                  refine pc rfl rfl (fun c57 => ?_) (fun c57 => ?_)
                  · skip
                    refine SL_nil ?_
                    refine nx ?_
                    refine SWP_ct rfl ?_
                    refine SWP_seq ?_
                    refine SWP_region ?_
                    first | refine pu (v := .int .i64 _) rfl rfl ?_ | refine pu rfl rfl ?_
                    refine SL_nil ?_
                    refine nx ?_
                    refine SWP_ret ?_
                    refine nr ?_
                    refine fin [_] ⟨rfl, trivial⟩ ?_
                    have e : postErrR L t ⟨ps, pd, pa⟩ = 9 := by
                      dsimp only [postErrR]
                      have h1 := plc_mis ps L
                      have h2 := plc_mis pd L
                      rw [b8, b13]; simp only [Bool.and_self, Bool.true_eq_false, if_false]; rw [if_neg c20, if_neg (by omega), if_neg (by omega)]; exact if_pos c57
                    rw [e]
                    exact ⟨rfl, rfl, _, _, _, L, t, rfl, hown, PostR.no (by decide)⟩
                  · skip
                    refine SL_nil ?_
                    refine nx ?_
                    refine SWP_cf rfl ?_
                    refine SWP_skip ?_
                    refine nx ?_
                    refine SWP_seq ?_
                    refine SWP_region ?_
                    first | refine pu (v := .pointer _) rfl rfl ?_ | refine pu rfl rfl ?_
                    refine pu rfl rfl ?_
                    first | refine ld (v := .string _) (off := 0) (Rd.of_cells (.head _)) rfl rfl rfl rfl ?_ | refine ld (v := .string _) (off := 0) (Rd.of_cells (.tail _ (.head _))) rfl rfl rfl rfl ?_ | refine ld (v := .string _) (off := 0) (Rd.of_cells (.tail _ (.tail _ (.head _)))) rfl rfl rfl rfl ?_ | refine ld (v := .string _) (off := 0) (Rd.of_cells (.tail _ (.tail _ (.tail _ (.head _))))) rfl rfl rfl rfl ?_ | refine ld (v := .string _) (off := 0) (Rd.of_cells (.tail _ (.tail _ (.tail _ (.tail _ (.head _)))))) rfl rfl rfl rfl ?_ | refine ld (v := .string _) (off := 0) (Rd.of_cells (.tail _ (.tail _ (.tail _ (.tail _ (.tail _ (.head _))))))) rfl rfl rfl rfl ?_ | refine ld (v := .string _) (off := 0) (Rd.of_cells (.tail _ (.tail _ (.tail _ (.tail _ (.tail _ (.tail _ (.head _)))))))) rfl rfl rfl rfl ?_
                    refine pu rfl rfl ?_
                    first | refine ld (v := .int .i64 _) (off := 2) (Rd.of_cells (.head _)) rfl rfl rfl rfl ?_ | refine ld (v := .int .i64 _) (off := 2) (Rd.of_cells (.tail _ (.head _))) rfl rfl rfl rfl ?_ | refine ld (v := .int .i64 _) (off := 2) (Rd.of_cells (.tail _ (.tail _ (.head _)))) rfl rfl rfl rfl ?_ | refine ld (v := .int .i64 _) (off := 2) (Rd.of_cells (.tail _ (.tail _ (.tail _ (.head _))))) rfl rfl rfl rfl ?_ | refine ld (v := .int .i64 _) (off := 2) (Rd.of_cells (.tail _ (.tail _ (.tail _ (.tail _ (.head _)))))) rfl rfl rfl rfl ?_ | refine ld (v := .int .i64 _) (off := 2) (Rd.of_cells (.tail _ (.tail _ (.tail _ (.tail _ (.tail _ (.head _))))))) rfl rfl rfl rfl ?_ | refine ld (v := .int .i64 _) (off := 2) (Rd.of_cells (.tail _ (.tail _ (.tail _ (.tail _ (.tail _ (.tail _ (.head _)))))))) rfl rfl rfl rfl ?_
                    refine pu rfl rfl ?_
                    refine SL_call rfl rfl cb29 (CallsS.subF [_] (refAdd hown (by omega) _ _) (List.perm_append_comm (l₁ := [_]))) rfl (fun v16_6 σ16_6 m16_6 hl16_6 hR16_6 => ?_)
                    obtain ⟨σ₁, rfl, sv1, σe1, L1, rfl, hown1, rfl, hA1⟩ := hR16_6
                    have hlen1 := hA1.len
                    refine SL_perm (List.perm_append_comm (l₂ := [_])) ?_
                    refine SL_nil ?_
                    refine nx ?_
                    refine SWP_seq ?_
                    refine SWP_region ?_
                    first | refine pu (v := .pointer _) rfl rfl ?_ | refine pu rfl rfl ?_
                    refine pu rfl rfl ?_
                    first | refine ld (v := .string _) (off := 1) (Rd.of_cells (.head _)) rfl rfl rfl rfl ?_ | refine ld (v := .string _) (off := 1) (Rd.of_cells (.tail _ (.head _))) rfl rfl rfl rfl ?_ | refine ld (v := .string _) (off := 1) (Rd.of_cells (.tail _ (.tail _ (.head _)))) rfl rfl rfl rfl ?_ | refine ld (v := .string _) (off := 1) (Rd.of_cells (.tail _ (.tail _ (.tail _ (.head _))))) rfl rfl rfl rfl ?_ | refine ld (v := .string _) (off := 1) (Rd.of_cells (.tail _ (.tail _ (.tail _ (.tail _ (.head _)))))) rfl rfl rfl rfl ?_ | refine ld (v := .string _) (off := 1) (Rd.of_cells (.tail _ (.tail _ (.tail _ (.tail _ (.tail _ (.head _))))))) rfl rfl rfl rfl ?_ | refine ld (v := .string _) (off := 1) (Rd.of_cells (.tail _ (.tail _ (.tail _ (.tail _ (.tail _ (.tail _ (.head _)))))))) rfl rfl rfl rfl ?_
                    refine pu rfl rfl ?_
                    first | refine ld (v := .int .i64 _) (off := 2) (Rd.of_cells (.head _)) rfl rfl rfl rfl ?_ | refine ld (v := .int .i64 _) (off := 2) (Rd.of_cells (.tail _ (.head _))) rfl rfl rfl rfl ?_ | refine ld (v := .int .i64 _) (off := 2) (Rd.of_cells (.tail _ (.tail _ (.head _)))) rfl rfl rfl rfl ?_ | refine ld (v := .int .i64 _) (off := 2) (Rd.of_cells (.tail _ (.tail _ (.tail _ (.head _))))) rfl rfl rfl rfl ?_ | refine ld (v := .int .i64 _) (off := 2) (Rd.of_cells (.tail _ (.tail _ (.tail _ (.tail _ (.head _)))))) rfl rfl rfl rfl ?_ | refine ld (v := .int .i64 _) (off := 2) (Rd.of_cells (.tail _ (.tail _ (.tail _ (.tail _ (.tail _ (.head _))))))) rfl rfl rfl rfl ?_ | refine ld (v := .int .i64 _) (off := 2) (Rd.of_cells (.tail _ (.tail _ (.tail _ (.tail _ (.tail _ (.tail _ (.head _)))))))) rfl rfl rfl rfl ?_
                    refine SL_call rfl rfl cb29 (CallsS.subF [_] (refAdd hown1 (by split at hlen1 <;> omega) _ _) (List.perm_append_comm (l₁ := [_]))) rfl (fun v17_5 σ17_5 m17_5 hl17_5 hR17_5 => ?_)
                    obtain ⟨σ₁, rfl, sv2, σe2, L2, rfl, hown2, rfl, hA2⟩ := hR17_5
                    refine SL_perm (List.perm_append_comm (l₂ := [_])) ?_
                    refine SL_nil ?_
                    refine nx ?_
                    refine SWP_seq ?_
                    refine SWP_tail 10 (by kernel_rfl) (by kernel_rfl) ?_
                    first | refine pu (v := .pointer _) rfl rfl ?_ | refine pu rfl rfl ?_
                    first | refine pu (v := .pointer _) rfl rfl ?_ | refine pu rfl rfl ?_
                    refine pu rfl rfl ?_
                    refine pu rfl rfl ?_
                    first | refine ld (v := .int .i64 _) (off := 1) (Rd.of_cells (.head _)) rfl rfl rfl rfl ?_ | refine ld (v := .int .i64 _) (off := 1) (Rd.of_cells (.tail _ (.head _))) rfl rfl rfl rfl ?_ | refine ld (v := .int .i64 _) (off := 1) (Rd.of_cells (.tail _ (.tail _ (.head _)))) rfl rfl rfl rfl ?_ | refine ld (v := .int .i64 _) (off := 1) (Rd.of_cells (.tail _ (.tail _ (.tail _ (.head _))))) rfl rfl rfl rfl ?_ | refine ld (v := .int .i64 _) (off := 1) (Rd.of_cells (.tail _ (.tail _ (.tail _ (.tail _ (.head _)))))) rfl rfl rfl rfl ?_ | refine ld (v := .int .i64 _) (off := 1) (Rd.of_cells (.tail _ (.tail _ (.tail _ (.tail _ (.tail _ (.head _))))))) rfl rfl rfl rfl ?_ | refine ld (v := .int .i64 _) (off := 1) (Rd.of_cells (.tail _ (.tail _ (.tail _ (.tail _ (.tail _ (.tail _ (.head _)))))))) rfl rfl rfl rfl ?_
                    refine pu rfl rfl ?_
                    first | refine ld (v := .int .i64 _) (off := 2) (Rd.of_cells (.head _)) rfl rfl rfl rfl ?_ | refine ld (v := .int .i64 _) (off := 2) (Rd.of_cells (.tail _ (.head _))) rfl rfl rfl rfl ?_ | refine ld (v := .int .i64 _) (off := 2) (Rd.of_cells (.tail _ (.tail _ (.head _)))) rfl rfl rfl rfl ?_ | refine ld (v := .int .i64 _) (off := 2) (Rd.of_cells (.tail _ (.tail _ (.tail _ (.head _))))) rfl rfl rfl rfl ?_ | refine ld (v := .int .i64 _) (off := 2) (Rd.of_cells (.tail _ (.tail _ (.tail _ (.tail _ (.head _)))))) rfl rfl rfl rfl ?_ | refine ld (v := .int .i64 _) (off := 2) (Rd.of_cells (.tail _ (.tail _ (.tail _ (.tail _ (.tail _ (.head _))))))) rfl rfl rfl rfl ?_ | refine ld (v := .int .i64 _) (off := 2) (Rd.of_cells (.tail _ (.tail _ (.tail _ (.tail _ (.tail _ (.tail _ (.head _)))))))) rfl rfl rfl rfl ?_
                    refine pu rfl rfl ?_
                    refine pu rfl rfl ?_
                    refine pu rfl rfl ?_
                    refine SL_nil ?_
                    first | refine st (v := .int .i64 _) (off := 1) (σ₁ := []) rfl rfl rfl rfl rfl rfl rfl rfl ?_ | refine st (v := .int .i64 _) (off := 1) (σ₁ := [_]) rfl rfl rfl rfl rfl rfl rfl rfl ?_ | refine st (v := .int .i64 _) (off := 1) (σ₁ := [_, _]) rfl rfl rfl rfl rfl rfl rfl rfl ?_ | refine st (v := .int .i64 _) (off := 1) (σ₁ := [_, _, _]) rfl rfl rfl rfl rfl rfl rfl rfl ?_ | refine st (v := .int .i64 _) (off := 1) (σ₁ := [_, _, _, _]) rfl rfl rfl rfl rfl rfl rfl rfl ?_ | refine st (v := .int .i64 _) (off := 1) (σ₁ := [_, _, _, _, _]) rfl rfl rfl rfl rfl rfl rfl rfl ?_ | refine st (v := .int .i64 _) (off := 1) (σ₁ := [_, _, _, _, _, _]) rfl rfl rfl rfl rfl rfl rfl rfl ?_
                    refine SL_nil ?_
                    refine nx ?_
                    refine SWP_seq ?_
                    refine SWP_region ?_
                    first | refine pu (v := .int .i64 _) rfl rfl ?_ | refine pu rfl rfl ?_
                    refine SL_nil ?_
                    refine nx ?_
                    refine SWP_ret ?_
                    refine fin [_] ⟨rfl, trivial⟩ ?_
                    have e : postErrR L t ⟨ps, pd, pa⟩ = 0 := by
                      dsimp only [postErrR]
                      have h1 := plc_mis ps L
                      have h2 := plc_mis pd L
                      rw [b8, b13]; simp only [Bool.and_self, Bool.true_eq_false, if_false]; rw [if_neg c20, if_neg (by omega), if_neg (by omega)]; exact if_neg c57
                    rw [e]
                    exact ⟨rfl, rfl, _, _, _, L2, _, rfl, hown2, PostR.yes hA1 hA2⟩
    · skip
      refine SL_yes rfl ?_
      first | refine pu (v := .bool _) rfl rfl ?_ | refine pu rfl rfl ?_
      first | refine pu (v := .bool _) rfl rfl ?_ | refine pu rfl rfl ?_
      refine SL_nil ?_
      refine nx ?_
      refine SWP_ct rfl ?_
      refine SWP_seq ?_
      refine SWP_region ?_
      first | refine pu (v := .int .i64 _) rfl rfl ?_ | refine pu rfl rfl ?_
      refine SL_nil ?_
      refine nx ?_
      refine SWP_ret ?_
      refine nr ?_
      refine fin [_] ⟨rfl, trivial⟩ ?_
      have e : postErrR L t ⟨ps, pd, pa⟩ = 4 := by
        dsimp only [postErrR]
        rw [b13, Bool.and_false]; rfl
      rw [e]
      exact ⟨rfl, rfl, _, _, _, L, t, rfl, hown, PostR.no (by decide)⟩
  · skip
    first | refine pu (v := .bool _) rfl rfl ?_ | refine pu rfl rfl ?_
    first | refine pu (v := .bool _) rfl rfl ?_ | refine pu rfl rfl ?_
    refine SL_no rfl rfl ?_
    refine SL_no rfl rfl ?_
    refine SL_no rfl rfl ?_
    refine SL_no rfl rfl ?_
    first | refine pu (v := .bool _) rfl rfl ?_ | refine pu rfl rfl ?_
    refine SL_nil ?_
    refine nx ?_
    refine SWP_ct rfl ?_
    refine SWP_seq ?_
    refine SWP_region ?_
    first | refine pu (v := .int .i64 _) rfl rfl ?_ | refine pu rfl rfl ?_
    refine SL_nil ?_
    refine nx ?_
    refine SWP_ret ?_
    refine nr ?_
    refine fin [_] ⟨rfl, trivial⟩ ?_
    have e : postErrR L t ⟨ps, pd, pa⟩ = 4 := by
      dsimp only [postErrR]
      rw [b8]; rfl
    rw [e]
    exact ⟨rfl, rfl, _, _, _, L, t, rfl, hown, PostR.no (by decide)⟩

end Go.Proofs.Ytadnflbohflckaa

