/- ledger: New, missing, Balance, Post: what they compute. -/
import Derived.Test.YtadnflbohflckaaNames
namespace Go.Proofs.Ytadnflbohflckaa
open Eng

/-- Accounts and their balances, in the order in which they came. -/
abbrev Acc := List (ByteArray × Int)
def bal (k : ByteArray) (l : Acc) : Int := (mlook k l).getD 0
abbrev sV (s : ByteArray) : Value := .string s
abbrev iV (i : Int) : Value := .int .i64 i
theorem bal_v (k : ByteArray) (l : Acc) : ((mlook k l).map iV).getD (.int .i64 0) = .int .i64 (bal k l) := by
  unfold bal
  cases mlook k l <;> rfl
def LedC (B M : Nat) (l : Acc) (t : Int) : Sig := [(B, Cells 47 [.map (some M), .int .i64 t]), (M, MapC sV iV l)]
def mis (k : ByteArray) (l : Acc) : Int := if (mlook k l).isSome then 0 else 1
def wadd (a b : Int) : Int := IntKind.wrap .i64 (a + b)
def wsub (a b : Int) : Int := IntKind.wrap .i64 (a - b)
structure Posting where
  src : ByteArray
  dst : ByteArray
  amt : Int
def Posting.enc (p : Posting) : List Value := [.string p.src, .string p.dst, .int .i64 p.amt]
def Posting.Ok (_ : Posting) : Prop := True
theorem Posting.enc_len (p : Posting) : p.enc.length = 3 := rfl
def Posting.val (p : Posting) : Value := .agg #[.string p.src, .string p.dst, .int .i64 p.amt]
def postErr (l : Acc) (t : Int) (p : Posting) : Int :=
  if (nameB p.src && nameB p.dst) = false then 4
  else if p.src = p.dst then 6
  else if (decide (1 ≤ p.amt) && decide (0 ≤ p.amt ∧ p.amt ≤ 1000000000000)) = false then 2
  else if 128 < wadd (wadd (l.length : Int) (mis p.src l)) (mis p.dst l) then 3
  else if wsub 1000000000000000000 p.amt < t then 9
  else 0
def postAcc (l : Acc) (p : Posting) : Acc := let l1 := mput p.src (wsub (bal p.src l) p.amt) l; mput p.dst (wadd (bal p.dst l1) p.amt) l1

theorem moneyValid {m : Mem} (x : Int) : PureCall Try.prog 25 [.int .i64 x] m (.bool (decide (0 ≤ x ∧ x ≤ 1000000000000))) := by
  refine CallsS.pure ?_
  refine enter Try.func25 Try.ntmps25 rfl rfl ?_
  refine SWP_seq ?_
  refine SWP_region ?_
  first | refine pu (v := .bool _) rfl rfl ?_ | refine pu rfl rfl ?_
  refine SL_nil ?_
  refine nx ?_
  refine SWP_seq ?_
  refine SWP_region ?_
  first | refine pu (v := .int .i64 _) rfl rfl ?_ | refine pu rfl rfl ?_
  refine pc rfl rfl (fun c4 => ?_) (fun c4 => ?_)
  · skip
    first | refine pu (v := .bool _) rfl rfl ?_ | refine pu rfl rfl ?_
    refine SL_yes rfl ?_
    first | refine pu (v := .int .i64 _) rfl rfl ?_ | refine pu rfl rfl ?_
    refine SL_yes rfl ?_
    refine pu rfl rfl ?_
    first | refine pu (v := .bool _) rfl rfl ?_ | refine pu rfl rfl ?_
    first | refine pu (v := .bool _) rfl rfl ?_ | refine pu rfl rfl ?_
    refine SL_nil ?_
    refine nx ?_
    refine SWP_ret ?_
    refine fin [_] ⟨rfl, trivial⟩ ?_
    refine congrArg Value.bool ?_
    first | exact decide_eq_decide.2 ⟨fun h => ⟨by omega, h⟩, fun h => h.2⟩ | exact (decide_eq_true (by omega)).symm | exact (decide_eq_false (by omega)).symm
  · skip
    first | refine pu (v := .bool _) rfl rfl ?_ | refine pu rfl rfl ?_
    refine SL_no rfl rfl ?_
    refine SL_no rfl rfl ?_
    first | refine pu (v := .bool _) rfl rfl ?_ | refine pu rfl rfl ?_
    first | refine pu (v := .bool _) rfl rfl ?_ | refine pu rfl rfl ?_
    refine SL_nil ?_
    refine nx ?_
    refine SWP_ret ?_
    refine fin [_] ⟨rfl, trivial⟩ ?_
    refine congrArg Value.bool ?_
    first | exact decide_eq_decide.2 ⟨fun h => ⟨by omega, h⟩, fun h => h.2⟩ | exact (decide_eq_true (by omega)).symm | exact (decide_eq_false (by omega)).symm

theorem ledNew {m : Mem} : CallsS Try.prog 11 [].toArray [] m fun r σ' m' => ∃ B M, r = .pointer (some ⟨B, 0, none⟩) ∧ σ' = LedC B M [] 0 ∧ m' = m := by
  refine enter Try.func11 Try.ntmps11 rfl rfl ?_
  refine SWP_seq ?_
  refine SWP_region ?_
  first | refine pu (v := .pointer _) rfl rfl ?_ | refine pu rfl rfl ?_
  refine SL_nil ?_
  refine nx ?_
  refine SWP_seq ?_
  refine SWP_region ?_
  refine mk (kc := sV) (vc := iV) rfl (fun M => ?_)
  first | refine pu (v := .agg _) rfl rfl ?_ | refine pu rfl rfl ?_
  refine bx (v := .agg _) rfl rfl (fun B3 => ?_)
  first | refine pu (v := .pointer _) rfl rfl ?_ | refine pu rfl rfl ?_
  refine SL_nil ?_
  refine nx ?_
  refine SWP_ret ?_
  refine fin [_] ⟨rfl, trivial⟩ ?_
  exact ⟨_, _, rfl, rfl, rfl⟩

theorem ledMissing {m : Mem} {B M : Nat} {l : Acc} {t : Int} (k : ByteArray) : CallsS Try.prog 26 [.pointer (some ⟨B, 0, none⟩), .string k].toArray (LedC B M l t) m fun r σ' m' => r = .int .i64 (mis k l) ∧ σ' = LedC B M l t ∧ m' = m := by
  refine enter Try.func26 Try.ntmps26 rfl rfl ?_
  refine SWP_seq ?_
  refine SWP_region ?_
  first | refine pu (v := .int .i64 _) rfl rfl ?_ | refine pu rfl rfl ?_
  refine SL_nil ?_
  refine nx ?_
  refine SWP_seq ?_
  refine SWP_seq ?_
  refine SWP_region ?_
  first | refine pu (v := .pointer _) rfl rfl ?_ | refine pu rfl rfl ?_
  refine pu rfl rfl ?_
  refine pu rfl rfl ?_
  first | refine ld (v := .map _) (off := 0) (Rd.of_cells (.head _)) rfl rfl rfl rfl ?_ | refine ld (v := .map _) (off := 0) (Rd.of_cells (.tail _ (.head _))) rfl rfl rfl rfl ?_ | refine ld (v := .map _) (off := 0) (Rd.of_cells (.tail _ (.tail _ (.head _)))) rfl rfl rfl rfl ?_ | refine ld (v := .map _) (off := 0) (Rd.of_cells (.tail _ (.tail _ (.tail _ (.head _))))) rfl rfl rfl rfl ?_ | refine ld (v := .map _) (off := 0) (Rd.of_cells (.tail _ (.tail _ (.tail _ (.tail _ (.head _)))))) rfl rfl rfl rfl ?_ | refine ld (v := .map _) (off := 0) (Rd.of_cells (.tail _ (.tail _ (.tail _ (.tail _ (.tail _ (.head _))))))) rfl rfl rfl rfl ?_ | refine ld (v := .map _) (off := 0) (Rd.of_cells (.tail _ (.tail _ (.tail _ (.tail _ (.tail _ (.tail _ (.head _)))))))) rfl rfl rfl rfl ?_
  first | refine pu (v := .string _) rfl rfl ?_ | refine pu rfl rfl ?_
  refine lko (kc := sV) (vc := iV) (a := k) (l := l) rfl rfl rfl keyStr rfl rfl (.tail _ (.head _)) (bal_v k l) rfl rfl ?_
  refine pu rfl rfl ?_
  first | refine pu (v := .int .i64 _) rfl rfl ?_ | refine pu rfl rfl ?_
  first | refine pu (v := .bool _) rfl rfl ?_ | refine pu rfl rfl ?_
  refine bsp 15 rfl (fun b15 => ?_) (fun b15 => ?_)
  · skip
    first | refine pu (v := .int .i64 _) rfl rfl ?_ | refine pu rfl rfl ?_
    first | refine pu (v := .bool _) rfl rfl ?_ | refine pu rfl rfl ?_
    refine SL_nil ?_
    refine nx ?_
    refine SWP_seq ?_
    refine SWP_region ?_
    first | refine pu (v := .bool _) rfl rfl ?_ | refine pu rfl rfl ?_
    refine SL_nil ?_
    refine nx ?_
    refine SWP_ct rfl ?_
    refine SWP_seq ?_
    refine SWP_region ?_
    first | refine pu (v := .int .i64 _) rfl rfl ?_ | refine pu rfl rfl ?_
    refine SL_nil ?_
    refine nx ?_
    refine SWP_ret ?_
    refine nr ?_
    refine fin [_] ⟨rfl, trivial⟩ ?_
    refine ⟨?_, rfl, rfl⟩
    unfold mis
    rw [if_pos b15]; rfl
  · skip
    first | refine pu (v := .int .i64 _) rfl rfl ?_ | refine pu rfl rfl ?_
    first | refine pu (v := .bool _) rfl rfl ?_ | refine pu rfl rfl ?_
    refine SL_nil ?_
    refine nx ?_
    refine SWP_seq ?_
    refine SWP_region ?_
    first | refine pu (v := .bool _) rfl rfl ?_ | refine pu rfl rfl ?_
    refine SL_nil ?_
    refine nx ?_
    refine SWP_cf rfl ?_
    refine SWP_skip ?_
    refine nx ?_
    refine SWP_seq ?_
    refine SWP_region ?_
    first | refine pu (v := .int .i64 _) rfl rfl ?_ | refine pu rfl rfl ?_
    refine SL_nil ?_
    refine nx ?_
    refine SWP_ret ?_
    refine fin [_] ⟨rfl, trivial⟩ ?_
    refine ⟨?_, rfl, rfl⟩
    unfold mis
    rw [if_neg (by rw [b15]; exact Bool.false_ne_true)]; rfl

theorem ledBalance {m : Mem} {B M : Nat} {l : Acc} {t : Int} (k : ByteArray) : CallsS Try.prog 15 [.pointer (some ⟨B, 0, none⟩), .string k].toArray (LedC B M l t) m fun r σ' m' => r = .int .i64 (bal k l) ∧ σ' = LedC B M l t ∧ m' = m := by
  refine enter Try.func15 Try.ntmps15 rfl rfl ?_
  refine SWP_seq ?_
  refine SWP_region ?_
  first | refine pu (v := .int .i64 _) rfl rfl ?_ | refine pu rfl rfl ?_
  refine SL_nil ?_
  refine nx ?_
  refine SWP_seq ?_
  refine SWP_seq ?_
  refine SWP_region ?_
  first | refine pu (v := .pointer _) rfl rfl ?_ | refine pu rfl rfl ?_
  refine pu (v := .bool false) rfl rfl ?_
  refine SL_nil ?_
  refine nx ?_
  refine SWP_cf rfl ?_
  refine SWP_skip ?_
  refine nx ?_
  refine SWP_seq ?_
  refine SWP_region ?_
  first | refine pu (v := .pointer _) rfl rfl ?_ | refine pu rfl rfl ?_
  refine pu rfl rfl ?_
  refine pu rfl rfl ?_
  first | refine ld (v := .map _) (off := 0) (Rd.of_cells (.head _)) rfl rfl rfl rfl ?_ | refine ld (v := .map _) (off := 0) (Rd.of_cells (.tail _ (.head _))) rfl rfl rfl rfl ?_ | refine ld (v := .map _) (off := 0) (Rd.of_cells (.tail _ (.tail _ (.head _)))) rfl rfl rfl rfl ?_ | refine ld (v := .map _) (off := 0) (Rd.of_cells (.tail _ (.tail _ (.tail _ (.head _))))) rfl rfl rfl rfl ?_ | refine ld (v := .map _) (off := 0) (Rd.of_cells (.tail _ (.tail _ (.tail _ (.tail _ (.head _)))))) rfl rfl rfl rfl ?_ | refine ld (v := .map _) (off := 0) (Rd.of_cells (.tail _ (.tail _ (.tail _ (.tail _ (.tail _ (.head _))))))) rfl rfl rfl rfl ?_ | refine ld (v := .map _) (off := 0) (Rd.of_cells (.tail _ (.tail _ (.tail _ (.tail _ (.tail _ (.tail _ (.head _)))))))) rfl rfl rfl rfl ?_
  first | refine pu (v := .string _) rfl rfl ?_ | refine pu rfl rfl ?_
  refine lk (kc := sV) (vc := iV) (a := k) (l := l) rfl rfl rfl keyStr rfl rfl (.tail _ (.head _)) (bal_v k l) rfl ?_
  first | refine pu (v := .int .i64 _) rfl rfl ?_ | refine pu rfl rfl ?_
  refine SL_nil ?_
  refine nx ?_
  refine SWP_ret ?_
  refine fin [_] ⟨rfl, trivial⟩ ?_
  exact ⟨rfl, rfl, rfl⟩

theorem ledPost {m : Mem} {B M : Nat} {l : Acc} {t : Int} (p : Posting) : CallsS Try.prog 13 [.pointer (some ⟨B, 0, none⟩), p.val].toArray (LedC B M l t) m fun r σ' m' => r = .int .i64 (postErr l t p) ∧ m' = m ∧
      σ' = if postErr l t p = 0 then LedC B M (postAcc l p) (wadd t p.amt) else LedC B M l t := by
  refine CallsS.ghost (R' := fun r σ' m' => ∃ τ, r = .int .i64 (postErr l t p) ∧ m' = m ∧ σ' = τ :: if postErr l t p = 0 then LedC B M (postAcc l p) (wadd t p.amt) else LedC B M l t) ?_ ?h2
  case h2 =>
    rintro r σ' m' ⟨τ, h1, rfl, rfl⟩ g W hC
    exact ⟨_, m', hC.sublist (List.sublist_cons_self _ _), Le.refl _, h1, rfl, rfl⟩
  obtain ⟨ps, pd, pa⟩ := p
  dsimp only [Posting.val]
  refine enter Try.func13 Try.ntmps13 rfl rfl ?_
  refine SWP_seq ?_
  refine SWP_region ?_
  refine bx (v := .agg _) rfl rfl (fun B3 => ?_)
  first | refine pu (v := .int .i64 _) rfl rfl ?_ | refine pu rfl rfl ?_
  refine SL_nil ?_
  refine nx ?_
  refine SWP_seq ?_
  refine SWP_seq ?_
  refine SWP_region ?_
  first | refine pu (v := .pointer _) rfl rfl ?_ | refine pu rfl rfl ?_
  refine pu (v := .bool false) rfl rfl ?_
  refine SL_nil ?_
  refine nx ?_
  refine SWP_cf rfl ?_
  refine SWP_skip ?_
  refine nx ?_
  refine SWP_seq ?_
  refine SWP_seq ?_
  refine SWP_region ?_
  refine pu rfl rfl ?_
  first | refine ld (v := .string _) (off := 0) (Rd.of_cells (.head _)) rfl rfl rfl rfl ?_ | refine ld (v := .string _) (off := 0) (Rd.of_cells (.tail _ (.head _))) rfl rfl rfl rfl ?_ | refine ld (v := .string _) (off := 0) (Rd.of_cells (.tail _ (.tail _ (.head _)))) rfl rfl rfl rfl ?_ | refine ld (v := .string _) (off := 0) (Rd.of_cells (.tail _ (.tail _ (.tail _ (.head _))))) rfl rfl rfl rfl ?_ | refine ld (v := .string _) (off := 0) (Rd.of_cells (.tail _ (.tail _ (.tail _ (.tail _ (.head _)))))) rfl rfl rfl rfl ?_ | refine ld (v := .string _) (off := 0) (Rd.of_cells (.tail _ (.tail _ (.tail _ (.tail _ (.tail _ (.head _))))))) rfl rfl rfl rfl ?_ | refine ld (v := .string _) (off := 0) (Rd.of_cells (.tail _ (.tail _ (.tail _ (.tail _ (.tail _ (.tail _ (.head _)))))))) rfl rfl rfl rfl ?_
  refine SL_pcall rfl rfl cb24 (nameImpl _) rfl ?_
  refine bsp 9 rfl (fun b9 => ?_) (fun b9 => ?_)
  · skip
    first | refine pu (v := .bool _) rfl rfl ?_ | refine pu rfl rfl ?_
    first | refine pu (v := .bool _) rfl rfl ?_ | refine pu rfl rfl ?_
    refine SL_yes rfl ?_
    refine pu rfl rfl ?_
    refine SL_yes rfl ?_
    first | refine ld (v := .string _) (off := 1) (Rd.of_cells (.head _)) rfl rfl rfl rfl ?_ | refine ld (v := .string _) (off := 1) (Rd.of_cells (.tail _ (.head _))) rfl rfl rfl rfl ?_ | refine ld (v := .string _) (off := 1) (Rd.of_cells (.tail _ (.tail _ (.head _)))) rfl rfl rfl rfl ?_ | refine ld (v := .string _) (off := 1) (Rd.of_cells (.tail _ (.tail _ (.tail _ (.head _))))) rfl rfl rfl rfl ?_ | refine ld (v := .string _) (off := 1) (Rd.of_cells (.tail _ (.tail _ (.tail _ (.tail _ (.head _)))))) rfl rfl rfl rfl ?_ | refine ld (v := .string _) (off := 1) (Rd.of_cells (.tail _ (.tail _ (.tail _ (.tail _ (.tail _ (.head _))))))) rfl rfl rfl rfl ?_ | refine ld (v := .string _) (off := 1) (Rd.of_cells (.tail _ (.tail _ (.tail _ (.tail _ (.tail _ (.tail _ (.head _)))))))) rfl rfl rfl rfl ?_
    refine SL_yes rfl ?_
    refine SL_pcall rfl rfl cb24 (nameImpl _) rfl ?_
    refine bsp 14 rfl (fun b14 => ?_) (fun b14 => ?_)
    · skip
      refine SL_yes rfl ?_
      first | refine pu (v := .bool _) rfl rfl ?_ | refine pu rfl rfl ?_
      first | refine pu (v := .bool _) rfl rfl ?_ | refine pu rfl rfl ?_
      refine SL_nil ?_
      refine nx ?_
      refine SWP_cf rfl ?_
      refine SWP_skip ?_
      refine nx ?_
      refine SWP_seq ?_
      refine SWP_seq ?_
      refine SWP_region ?_
      refine pu rfl rfl ?_
      first | refine ld (v := .string _) (off := 0) (Rd.of_cells (.head _)) rfl rfl rfl rfl ?_ | refine ld (v := .string _) (off := 0) (Rd.of_cells (.tail _ (.head _))) rfl rfl rfl rfl ?_ | refine ld (v := .string _) (off := 0) (Rd.of_cells (.tail _ (.tail _ (.head _)))) rfl rfl rfl rfl ?_ | refine ld (v := .string _) (off := 0) (Rd.of_cells (.tail _ (.tail _ (.tail _ (.head _))))) rfl rfl rfl rfl ?_ | refine ld (v := .string _) (off := 0) (Rd.of_cells (.tail _ (.tail _ (.tail _ (.tail _ (.head _)))))) rfl rfl rfl rfl ?_ | refine ld (v := .string _) (off := 0) (Rd.of_cells (.tail _ (.tail _ (.tail _ (.tail _ (.tail _ (.head _))))))) rfl rfl rfl rfl ?_ | refine ld (v := .string _) (off := 0) (Rd.of_cells (.tail _ (.tail _ (.tail _ (.tail _ (.tail _ (.tail _ (.head _)))))))) rfl rfl rfl rfl ?_
      refine pu rfl rfl ?_
      first | refine ld (v := .string _) (off := 1) (Rd.of_cells (.head _)) rfl rfl rfl rfl ?_ | refine ld (v := .string _) (off := 1) (Rd.of_cells (.tail _ (.head _))) rfl rfl rfl rfl ?_ | refine ld (v := .string _) (off := 1) (Rd.of_cells (.tail _ (.tail _ (.head _)))) rfl rfl rfl rfl ?_ | refine ld (v := .string _) (off := 1) (Rd.of_cells (.tail _ (.tail _ (.tail _ (.head _))))) rfl rfl rfl rfl ?_ | refine ld (v := .string _) (off := 1) (Rd.of_cells (.tail _ (.tail _ (.tail _ (.tail _ (.head _)))))) rfl rfl rfl rfl ?_ | refine ld (v := .string _) (off := 1) (Rd.of_cells (.tail _ (.tail _ (.tail _ (.tail _ (.tail _ (.head _))))))) rfl rfl rfl rfl ?_ | refine ld (v := .string _) (off := 1) (Rd.of_cells (.tail _ (.tail _ (.tail _ (.tail _ (.tail _ (.tail _ (.head _)))))))) rfl rfl rfl rfl ?_
      refine pc rfl rfl (fun c21 => ?_) (fun c21 => ?_)
      · skip
        refine SL_nil ?_
        refine nx ?_
        refine SWP_ct rfl ?_
        refine SWP_seq ?_
        refine SWP_region ?_
        first | refine pu (v := .int .i64 _) rfl rfl ?_ | refine pu rfl rfl ?_
        refine SL_nil ?_
        refine nx ?_
        refine SWP_ret ?_
        refine nr ?_
        refine fin [_] ⟨rfl, trivial⟩ ?_
        have e : postErr l t ⟨ps, pd, pa⟩ = 6 := by
          dsimp only [postErr, wadd, wsub]
          rw [b9, b14]; simp only [Bool.and_self, Bool.true_eq_false, if_false]; rw [if_pos c21]
        rw [e]
        exact ⟨_, rfl, rfl, rfl⟩
      · skip
        refine SL_nil ?_
        refine nx ?_
        refine SWP_cf rfl ?_
        refine SWP_skip ?_
        refine nx ?_
        refine SWP_seq ?_
        refine SWP_seq ?_
        refine SWP_region ?_
        refine pu rfl rfl ?_
        first | refine ld (v := .int .i64 _) (off := 2) (Rd.of_cells (.head _)) rfl rfl rfl rfl ?_ | refine ld (v := .int .i64 _) (off := 2) (Rd.of_cells (.tail _ (.head _))) rfl rfl rfl rfl ?_ | refine ld (v := .int .i64 _) (off := 2) (Rd.of_cells (.tail _ (.tail _ (.head _)))) rfl rfl rfl rfl ?_ | refine ld (v := .int .i64 _) (off := 2) (Rd.of_cells (.tail _ (.tail _ (.tail _ (.head _))))) rfl rfl rfl rfl ?_ | refine ld (v := .int .i64 _) (off := 2) (Rd.of_cells (.tail _ (.tail _ (.tail _ (.tail _ (.head _)))))) rfl rfl rfl rfl ?_ | refine ld (v := .int .i64 _) (off := 2) (Rd.of_cells (.tail _ (.tail _ (.tail _ (.tail _ (.tail _ (.head _))))))) rfl rfl rfl rfl ?_ | refine ld (v := .int .i64 _) (off := 2) (Rd.of_cells (.tail _ (.tail _ (.tail _ (.tail _ (.tail _ (.tail _ (.head _)))))))) rfl rfl rfl rfl ?_
        refine pc rfl rfl (fun c24 => ?_) (fun c24 => ?_)
        · skip
          first | refine pu (v := .bool _) rfl rfl ?_ | refine pu rfl rfl ?_
          refine SL_no rfl rfl ?_
          refine SL_no rfl rfl ?_
          refine SL_no rfl rfl ?_
          refine SL_no rfl rfl ?_
          first | refine pu (v := .bool _) rfl rfl ?_ | refine pu rfl rfl ?_
          refine SL_nil ?_
          refine nx ?_
          refine SWP_ct rfl ?_
          refine SWP_seq ?_
          refine SWP_region ?_
          first | refine pu (v := .int .i64 _) rfl rfl ?_ | refine pu rfl rfl ?_
          refine SL_nil ?_
          refine nx ?_
          refine SWP_ret ?_
          refine nr ?_
          refine fin [_] ⟨rfl, trivial⟩ ?_
          have e : postErr l t ⟨ps, pd, pa⟩ = 2 := by
            dsimp only [postErr, wadd, wsub]
            rw [b9, b14]; simp only [Bool.and_self, Bool.true_eq_false, if_false]; rw [if_neg c21, if_pos (by rw [decide_eq_false (by omega)]; rfl)]
          rw [e]
          exact ⟨_, rfl, rfl, rfl⟩
        · skip
          first | refine pu (v := .bool _) rfl rfl ?_ | refine pu rfl rfl ?_
          refine SL_yes rfl ?_
          refine pu rfl rfl ?_
          refine SL_yes rfl ?_
          first | refine ld (v := .int .i64 _) (off := 2) (Rd.of_cells (.head _)) rfl rfl rfl rfl ?_ | refine ld (v := .int .i64 _) (off := 2) (Rd.of_cells (.tail _ (.head _))) rfl rfl rfl rfl ?_ | refine ld (v := .int .i64 _) (off := 2) (Rd.of_cells (.tail _ (.tail _ (.head _)))) rfl rfl rfl rfl ?_ | refine ld (v := .int .i64 _) (off := 2) (Rd.of_cells (.tail _ (.tail _ (.tail _ (.head _))))) rfl rfl rfl rfl ?_ | refine ld (v := .int .i64 _) (off := 2) (Rd.of_cells (.tail _ (.tail _ (.tail _ (.tail _ (.head _)))))) rfl rfl rfl rfl ?_ | refine ld (v := .int .i64 _) (off := 2) (Rd.of_cells (.tail _ (.tail _ (.tail _ (.tail _ (.tail _ (.head _))))))) rfl rfl rfl rfl ?_ | refine ld (v := .int .i64 _) (off := 2) (Rd.of_cells (.tail _ (.tail _ (.tail _ (.tail _ (.tail _ (.tail _ (.head _)))))))) rfl rfl rfl rfl ?_
          refine SL_yes rfl ?_
          refine SL_pcall rfl rfl cb25 (moneyValid _) rfl ?_
          refine bsp 28 rfl (fun b28 => ?_) (fun b28 => ?_)
          · skip
            refine SL_yes rfl ?_
            first | refine pu (v := .bool _) rfl rfl ?_ | refine pu rfl rfl ?_
            first | refine pu (v := .bool _) rfl rfl ?_ | refine pu rfl rfl ?_
            refine SL_nil ?_
            refine nx ?_
            refine SWP_cf rfl ?_
            refine SWP_skip ?_
            refine nx ?_
            refine SWP_seq ?_
            refine SWP_seq ?_
            refine SWP_draws (by kernel_rfl) (by kernel_rfl) ?_
            first | refine pu (v := .pointer _) rfl rfl ?_ | refine pu rfl rfl ?_
            refine pu rfl rfl ?_
            refine pu rfl rfl ?_
            first | refine ld (v := .map _) (off := 0) (Rd.of_cells (.head _)) rfl rfl rfl rfl ?_ | refine ld (v := .map _) (off := 0) (Rd.of_cells (.tail _ (.head _))) rfl rfl rfl rfl ?_ | refine ld (v := .map _) (off := 0) (Rd.of_cells (.tail _ (.tail _ (.head _)))) rfl rfl rfl rfl ?_ | refine ld (v := .map _) (off := 0) (Rd.of_cells (.tail _ (.tail _ (.tail _ (.head _))))) rfl rfl rfl rfl ?_ | refine ld (v := .map _) (off := 0) (Rd.of_cells (.tail _ (.tail _ (.tail _ (.tail _ (.head _)))))) rfl rfl rfl rfl ?_ | refine ld (v := .map _) (off := 0) (Rd.of_cells (.tail _ (.tail _ (.tail _ (.tail _ (.tail _ (.head _))))))) rfl rfl rfl rfl ?_ | refine ld (v := .map _) (off := 0) (Rd.of_cells (.tail _ (.tail _ (.tail _ (.tail _ (.tail _ (.tail _ (.head _)))))))) rfl rfl rfl rfl ?_
            refine lnm (kc := sV) (vc := iV) (l := l) rfl rfl (.tail _ (.tail _ (.head _))) rfl ?_
            first | refine pu (v := .pointer _) rfl rfl ?_ | refine pu rfl rfl ?_
            refine pu rfl rfl ?_
            first | refine ld (v := .string _) (off := 0) (Rd.of_cells (.head _)) rfl rfl rfl rfl ?_ | refine ld (v := .string _) (off := 0) (Rd.of_cells (.tail _ (.head _))) rfl rfl rfl rfl ?_ | refine ld (v := .string _) (off := 0) (Rd.of_cells (.tail _ (.tail _ (.head _)))) rfl rfl rfl rfl ?_ | refine ld (v := .string _) (off := 0) (Rd.of_cells (.tail _ (.tail _ (.tail _ (.head _))))) rfl rfl rfl rfl ?_ | refine ld (v := .string _) (off := 0) (Rd.of_cells (.tail _ (.tail _ (.tail _ (.tail _ (.head _)))))) rfl rfl rfl rfl ?_ | refine ld (v := .string _) (off := 0) (Rd.of_cells (.tail _ (.tail _ (.tail _ (.tail _ (.tail _ (.head _))))))) rfl rfl rfl rfl ?_ | refine ld (v := .string _) (off := 0) (Rd.of_cells (.tail _ (.tail _ (.tail _ (.tail _ (.tail _ (.tail _ (.head _)))))))) rfl rfl rfl rfl ?_
            refine SL_pcallS rfl rfl cb26 (CallsS.pureIn (ledMissing _) (Sub.cons _ (Sub.refl _))) rfl ?_
            refine pu rfl rfl ?_
            first | refine pu (v := .pointer _) rfl rfl ?_ | refine pu rfl rfl ?_
            refine pu rfl rfl ?_
            first | refine ld (v := .string _) (off := 1) (Rd.of_cells (.head _)) rfl rfl rfl rfl ?_ | refine ld (v := .string _) (off := 1) (Rd.of_cells (.tail _ (.head _))) rfl rfl rfl rfl ?_ | refine ld (v := .string _) (off := 1) (Rd.of_cells (.tail _ (.tail _ (.head _)))) rfl rfl rfl rfl ?_ | refine ld (v := .string _) (off := 1) (Rd.of_cells (.tail _ (.tail _ (.tail _ (.head _))))) rfl rfl rfl rfl ?_ | refine ld (v := .string _) (off := 1) (Rd.of_cells (.tail _ (.tail _ (.tail _ (.tail _ (.head _)))))) rfl rfl rfl rfl ?_ | refine ld (v := .string _) (off := 1) (Rd.of_cells (.tail _ (.tail _ (.tail _ (.tail _ (.tail _ (.head _))))))) rfl rfl rfl rfl ?_ | refine ld (v := .string _) (off := 1) (Rd.of_cells (.tail _ (.tail _ (.tail _ (.tail _ (.tail _ (.tail _ (.head _)))))))) rfl rfl rfl rfl ?_
            refine SL_pcallS rfl rfl cb26 (CallsS.pureIn (ledMissing _) (Sub.cons _ (Sub.refl _))) rfl ?_
            refine pu rfl rfl ?_
            refine pc rfl rfl (fun c46 => ?_) (fun c46 => ?_)
            · skip
              refine SL_nil ?_
              refine nx ?_
              refine SWP_ct rfl ?_
              refine SWP_seq ?_
              refine SWP_region ?_
              first | refine pu (v := .int .i64 _) rfl rfl ?_ | refine pu rfl rfl ?_
              refine SL_nil ?_
              refine nx ?_
              refine SWP_ret ?_
              refine nr ?_
              refine fin [_] ⟨rfl, trivial⟩ ?_
              have e : postErr l t ⟨ps, pd, pa⟩ = 3 := by
                dsimp only [postErr, wadd, wsub]
                rw [b9, b14]; simp only [Bool.and_self, Bool.true_eq_false, if_false]; rw [if_neg c21, if_neg (by rw [b28, decide_eq_true (by omega)]; exact Bool.noConfusion)]; exact if_pos c46
              rw [e]
              exact ⟨_, rfl, rfl, rfl⟩
            · skip
              refine SL_nil ?_
              refine nx ?_
              refine SWP_cf rfl ?_
              refine SWP_skip ?_
              refine nx ?_
              refine SWP_seq ?_
              refine SWP_seq ?_
              refine SWP_draws (by kernel_rfl) (by kernel_rfl) ?_
              first | refine pu (v := .pointer _) rfl rfl ?_ | refine pu rfl rfl ?_
              refine pu rfl rfl ?_
              refine pu rfl rfl ?_
              first | refine ld (v := .int .i64 _) (off := 1) (Rd.of_cells (.head _)) rfl rfl rfl rfl ?_ | refine ld (v := .int .i64 _) (off := 1) (Rd.of_cells (.tail _ (.head _))) rfl rfl rfl rfl ?_ | refine ld (v := .int .i64 _) (off := 1) (Rd.of_cells (.tail _ (.tail _ (.head _)))) rfl rfl rfl rfl ?_ | refine ld (v := .int .i64 _) (off := 1) (Rd.of_cells (.tail _ (.tail _ (.tail _ (.head _))))) rfl rfl rfl rfl ?_ | refine ld (v := .int .i64 _) (off := 1) (Rd.of_cells (.tail _ (.tail _ (.tail _ (.tail _ (.head _)))))) rfl rfl rfl rfl ?_ | refine ld (v := .int .i64 _) (off := 1) (Rd.of_cells (.tail _ (.tail _ (.tail _ (.tail _ (.tail _ (.head _))))))) rfl rfl rfl rfl ?_ | refine ld (v := .int .i64 _) (off := 1) (Rd.of_cells (.tail _ (.tail _ (.tail _ (.tail _ (.tail _ (.tail _ (.head _)))))))) rfl rfl rfl rfl ?_
              refine pu rfl rfl ?_
              first | refine ld (v := .int .i64 _) (off := 2) (Rd.of_cells (.head _)) rfl rfl rfl rfl ?_ | refine ld (v := .int .i64 _) (off := 2) (Rd.of_cells (.tail _ (.head _))) rfl rfl rfl rfl ?_ | refine ld (v := .int .i64 _) (off := 2) (Rd.of_cells (.tail _ (.tail _ (.head _)))) rfl rfl rfl rfl ?_ | refine ld (v := .int .i64 _) (off := 2) (Rd.of_cells (.tail _ (.tail _ (.tail _ (.head _))))) rfl rfl rfl rfl ?_ | refine ld (v := .int .i64 _) (off := 2) (Rd.of_cells (.tail _ (.tail _ (.tail _ (.tail _ (.head _)))))) rfl rfl rfl rfl ?_ | refine ld (v := .int .i64 _) (off := 2) (Rd.of_cells (.tail _ (.tail _ (.tail _ (.tail _ (.tail _ (.head _))))))) rfl rfl rfl rfl ?_ | refine ld (v := .int .i64 _) (off := 2) (Rd.of_cells (.tail _ (.tail _ (.tail _ (.tail _ (.tail _ (.tail _ (.head _)))))))) rfl rfl rfl rfl ?_
              first | refine pw rfl rfl (w64 (by omega) (by omega)) ?_ | refine pu rfl rfl ?_
              refine pc rfl rfl (fun c54 => ?_) (fun c54 => ?_)
              · skip
                refine SL_nil ?_
                refine nx ?_
                refine SWP_ct rfl ?_
                refine SWP_seq ?_
                refine SWP_region ?_
                first | refine pu (v := .int .i64 _) rfl rfl ?_ | refine pu rfl rfl ?_
                refine SL_nil ?_
                refine nx ?_
                refine SWP_ret ?_
                refine nr ?_
                refine fin [_] ⟨rfl, trivial⟩ ?_
                have e : postErr l t ⟨ps, pd, pa⟩ = 9 := by
                  dsimp only [postErr, wadd, wsub]
                  rw [b9, b14]; simp only [Bool.and_self, Bool.true_eq_false, if_false]; rw [if_neg c21, if_neg (by rw [b28, decide_eq_true (by omega)]; exact Bool.noConfusion)]; exact (if_neg c46).trans (if_pos c54)
                rw [e]
                exact ⟨_, rfl, rfl, rfl⟩
              · skip
                refine SL_nil ?_
                refine nx ?_
                refine SWP_cf rfl ?_
                refine SWP_skip ?_
                refine nx ?_
                refine SWP_seq ?_
                refine SWP_seq ?_
                refine SWP_region ?_
                first | refine pu (v := .pointer _) rfl rfl ?_ | refine pu rfl rfl ?_
                refine pu rfl rfl ?_
                refine pu rfl rfl ?_
                first | refine ld (v := .map _) (off := 0) (Rd.of_cells (.head _)) rfl rfl rfl rfl ?_ | refine ld (v := .map _) (off := 0) (Rd.of_cells (.tail _ (.head _))) rfl rfl rfl rfl ?_ | refine ld (v := .map _) (off := 0) (Rd.of_cells (.tail _ (.tail _ (.head _)))) rfl rfl rfl rfl ?_ | refine ld (v := .map _) (off := 0) (Rd.of_cells (.tail _ (.tail _ (.tail _ (.head _))))) rfl rfl rfl rfl ?_ | refine ld (v := .map _) (off := 0) (Rd.of_cells (.tail _ (.tail _ (.tail _ (.tail _ (.head _)))))) rfl rfl rfl rfl ?_ | refine ld (v := .map _) (off := 0) (Rd.of_cells (.tail _ (.tail _ (.tail _ (.tail _ (.tail _ (.head _))))))) rfl rfl rfl rfl ?_ | refine ld (v := .map _) (off := 0) (Rd.of_cells (.tail _ (.tail _ (.tail _ (.tail _ (.tail _ (.tail _ (.head _)))))))) rfl rfl rfl rfl ?_
                refine pu (v := .bool false) rfl rfl ?_
                refine SL_nil ?_
                refine nx ?_
                refine SWP_cf rfl ?_
                refine SWP_skip ?_
                refine nx ?_
                refine SWP_seq ?_
                refine SWP_tail 10 (by kernel_rfl) (by kernel_rfl) ?_
                first | refine pu (v := .pointer _) rfl rfl ?_ | refine pu rfl rfl ?_
                refine pu rfl rfl ?_
                refine pu rfl rfl ?_
                first | refine ld (v := .map _) (off := 0) (Rd.of_cells (.head _)) rfl rfl rfl rfl ?_ | refine ld (v := .map _) (off := 0) (Rd.of_cells (.tail _ (.head _))) rfl rfl rfl rfl ?_ | refine ld (v := .map _) (off := 0) (Rd.of_cells (.tail _ (.tail _ (.head _)))) rfl rfl rfl rfl ?_ | refine ld (v := .map _) (off := 0) (Rd.of_cells (.tail _ (.tail _ (.tail _ (.head _))))) rfl rfl rfl rfl ?_ | refine ld (v := .map _) (off := 0) (Rd.of_cells (.tail _ (.tail _ (.tail _ (.tail _ (.head _)))))) rfl rfl rfl rfl ?_ | refine ld (v := .map _) (off := 0) (Rd.of_cells (.tail _ (.tail _ (.tail _ (.tail _ (.tail _ (.head _))))))) rfl rfl rfl rfl ?_ | refine ld (v := .map _) (off := 0) (Rd.of_cells (.tail _ (.tail _ (.tail _ (.tail _ (.tail _ (.tail _ (.head _)))))))) rfl rfl rfl rfl ?_
                refine pu rfl rfl ?_
                first | refine ld (v := .string _) (off := 0) (Rd.of_cells (.head _)) rfl rfl rfl rfl ?_ | refine ld (v := .string _) (off := 0) (Rd.of_cells (.tail _ (.head _))) rfl rfl rfl rfl ?_ | refine ld (v := .string _) (off := 0) (Rd.of_cells (.tail _ (.tail _ (.head _)))) rfl rfl rfl rfl ?_ | refine ld (v := .string _) (off := 0) (Rd.of_cells (.tail _ (.tail _ (.tail _ (.head _))))) rfl rfl rfl rfl ?_ | refine ld (v := .string _) (off := 0) (Rd.of_cells (.tail _ (.tail _ (.tail _ (.tail _ (.head _)))))) rfl rfl rfl rfl ?_ | refine ld (v := .string _) (off := 0) (Rd.of_cells (.tail _ (.tail _ (.tail _ (.tail _ (.tail _ (.head _))))))) rfl rfl rfl rfl ?_ | refine ld (v := .string _) (off := 0) (Rd.of_cells (.tail _ (.tail _ (.tail _ (.tail _ (.tail _ (.tail _ (.head _)))))))) rfl rfl rfl rfl ?_
                refine lk (kc := sV) (vc := iV) (a := ps) (l := l) rfl rfl rfl keyStr rfl rfl (.tail _ (.tail _ (.head _))) (bal_v _ l) rfl ?_
                refine pu rfl rfl ?_
                first | refine ld (v := .int .i64 _) (off := 2) (Rd.of_cells (.head _)) rfl rfl rfl rfl ?_ | refine ld (v := .int .i64 _) (off := 2) (Rd.of_cells (.tail _ (.head _))) rfl rfl rfl rfl ?_ | refine ld (v := .int .i64 _) (off := 2) (Rd.of_cells (.tail _ (.tail _ (.head _)))) rfl rfl rfl rfl ?_ | refine ld (v := .int .i64 _) (off := 2) (Rd.of_cells (.tail _ (.tail _ (.tail _ (.head _))))) rfl rfl rfl rfl ?_ | refine ld (v := .int .i64 _) (off := 2) (Rd.of_cells (.tail _ (.tail _ (.tail _ (.tail _ (.head _)))))) rfl rfl rfl rfl ?_ | refine ld (v := .int .i64 _) (off := 2) (Rd.of_cells (.tail _ (.tail _ (.tail _ (.tail _ (.tail _ (.head _))))))) rfl rfl rfl rfl ?_ | refine ld (v := .int .i64 _) (off := 2) (Rd.of_cells (.tail _ (.tail _ (.tail _ (.tail _ (.tail _ (.tail _ (.head _)))))))) rfl rfl rfl rfl ?_
                first | refine pw rfl rfl (w64 (by omega) (by omega)) ?_ | refine pu rfl rfl ?_
                refine SL_nil ?_
                refine mu (kc := sV) (vc := iV) (a := ps) (b := wsub (bal ps l) pa) (l := l) (σ₁ := [_, _]) rfl rfl keyStr rfl rfl rfl rfl ?_
                refine SL_nil ?_
                refine nx ?_
                refine SWP_seq ?_
                refine SWP_tail 10 (by kernel_rfl) (by kernel_rfl) ?_
                first | refine pu (v := .pointer _) rfl rfl ?_ | refine pu rfl rfl ?_
                refine pu rfl rfl ?_
                refine pu rfl rfl ?_
                first | refine ld (v := .map _) (off := 0) (Rd.of_cells (.head _)) rfl rfl rfl rfl ?_ | refine ld (v := .map _) (off := 0) (Rd.of_cells (.tail _ (.head _))) rfl rfl rfl rfl ?_ | refine ld (v := .map _) (off := 0) (Rd.of_cells (.tail _ (.tail _ (.head _)))) rfl rfl rfl rfl ?_ | refine ld (v := .map _) (off := 0) (Rd.of_cells (.tail _ (.tail _ (.tail _ (.head _))))) rfl rfl rfl rfl ?_ | refine ld (v := .map _) (off := 0) (Rd.of_cells (.tail _ (.tail _ (.tail _ (.tail _ (.head _)))))) rfl rfl rfl rfl ?_ | refine ld (v := .map _) (off := 0) (Rd.of_cells (.tail _ (.tail _ (.tail _ (.tail _ (.tail _ (.head _))))))) rfl rfl rfl rfl ?_ | refine ld (v := .map _) (off := 0) (Rd.of_cells (.tail _ (.tail _ (.tail _ (.tail _ (.tail _ (.tail _ (.head _)))))))) rfl rfl rfl rfl ?_
                refine pu rfl rfl ?_
                first | refine ld (v := .string _) (off := 1) (Rd.of_cells (.head _)) rfl rfl rfl rfl ?_ | refine ld (v := .string _) (off := 1) (Rd.of_cells (.tail _ (.head _))) rfl rfl rfl rfl ?_ | refine ld (v := .string _) (off := 1) (Rd.of_cells (.tail _ (.tail _ (.head _)))) rfl rfl rfl rfl ?_ | refine ld (v := .string _) (off := 1) (Rd.of_cells (.tail _ (.tail _ (.tail _ (.head _))))) rfl rfl rfl rfl ?_ | refine ld (v := .string _) (off := 1) (Rd.of_cells (.tail _ (.tail _ (.tail _ (.tail _ (.head _)))))) rfl rfl rfl rfl ?_ | refine ld (v := .string _) (off := 1) (Rd.of_cells (.tail _ (.tail _ (.tail _ (.tail _ (.tail _ (.head _))))))) rfl rfl rfl rfl ?_ | refine ld (v := .string _) (off := 1) (Rd.of_cells (.tail _ (.tail _ (.tail _ (.tail _ (.tail _ (.tail _ (.head _)))))))) rfl rfl rfl rfl ?_
                refine lk (kc := sV) (vc := iV) (a := pd) rfl rfl rfl keyStr rfl rfl (.tail _ (.tail _ (.head _))) (bal_v _ _) rfl ?_
                refine pu rfl rfl ?_
                first | refine ld (v := .int .i64 _) (off := 2) (Rd.of_cells (.head _)) rfl rfl rfl rfl ?_ | refine ld (v := .int .i64 _) (off := 2) (Rd.of_cells (.tail _ (.head _))) rfl rfl rfl rfl ?_ | refine ld (v := .int .i64 _) (off := 2) (Rd.of_cells (.tail _ (.tail _ (.head _)))) rfl rfl rfl rfl ?_ | refine ld (v := .int .i64 _) (off := 2) (Rd.of_cells (.tail _ (.tail _ (.tail _ (.head _))))) rfl rfl rfl rfl ?_ | refine ld (v := .int .i64 _) (off := 2) (Rd.of_cells (.tail _ (.tail _ (.tail _ (.tail _ (.head _)))))) rfl rfl rfl rfl ?_ | refine ld (v := .int .i64 _) (off := 2) (Rd.of_cells (.tail _ (.tail _ (.tail _ (.tail _ (.tail _ (.head _))))))) rfl rfl rfl rfl ?_ | refine ld (v := .int .i64 _) (off := 2) (Rd.of_cells (.tail _ (.tail _ (.tail _ (.tail _ (.tail _ (.tail _ (.head _)))))))) rfl rfl rfl rfl ?_
                first | refine pw rfl rfl (w64 (by omega) (by omega)) ?_ | refine pu rfl rfl ?_
                refine SL_nil ?_
                refine mu (kc := sV) (vc := iV) (a := pd) (b := wadd (bal pd (mput ps (wsub (bal ps l) pa) l)) pa) (σ₁ := [_, _]) rfl rfl keyStr rfl rfl rfl rfl ?_
                refine SL_nil ?_
                refine nx ?_
                refine SWP_seq ?_
                refine SWP_tail 9 (by kernel_rfl) (by kernel_rfl) ?_
                first | refine pu (v := .pointer _) rfl rfl ?_ | refine pu rfl rfl ?_
                refine pu rfl rfl ?_
                refine pu rfl rfl ?_
                first | refine ld (v := .int .i64 _) (off := 1) (Rd.of_cells (.head _)) rfl rfl rfl rfl ?_ | refine ld (v := .int .i64 _) (off := 1) (Rd.of_cells (.tail _ (.head _))) rfl rfl rfl rfl ?_ | refine ld (v := .int .i64 _) (off := 1) (Rd.of_cells (.tail _ (.tail _ (.head _)))) rfl rfl rfl rfl ?_ | refine ld (v := .int .i64 _) (off := 1) (Rd.of_cells (.tail _ (.tail _ (.tail _ (.head _))))) rfl rfl rfl rfl ?_ | refine ld (v := .int .i64 _) (off := 1) (Rd.of_cells (.tail _ (.tail _ (.tail _ (.tail _ (.head _)))))) rfl rfl rfl rfl ?_ | refine ld (v := .int .i64 _) (off := 1) (Rd.of_cells (.tail _ (.tail _ (.tail _ (.tail _ (.tail _ (.head _))))))) rfl rfl rfl rfl ?_ | refine ld (v := .int .i64 _) (off := 1) (Rd.of_cells (.tail _ (.tail _ (.tail _ (.tail _ (.tail _ (.tail _ (.head _)))))))) rfl rfl rfl rfl ?_
                refine pu rfl rfl ?_
                first | refine ld (v := .int .i64 _) (off := 2) (Rd.of_cells (.head _)) rfl rfl rfl rfl ?_ | refine ld (v := .int .i64 _) (off := 2) (Rd.of_cells (.tail _ (.head _))) rfl rfl rfl rfl ?_ | refine ld (v := .int .i64 _) (off := 2) (Rd.of_cells (.tail _ (.tail _ (.head _)))) rfl rfl rfl rfl ?_ | refine ld (v := .int .i64 _) (off := 2) (Rd.of_cells (.tail _ (.tail _ (.tail _ (.head _))))) rfl rfl rfl rfl ?_ | refine ld (v := .int .i64 _) (off := 2) (Rd.of_cells (.tail _ (.tail _ (.tail _ (.tail _ (.head _)))))) rfl rfl rfl rfl ?_ | refine ld (v := .int .i64 _) (off := 2) (Rd.of_cells (.tail _ (.tail _ (.tail _ (.tail _ (.tail _ (.head _))))))) rfl rfl rfl rfl ?_ | refine ld (v := .int .i64 _) (off := 2) (Rd.of_cells (.tail _ (.tail _ (.tail _ (.tail _ (.tail _ (.tail _ (.head _)))))))) rfl rfl rfl rfl ?_
                refine pu rfl rfl ?_
                refine pu rfl rfl ?_
                refine pu rfl rfl ?_
                refine SL_nil ?_
                first | refine st (v := .int .i64 _) (off := 1) (σ₁ := []) rfl rfl rfl rfl rfl rfl rfl rfl ?_ | refine st (v := .int .i64 _) (off := 1) (σ₁ := [_]) rfl rfl rfl rfl rfl rfl rfl rfl ?_ | refine st (v := .int .i64 _) (off := 1) (σ₁ := [_, _]) rfl rfl rfl rfl rfl rfl rfl rfl ?_ | refine st (v := .int .i64 _) (off := 1) (σ₁ := [_, _, _]) rfl rfl rfl rfl rfl rfl rfl rfl ?_ | refine st (v := .int .i64 _) (off := 1) (σ₁ := [_, _, _, _]) rfl rfl rfl rfl rfl rfl rfl rfl ?_ | refine st (v := .int .i64 _) (off := 1) (σ₁ := [_, _, _, _, _]) rfl rfl rfl rfl rfl rfl rfl rfl ?_ | refine st (v := .int .i64 _) (off := 1) (σ₁ := [_, _, _, _, _, _]) rfl rfl rfl rfl rfl rfl rfl rfl ?_
                refine SL_nil ?_
                refine nx ?_
                refine SWP_seq ?_
                refine SWP_region ?_
                first | refine pu (v := .int .i64 _) rfl rfl ?_ | refine pu rfl rfl ?_
                refine SL_nil ?_
                refine nx ?_
                refine SWP_ret ?_
                refine fin [_] ⟨rfl, trivial⟩ ?_
                have e : postErr l t ⟨ps, pd, pa⟩ = 0 := by
                  dsimp only [postErr, wadd, wsub]
                  rw [b9, b14]; simp only [Bool.and_self, Bool.true_eq_false, if_false]; rw [if_neg c21, if_neg (by rw [b28, decide_eq_true (by omega)]; exact Bool.noConfusion)]; exact (if_neg c46).trans (if_neg c54)
                rw [e]
                exact ⟨_, rfl, rfl, rfl⟩
          · skip
            refine SL_yes rfl ?_
            first | refine pu (v := .bool _) rfl rfl ?_ | refine pu rfl rfl ?_
            first | refine pu (v := .bool _) rfl rfl ?_ | refine pu rfl rfl ?_
            refine SL_nil ?_
            refine nx ?_
            refine SWP_ct rfl ?_
            refine SWP_seq ?_
            refine SWP_region ?_
            first | refine pu (v := .int .i64 _) rfl rfl ?_ | refine pu rfl rfl ?_
            refine SL_nil ?_
            refine nx ?_
            refine SWP_ret ?_
            refine nr ?_
            refine fin [_] ⟨rfl, trivial⟩ ?_
            have e : postErr l t ⟨ps, pd, pa⟩ = 2 := by
              dsimp only [postErr, wadd, wsub]
              rw [b9, b14]; simp only [Bool.and_self, Bool.true_eq_false, if_false]; rw [if_neg c21, if_pos (by rw [b28, Bool.and_false])]
            rw [e]
            exact ⟨_, rfl, rfl, rfl⟩
    · skip
      refine SL_yes rfl ?_
      first | refine pu (v := .bool _) rfl rfl ?_ | refine pu rfl rfl ?_
      first | refine pu (v := .bool _) rfl rfl ?_ | refine pu rfl rfl ?_
      refine SL_nil ?_
      refine nx ?_
      refine SWP_ct rfl ?_
      refine SWP_seq ?_
      refine SWP_region ?_
      first | refine pu (v := .int .i64 _) rfl rfl ?_ | refine pu rfl rfl ?_
      refine SL_nil ?_
      refine nx ?_
      refine SWP_ret ?_
      refine nr ?_
      refine fin [_] ⟨rfl, trivial⟩ ?_
      have e : postErr l t ⟨ps, pd, pa⟩ = 4 := by
        dsimp only [postErr, wadd, wsub]
        rw [b14, Bool.and_false]; rfl
      rw [e]
      exact ⟨_, rfl, rfl, rfl⟩
  · skip
    first | refine pu (v := .bool _) rfl rfl ?_ | refine pu rfl rfl ?_
    first | refine pu (v := .bool _) rfl rfl ?_ | refine pu rfl rfl ?_
    refine SL_no rfl rfl ?_
    refine SL_no rfl rfl ?_
    refine SL_no rfl rfl ?_
    refine SL_no rfl rfl ?_
    first | refine pu (v := .bool _) rfl rfl ?_ | refine pu rfl rfl ?_
    refine SL_nil ?_
    refine nx ?_
    refine SWP_ct rfl ?_
    refine SWP_seq ?_
    refine SWP_region ?_
    first | refine pu (v := .int .i64 _) rfl rfl ?_ | refine pu rfl rfl ?_
    refine SL_nil ?_
    refine nx ?_
    refine SWP_ret ?_
    refine nr ?_
    refine fin [_] ⟨rfl, trivial⟩ ?_
    have e : postErr l t ⟨ps, pd, pa⟩ = 4 := by
      dsimp only [postErr, wadd, wsub]
      rw [b9]; rfl
    rw [e]
    exact ⟨_, rfl, rfl, rfl⟩

end Go.Proofs.Ytadnflbohflckaa

