/- lotterylaw48.LedgerNil. -/
import Derived.Test.YtadnflbohflckaaLedL
namespace Go.Proofs.Ytadnflbohflckaa
open Eng

theorem nilPost {m : Mem} (p : Posting) : PureCall Try.prog 13 [.pointer none, p.val] m (.int .i64 5) := by
  refine CallsS.pure ?_
  refine enter Try.func13 Try.ntmps13 rfl rfl ?_
  refine SWP_seq ?_
  refine SWP_region ?_
  refine bx (v := .agg _) rfl rfl (fun B3 => ?_)
  first | refine pu (v := .int .i64 _) rfl rfl ?_ | refine pu rfl rfl ?_
  refine SL_nil ?_
  refine nx ?_
  refine SWP_seq ?_
  refine SWP_seq ?_
  refine SWP_region ?_
  first | refine pu (v := .pointer _) rfl rfl ?_ | refine pu rfl rfl ?_
  refine pu (v := .bool true) rfl rfl ?_
  refine SL_nil ?_
  refine nx ?_
  refine SWP_ct rfl ?_
  refine SWP_seq ?_
  refine SWP_region ?_
  first | refine pu (v := .int .i64 _) rfl rfl ?_ | refine pu rfl rfl ?_
  refine SL_nil ?_
  refine nx ?_
  refine SWP_ret ?_
  refine nr ?_
  refine fin [_] ⟨rfl, trivial⟩ ?_
  rfl

theorem nilBalance {m : Mem} (k : ByteArray) : PureCall Try.prog 15 [.pointer none, .string k] m (.int .i64 0) := by
  refine CallsS.pure ?_
  refine enter Try.func15 Try.ntmps15 rfl rfl ?_
  refine SWP_seq ?_
  refine SWP_region ?_
  first | refine pu (v := .int .i64 _) rfl rfl ?_ | refine pu rfl rfl ?_
  refine SL_nil ?_
  refine nx ?_
  refine SWP_seq ?_
  refine SWP_seq ?_
  refine SWP_region ?_
  first | refine pu (v := .pointer _) rfl rfl ?_ | refine pu rfl rfl ?_
  refine pu (v := .bool true) rfl rfl ?_
  refine SL_nil ?_
  refine nx ?_
  refine SWP_ct rfl ?_
  refine SWP_seq ?_
  refine SWP_region ?_
  first | refine pu (v := .int .i64 _) rfl rfl ?_ | refine pu rfl rfl ?_
  refine SL_nil ?_
  refine nx ?_
  refine SWP_ret ?_
  refine nr ?_
  refine fin [_] ⟨rfl, trivial⟩ ?_
  rfl

theorem nilAll {m : Mem} : PureCall Try.prog 17 [.pointer none] m (.slice none 0 0) := by
  refine CallsS.pure ?_
  refine enter Try.func17 Try.ntmps17 rfl rfl ?_
  refine SWP_seq ?_
  refine SWP_region ?_
  first | refine pu (v := .slice _ _ _) rfl rfl ?_ | refine pu rfl rfl ?_
  refine SL_nil ?_
  refine nx ?_
  refine SWP_seq ?_
  refine SWP_seq ?_
  refine SWP_region ?_
  first | refine pu (v := .pointer _) rfl rfl ?_ | refine pu rfl rfl ?_
  refine pu (v := .bool true) rfl rfl ?_
  refine SL_nil ?_
  refine nx ?_
  refine SWP_ct rfl ?_
  refine SWP_seq ?_
  refine SWP_region ?_
  first | refine pu (v := .slice _ _ _) rfl rfl ?_ | refine pu rfl rfl ?_
  refine SL_nil ?_
  refine nx ?_
  refine SWP_ret ?_
  refine nr ?_
  refine fin [_] ⟨rfl, trivial⟩ ?_
  rfl

theorem nilTurnover {m : Mem} : PureCall Try.prog 20 [.pointer none] m (.int .i64 0) := by
  refine CallsS.pure ?_
  refine enter Try.func20 Try.ntmps20 rfl rfl ?_
  refine SWP_seq ?_
  refine SWP_region ?_
  first | refine pu (v := .int .i64 _) rfl rfl ?_ | refine pu rfl rfl ?_
  refine SL_nil ?_
  refine nx ?_
  refine SWP_seq ?_
  refine SWP_seq ?_
  refine SWP_region ?_
  first | refine pu (v := .pointer _) rfl rfl ?_ | refine pu rfl rfl ?_
  refine pu (v := .bool true) rfl rfl ?_
  refine SL_nil ?_
  refine nx ?_
  refine SWP_ct rfl ?_
  refine SWP_seq ?_
  refine SWP_region ?_
  first | refine pu (v := .int .i64 _) rfl rfl ?_ | refine pu rfl rfl ?_
  refine SL_nil ?_
  refine nx ?_
  refine SWP_ret ?_
  refine nr ?_
  refine fin [_] ⟨rfl, trivial⟩ ?_
  rfl

theorem lawLedgerNil {m : Mem} (p : Posting) : PureCall Try.prog 7 [p.val] m (.bool true) := by
  refine CallsS.pure ?_
  obtain ⟨ps, pd, pa⟩ := p
  dsimp only [Posting.val]
  refine enter Try.func7 Try.ntmps7 rfl rfl ?_
  refine SWP_seq ?_
  refine SWP_region ?_
  refine bx (v := .agg _) rfl rfl (fun B1 => ?_)
  first | refine pu (v := .bool _) rfl rfl ?_ | refine pu rfl rfl ?_
  refine SL_nil ?_
  refine nx ?_
  refine SWP_seq ?_
  refine SWP_region ?_
  first | refine pu (v := .pointer _) rfl rfl ?_ | refine pu rfl rfl ?_
  refine SL_nil ?_
  refine nx ?_
  refine SWP_seq ?_
  refine SWP_region ?_
  first | refine pu (v := .pointer _) rfl rfl ?_ | refine pu rfl rfl ?_
  first | refine ld (v := .agg _) (off := 0) (Rd.of_cells (.head _)) rfl rfl rfl rfl ?_ | refine ld (v := .agg _) (off := 0) (Rd.of_cells (.tail _ (.head _))) rfl rfl rfl rfl ?_ | refine ld (v := .agg _) (off := 0) (Rd.of_cells (.tail _ (.tail _ (.head _)))) rfl rfl rfl rfl ?_ | refine ld (v := .agg _) (off := 0) (Rd.of_cells (.tail _ (.tail _ (.tail _ (.head _))))) rfl rfl rfl rfl ?_ | refine ld (v := .agg _) (off := 0) (Rd.of_cells (.tail _ (.tail _ (.tail _ (.tail _ (.head _)))))) rfl rfl rfl rfl ?_ | refine ld (v := .agg _) (off := 0) (Rd.of_cells (.tail _ (.tail _ (.tail _ (.tail _ (.tail _ (.head _))))))) rfl rfl rfl rfl ?_ | refine ld (v := .agg _) (off := 0) (Rd.of_cells (.tail _ (.tail _ (.tail _ (.tail _ (.tail _ (.tail _ (.head _)))))))) rfl rfl rfl rfl ?_
  refine SL_pcall rfl rfl cb13 (nilPost ⟨ps, pd, pa⟩) rfl ?_
  refine pt rfl rfl (rfl) ?_
  first | refine pu (v := .bool _) rfl rfl ?_ | refine pu rfl rfl ?_
  refine SL_yes rfl ?_
  first | refine pu (v := .pointer _) rfl rfl ?_ | refine pu rfl rfl ?_
  refine SL_yes rfl ?_
  refine pu rfl rfl ?_
  refine SL_yes rfl ?_
  first | refine ld (v := .string _) (off := 0) (Rd.of_cells (.head _)) rfl rfl rfl rfl ?_ | refine ld (v := .string _) (off := 0) (Rd.of_cells (.tail _ (.head _))) rfl rfl rfl rfl ?_ | refine ld (v := .string _) (off := 0) (Rd.of_cells (.tail _ (.tail _ (.head _)))) rfl rfl rfl rfl ?_ | refine ld (v := .string _) (off := 0) (Rd.of_cells (.tail _ (.tail _ (.tail _ (.head _))))) rfl rfl rfl rfl ?_ | refine ld (v := .string _) (off := 0) (Rd.of_cells (.tail _ (.tail _ (.tail _ (.tail _ (.head _)))))) rfl rfl rfl rfl ?_ | refine ld (v := .string _) (off := 0) (Rd.of_cells (.tail _ (.tail _ (.tail _ (.tail _ (.tail _ (.head _))))))) rfl rfl rfl rfl ?_ | refine ld (v := .string _) (off := 0) (Rd.of_cells (.tail _ (.tail _ (.tail _ (.tail _ (.tail _ (.tail _ (.head _)))))))) rfl rfl rfl rfl ?_
  refine SL_yes rfl ?_
  refine SL_pcall rfl rfl cb15 (nilBalance _) rfl ?_
  refine SL_yes rfl ?_
  refine pt rfl rfl (rfl) ?_
  first | refine pu (v := .bool _) rfl rfl ?_ | refine pu rfl rfl ?_
  first | refine pu (v := .bool _) rfl rfl ?_ | refine pu rfl rfl ?_
  refine SL_yes rfl ?_
  first | refine pu (v := .pointer _) rfl rfl ?_ | refine pu rfl rfl ?_
  refine SL_yes rfl ?_
  refine SL_pcall rfl rfl cb17 (nilAll) rfl ?_
  refine SL_yes rfl ?_
  refine pu rfl rfl ?_
  refine SL_yes rfl ?_
  refine pt rfl rfl (rfl) ?_
  first | refine pu (v := .bool _) rfl rfl ?_ | refine pu rfl rfl ?_
  first | refine pu (v := .bool _) rfl rfl ?_ | refine pu rfl rfl ?_
  refine SL_yes rfl ?_
  first | refine pu (v := .pointer _) rfl rfl ?_ | refine pu rfl rfl ?_
  refine SL_yes rfl ?_
  refine SL_pcall rfl rfl cb20 (nilTurnover) rfl ?_
  refine SL_yes rfl ?_
  refine pt rfl rfl (rfl) ?_
  first | refine pu (v := .bool _) rfl rfl ?_ | refine pu rfl rfl ?_
  first | refine pu (v := .bool _) rfl rfl ?_ | refine pu rfl rfl ?_
  refine SL_yes rfl ?_
  refine SL_pcall rfl rfl cb10 (livesOk) rfl ?_
  first | refine pu (v := .bool _) rfl rfl ?_ | refine pu rfl rfl ?_
  first | refine pu (v := .bool _) rfl rfl ?_ | refine pu rfl rfl ?_
  refine SL_nil ?_
  refine nx ?_
  refine SWP_ret ?_
  refine fin [_] ⟨rfl, trivial⟩ ?_
  rfl

end Go.Proofs.Ytadnflbohflckaa

