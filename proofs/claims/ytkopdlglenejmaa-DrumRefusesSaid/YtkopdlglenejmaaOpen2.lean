/- How the structs among the arguments read: written by a program (opens2.py). -/
import Derived.Test.YtkopdlglenejmaaTop
import Derived.Test.YtkopdlglenejmaaProg
import Derived.KernelRfl
import Derived.Test.YtkopdlglenejmaaGamL
namespace Go.Proofs.Ytkopdlglenejmaa
open Eng

theorem cells3 : Try.prog.cellsOf 3 = 1 := by kernel_rfl
theorem open_el3 {H : Type} {enc : TypeId × Value → H} {W : World} (n : Nat) (cs : List Value) (y : DataW H × List MemPlace) (h : DataW.trod enc Try.prog W 0 (fun _ => true) true n 3 cs = some y) : ∃ b : Int, cs = intE b ∧ (Lit.int .i64 b).wf = true := by
  obtain ⟨n0, e0, _, w0⟩ := DataW.trod_int Try.underlying3 h
  exact ⟨n0, e0, w0⟩

def Tier.OkM (m : Mem) : Tier → Prop
  | ⟨n0, n1, n2, n3, n4, n5⟩ => (Lit.int .i64 n0).wf = true ∧ (Lit.int .i64 n1).wf = true ∧ (Lit.int .i64 n2).wf = true ∧ (Lit.int .i64 n3).wf = true ∧ (Lit.int .i64 n4).wf = true ∧ (Lit.int .i64 n5).wf = true
theorem cells_Tier : Try.prog.cellsOf 70 = 6 := by kernel_rfl
set_option maxRecDepth 100000 in
theorem open_Tier {H : Type} {enc : TypeId × Value → H} {W : World} (n : Nat) (cs : List Value) (y : DataW H × List MemPlace) (h : DataW.trod enc Try.prog W 0 (fun _ => true) true n 70 cs = some y) : ∃ b : Tier, cs = b.enc ∧ b.OkM (allMem W) := by
  obtain ⟨xs, k, _, _, hlen, hxs, hf⟩ := DataW.trod_struct Try.underlying70 h
  rw [cells_Tier] at hlen
  match cs, hlen with
  | [v0, v1, v2, v3, v4, v5], _ =>
  match xs, hxs with
  | [y0, y1, y2, y3, y4, y5], _ =>
    have f0 : DataW.trod enc Try.prog W 0 (fun _ => true) true k 3 [v0] = some y0 := by
      have := hf 0 _ rfl
      have e0 : List.take (Try.prog.cellsOf 3) (List.drop 0 [v0, v1, v2, v3, v4, v5]) = [v0] := by rw [cells3]; rfl
      rw [← e0]; exact this
    have f1 : DataW.trod enc Try.prog W 0 (fun _ => true) true k 3 [v1] = some y1 := by
      have := hf 1 _ rfl
      have e0 : List.take (Try.prog.cellsOf 3) (List.drop 1 [v0, v1, v2, v3, v4, v5]) = [v1] := by rw [cells3]; rfl
      rw [← e0]; exact this
    have f2 : DataW.trod enc Try.prog W 0 (fun _ => true) true k 3 [v2] = some y2 := by
      have := hf 2 _ rfl
      have e0 : List.take (Try.prog.cellsOf 3) (List.drop 2 [v0, v1, v2, v3, v4, v5]) = [v2] := by rw [cells3]; rfl
      rw [← e0]; exact this
    have f3 : DataW.trod enc Try.prog W 0 (fun _ => true) true k 3 [v3] = some y3 := by
      have := hf 3 _ rfl
      have e0 : List.take (Try.prog.cellsOf 3) (List.drop 3 [v0, v1, v2, v3, v4, v5]) = [v3] := by rw [cells3]; rfl
      rw [← e0]; exact this
    have f4 : DataW.trod enc Try.prog W 0 (fun _ => true) true k 3 [v4] = some y4 := by
      have := hf 4 _ rfl
      have e0 : List.take (Try.prog.cellsOf 3) (List.drop 4 [v0, v1, v2, v3, v4, v5]) = [v4] := by rw [cells3]; rfl
      rw [← e0]; exact this
    have f5 : DataW.trod enc Try.prog W 0 (fun _ => true) true k 3 [v5] = some y5 := by
      have := hf 5 _ rfl
      have e0 : List.take (Try.prog.cellsOf 3) (List.drop 5 [v0, v1, v2, v3, v4, v5]) = [v5] := by rw [cells3]; rfl
      rw [← e0]; exact this
    obtain ⟨n0, e0, _, w0⟩ := DataW.trod_int Try.underlying3 f0
    obtain rfl : v0 = _ := (List.cons.inj e0).1
    obtain ⟨n1, e1, _, w1⟩ := DataW.trod_int Try.underlying3 f1
    obtain rfl : v1 = _ := (List.cons.inj e1).1
    obtain ⟨n2, e2, _, w2⟩ := DataW.trod_int Try.underlying3 f2
    obtain rfl : v2 = _ := (List.cons.inj e2).1
    obtain ⟨n3, e3, _, w3⟩ := DataW.trod_int Try.underlying3 f3
    obtain rfl : v3 = _ := (List.cons.inj e3).1
    obtain ⟨n4, e4, _, w4⟩ := DataW.trod_int Try.underlying3 f4
    obtain rfl : v4 = _ := (List.cons.inj e4).1
    obtain ⟨n5, e5, _, w5⟩ := DataW.trod_int Try.underlying3 f5
    obtain rfl : v5 = _ := (List.cons.inj e5).1
    exact ⟨⟨n0, n1, n2, n3, n4, n5⟩, rfl, ⟨w0, w1, w2, w3, w4, w5⟩⟩

theorem cells9 : Try.prog.cellsOf 9 = 1 := by kernel_rfl
theorem cells29 : Try.prog.cellsOf 29 = 1 := by kernel_rfl
def Addon.OkM (m : Mem) : Addon → Prop
  | ⟨n0, n1, n2, a3, c3, l3, n4, a5, c5, l5⟩ => n0.size ≤ maxLen ∧ (Lit.int .i64 n1).wf = true ∧ (Lit.int .i64 n2).wf = true ∧ (RL m intE 1 (.slice a3 l3.length c3) l3 ∧ ∀ x ∈ l3, (Lit.int .i64 x).wf = true) ∧ (Lit.int .i64 n4).wf = true ∧ (RL m intE 1 (.slice a5 l5.length c5) l5 ∧ ∀ x ∈ l5, (Lit.int .i64 x).wf = true)
theorem cells_Addon : Try.prog.cellsOf 47 = 6 := by kernel_rfl
set_option maxRecDepth 100000 in
theorem open_Addon {H : Type} {enc : TypeId × Value → H} {W : World} (n : Nat) (cs : List Value) (y : DataW H × List MemPlace) (h : DataW.trod enc Try.prog W 0 (fun _ => true) true n 47 cs = some y) : ∃ b : Addon, cs = b.enc ∧ b.OkM (allMem W) := by
  obtain ⟨xs, k, _, _, hlen, hxs, hf⟩ := DataW.trod_struct Try.underlying47 h
  rw [cells_Addon] at hlen
  match cs, hlen with
  | [v0, v1, v2, v3, v4, v5], _ =>
  match xs, hxs with
  | [y0, y1, y2, y3, y4, y5], _ =>
    have f0 : DataW.trod enc Try.prog W 0 (fun _ => true) true k 9 [v0] = some y0 := by
      have := hf 0 _ rfl
      have e0 : List.take (Try.prog.cellsOf 9) (List.drop 0 [v0, v1, v2, v3, v4, v5]) = [v0] := by rw [cells9]; rfl
      rw [← e0]; exact this
    have f1 : DataW.trod enc Try.prog W 0 (fun _ => true) true k 3 [v1] = some y1 := by
      have := hf 1 _ rfl
      have e0 : List.take (Try.prog.cellsOf 3) (List.drop 1 [v0, v1, v2, v3, v4, v5]) = [v1] := by rw [cells3]; rfl
      rw [← e0]; exact this
    have f2 : DataW.trod enc Try.prog W 0 (fun _ => true) true k 3 [v2] = some y2 := by
      have := hf 2 _ rfl
      have e0 : List.take (Try.prog.cellsOf 3) (List.drop 2 [v0, v1, v2, v3, v4, v5]) = [v2] := by rw [cells3]; rfl
      rw [← e0]; exact this
    have f3 : DataW.trod enc Try.prog W 0 (fun _ => true) true k 29 [v3] = some y3 := by
      have := hf 3 _ rfl
      have e0 : List.take (Try.prog.cellsOf 29) (List.drop 3 [v0, v1, v2, v3, v4, v5]) = [v3] := by rw [cells29]; rfl
      rw [← e0]; exact this
    have f4 : DataW.trod enc Try.prog W 0 (fun _ => true) true k 3 [v4] = some y4 := by
      have := hf 4 _ rfl
      have e0 : List.take (Try.prog.cellsOf 3) (List.drop 4 [v0, v1, v2, v3, v4, v5]) = [v4] := by rw [cells3]; rfl
      rw [← e0]; exact this
    have f5 : DataW.trod enc Try.prog W 0 (fun _ => true) true k 29 [v5] = some y5 := by
      have := hf 5 _ rfl
      have e0 : List.take (Try.prog.cellsOf 29) (List.drop 5 [v0, v1, v2, v3, v4, v5]) = [v5] := by rw [cells29]; rfl
      rw [← e0]; exact this
    obtain ⟨n0, e0, _, w0⟩ := DataW.trod_string Try.underlying9 f0
    obtain rfl : v0 = _ := (List.cons.inj e0).1
    obtain ⟨n1, e1, _, w1⟩ := DataW.trod_int Try.underlying3 f1
    obtain rfl : v1 = _ := (List.cons.inj e1).1
    obtain ⟨n2, e2, _, w2⟩ := DataW.trod_int Try.underlying3 f2
    obtain rfl : v2 = _ := (List.cons.inj e2).1
    obtain ⟨l3, hl3, w3⟩ := open_list (v := v3) intE_len Try.underlying29 cells3 open_el3 f3
    obtain ⟨a3, c3, rfl⟩ := hl3.len
    obtain ⟨n4, e4, _, w4⟩ := DataW.trod_int Try.underlying3 f4
    obtain rfl : v4 = _ := (List.cons.inj e4).1
    obtain ⟨l5, hl5, w5⟩ := open_list (v := v5) intE_len Try.underlying29 cells3 open_el3 f5
    obtain ⟨a5, c5, rfl⟩ := hl5.len
    exact ⟨⟨n0, n1, n2, a3, c3, l3, n4, a5, c5, l5⟩, rfl, ⟨w0, w1, w2, ⟨hl3, w3⟩, w4, ⟨hl5, w5⟩⟩⟩

theorem cells22 : Try.prog.cellsOf 22 = 1 := by kernel_rfl
theorem cells47 : Try.prog.cellsOf 47 = 6 := by kernel_rfl
theorem cells23 : Try.prog.cellsOf 23 = 1 := by kernel_rfl
theorem cells70 : Try.prog.cellsOf 70 = 6 := by kernel_rfl
def Game.OkM (m : Mem) : Game → Prop
  | ⟨n0, n1, n2, n3, n4, n5, n6, n7, n8, n9, n10, n11, n12, n13, n14, n15, n16, n17, n18, n19, a20, c20, l20, a21, c21, l21⟩ => n0.size ≤ maxLen ∧ (Lit.int .i64 n1).wf = true ∧ (Lit.int .i64 n2).wf = true ∧ (Lit.int .i64 n3).wf = true ∧ (Lit.int .i64 n4).wf = true ∧ (Lit.int .i64 n5).wf = true ∧ (Lit.int .i64 n6).wf = true ∧ (Lit.int .i64 n7).wf = true ∧ (Lit.int .i64 n8).wf = true ∧ (Lit.int .i64 n9).wf = true ∧ (Lit.int .i64 n10).wf = true ∧ (Lit.int .i64 n11).wf = true ∧ (Lit.int .i64 n12).wf = true ∧ (Lit.int .i64 n13).wf = true ∧ (Lit.int .i64 n14).wf = true ∧ (Lit.int .i64 n15).wf = true ∧ (Lit.int .i64 n16).wf = true ∧ (Lit.int .i64 n17).wf = true ∧ (Lit.int .i64 n18).wf = true ∧ (Lit.int .i64 n19).wf = true ∧ (RL m Addon.enc 6 (.slice a20 l20.length c20) l20 ∧ ∀ x ∈ l20, Addon.OkM m x) ∧ (RL m Tier.enc 6 (.slice a21 l21.length c21) l21 ∧ ∀ x ∈ l21, Tier.OkM m x)
theorem cells_Game : Try.prog.cellsOf 25 = 22 := by kernel_rfl
set_option maxRecDepth 100000 in
theorem open_Game {H : Type} {enc : TypeId × Value → H} {W : World} (n : Nat) (cs : List Value) (y : DataW H × List MemPlace) (h : DataW.trod enc Try.prog W 0 (fun _ => true) true n 25 cs = some y) : ∃ b : Game, cs = b.enc ∧ b.OkM (allMem W) := by
  obtain ⟨xs, k, _, _, hlen, hxs, hf⟩ := DataW.trod_struct Try.underlying25 h
  rw [cells_Game] at hlen
  match cs, hlen with
  | [v0, v1, v2, v3, v4, v5, v6, v7, v8, v9, v10, v11, v12, v13, v14, v15, v16, v17, v18, v19, v20, v21], _ =>
  match xs, hxs with
  | [y0, y1, y2, y3, y4, y5, y6, y7, y8, y9, y10, y11, y12, y13, y14, y15, y16, y17, y18, y19, y20, y21], _ =>
    have f0 : DataW.trod enc Try.prog W 0 (fun _ => true) true k 9 [v0] = some y0 := by
      have := hf 0 _ rfl
      have e0 : List.take (Try.prog.cellsOf 9) (List.drop 0 [v0, v1, v2, v3, v4, v5, v6, v7, v8, v9, v10, v11, v12, v13, v14, v15, v16, v17, v18, v19, v20, v21]) = [v0] := by rw [cells9]; rfl
      rw [← e0]; exact this
    have f1 : DataW.trod enc Try.prog W 0 (fun _ => true) true k 3 [v1] = some y1 := by
      have := hf 1 _ rfl
      have e0 : List.take (Try.prog.cellsOf 3) (List.drop 1 [v0, v1, v2, v3, v4, v5, v6, v7, v8, v9, v10, v11, v12, v13, v14, v15, v16, v17, v18, v19, v20, v21]) = [v1] := by rw [cells3]; rfl
      rw [← e0]; exact this
    have f2 : DataW.trod enc Try.prog W 0 (fun _ => true) true k 3 [v2] = some y2 := by
      have := hf 2 _ rfl
      have e0 : List.take (Try.prog.cellsOf 3) (List.drop 2 [v0, v1, v2, v3, v4, v5, v6, v7, v8, v9, v10, v11, v12, v13, v14, v15, v16, v17, v18, v19, v20, v21]) = [v2] := by rw [cells3]; rfl
      rw [← e0]; exact this
    have f3 : DataW.trod enc Try.prog W 0 (fun _ => true) true k 3 [v3] = some y3 := by
      have := hf 3 _ rfl
      have e0 : List.take (Try.prog.cellsOf 3) (List.drop 3 [v0, v1, v2, v3, v4, v5, v6, v7, v8, v9, v10, v11, v12, v13, v14, v15, v16, v17, v18, v19, v20, v21]) = [v3] := by rw [cells3]; rfl
      rw [← e0]; exact this
    have f4 : DataW.trod enc Try.prog W 0 (fun _ => true) true k 3 [v4] = some y4 := by
      have := hf 4 _ rfl
      have e0 : List.take (Try.prog.cellsOf 3) (List.drop 4 [v0, v1, v2, v3, v4, v5, v6, v7, v8, v9, v10, v11, v12, v13, v14, v15, v16, v17, v18, v19, v20, v21]) = [v4] := by rw [cells3]; rfl
      rw [← e0]; exact this
    have f5 : DataW.trod enc Try.prog W 0 (fun _ => true) true k 3 [v5] = some y5 := by
      have := hf 5 _ rfl
      have e0 : List.take (Try.prog.cellsOf 3) (List.drop 5 [v0, v1, v2, v3, v4, v5, v6, v7, v8, v9, v10, v11, v12, v13, v14, v15, v16, v17, v18, v19, v20, v21]) = [v5] := by rw [cells3]; rfl
      rw [← e0]; exact this
    have f6 : DataW.trod enc Try.prog W 0 (fun _ => true) true k 3 [v6] = some y6 := by
      have := hf 6 _ rfl
      have e0 : List.take (Try.prog.cellsOf 3) (List.drop 6 [v0, v1, v2, v3, v4, v5, v6, v7, v8, v9, v10, v11, v12, v13, v14, v15, v16, v17, v18, v19, v20, v21]) = [v6] := by rw [cells3]; rfl
      rw [← e0]; exact this
    have f7 : DataW.trod enc Try.prog W 0 (fun _ => true) true k 3 [v7] = some y7 := by
      have := hf 7 _ rfl
      have e0 : List.take (Try.prog.cellsOf 3) (List.drop 7 [v0, v1, v2, v3, v4, v5, v6, v7, v8, v9, v10, v11, v12, v13, v14, v15, v16, v17, v18, v19, v20, v21]) = [v7] := by rw [cells3]; rfl
      rw [← e0]; exact this
    have f8 : DataW.trod enc Try.prog W 0 (fun _ => true) true k 3 [v8] = some y8 := by
      have := hf 8 _ rfl
      have e0 : List.take (Try.prog.cellsOf 3) (List.drop 8 [v0, v1, v2, v3, v4, v5, v6, v7, v8, v9, v10, v11, v12, v13, v14, v15, v16, v17, v18, v19, v20, v21]) = [v8] := by rw [cells3]; rfl
      rw [← e0]; exact this
    have f9 : DataW.trod enc Try.prog W 0 (fun _ => true) true k 3 [v9] = some y9 := by
      have := hf 9 _ rfl
      have e0 : List.take (Try.prog.cellsOf 3) (List.drop 9 [v0, v1, v2, v3, v4, v5, v6, v7, v8, v9, v10, v11, v12, v13, v14, v15, v16, v17, v18, v19, v20, v21]) = [v9] := by rw [cells3]; rfl
      rw [← e0]; exact this
    have f10 : DataW.trod enc Try.prog W 0 (fun _ => true) true k 3 [v10] = some y10 := by
      have := hf 10 _ rfl
      have e0 : List.take (Try.prog.cellsOf 3) (List.drop 10 [v0, v1, v2, v3, v4, v5, v6, v7, v8, v9, v10, v11, v12, v13, v14, v15, v16, v17, v18, v19, v20, v21]) = [v10] := by rw [cells3]; rfl
      rw [← e0]; exact this
    have f11 : DataW.trod enc Try.prog W 0 (fun _ => true) true k 3 [v11] = some y11 := by
      have := hf 11 _ rfl
      have e0 : List.take (Try.prog.cellsOf 3) (List.drop 11 [v0, v1, v2, v3, v4, v5, v6, v7, v8, v9, v10, v11, v12, v13, v14, v15, v16, v17, v18, v19, v20, v21]) = [v11] := by rw [cells3]; rfl
      rw [← e0]; exact this
    have f12 : DataW.trod enc Try.prog W 0 (fun _ => true) true k 3 [v12] = some y12 := by
      have := hf 12 _ rfl
      have e0 : List.take (Try.prog.cellsOf 3) (List.drop 12 [v0, v1, v2, v3, v4, v5, v6, v7, v8, v9, v10, v11, v12, v13, v14, v15, v16, v17, v18, v19, v20, v21]) = [v12] := by rw [cells3]; rfl
      rw [← e0]; exact this
    have f13 : DataW.trod enc Try.prog W 0 (fun _ => true) true k 3 [v13] = some y13 := by
      have := hf 13 _ rfl
      have e0 : List.take (Try.prog.cellsOf 3) (List.drop 13 [v0, v1, v2, v3, v4, v5, v6, v7, v8, v9, v10, v11, v12, v13, v14, v15, v16, v17, v18, v19, v20, v21]) = [v13] := by rw [cells3]; rfl
      rw [← e0]; exact this
    have f14 : DataW.trod enc Try.prog W 0 (fun _ => true) true k 3 [v14] = some y14 := by
      have := hf 14 _ rfl
      have e0 : List.take (Try.prog.cellsOf 3) (List.drop 14 [v0, v1, v2, v3, v4, v5, v6, v7, v8, v9, v10, v11, v12, v13, v14, v15, v16, v17, v18, v19, v20, v21]) = [v14] := by rw [cells3]; rfl
      rw [← e0]; exact this
    have f15 : DataW.trod enc Try.prog W 0 (fun _ => true) true k 3 [v15] = some y15 := by
      have := hf 15 _ rfl
      have e0 : List.take (Try.prog.cellsOf 3) (List.drop 15 [v0, v1, v2, v3, v4, v5, v6, v7, v8, v9, v10, v11, v12, v13, v14, v15, v16, v17, v18, v19, v20, v21]) = [v15] := by rw [cells3]; rfl
      rw [← e0]; exact this
    have f16 : DataW.trod enc Try.prog W 0 (fun _ => true) true k 3 [v16] = some y16 := by
      have := hf 16 _ rfl
      have e0 : List.take (Try.prog.cellsOf 3) (List.drop 16 [v0, v1, v2, v3, v4, v5, v6, v7, v8, v9, v10, v11, v12, v13, v14, v15, v16, v17, v18, v19, v20, v21]) = [v16] := by rw [cells3]; rfl
      rw [← e0]; exact this
    have f17 : DataW.trod enc Try.prog W 0 (fun _ => true) true k 3 [v17] = some y17 := by
      have := hf 17 _ rfl
      have e0 : List.take (Try.prog.cellsOf 3) (List.drop 17 [v0, v1, v2, v3, v4, v5, v6, v7, v8, v9, v10, v11, v12, v13, v14, v15, v16, v17, v18, v19, v20, v21]) = [v17] := by rw [cells3]; rfl
      rw [← e0]; exact this
    have f18 : DataW.trod enc Try.prog W 0 (fun _ => true) true k 3 [v18] = some y18 := by
      have := hf 18 _ rfl
      have e0 : List.take (Try.prog.cellsOf 3) (List.drop 18 [v0, v1, v2, v3, v4, v5, v6, v7, v8, v9, v10, v11, v12, v13, v14, v15, v16, v17, v18, v19, v20, v21]) = [v18] := by rw [cells3]; rfl
      rw [← e0]; exact this
    have f19 : DataW.trod enc Try.prog W 0 (fun _ => true) true k 3 [v19] = some y19 := by
      have := hf 19 _ rfl
      have e0 : List.take (Try.prog.cellsOf 3) (List.drop 19 [v0, v1, v2, v3, v4, v5, v6, v7, v8, v9, v10, v11, v12, v13, v14, v15, v16, v17, v18, v19, v20, v21]) = [v19] := by rw [cells3]; rfl
      rw [← e0]; exact this
    have f20 : DataW.trod enc Try.prog W 0 (fun _ => true) true k 22 [v20] = some y20 := by
      have := hf 20 _ rfl
      have e0 : List.take (Try.prog.cellsOf 22) (List.drop 20 [v0, v1, v2, v3, v4, v5, v6, v7, v8, v9, v10, v11, v12, v13, v14, v15, v16, v17, v18, v19, v20, v21]) = [v20] := by rw [cells22]; rfl
      rw [← e0]; exact this
    have f21 : DataW.trod enc Try.prog W 0 (fun _ => true) true k 23 [v21] = some y21 := by
      have := hf 21 _ rfl
      have e0 : List.take (Try.prog.cellsOf 23) (List.drop 21 [v0, v1, v2, v3, v4, v5, v6, v7, v8, v9, v10, v11, v12, v13, v14, v15, v16, v17, v18, v19, v20, v21]) = [v21] := by rw [cells23]; rfl
      rw [← e0]; exact this
    obtain ⟨n0, e0, _, w0⟩ := DataW.trod_string Try.underlying9 f0
    obtain rfl : v0 = _ := (List.cons.inj e0).1
    obtain ⟨n1, e1, _, w1⟩ := DataW.trod_int Try.underlying3 f1
    obtain rfl : v1 = _ := (List.cons.inj e1).1
    obtain ⟨n2, e2, _, w2⟩ := DataW.trod_int Try.underlying3 f2
    obtain rfl : v2 = _ := (List.cons.inj e2).1
    obtain ⟨n3, e3, _, w3⟩ := DataW.trod_int Try.underlying3 f3
    obtain rfl : v3 = _ := (List.cons.inj e3).1
    obtain ⟨n4, e4, _, w4⟩ := DataW.trod_int Try.underlying3 f4
    obtain rfl : v4 = _ := (List.cons.inj e4).1
    obtain ⟨n5, e5, _, w5⟩ := DataW.trod_int Try.underlying3 f5
    obtain rfl : v5 = _ := (List.cons.inj e5).1
    obtain ⟨n6, e6, _, w6⟩ := DataW.trod_int Try.underlying3 f6
    obtain rfl : v6 = _ := (List.cons.inj e6).1
    obtain ⟨n7, e7, _, w7⟩ := DataW.trod_int Try.underlying3 f7
    obtain rfl : v7 = _ := (List.cons.inj e7).1
    obtain ⟨n8, e8, _, w8⟩ := DataW.trod_int Try.underlying3 f8
    obtain rfl : v8 = _ := (List.cons.inj e8).1
    obtain ⟨n9, e9, _, w9⟩ := DataW.trod_int Try.underlying3 f9
    obtain rfl : v9 = _ := (List.cons.inj e9).1
    obtain ⟨n10, e10, _, w10⟩ := DataW.trod_int Try.underlying3 f10
    obtain rfl : v10 = _ := (List.cons.inj e10).1
    obtain ⟨n11, e11, _, w11⟩ := DataW.trod_int Try.underlying3 f11
    obtain rfl : v11 = _ := (List.cons.inj e11).1
    obtain ⟨n12, e12, _, w12⟩ := DataW.trod_int Try.underlying3 f12
    obtain rfl : v12 = _ := (List.cons.inj e12).1
    obtain ⟨n13, e13, _, w13⟩ := DataW.trod_int Try.underlying3 f13
    obtain rfl : v13 = _ := (List.cons.inj e13).1
    obtain ⟨n14, e14, _, w14⟩ := DataW.trod_int Try.underlying3 f14
    obtain rfl : v14 = _ := (List.cons.inj e14).1
    obtain ⟨n15, e15, _, w15⟩ := DataW.trod_int Try.underlying3 f15
    obtain rfl : v15 = _ := (List.cons.inj e15).1
    obtain ⟨n16, e16, _, w16⟩ := DataW.trod_int Try.underlying3 f16
    obtain rfl : v16 = _ := (List.cons.inj e16).1
    obtain ⟨n17, e17, _, w17⟩ := DataW.trod_int Try.underlying3 f17
    obtain rfl : v17 = _ := (List.cons.inj e17).1
    obtain ⟨n18, e18, _, w18⟩ := DataW.trod_int Try.underlying3 f18
    obtain rfl : v18 = _ := (List.cons.inj e18).1
    obtain ⟨n19, e19, _, w19⟩ := DataW.trod_int Try.underlying3 f19
    obtain rfl : v19 = _ := (List.cons.inj e19).1
    obtain ⟨l20, hl20, w20⟩ := open_list (v := v20) Addon.enc_len Try.underlying22 cells_Addon open_Addon f20
    obtain ⟨a20, c20, rfl⟩ := hl20.len
    obtain ⟨l21, hl21, w21⟩ := open_list (v := v21) Tier.enc_len Try.underlying23 cells_Tier open_Tier f21
    obtain ⟨a21, c21, rfl⟩ := hl21.len
    exact ⟨⟨n0, n1, n2, n3, n4, n5, n6, n7, n8, n9, n10, n11, n12, n13, n14, n15, n16, n17, n18, n19, a20, c20, l20, a21, c21, l21⟩, rfl, ⟨w0, w1, w2, w3, w4, w5, w6, w7, w8, w9, w10, w11, w12, w13, w14, w15, w16, w17, w18, w19, ⟨hl20, w20⟩, ⟨hl21, w21⟩⟩⟩

def Res.OkM (m : Mem) : Res → Prop
  | ⟨a0, c0, l0, a1, c1, l1, a2, c2, l2, n3, n4⟩ => (RL m intE 1 (.slice a0 l0.length c0) l0 ∧ ∀ x ∈ l0, (Lit.int .i64 x).wf = true) ∧ (RL m intE 1 (.slice a1 l1.length c1) l1 ∧ ∀ x ∈ l1, (Lit.int .i64 x).wf = true) ∧ (RL m intE 1 (.slice a2 l2.length c2) l2 ∧ ∀ x ∈ l2, (Lit.int .i64 x).wf = true) ∧ (Lit.int .i64 n3).wf = true ∧ n4.size ≤ maxLen
theorem cells_Res : Try.prog.cellsOf 31 = 5 := by kernel_rfl
set_option maxRecDepth 100000 in
theorem open_Res {H : Type} {enc : TypeId × Value → H} {W : World} (n : Nat) (cs : List Value) (y : DataW H × List MemPlace) (h : DataW.trod enc Try.prog W 0 (fun _ => true) true n 31 cs = some y) : ∃ b : Res, cs = b.enc ∧ b.OkM (allMem W) := by
  obtain ⟨xs, k, _, _, hlen, hxs, hf⟩ := DataW.trod_struct Try.underlying31 h
  rw [cells_Res] at hlen
  match cs, hlen with
  | [v0, v1, v2, v3, v4], _ =>
  match xs, hxs with
  | [y0, y1, y2, y3, y4], _ =>
    have f0 : DataW.trod enc Try.prog W 0 (fun _ => true) true k 29 [v0] = some y0 := by
      have := hf 0 _ rfl
      have e0 : List.take (Try.prog.cellsOf 29) (List.drop 0 [v0, v1, v2, v3, v4]) = [v0] := by rw [cells29]; rfl
      rw [← e0]; exact this
    have f1 : DataW.trod enc Try.prog W 0 (fun _ => true) true k 29 [v1] = some y1 := by
      have := hf 1 _ rfl
      have e0 : List.take (Try.prog.cellsOf 29) (List.drop 1 [v0, v1, v2, v3, v4]) = [v1] := by rw [cells29]; rfl
      rw [← e0]; exact this
    have f2 : DataW.trod enc Try.prog W 0 (fun _ => true) true k 29 [v2] = some y2 := by
      have := hf 2 _ rfl
      have e0 : List.take (Try.prog.cellsOf 29) (List.drop 2 [v0, v1, v2, v3, v4]) = [v2] := by rw [cells29]; rfl
      rw [← e0]; exact this
    have f3 : DataW.trod enc Try.prog W 0 (fun _ => true) true k 3 [v3] = some y3 := by
      have := hf 3 _ rfl
      have e0 : List.take (Try.prog.cellsOf 3) (List.drop 3 [v0, v1, v2, v3, v4]) = [v3] := by rw [cells3]; rfl
      rw [← e0]; exact this
    have f4 : DataW.trod enc Try.prog W 0 (fun _ => true) true k 9 [v4] = some y4 := by
      have := hf 4 _ rfl
      have e0 : List.take (Try.prog.cellsOf 9) (List.drop 4 [v0, v1, v2, v3, v4]) = [v4] := by rw [cells9]; rfl
      rw [← e0]; exact this
    obtain ⟨l0, hl0, w0⟩ := open_list (v := v0) intE_len Try.underlying29 cells3 open_el3 f0
    obtain ⟨a0, c0, rfl⟩ := hl0.len
    obtain ⟨l1, hl1, w1⟩ := open_list (v := v1) intE_len Try.underlying29 cells3 open_el3 f1
    obtain ⟨a1, c1, rfl⟩ := hl1.len
    obtain ⟨l2, hl2, w2⟩ := open_list (v := v2) intE_len Try.underlying29 cells3 open_el3 f2
    obtain ⟨a2, c2, rfl⟩ := hl2.len
    obtain ⟨n3, e3, _, w3⟩ := DataW.trod_int Try.underlying3 f3
    obtain rfl : v3 = _ := (List.cons.inj e3).1
    obtain ⟨n4, e4, _, w4⟩ := DataW.trod_string Try.underlying9 f4
    obtain rfl : v4 = _ := (List.cons.inj e4).1
    exact ⟨⟨a0, c0, l0, a1, c1, l1, a2, c2, l2, n3, n4⟩, rfl, ⟨⟨hl0, w0⟩, ⟨hl1, w1⟩, ⟨hl2, w2⟩, w3, w4⟩⟩

end Go.Proofs.Ytkopdlglenejmaa

