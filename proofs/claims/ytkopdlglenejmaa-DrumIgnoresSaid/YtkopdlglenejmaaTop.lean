/- From a call's contract to a law's statement; arguments opened into lists and numbers. -/
import Derived.Test.YtkopdlglenejmaaData
import Derived.ProofKit
import Derived.OpenShut
import Derived.Deep.Slices
import Derived.Deep.Fields
import Derived.ChangeSame
namespace Go.Proofs.Ytkopdlglenejmaa
namespace Eng
open Go.RowKit Go.ChangeShapes Go.WideShapes Go.ChangeAt Go.Deep
open Go.ChangeMaps (open_string shut_string)

/-- All that memory holds when the call begins. -/
def allMem (W : World) : Mem := fun k => W.heap[k]?
theorem allMem_cell (W : World) (p : Addr) : (allMem W).cell p = W.cell? p := by
  unfold Mem.cell allMem World.cell?
  cases W.heap[p.block]? with
  | none => rfl
  | some o => cases o <;> simp [objCell]

theorem conc_all (W : World) : Conc ⟨fun _ => none, allMem W, W⟩ W (allMem W) [] :=
  ⟨rfl, rfl, rfl, Le.refl _, fun _ _ h => h, fun _ _ h => (by cases h), fun _ h => (by cases h), List.nodup_nil⟩

theorem below_of {W W' : World} {g : Gh} {m' : Mem} {σ' : Sig} (hw : g.w0 = W) (hC : Conc g W' m' σ') (hl : Le (allMem W) m') : Below W.heap.size W W' := by
  subst hw
  have hb : ∀ k, k < g.w0.heap.size → W'.heap[k]? = g.w0.heap[k]? := fun k hk => by
    have : g.w0.heap[k]? = some g.w0.heap[k] := Array.getElem?_eq_getElem hk
    rw [this]
    exact hC.imm _ _ (hl _ _ this)
  refine ⟨hC.os, hC.tape, hC.output, ?_, hb⟩
  rcases Nat.eq_zero_or_pos g.w0.heap.size with h0 | h0
  · omega
  · have h1 := hb (g.w0.heap.size - 1) (Nat.sub_lt h0 Nat.one_pos)
    have h3 : g.w0.heap[g.w0.heap.size - 1]? = some g.w0.heap[g.w0.heap.size - 1] := Array.getElem?_eq_getElem _
    rw [h3] at h1
    have h2 := (Array.getElem?_eq_some_iff.1 h1).1
    exact Nat.le_of_pred_lt h2

theorem top {P : Program} {F : FuncId} {args : List Value} {W : World} (h : CallsS P F args.toArray [] (allMem W) fun v _ _ => v = .bool true) :
    Calls P F args.toArray W fun e W' => e = .returned (.bool true) ∧ Below W.heap.size W W' :=
  (h _ W (conc_all W)).mono fun _ _ ⟨_, _, _, he, hC, hl, hv⟩ => ⟨by rw [he, hv], below_of rfl hC hl⟩

section
variable {H : Type} {enc : TypeId × Value → H} {P : Program}

theorem trodAll_below (hl : laidOutB P = true) {W W' : World} (hb : Below W.heap.size W W') : ∀ {ts : List TypeId} {vs : List Value} {ds : List (DataW H)} {ps : List MemPlace},
    ts.all (fun t => P.readableRec t && decide (t < P.types.size)) = true → DataW.TrodAll enc P W 0 (fun _ => true) true ts vs ds ps → (∀ x ∈ ps, x.block < W.heap.size) →
    DataW.TrodAll enc P W' 0 (fun b => decide (b < W.heap.size)) true ts vs ds ps
  | [], [], [], _, _, h, _ => h
  | t :: ts, v :: vs, d :: ds, ps, ht, h, hlt => by
    obtain ⟨p, q, h1, h2, rfl⟩ := h
    simp only [List.all_cons, Bool.and_eq_true] at ht
    exact ⟨p, q, Below.trod hl ht.1.1 (of_decide_eq_true ht.1.2) h1 hb (fun x hx => hlt x (List.mem_append_left _ hx)),
      trodAll_below hl hb ht.2 h2 (fun x hx => hlt x (List.mem_append_right _ hx)), rfl⟩
  | [], [], _ :: _, _, _, h, _ => h.elim
  | [], _ :: _, _, _, _, h, _ => h.elim
  | _ :: _, [], _, _, _, h, _ => h.elim
  | _ :: _, _ :: _, [], _, _, h, _ => h.elim

/-- A law's statement behind its call. -/
theorem post_law {f : Func} {s : ChangeSpec} {W W' : World} {args : Array Value} {ds gs : List (DataW H)} {ps : List MemPlace} {tb : Nat} (hl : laidOutB P = true) (hvars : s.vars = []) (hW : DataW.Whole enc P f.params.toList s.vars false W args.toList ds gs ps)
    (hp : f.params.toList.all (fun t => P.readableRec t && decide (t < P.types.size)) = true) (hrt : f.resultTypes = #[tb]) (htb : P.underlying tb = some .bool)
    (hres : (s.fn H (ds ++ gs)).results = [.lit (.bool true)]) (hargs : (s.fn H (ds ++ gs)).args = ds) (hv : (s.fn H (ds ++ gs)).vars = []) (hb : Below W.heap.size W W') :
    s.post enc P f false true false false W args (.bool true) W' := by
  have hW' := hW
  obtain ⟨p, q, hA, hV, rfl, _, _⟩ := hW
  have hlt : ∀ x ∈ p ++ q, x.block < W.heap.size := fun x hx => hW'.lt x hx
  refine ⟨ds, gs, p ++ q, [], p, [], hW', ?_, ?_, ?_, hb.frame _, fun h => (by cases h)⟩
  · rw [hres, hrt]
    exact trodAll_mk1 (shut_bool htb true)
  · rw [hargs]
    exact trodAll_below hl hb hp hA (fun x hx => hlt x (List.mem_append_left _ hx))
  · rw [hv, hvars]
    rfl

/-! ## Arguments opened -/

/-- A slice of elements each of which reads as cells of one form. -/
theorem open_list {α : Type} {en : α → List Value} {size : Nat} {Ok : α → Prop} (hen : ∀ x, (en x).length = size) {W : World} {tS tE : TypeId} {fuel : Nat} {v : Value} {x : DataW H × List MemPlace} (ht : P.underlying tS = some (.slice tE)) (hC : P.cellsOf tE = size)
    (hel : ∀ n cs y, DataW.trod enc P W 0 (fun _ => true) true n tE cs = some y → ∃ a : α, cs = en a ∧ Ok a) (h : DataW.trod enc P W 0 (fun _ => true) true fuel tS [v] = some x) :
    ∃ l : List α, RL (allMem W) en size v l ∧ ∀ a ∈ l, Ok a := by
  rcases open_slice ht h with ⟨h0, _⟩ | ⟨ad, len, cap, mm, n, D, Pl, h0, _, hlc, hcm, hmm, _, hf⟩
  · simp only [List.cons.injEq, and_true] at h0
    subst h0
    exact ⟨[], RL.nil _ _, fun _ h => (by cases h)⟩
  · simp only [List.cons.injEq, and_true] at h0
    subst h0
    simp only [if_true] at hmm
    have hall : ∀ i, i < len → ∃ a : α, Ok a ∧ ∀ j u, (en a)[j]? = some u → W.cell? (ad.add (i * size + j)) = some u := fun i hi' => by
      obtain ⟨cs, h1, h2⟩ := hf i (by omega)
      obtain ⟨_, h3, h4⟩ := World.cells?_some h1
      obtain ⟨a, rfl, hok⟩ := hel _ _ _ h2
      refine ⟨a, hok, fun j u hj => ?_⟩
      have hj' := (List.getElem?_eq_some_iff.1 hj).1
      rw [← add_add, ← hj, ← h4 j (by omega), hC]
    have key : ∀ n, n ≤ len → ∃ l : List α, l.length = n ∧ (∀ a ∈ l, Ok a) ∧ ∀ i (a : α), l[i]? = some a → ∀ j u, (en a)[j]? = some u → W.cell? (ad.add (i * size + j)) = some u := by
      intro n
      induction n with
      | zero => exact fun _ => ⟨[], rfl, fun _ h => (by cases h), fun i b hb => by simp at hb⟩
      | succ n ih =>
        intro hn
        obtain ⟨l, hl1, hl3, hl2⟩ := ih (by omega)
        obtain ⟨b, hok, hb⟩ := hall n (by omega)
        refine ⟨l ++ [b], by simp [hl1], fun a ha => ?_, fun i c hc => ?_⟩
        · rcases List.mem_append.1 ha with ha | ha
          · exact hl3 a ha
          · rw [List.mem_singleton.1 ha]; exact hok
        · by_cases hi' : i < n
          · rw [List.getElem?_append_left (by omega)] at hc
            exact hl2 i c hc
          · rw [List.getElem?_append_right (by omega)] at hc
            have hi2 : i = n := by
              have := (List.getElem?_eq_some_iff.1 hc).1
              simp at this; omega
            subst hi2
            rw [hl1] at hc
            simp only [Nat.sub_self, List.getElem?_cons_zero, Option.some.injEq] at hc
            subst hc
            exact hb
    obtain ⟨l, rfl, hl3, hl2⟩ := key len (Nat.le_refl _)
    refine ⟨l, ⟨some ad, cap, rfl, flatMap_len hen l, hlc, hcm, fun e => (by cases e), fun ad' e j u hj => ?_⟩, hl3⟩
    cases e
    rw [allMem_cell]
    have hjl : j < l.length * size := by
      have := (List.getElem?_eq_some_iff.1 hj).1
      rwa [flatMap_len hen] at this
    have hs : 0 < size := Nat.pos_of_ne_zero fun e => by rw [e] at hjl; simp at hjl
    have hd : j / size < l.length := (Nat.div_lt_iff_lt_mul hs).2 hjl
    have hb : l[j / size]? = some l[j / size] := List.getElem?_eq_getElem hd
    have hm : j % size < size := Nat.mod_lt _ hs
    have := hl2 _ _ hb (j % size) u (by
      have h3 := flatMap_seg hen l (j / size) _ hb
      rw [← h3, List.getElem?_take, if_pos hm, List.getElem?_drop, ← hj]
      congr 1; exact Nat.div_add_mod' j size)
    rw [Nat.div_add_mod'] at this
    exact this
end
end Eng
end Go.Proofs.Ytkopdlglenejmaa
