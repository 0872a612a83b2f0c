/- The engine, part 8: the library's sort, called on a list that the running code owns. -/
import Derived.Test.YtkopdlglenejmaaEngIter
import Derived.Sort.Grow
import Derived.Sort.EncStr
namespace Go.Proofs.Ytkopdlglenejmaa
namespace Eng
open Go.Sort
section
variable {α : Type} [Inhabited α] {enc : α → Value} {P : Program} {m : Mem}

theorem CallsS.sorted {F : FuncId} {B e cap cap' : Nat} {ss ss' : List α} {τ : Sig} (hl : ss'.length = ss.length)
    (h : ∀ w : World, Holds enc w B 0 ss.toArray → B < w.heap.size → Calls P F #[.slice (some ⟨B, 0, none⟩) ss.length cap'] w fun e w' => e = .returned (.tuple #[]) ∧ ∃ n os, w' = grow (putRow enc (Sort.ahead w n) B 0 ss'.toArray) os) :
    CallsS P F #[.slice (some ⟨B, 0, none⟩) ss.length cap'] ((B, Row e 1 cap (ss.map enc)) :: τ) m fun _ σ' m' => σ' = (B, Row e 1 cap (ss'.map enc)) :: τ ∧ m' = m := by
  intro g W hC
  obtain ⟨⟨o, ho, cur, rfl, h1, h2, h3, h4⟩, _⟩ := hC.own _ (List.mem_cons_self ..)
  simp only at ho
  rw [List.length_map] at h3 h4
  have hlt := (Array.getElem?_eq_some_iff.1 ho).1
  have hget : ∀ j, j < ss.length → cur[j]? = some (enc (ss.toArray[j]!)) := fun j hj => by
    have e1 := congrArg (fun z => z[j]?) h4
    simp only [List.getElem?_take, if_pos hj, List.getElem?_map, Array.getElem?_toList] at e1
    rw [e1, List.getElem?_eq_getElem hj]
    simp [hj]
  have hH : Holds enc W B 0 ss.toArray := fun j hj => by
    have hj' : j < ss.length := by simpa using hj
    refine ⟨?_, ?_⟩
    · simp only [World.cell?, ho, Nat.zero_add]
      exact hget j hj'
    · simp [World.frozen?, ho]
  refine (h W hH hlt).mono fun e' W' ⟨he, n, os, hw⟩ => ?_
  have hB : W'.heap[B]? = some (.cells (putCells enc 0 ss'.toArray cur) e (0, 0)) := by
    rw [hw]
    show ((W.heap.modify B (onCells (putCells enc 0 ss'.toArray))) ++ os)[B]? = _
    rw [Array.getElem?_append_left (by simpa using hlt), Array.getElem?_modify, if_pos rfl, ho]
    rfl
  refine ⟨.tuple #[], _, m, he, hC.turn (W' := W') (ψ := Row e 1 cap (ss'.map enc)) _ ?_ (by rw [hw]; rfl) (by rw [hw]; rfl) (by rw [hw]; rfl) hB (fun k x hk hx => ?_), Le.refl m, rfl, rfl⟩
  · refine ⟨_, rfl, by simp [putCells, h1], h2, by rw [List.length_map, hl]; exact h3, ?_⟩
    apply List.ext_getElem?
    intro j
    rw [List.length_map, List.getElem?_take, Array.getElem?_toList, List.getElem?_map]
    by_cases hj : j < ss'.length
    · rw [if_pos hj]
      unfold putCells
      rw [Array.getElem?_mapIdx, hget j (by omega), Option.map_some, if_pos ⟨by omega, by simpa using hj⟩, List.getElem?_eq_getElem hj]
      simp [hj]
    · rw [if_neg hj, List.getElem?_eq_none (by omega)]; rfl
  · rw [hw]
    have hk' := (Array.getElem?_eq_some_iff.1 hx).1
    show ((W.heap.modify B (onCells (putCells enc 0 ss'.toArray))) ++ os)[k]? = _
    rw [Array.getElem?_append_left (by simpa using hk'), Array.getElem?_modify, if_neg (fun e => hk e.symm)]
    exact hx
end
end Eng
end Go.Proofs.Ytkopdlglenejmaa
