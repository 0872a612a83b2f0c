/- maps.Keys and slices.Sorted at a map whose keys are ints: the contracts of the shelf, in the words of the engine. -/
import Derived.Test.YthejjlakmkdkeaaData
import Derived.Test.YthejjlakmkdkeaaEngSort
import Derived.Test.YthejjlakmkdkeaaEngOwn
import Derived.Test.YthejjlakmkdkeaaFns
import Derived.Test.YthejjlakmkdkeaaShelf
namespace Go.Proofs.Ythejjlakmkdkeaa
open Eng

abbrev iK (i : Int) : Value := .int .i64 i
abbrev bV (b : Bool) : Value := .bool b
abbrev IMap := List (Int × Bool)
def MT : TypeId := 38
section
open Go.Maps Go.Shelf
/-- A block that nobody spoke of is owned. -/
theorem Eng.Conc.add {g : Gh} {W : World} {m : Mem} {σ : Sig} {i : Nat} {φ : Chk} {o : Obj} (h : Conc g W m σ) (hi : W.heap[i]? = some o) (ho : φ o) (hm : m i = none) (hF : g.F i = none) (hσ : ∀ c ∈ σ, c.1 ≠ i) : Conc g W m ((i, φ) :: σ) :=
  ⟨h.os, h.tape, h.output, h.base, h.imm, fun k x hk => let ⟨a, b, c⟩ := h.frg k x hk; ⟨a, b, fun y hy => by
      rcases List.mem_cons.1 hy with rfl | hy
      · exact fun e => by simp only at e; subst e; rw [hF] at hk; cases hk
      · exact c y hy⟩,
    fun c hc => by
      rcases List.mem_cons.1 hc with rfl | hc
      · exact ⟨⟨o, hi, ho⟩, hm⟩
      · exact h.own c hc,
    by
      rw [List.map_cons, List.nodup_cons]
      exact ⟨fun hx => by obtain ⟨c, hc, e⟩ := List.mem_map.1 hx; exact hσ c hc e, h.nodup⟩⟩
theorem Eng.Conc.beyond {g : Gh} {W W' : World} {m : Mem} {σ : Sig} (h : Conc g W m σ) (hb : Go.RowKit.Below W.heap.size W W') : Conc g W' m σ ∧ ∀ i, W.heap.size ≤ i → m i = none ∧ g.F i = none ∧ ∀ c ∈ σ, c.1 ≠ i := by
  have hlt : ∀ k o, W.heap[k]? = some o → k < W.heap.size := fun k o hk => (Array.getElem?_eq_some_iff.1 hk).1
  refine ⟨h.of_heap hb.os hb.tape hb.output fun k o hk => by rw [hb.block k (hlt k o hk)]; exact hk, fun i hi => ⟨?_, ?_, fun c hc e => ?_⟩⟩
  · cases hm : m i with
    | none => rfl
    | some o => have := hlt _ _ (h.imm _ _ hm); omega
  · cases hm : g.F i with
    | none => rfl
    | some o => have := hlt _ _ (h.frg _ _ hm).1; omega
  · obtain ⟨⟨o, ho, _⟩, _⟩ := h.own c hc
    have := hlt _ _ ho
    omega
def anyR (_ : Value) : Option (DataW Unit × List MemPlace) := some (.nil, [])
theorem insert_perm {H : Type} (x : Lit × DataW H) : ∀ l : List (Lit × DataW H), (DataW.insert x l).Perm (x :: l)
  | [] => .refl _
  | y :: r => by
    unfold DataW.insert
    split
    · exact .refl _
    · exact ((insert_perm x r).cons y).trans (.swap _ _ _)
theorem foldr_perm {H : Type} : ∀ l : List (Lit × DataW H), (l.foldr DataW.insert []).Perm l
  | [] => .refl _
  | x :: l => (insert_perm x _).trans ((foldr_perm l).cons x)
theorem keys_eq : ∀ (es : List MapEntry) (l : IMap), es.map (fun e => (e.key, e.val)) = l.map (fun p => (iK p.1, bV p.2)) → es.map (·.key) = l.map fun p => iK p.1
  | [], [], _ => rfl
  | e :: es, p :: l, h => by
    simp only [List.map_cons, List.cons.injEq, Prod.mk.injEq] at h ⊢
    exact ⟨h.1.1, keys_eq es l h.2⟩
  | [], _ :: _, h => by cases h
  | _ :: _, [], h => by cases h
def keyI : Value → Int
  | .int _ a => a
  | _ => 0
theorem keys_sorted {m : Mem} {B M : Nat} {l : IMap} {τ : Sig} (hnd : (l.map (·.1)).Nodup) (hwf : ∀ p ∈ l, (Lit.int .i64 p.1).wf = true) (hl : l.length ≤ 1000000) :
    CallsS Try.prog 23 [.func (.func 27) #[] #[.pointer (some ⟨B, 0, none⟩)]].toArray ((B, Cells MT [.map (some M)]) :: (M, MapC iK bV l) :: τ) m fun r σ' m' => m' = m ∧ ∃ σk,
      σ' = σk ++ (B, Cells MT [.map (some M)]) :: (M, MapC iK bV l) :: τ ∧ OwnS 3 1 r (((l.map (·.1)).mergeSort leI).flatMap intE) σk := by
  intro g W hC
  obtain ⟨⟨ob, hob, rfl⟩, _⟩ := hC.own _ (List.mem_cons_self ..)
  obtain ⟨⟨om, hom, bs, clock, ⟨es, rfl, h1, h2⟩, h3, h4⟩, _⟩ := hC.own _ (List.mem_cons_of_mem _ (List.mem_cons_self ..))
  simp only at hob hom
  have hkeys := keys_eq _ _ h1
  have hlen : es.size = l.length := by have := congrArg List.length h1; simpa using this
  have hkey : ∀ x ∈ es.toList, ∃ a : Int, x.key = iK a ∧ (Lit.int .i64 a).wf = true := fun x hx => by
    have : x.key ∈ es.toList.map (·.key) := List.mem_map.2 ⟨x, hx, rfl⟩
    rw [hkeys] at this
    obtain ⟨p, hp, e⟩ := List.mem_map.1 this
    exact ⟨p.1, e.symm, hwf p hp⟩
  have hrd : ∀ x ∈ es.toList, ∀ a : Int, x.key = iK a → (Lit.int .i64 a).wf = true → Go.WideElems.rd Try.prog 3 anyR x = some (.int .i64 a, .nil) := fun x _ a ha hw => by
    unfold Go.WideElems.rd
    rw [ha, Maps.keyOf_int_mk (P := Try.prog) (k := 3) (q := .i64) (by kernel_rfl) hw]; rfl
  have hown : W.ownsMap Try.prog 3 anyR M es.size (.map ((es.toList.map (Go.WideElems.rg Try.prog 3 anyR)).foldr DataW.insert [])) := by
    refine ⟨es, clock, hom, ⟨by unfold maxLen; omega, ⟨fun x hx => h4 _ (by rw [← h2]; exact List.mem_map.2 ⟨x, hx, rfl⟩), by rw [h2]; exact h3, ?_⟩, fun x hx => ?_⟩, Nat.le_refl _, rfl⟩
    · rw [hkeys]
      have : (l.map fun p => iK p.1) = (l.map (·.1)).map iK := by rw [List.map_map]; rfl
      rw [this]
      exact List.pairwise_map.2 (hnd.imp fun {a b} hab e => hab (by simpa [iK] using e))
    · obtain ⟨a, ha, hw⟩ := hkey x hx
      exact ⟨_, hrd x hx a ha hw⟩
  have hsz : Maps.size (H := Unit) (.map ((es.toList.map (Go.WideElems.rg Try.prog 3 anyR)).foldr DataW.insert [])) = l.length := by
    rw [Maps.size_eq, (foldr_perm _).length_eq, List.length_map, Array.length_toList, hlen]
  have hik : (intKeys (H := Unit) (.map ((es.toList.map (Go.WideElems.rg Try.prog 3 anyR)).foldr DataW.insert []))).Perm (l.map (·.1)) := by
    unfold intKeys
    refine ((foldr_perm _).map _).trans ?_
    rw [List.map_map]
    have e : es.toList.map ((fun p => Go.intOf p.1) ∘ Go.WideElems.rg Try.prog 3 anyR) = es.toList.map fun x => keyI x.key := List.map_congr_left fun x hx => by
      obtain ⟨a, ha, hw⟩ := hkey x hx
      show Go.intOf (Go.WideElems.rg Try.prog 3 anyR x).1 = _
      rw [Go.WideElems.rg_of (hrd x hx a ha hw), ha]; rfl
    rw [e]
    have e2 : es.toList.map (fun x => keyI x.key) = (es.toList.map (·.key)).map keyI := by rw [List.map_map]; rfl
    rw [e2, hkeys, List.map_map]
    exact .of_eq (List.map_congr_left fun p _ => rfl)
  have hseq : SeqGives Fence.wide 2 Try.prog 27 #[.pointer (some ⟨B, 0, none⟩)] encZ (fun ss => ss.Perm (intKeys (.map ((es.toList.map (Go.WideElems.rg Try.prog 3 anyR)).foldr DataW.insert [])))) (Maps.size (H := Unit) (.map ((es.toList.map (Go.WideElems.rg Try.prog 3 anyR)).foldr DataW.insert []))) W :=
    AnyZI.keys_gives (ρ := Try.keysA_ren) { Try.keysA with } Fence.wide _ trivial rfl (by omega) B M es.size _ W (Array.getElem?_eq_some_iff.1 hob).1 (by simp [World.cell?, hob]) hown
  have cS := AnyZI.sorted_in Try.sortedA Fence.wide 5 trivial trivial trivial trivial rfl (by omega) (Try.sortsA _) (enters_of Try.func26 (by kernel_rfl) rfl) 27 #[.pointer (some ⟨B, 0, none⟩)] trivial (enters_of Try.func27 (by kernel_rfl) rfl) _ _ (by rw [hsz]; unfold maxLen; omega) (by rw [hsz]; omega) _ hseq
  change CallsIn _ _ Try.prog 23 _ _ _ at cS
  refine (callsIn_wide.1 cS).mono ?_
  rintro e W' ⟨v, ss, rfl, hS, hrow, hnil, hb⟩
  obtain ⟨hC', hbey⟩ := hC.beyond hb
  have hsort : ss.mergeSort leI = (l.map (·.1)).mergeSort leI := mergeSort_of_perm_i (hS.trans hik)
  have hmap : ∀ z : List Int, z.map encZ = z.flatMap intE := fun z => by
    induction z with
    | nil => rfl
    | cons a z ih => rw [List.map_cons, ih]; rfl
  rw [show ((ss.mergeSort fun x y => decide (x ≤ y)).map encZ) = ((l.map (·.1)).mergeSort leI).flatMap intE by rw [← hmap, ← hsort]] at hrow
  obtain ⟨hx, h | ⟨gb, cap, cur, rfl, hbase, hgb, r1, r2, r3, r4⟩⟩ := hrow
  · obtain ⟨rfl, h0⟩ := h
    have : ((l.map (·.1)).mergeSort leI).flatMap intE = [] := List.eq_nil_of_length_eq_zero (by rw [hx, h0])
    rw [this]
    exact ⟨_, _, m, rfl, hC', Le.refl m, rfl, [], rfl, .nil⟩
  · obtain ⟨b1, b2, b3⟩ := hbey gb hbase
    refine ⟨_, (gb, Row 3 1 cap (((l.map (·.1)).mergeSort leI).flatMap intE)) :: _, m, rfl, hC'.add hgb ?_ b1 b2 b3, Le.refl m, rfl, [_], rfl, .row gb ss.length cap _ hx r1 r2⟩
    exact ⟨cur, rfl, r3, r2, Nat.le_trans (Nat.le_of_eq hx) (by omega), by rw [hx]; exact r4⟩
end

end Go.Proofs.Ythejjlakmkdkeaa

