/- What the two ledgers list is the same. -/
import Derived.Test.YtadnflbohflckaaLedA
namespace Go.Proofs.Ytadnflbohflckaa
open Eng

theorem klt_irrefl (a : ByteArray) : klt a a = false := bless_irrefl _
/-- Two lists in strict order with the same members are equal. -/
theorem srt_eq : ∀ (a b : List ByteArray), a.Pairwise (fun x y => klt x y = true) → b.Pairwise (fun x y => klt x y = true) → (∀ x, x ∈ a ↔ x ∈ b) → a = b
  | [], [], _, _, _ => rfl
  | [], y :: b, _, _, h => by have := (h y).2 (by simp); cases this
  | x :: a, [], _, _, h => by have := (h x).1 (by simp); cases this
  | x :: a, y :: b, ha, hb, h => by
    rw [List.pairwise_cons] at ha hb
    have hxy : x = y := by
      rcases List.mem_cons.1 ((h x).1 (by simp)) with e | hx
      · exact e
      · rcases List.mem_cons.1 ((h y).2 (by simp)) with e | hy
        · exact e.symm
        · have := klt_trans (ha.1 y hy) (hb.1 x hx)
          rw [klt_irrefl] at this; cases this
    subst hxy
    rw [srt_eq a b ha.2 hb.2 fun z => ?_]
    constructor
    · intro hz
      rcases List.mem_cons.1 ((h z).1 (List.mem_cons_of_mem _ hz)) with e | hz'
      · subst e
        have := ha.1 z hz
        rw [klt_irrefl] at this; cases this
      · exact hz'
    · intro hz
      rcases List.mem_cons.1 ((h z).2 (List.mem_cons_of_mem _ hz)) with e | hz'
      · subst e
        have := hb.1 z hz
        rw [klt_irrefl] at this; cases this
      · exact hz'
theorem mlook_mem {k : ByteArray} : ∀ {l : Acc}, (mlook k l).isSome = true ↔ k ∈ l.map (·.1)
  | [] => by simp [mlook]
  | p :: l => by
    unfold mlook
    by_cases h : k = p.1
    · rw [if_pos h]; simp [h]
    · rw [if_neg h, mlook_mem (l := l)]
      simp [h]
theorem mlook_of_mem {p : ByteArray × Int} : ∀ {l : Acc}, (l.map (·.1)).Nodup → p ∈ l → mlook p.1 l = some p.2
  | [], _, h => by cases h
  | q :: l, hnd, h => by
    rw [List.map_cons, List.nodup_cons] at hnd
    unfold mlook
    rcases List.mem_cons.1 h with rfl | h
    · rw [if_pos rfl]
    · rw [if_neg (fun e => hnd.1 (by rw [← e]; exact List.mem_map.2 ⟨p, h, rfl⟩)), mlook_of_mem hnd.2 h]
theorem srt_nodup {ks : List ByteArray} (h : ks.Pairwise (fun x y => klt x y = true)) : ks.Nodup := h.imp fun {a b} hab => klt_ne hab
theorem sortK_strict {ks : List ByteArray} (h : ks.Nodup) : (sortK ks).Pairwise (fun x y => klt x y = true) := by
  have h1 := sortK_sorted ks
  have h2 : (sortK ks).Nodup := (sortK_perm ks).nodup_iff.2 h
  exact (h1.and h2).imp fun {a b} ⟨h3, h4⟩ => klt_total h3 (fun e => h4 e.symm)
theorem all_same {la L : Acc} {ks : List ByteArray} (hlook : ∀ k, mlook k la = mlook k L) (hs : Srt L) (hnd : (la.map (·.1)).Nodup) (hk : ks.Perm (la.map (·.1))) : nz la (sortK ks) = nzR L := by
  have hkn : ks.Nodup := hk.nodup_iff.2 hnd
  have e : sortK ks = L.map (·.1) := srt_eq _ _ (sortK_strict hkn) hs fun x => by
    rw [(sortK_perm ks).mem_iff, hk.mem_iff, ← mlook_mem, ← mlook_mem, hlook]
  rw [e]
  unfold nz nzR
  have hLn := srt_nodup hs
  have hb : ∀ p ∈ L, bal p.1 la = p.2 := fun p hp => by
    unfold bal
    rw [hlook, mlook_of_mem hLn hp]; rfl
  rw [List.filter_map, List.map_map]
  have e1 : L.filter ((fun k => decide (bal k la ≠ 0)) ∘ fun p => p.1) = L.filter fun p => decide (p.2 ≠ 0) := List.filter_congr fun p hp => by simp only [Function.comp, hb p hp]
  rw [e1]
  conv => rhs; rw [← List.map_id (L.filter fun p => decide (p.2 ≠ 0))]
  exact List.map_congr_left fun p hp => by
    simp only [Function.comp, hb p (List.mem_filter.1 hp).1]; rfl
theorem mput_keys (k : ByteArray) (v : Int) : ∀ {l : Acc}, (l.map (·.1)).Nodup → ((mput k v l).map (·.1)).Nodup
  | [], _ => by simp [mput]
  | p :: l, h => by
    rw [List.map_cons, List.nodup_cons] at h
    unfold mput
    by_cases e : k = p.1
    · rw [if_pos e, List.map_cons, List.nodup_cons]
      exact ⟨by rw [e]; exact h.1, h.2⟩
    · rw [if_neg e, List.map_cons, List.nodup_cons]
      refine ⟨fun hm => ?_, mput_keys k v h.2⟩
      rw [← mlook_mem, mput_look, if_neg (fun e2 => e e2.symm), mlook_mem] at hm
      exact h.1 hm

end Go.Proofs.Ytadnflbohflckaa

