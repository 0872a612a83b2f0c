/- Plain laws of sequence guards: the numbers taken, in order. -/
import Derived.Test.YthejjlakmkdkeaaSeqK
namespace Go.Proofs.Ythejjlakmkdkeaa
open Eng

/-- A list of ints in strict order. -/
def Asc (S : List Int) : Prop := S.Pairwise (· < ·)
theorem asc_eq : ∀ (a b : List Int), Asc a → Asc b → (∀ x, x ∈ a ↔ x ∈ b) → a = b
  | [], [], _, _, _ => rfl
  | [], y :: b, _, _, h => by have := (h y).2 (by simp); cases this
  | x :: a, [], _, _, h => by have := (h x).1 (by simp); cases this
  | x :: a, y :: b, ha, hb, h => by
    unfold Asc at ha hb
    rw [List.pairwise_cons] at ha hb
    have hxy : x = y := by
      rcases List.mem_cons.1 ((h x).1 (by simp)) with e | hx
      · exact e
      · rcases List.mem_cons.1 ((h y).2 (by simp)) with e | hy
        · exact e.symm
        · have := ha.1 y hy
          have := hb.1 x hx
          omega
    subst hxy
    rw [asc_eq a b ha.2 hb.2 fun z => ?_]
    constructor
    · intro hz
      rcases List.mem_cons.1 ((h z).1 (List.mem_cons_of_mem _ hz)) with e | hz'
      · have := ha.1 z hz; omega
      · exact hz'
    · intro hz
      rcases List.mem_cons.1 ((h z).2 (List.mem_cons_of_mem _ hz)) with e | hz'
      · have := hb.1 z hz; omega
      · exact hz'
theorem Asc.nodup {S : List Int} (h : Asc S) : S.Nodup := h.imp fun {a b} hab => by omega
def insI (n : Int) : List Int → List Int
  | [] => [n]
  | x :: l => if x < n then x :: insI n l else n :: x :: l
theorem mem_ins {n x : Int} : ∀ {l : List Int}, x ∈ insI n l ↔ x = n ∨ x ∈ l
  | [] => by simp [insI]
  | y :: l => by
    unfold insI
    split
    · rw [List.mem_cons, mem_ins, List.mem_cons]
      constructor
      · rintro (h | h | h)
        · exact .inr (.inl h)
        · exact .inl h
        · exact .inr (.inr h)
      · rintro (h | h | h)
        · exact .inr (.inl h)
        · exact .inl h
        · exact .inr (.inr h)
    · rw [List.mem_cons]
theorem Asc.ins {n : Int} : ∀ {l : List Int}, Asc l → n ∉ l → Asc (insI n l)
  | [], _, _ => by simp [insI, Asc]
  | x :: l, h, hn => by
    unfold Asc at h
    rw [List.pairwise_cons] at h
    have hx : n ≠ x := fun e => hn (by simp [e])
    unfold insI
    split
    · rename_i hlt
      show List.Pairwise _ _
      rw [List.pairwise_cons]
      refine ⟨fun y hy => ?_, Asc.ins h.2 fun hm => hn (List.mem_cons_of_mem _ hm)⟩
      rcases mem_ins.1 hy with rfl | hy
      · exact hlt
      · exact h.1 y hy
    · show List.Pairwise _ _
      rw [List.pairwise_cons]
      refine ⟨fun y hy => ?_, List.pairwise_cons.2 h⟩
      rcases List.mem_cons.1 hy with rfl | hy
      · omega
      · have := h.1 y hy; omega
theorem ins_len (n : Int) : ∀ l : List Int, (insI n l).length = l.length + 1
  | [] => rfl
  | x :: l => by
    unfold insI
    split
    · rw [List.length_cons, ins_len n l, List.length_cons]
    · simp
/-- The first number from k on that is not there. -/
def nextFrom (k : Int) : List Int → Int
  | [] => k
  | x :: l => if x = k then nextFrom (k + 1) l else k
def iota : Nat → List Int
  | 0 => []
  | n + 1 => iota n ++ [(n : Int) + 1]
theorem mem_iota {x : Int} : ∀ {n : Nat}, x ∈ iota n ↔ 1 ≤ x ∧ x ≤ n
  | 0 => by simp [iota]; omega
  | n + 1 => by
    unfold iota
    rw [List.mem_append, mem_iota, List.mem_singleton]; omega
theorem iota_len : ∀ n : Nat, (iota n).length = n
  | 0 => rfl
  | n + 1 => by unfold iota; rw [List.length_append, iota_len n]; rfl
theorem iota_asc : ∀ n : Nat, Asc (iota n)
  | 0 => List.Pairwise.nil
  | n + 1 => by
    unfold iota Asc
    rw [List.pairwise_append]
    refine ⟨iota_asc n, by simp, fun a ha b hb => ?_⟩
    have := (mem_iota.1 ha).2
    simp only [List.mem_singleton] at hb
    omega
theorem nextFrom_append {K : List Int} : ∀ {l : List Int} {k : Int}, nextFrom k (l ++ K) = if l = (List.range l.length).map (fun i => k + (i : Nat)) then nextFrom (k + l.length) K else nextFrom k l
  | [], k => by simp
  | x :: l, k => by
    show (if x = k then nextFrom (k + 1) (l ++ K) else k) = if x :: l = (List.range (l.length + 1)).map (fun i : Nat => k + (i : Int)) then nextFrom (k + ((l.length + 1 : Nat) : Int)) K else (if x = k then nextFrom (k + 1) l else k)
    rw [List.range_succ_eq_map, List.map_cons, List.map_map]
    by_cases h : x = k
    · rw [if_pos h, if_pos h, nextFrom_append]
      have e : (List.range l.length).map ((fun i : Nat => k + (i : Int)) ∘ Nat.succ) = (List.range l.length).map (fun i : Nat => k + 1 + (i : Int)) := List.map_congr_left fun i _ => by
        simp only [Function.comp]; omega
      rw [e]
      have e2 : (x :: l = (k + ((0 : Nat) : Int)) :: (List.range l.length).map (fun i : Nat => k + 1 + (i : Int))) ↔ l = (List.range l.length).map (fun i : Nat => k + 1 + (i : Int)) := by
        rw [List.cons.injEq]; constructor
        · exact fun h => h.2
        · exact fun h' => ⟨by omega, h'⟩
      by_cases h2 : l = (List.range l.length).map (fun i : Nat => k + 1 + (i : Int))
      · rw [if_pos h2, if_pos (e2.2 h2)]
        exact congrArg (fun z => nextFrom z K) (by push_cast; omega)
      · rw [if_neg h2, if_neg (fun h' => h2 (e2.1 h'))]
    · rw [if_neg h, if_neg (fun e => h (by rw [List.cons.injEq] at e; omega)), if_neg h]
theorem iota_range : ∀ n : Nat, iota n = (List.range n).map fun i : Nat => (1 : Int) + (i : Int)
  | 0 => rfl
  | n + 1 => by
    unfold iota
    rw [List.range_succ, List.map_append, iota_range n]
    simp only [List.map_cons, List.map_nil]
    congr 2; omega
theorem nextFrom_iota {n : Nat} {K : List Int} (hK : ∀ x ∈ K, (n : Int) + 1 < x) : nextFrom 1 (iota n ++ K) = n + 1 := by
  rw [nextFrom_append, if_pos (by rw [iota_len]; exact iota_range n), iota_len]
  match K, hK with
  | [], _ => simp only [nextFrom]; omega
  | x :: K, h =>
    unfold nextFrom
    have := h x (by simp)
    rw [if_neg (by omega)]; omega
abbrev Pairs := List (Int × Int)
/-- The first gaps, at most 64. -/
def gapAdd (last n : Int) (out : Pairs) : Pairs := if last + 1 < n ∧ out.length < 64 then out ++ [(last + 1, n - 1)] else out
def gapsF : Int → Pairs → List Int → Pairs
  | _, out, [] => out
  | last, out, n :: S => gapsF n (gapAdd last n out) S
def gapsOf (S : List Int) : Pairs := gapsF 0 [] S
theorem gapsF_full {out : Pairs} (h : out.length = 64) : ∀ {S : List Int} {last : Int}, gapsF last out S = out
  | [], _ => rfl
  | n :: S, last => by
    unfold gapsF gapAdd
    rw [if_neg (by omega)]
    exact gapsF_full h
theorem gapAdd_len {last n : Int} {out : Pairs} (h : out.length ≤ 64) : (gapAdd last n out).length ≤ 64 := by
  unfold gapAdd
  split
  · rw [List.length_append, List.length_singleton]; omega
  · exact h
theorem gapsF_append {K : List Int} : ∀ {S : List Int} {last : Int} {out : Pairs}, gapsF last out (S ++ K) = gapsF ((S.getLast?).getD last) (gapsF last out S) K
  | [], _, _ => rfl
  | n :: S, last, out => by
    show gapsF n (gapAdd last n out) (S ++ K) = _
    rw [gapsF_append]
    have : ((n :: S).getLast?).getD last = (S.getLast?).getD n := by
      cases S with
      | nil => rfl
      | cons y S =>
        obtain ⟨z, hz⟩ : ∃ z, (y :: S).getLast? = some z := by
          cases h : (y :: S).getLast? with
          | none => simp at h
          | some z => exact ⟨z, rfl⟩
        rw [List.getLast?_cons_cons, hz]; rfl
    rw [this]; rfl
theorem iota_last : ∀ n : Nat, ((iota n).getLast?).getD 0 = (n : Int)
  | 0 => rfl
  | n + 1 => by unfold iota; rw [List.getLast?_append]; simp
theorem gapsF_iota : ∀ n : Nat, gapsF 0 [] (iota n) = []
  | 0 => rfl
  | n + 1 => by
    unfold iota
    rw [gapsF_append, gapsF_iota n, iota_last]
    simp [gapsF, gapAdd]
theorem gapsOf_iota (n : Nat) (K : List Int) : gapsOf (iota n ++ K) = gapsF n [] K := by
  unfold gapsOf; rw [gapsF_append, gapsF_iota, iota_last]
/-- The error of Take; the numbers behind it. -/
def takeE (most : Int) (S : List Int) (n : Int) : Int := if n < 1 ∨ most < n then 2 else if n ∈ S then 14 else 0
def takeS (most : Int) (S : List Int) (n : Int) : List Int := if takeE most S n = 0 then insI n S else S
theorem takeE_zero {most : Int} {S : List Int} {n : Int} (h : takeE most S n = 0) : 1 ≤ n ∧ n ≤ most ∧ n ∉ S := by
  unfold takeE at h
  split at h
  · cases h
  · split at h
    · cases h
    · rename_i h1 h2
      exact ⟨by omega, by omega, h2⟩
structure Good (most : Int) (S : List Int) : Prop where
  asc : Asc S
  rng : ∀ x ∈ S, 1 ≤ x ∧ x ≤ most
  m0 : 1 ≤ most
  m1 : most ≤ 1048576
theorem Good.new {most : Int} (h : 1 ≤ most) (h' : most ≤ 1048576) : Good most [] := ⟨List.Pairwise.nil, fun _ h => (by cases h), h, h'⟩
theorem Good.take {most : Int} {S : List Int} (h : Good most S) (n : Int) : Good most (takeS most S n) := by
  unfold takeS
  split
  · rename_i he
    obtain ⟨h1, h2, h3⟩ := takeE_zero he
    refine ⟨h.asc.ins h3, fun x hx => ?_, h.m0, h.m1⟩
    rcases mem_ins.1 hx with rfl | hx
    · exact ⟨h1, h2⟩
    · exact h.rng x hx
  · exact h
theorem takeS_len (most : Int) (S : List Int) (n : Int) : (takeS most S n).length ≤ S.length + 1 := by
  unfold takeS
  split
  · rw [ins_len]; omega
  · omega

/-! ## The program's state -/

abbrev keysL (l : IMap) : List Int := l.map (·.1)
/-- The numbers up to low, and those of the map. -/
structure Rep (most : Int) (S : List Int) (low : Nat) (l : IMap) : Prop where
  good : Good most S
  mem : ∀ x, x ∈ S ↔ (1 ≤ x ∧ x ≤ low) ∨ x ∈ keysL l
  nodup : (keysL l).Nodup
  vals : ∀ p ∈ l, p.2 = true
  above : ∀ x ∈ keysL l, (low : Int) < x
  lo : (low : Int) ≤ most
theorem Rep.low_le {most : Int} {S : List Int} {low : Nat} {l : IMap} (h : Rep most S low l) : (low : Int) ≤ 1048576 := by have := h.lo; have := h.good.m1; omega
theorem Rep.perm {most : Int} {S : List Int} {low : Nat} {l : IMap} (h : Rep most S low l) : S.Perm (iota low ++ keysL l) := by
  refine (List.perm_ext_iff_of_nodup h.good.asc.nodup ?_).2 fun x => ?_
  · rw [List.nodup_append]
    refine ⟨(iota_asc low).nodup, h.nodup, fun a ha b hb e => ?_⟩
    have := (mem_iota.1 ha).2
    have := h.above b hb
    omega
  · rw [h.mem, List.mem_append, mem_iota]
theorem Rep.len {most : Int} {S : List Int} {low : Nat} {l : IMap} (h : Rep most S low l) : S.length = low + l.length := by
  rw [h.perm.length_eq, List.length_append, iota_len, List.length_map]
theorem sort_asc {l : List Int} (h : l.Nodup) : Asc (l.mergeSort leI) := by
  have tr : ∀ a b c : Int, leI a b = true → leI b c = true → leI a c = true := fun a b c h1 h2 => by simp only [leI, decide_eq_true_eq] at *; exact Int.le_trans h1 h2
  have to : ∀ a b : Int, (leI a b || leI b a) = true := fun a b => by simp only [leI, Bool.or_eq_true, decide_eq_true_eq]; exact Int.le_total a b
  have h1 := List.pairwise_mergeSort tr to l
  have h2 : (l.mergeSort leI).Nodup := (List.mergeSort_perm l leI).nodup_iff.2 h
  exact (h1.and h2).imp fun {a b} ⟨h3, h4⟩ => by simp only [leI, decide_eq_true_eq] at h3; omega
theorem Rep.form {most : Int} {S : List Int} {low : Nat} {l : IMap} (h : Rep most S low l) : S = iota low ++ (keysL l).mergeSort leI := by
  refine asc_eq _ _ h.good.asc ?_ fun x => ?_
  · unfold Asc
    rw [List.pairwise_append]
    refine ⟨iota_asc low, sort_asc h.nodup, fun a ha b hb => ?_⟩
    have := (mem_iota.1 ha).2
    have := h.above b ((List.mergeSort_perm _ _).mem_iff.1 hb)
    omega
  · rw [h.mem, List.mem_append, mem_iota, (List.mergeSort_perm _ _).mem_iff]
theorem Rep.gaps {most : Int} {S : List Int} {low : Nat} {l : IMap} (h : Rep most S low l) : gapsOf S = gapsF low [] ((keysL l).mergeSort leI) := by
  conv => lhs; rw [h.form]
  exact gapsOf_iota low _
theorem Rep.next {most : Int} {S : List Int} {low : Nat} {l : IMap} (h : Rep most S low l) (hf : (low : Int) + 1 ∉ keysL l) : nextFrom 1 S = low + 1 := by
  rw [h.form]
  refine nextFrom_iota fun x hx => ?_
  have hx' := (List.mergeSort_perm _ _).mem_iff.1 hx
  have h1 := h.above x hx'
  have h2 : x ≠ low + 1 := fun e => hf (by rw [← e]; exact hx')
  omega
theorem lookI_mem {k : Int} : ∀ {l : IMap}, (mlook k l).isSome = true ↔ k ∈ keysL l
  | [] => by simp [mlook]
  | p :: l => by
    unfold mlook
    by_cases h : k = p.1
    · rw [if_pos h]; simp [h]
    · rw [if_neg h, lookI_mem (l := l)]
      simp [h]
theorem lookI_val {k : Int} : ∀ {l : IMap}, (∀ p ∈ l, p.2 = true) → (mlook k l).getD false = decide (k ∈ keysL l)
  | [], _ => by simp [mlook]
  | p :: l, h => by
    unfold mlook
    by_cases e : k = p.1
    · rw [if_pos e, h p (by simp)]; simp [e]
    · rw [if_neg e, lookI_val fun q hq => h q (List.mem_cons_of_mem _ hq)]
      simp [e]
theorem putI_mem {k x : Int} : ∀ {l : IMap}, x ∈ keysL (mput k true l) ↔ x = k ∨ x ∈ keysL l
  | [] => by simp [mput]
  | p :: l => by
    unfold mput
    by_cases e : k = p.1
    · rw [if_pos e]; simp [e]
    · rw [if_neg e]
      show x ∈ p.1 :: keysL (mput k true l) ↔ x = k ∨ x ∈ p.1 :: keysL l
      rw [List.mem_cons, putI_mem, List.mem_cons]
      constructor
      · rintro (h | h | h)
        · exact .inr (.inl h)
        · exact .inl h
        · exact .inr (.inr h)
      · rintro (h | h | h)
        · exact .inr (.inl h)
        · exact .inl h
        · exact .inr (.inr h)
theorem putI_nodup {k : Int} : ∀ {l : IMap}, (keysL l).Nodup → (keysL (mput k true l)).Nodup
  | [], _ => by simp [mput]
  | p :: l, h => by
    have h' : p.1 ∉ keysL l ∧ (keysL l).Nodup := List.nodup_cons.1 h
    unfold mput
    by_cases e : k = p.1
    · rw [if_pos e]
      show (k :: keysL l).Nodup
      rw [e]; exact List.nodup_cons.2 h'
    · rw [if_neg e]
      show (p.1 :: keysL (mput k true l)).Nodup
      refine List.nodup_cons.2 ⟨fun hm => ?_, putI_nodup h'.2⟩
      rcases putI_mem.1 hm with h1 | h1
      · exact e h1.symm
      · exact h'.1 h1
theorem putI_vals {k : Int} : ∀ {l : IMap}, (∀ p ∈ l, p.2 = true) → ∀ p ∈ mput k true l, p.2 = true
  | [], _, p, hp => by simp [mput] at hp; rw [hp]
  | q :: l, h, p, hp => by
    unfold mput at hp
    by_cases e : k = q.1
    · rw [if_pos e] at hp
      rcases List.mem_cons.1 hp with rfl | hp
      · rfl
      · exact h p (List.mem_cons_of_mem _ hp)
    · rw [if_neg e] at hp
      rcases List.mem_cons.1 hp with rfl | hp
      · exact h _ (by simp)
      · exact putI_vals (fun r hr => h r (List.mem_cons_of_mem _ hr)) p hp
theorem delI_sub {k : Int} : ∀ {l : IMap} {p : Int × Bool}, p ∈ mdel k l → p ∈ l
  | [], _, h => by cases h
  | q :: l, p, h => by
    unfold mdel at h
    by_cases e : k = q.1
    · rw [if_pos e] at h; exact List.mem_cons_of_mem _ h
    · rw [if_neg e] at h
      rcases List.mem_cons.1 h with rfl | h
      · simp
      · exact List.mem_cons_of_mem _ (delI_sub h)
theorem delI_mem {k x : Int} : ∀ {l : IMap}, (keysL l).Nodup → (x ∈ keysL (mdel k l) ↔ x ≠ k ∧ x ∈ keysL l)
  | [], _ => by simp [mdel]
  | p :: l, h => by
    have h' : p.1 ∉ keysL l ∧ (keysL l).Nodup := List.nodup_cons.1 h
    unfold mdel
    by_cases e : k = p.1
    · rw [if_pos e]
      show x ∈ keysL l ↔ x ≠ k ∧ x ∈ p.1 :: keysL l
      rw [List.mem_cons]
      constructor
      · intro hx
        exact ⟨fun e2 => h'.1 (by rw [← e, ← e2]; exact hx), .inr hx⟩
      · rintro ⟨h1, h2 | h2⟩
        · exact absurd (h2.trans e.symm) h1
        · exact h2
    · rw [if_neg e]
      show x ∈ p.1 :: keysL (mdel k l) ↔ x ≠ k ∧ x ∈ p.1 :: keysL l
      rw [List.mem_cons, delI_mem h'.2, List.mem_cons]
      constructor
      · rintro (h1 | ⟨h1, h2⟩)
        · exact ⟨fun e2 => e (e2.symm.trans h1), .inl h1⟩
        · exact ⟨h1, .inr h2⟩
      · rintro ⟨h1, h2 | h2⟩
        · exact .inl h2
        · exact .inr ⟨h1, h2⟩
theorem delI_nodup {k : Int} : ∀ {l : IMap}, (keysL l).Nodup → (keysL (mdel k l)).Nodup
  | [], h => h
  | p :: l, h => by
    have h' : p.1 ∉ keysL l ∧ (keysL l).Nodup := List.nodup_cons.1 h
    unfold mdel
    by_cases e : k = p.1
    · rw [if_pos e]; exact h'.2
    · rw [if_neg e]
      show (p.1 :: keysL (mdel k l)).Nodup
      exact List.nodup_cons.2 ⟨fun hm => h'.1 ((delI_mem h'.2).1 hm).2, delI_nodup h'.2⟩
theorem delI_len {k : Int} : ∀ {l : IMap}, k ∈ keysL l → (mdel k l).length + 1 = l.length
  | [], h => by cases h
  | p :: l, h => by
    unfold mdel
    by_cases e : k = p.1
    · rw [if_pos e]; rfl
    · rw [if_neg e]
      have h2 : k ∈ keysL l := by
        rcases List.mem_cons.1 (show k ∈ p.1 :: keysL l from h) with h | h
        · exact absurd h e
        · exact h
      rw [List.length_cons, delI_len h2, List.length_cons]
/-- A number is put into the map. -/
theorem Rep.put {most : Int} {S : List Int} {low : Nat} {l : IMap} {n : Int} (h : Rep most S low l) (he : takeE most S n = 0) : Rep most (insI n S) low (mput n true l) := by
  obtain ⟨h1, h2, h3⟩ := takeE_zero he
  have hg := h.good.take n
  unfold takeS at hg
  rw [if_pos he] at hg
  refine ⟨hg, fun x => ?_, putI_nodup h.nodup, putI_vals h.vals, fun x hx => ?_, h.lo⟩
  · rw [mem_ins, h.mem, putI_mem]
    constructor
    · rintro (h | h | h)
      · exact .inr (.inl h)
      · exact .inl h
      · exact .inr (.inr h)
    · rintro (h | h | h)
      · exact .inr (.inl h)
      · exact .inl h
      · exact .inr (.inr h)
  · rcases putI_mem.1 hx with rfl | hx
    · have : ¬ x ≤ low := fun hl => h3 ((h.mem x).2 (.inl ⟨h1, hl⟩))
      omega
    · exact h.above x hx
/-- The next number moves out of the map. -/
theorem Rep.step {most : Int} {S : List Int} {low : Nat} {l : IMap} (h : Rep most S low l) (hm : (low : Int) + 1 ∈ keysL l) : Rep most S (low + 1) (mdel ((low : Int) + 1) l) := by
  have hS : (low : Int) + 1 ∈ S := (h.mem _).2 (.inr hm)
  refine ⟨h.good, fun x => ?_, delI_nodup h.nodup, fun p hp => h.vals p (delI_sub hp), fun x hx => ?_, ?_⟩
  · rw [h.mem, delI_mem h.nodup]
    push_cast
    constructor
    · rintro (h1 | h1)
      · exact .inl ⟨h1.1, by omega⟩
      · by_cases e : x = (low : Int) + 1
        · exact .inl ⟨by omega, by omega⟩
        · exact .inr ⟨e, h1⟩
    · rintro (h1 | h1)
      · by_cases e : x = (low : Int) + 1
        · exact .inr (by rw [e]; exact hm)
        · exact .inl ⟨h1.1, by omega⟩
      · exact .inr h1.2
  · obtain ⟨h1, h2⟩ := (delI_mem h.nodup).1 hx
    have := h.above x h2
    push_cast; omega
  · have := (h.good.rng _ hS).2
    push_cast; omega
theorem Rep.seen {most : Int} {S : List Int} {low : Nat} {l : IMap} (h : Rep most S low l) {n : Int} (h1 : 1 ≤ n) : decide (n ∈ S) = (decide (n ≤ (low : Int)) || (mlook n l).getD false) := by
  rw [lookI_val h.vals]
  by_cases a : n ≤ (low : Int)
  · rw [decide_eq_true a, decide_eq_true ((h.mem n).2 (.inl ⟨h1, a⟩))]; rfl
  · rw [decide_eq_false a, Bool.false_or]
    exact decide_eq_decide.2 (by rw [h.mem]; constructor; · rintro (h | h); exact absurd h.2 a; exact h
                                 · exact .inr)
theorem Rep.new {most : Int} (h : 1 ≤ most) (h' : most ≤ 1048576) : Rep most [] 0 [] := ⟨.new h h', fun x => (by simp; omega), List.nodup_nil, fun _ h => (by cases h), fun _ h => (by cases h), by omega⟩

end Go.Proofs.Ythejjlakmkdkeaa

