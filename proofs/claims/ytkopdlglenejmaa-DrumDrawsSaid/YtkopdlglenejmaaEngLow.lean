/- The engine, part 11: a region that draws its order, of which the last operations change memory and do not wait for some that only read what they leave alone (an exchange of two elements). -/
import Derived.Test.YtkopdlglenejmaaEngInt
namespace Go.Proofs.Ytkopdlglenejmaa
namespace Eng
section
variable {P : Program} {n : Nat} {Q : APost} {f : Fr} {σ : Sig} {m : Mem}

/-- Whatever order is picked from here on: S1 holds behind every operation, S0 until operation k0 has come up. -/
def wpAnyM (P : Program) (ops : Array Oper) (Q : Exit → Act → World → Prop) (S0 S1 : World → Prop) (k0 : Nat) : Nat → Array Bool → Act → World → Prop
  | 0, listed, a, w => Region.ready .any ops listed = [] ∧ Q .normal a w
  | fuel + 1, listed, a, w =>
    (Region.ready .any ops listed = [] → Q .normal a w) ∧
    ∀ i ∈ Region.ready .any ops listed, wpOp P ops Q i (fun a' w' => S1 w' ∧ ((listed.setIfInBounds i true).getD k0 false = false → S0 w') ∧ wpAnyM P ops Q S0 S1 k0 fuel (listed.setIfInBounds i true) a' w') a w
theorem wpAny_of_M {ops : Array Oper} {Q : Exit → Act → World → Prop} {S0 S1 : World → Prop} {k0 : Nat} : ∀ (fuel : Nat) (listed : Array Bool) (a : Act) (w : World), wpAnyM P ops Q S0 S1 k0 fuel listed a w → wpAny P .any ops Q fuel listed a w
  | 0, _, _, _, h => h
  | fuel + 1, _, _, _, h => ⟨h.1, fun i hi => wpOp_mono (fun a' w' h' => wpAny_of_M fuel _ a' w' h'.2.2) (h.2 i hi)⟩
theorem wpAnyM_mono {ops : Array Oper} {Q : Exit → Act → World → Prop} {S0 S1 S0' S1' : World → Prop} {k0 : Nat} (h0 : ∀ w, S0 w → S0' w) (h1 : ∀ w, S1 w → S1' w) : ∀ (fuel : Nat) (listed : Array Bool) (a : Act) (w : World), wpAnyM P ops Q S0 S1 k0 fuel listed a w → wpAnyM P ops Q S0' S1' k0 fuel listed a w
  | 0, _, _, _, h => h
  | fuel + 1, _, _, _, h => ⟨h.1, fun i hi => wpOp_mono (fun a' w' h' => ⟨h1 _ h'.1, fun he => h0 _ (h'.2.1 he), wpAnyM_mono h0 h1 fuel _ a' w' h'.2.2⟩) (h.2 i hi)⟩
theorem getD_set_true {listed : Array Bool} {i k0 : Nat} (h : listed.getD k0 false = true) : (listed.setIfInBounds i true).getD k0 false = true := by
  simp only [Array.getD_eq_getD_getElem?, Array.getElem?_setIfInBounds] at h ⊢
  split
  · split
    · rfl
    · rename_i e _; subst e; rename_i hh; rw [Array.getElem?_eq_none (by omega)] at h; cases h
  · exact h
theorem wpAnyM_of_H {ops : Array Oper} {Q : Exit → Act → World → Prop} {S0 S1 : World → Prop} {k0 : Nat} : ∀ (fuel : Nat) (listed : Array Bool) (a : Act) (w : World), listed.getD k0 false = true → wpAnyH P .any ops Q S1 fuel listed a w → wpAnyM P ops Q S0 S1 k0 fuel listed a w
  | 0, _, _, _, _, h => h
  | fuel + 1, _, _, _, hk, h => ⟨h.1, fun i hi => wpOp_mono (fun a' w' h' => ⟨h'.1, fun he => (by rw [getD_set_true hk] at he; cases he), wpAnyM_of_H fuel _ a' w' (getD_set_true hk) h'.2⟩) (h.2 i hi)⟩
theorem wpAnyM_start {ops : Array Oper} {Q : Exit → Act → World → Prop} {S0 S1 : World → Prop} {k0 fuel : Nat} {listed : Array Bool} {a : Act} {w : World} (hr : Region.ready .any ops listed = [k0]) (hk : (listed.setIfInBounds k0 true).getD k0 false = true)
    (h : wpAnyH P .any ops Q S1 (fuel + 1) listed a w) : wpAnyM P ops Q S0 S1 k0 (fuel + 1) listed a w :=
  ⟨h.1, fun i hi => wpOp_mono (fun a' w' h' => by
    rw [hr, List.mem_singleton] at hi
    subst hi
    exact ⟨h'.1, fun he => (by rw [hk] at he; cases he), wpAnyM_of_H fuel _ a' w' hk h'.2⟩) (h.2 i hi)⟩
theorem getD_set_ne' {listed : Array Bool} {i k0 : Nat} (h : i ≠ k0) : (listed.setIfInBounds i true).getD k0 false = listed.getD k0 false := by
  rw [getD_set_ne false h]

theorem wpAnyM_low {ops : Array Oper} {Q : Exit → Act → World → Prop} {S0 S1 : World → Prop} {k0 i : Nat} {oi : Oper} {v : Value} (hi : ops[i]? = some oi) (hsel : ∀ (j : Nat) (o : Oper) cs b, ops[j]? = some o → o.op ≠ .select cs b)
    (hQ : ∀ c a w, Q (.panic c) (a.put oi.dst v) w → Q (.panic c) a w) (hne0 : i ≠ k0) :
    ∀ (fuel : Nat) (listed : Array Bool) (a : Act) (w : World),
      (∀ j oj, ops[j]? = some oj → j ≠ i → listed.getD j true = false → (∀ e ∈ oj.after, Region.binds .any e = true → e.on ≠ i) → oi.apart ops oj = true) →
      i ∈ Region.ready .any ops listed → YieldsIf P ops S1 oi v a → S1 w → (listed.getD k0 false = false → S0 w) →
      wpAnyM P ops Q S0 S1 k0 fuel (listed.setIfInBounds i true) (a.put oi.dst v) w → wpAnyM P ops Q S0 S1 k0 (fuel + 1) listed a w := by
  intro fuel
  induction fuel with
  | zero =>
    intro listed a w _ hr hy hS hS0 H
    refine ⟨fun h => (by rw [h] at hr; cases hr), fun j hj => ?_⟩
    by_cases hji : j = i
    · subst hji; exact hy.wpOp hi hS ⟨hS, fun he => hS0 (by rw [getD_set_ne' hne0] at he; exact he), H⟩
    · have := ready_mono hj hji
      rw [H.1] at this
      cases this
  | succ fuel ih =>
    intro listed a w hfree hr hy hS hS0 H
    refine ⟨fun h => (by rw [h] at hr; cases hr), fun j hj => ?_⟩
    by_cases hji : j = i
    · subst hji; exact hy.wpOp hi hS ⟨hS, fun he => hS0 (by rw [getD_set_ne' hne0] at he; exact he), H⟩
    · have h1 := H.2 j (ready_mono hj hji)
      obtain ⟨hjun, oj, hoj, hall⟩ := mem_ready.1 hj
      have hnot : ∀ e ∈ oj.after, Region.binds .any e = true → e.on ≠ i := fun e hee hb heq => by
        have h1 := hall e hee hb
        have h0 := (mem_ready.1 hr).1
        rw [heq] at h1
        rcases Nat.lt_or_ge i listed.size with h' | h'
        · simp [h'] at h0 h1; rw [h0] at h1; cases h1
        · simp [Array.getElem?_eq_none h'] at h1
      have h2 := wpOp_putIf hoj (hfree j oj hoj hji hjun hnot) (fun cs b => hsel i oi cs b hi) (fun cs b => hsel j oj cs b hoj) hQ hy h1
      have hfree' : ∀ k ok, ops[k]? = some ok → k ≠ i → (listed.setIfInBounds j true).getD k true = false →
          (∀ e ∈ ok.after, Region.binds .any e = true → e.on ≠ i) → oi.apart ops ok = true := fun k ok hk hki hun hno => by
        refine hfree k ok hk hki ?_ hno
        by_cases hjk : j = k
        · subst hjk; exact hjun
        · rw [getD_set_ne true hjk] at hun; exact hun
      refine wpOp_mono (fun a' w' h3 => ?_) h2
      have hS' : S1 w' := h3.2.1
      have hS0' : (listed.setIfInBounds j true).getD k0 false = false → S0 w' := fun he => h3.2.2.1 (by rw [Array.setIfInBounds_comm _ _ (Ne.symm hji), getD_set_ne' hne0]; exact he)
      refine ⟨hS', hS0', ih (listed.setIfInBounds j true) a' w' hfree' (ready_mono hr (Ne.symm hji)) h3.1 hS' hS0' ?_⟩
      rw [Array.setIfInBounds_comm _ _ hji]
      exact h3.2.2.2

theorem wpAnyM_mid {ops : Array Oper} {Q : Exit → Act → World → Prop} {S0 S1 : World → Prop} {k0 i : Nat} {oi : Oper} {v : Value} (hi : ops[i]? = some oi) (hsel : ∀ (j : Nat) (o : Oper) cs b, ops[j]? = some o → o.op ≠ .select cs b)
    (hQ : ∀ c a w, Q (.panic c) (a.put oi.dst v) w → Q (.panic c) a w) (hw0 : waitsB ops k0 i = true) :
    ∀ (fuel : Nat) (listed : Array Bool) (a : Act) (w : World),
      (∀ j oj, ops[j]? = some oj → j ≠ i → listed.getD j true = false → (∀ e ∈ oj.after, Region.binds .any e = true → e.on ≠ i) → oi.apart ops oj = true) →
      i ∈ Region.ready .any ops listed → listed.getD k0 false = false → YieldsIf P ops S0 oi v a → S1 w → S0 w →
      wpAnyM P ops Q S0 S1 k0 fuel (listed.setIfInBounds i true) (a.put oi.dst v) w → wpAnyM P ops Q S0 S1 k0 (fuel + 1) listed a w := by
  have hk0 : ∀ (listed : Array Bool) (j : Nat), i ∈ Region.ready .any ops listed → j ∈ Region.ready .any ops listed → j ≠ i → listed.getD k0 false = false → (listed.setIfInBounds j true).getD k0 false = false := by
    intro listed j hr hj hji he
    obtain ⟨hjun, oj, hoj, hall⟩ := mem_ready.1 hj
    have hne : j ≠ k0 := by
      intro e
      subst e
      unfold waitsB at hw0
      simp only [Bool.or_eq_true] at hw0
      rcases hw0 with h | h
      · have := Nat.le_of_ble_eq_true h
        have := (Array.getElem?_eq_some_iff.1 hoj).1
        omega
      · rw [hoj] at h
        simp only [Bool.and_eq_true, Array.any_eq_true] at h
        obtain ⟨⟨q, hq, h1⟩, _⟩ := h
        have h2 := hall _ (Array.getElem_mem hq) h1.1
        rw [Nat.eq_of_beq_eq_true h1.2] at h2
        have h0 := (mem_ready.1 hr).1
        rcases Nat.lt_or_ge i listed.size with h' | h'
        · simp [h'] at h0 h2; rw [h0] at h2; cases h2
        · simp [Array.getElem?_eq_none h'] at h2
    rw [getD_set_ne false hne]; exact he
  have hne0 : i ≠ k0 := by
    intro e
    subst e
    unfold waitsB at hw0
    simp only [Bool.or_eq_true] at hw0
    rcases hw0 with h | h
    · have := Nat.le_of_ble_eq_true h
      have := (Array.getElem?_eq_some_iff.1 hi).1
      omega
    · rw [hi] at h
      simp at h
  intro fuel
  induction fuel with
  | zero =>
    intro listed a w _ hr he hy hS hS0 H
    refine ⟨fun h => (by rw [h] at hr; cases hr), fun j hj => ?_⟩
    by_cases hji : j = i
    · subst hji; exact hy.wpOp hi hS0 ⟨hS, fun _ => hS0, H⟩
    · have := ready_mono hj hji
      rw [H.1] at this
      cases this
  | succ fuel ih =>
    intro listed a w hfree hr he hy hS hS0 H
    refine ⟨fun h => (by rw [h] at hr; cases hr), fun j hj => ?_⟩
    by_cases hji : j = i
    · subst hji; exact hy.wpOp hi hS0 ⟨hS, fun _ => hS0, H⟩
    · have h1 := H.2 j (ready_mono hj hji)
      obtain ⟨hjun, oj, hoj, hall⟩ := mem_ready.1 hj
      have hnot : ∀ e ∈ oj.after, Region.binds .any e = true → e.on ≠ i := fun e hee hb heq => by
        have h1 := hall e hee hb
        have h0 := (mem_ready.1 hr).1
        rw [heq] at h1
        rcases Nat.lt_or_ge i listed.size with h' | h'
        · simp [h'] at h0 h1; rw [h0] at h1; cases h1
        · simp [Array.getElem?_eq_none h'] at h1
      have h2 := wpOp_putIf hoj (hfree j oj hoj hji hjun hnot) (fun cs b => hsel i oi cs b hi) (fun cs b => hsel j oj cs b hoj) hQ hy h1
      have hfree' : ∀ k ok, ops[k]? = some ok → k ≠ i → (listed.setIfInBounds j true).getD k true = false →
          (∀ e ∈ ok.after, Region.binds .any e = true → e.on ≠ i) → oi.apart ops ok = true := fun k ok hk hki hun hno => by
        refine hfree k ok hk hki ?_ hno
        by_cases hjk : j = k
        · subst hjk; exact hjun
        · rw [getD_set_ne true hjk] at hun; exact hun
      have hej := hk0 listed j hr hj hji he
      refine wpOp_mono (fun a' w' h3 => ?_) h2
      have hS' : S1 w' := h3.2.1
      have hS0' : S0 w' := h3.2.2.1 (by rw [Array.setIfInBounds_comm _ _ (Ne.symm hji), getD_set_ne' hne0]; exact hej)
      refine ⟨hS', fun _ => hS0', ih (listed.setIfInBounds j true) a' w' hfree' (ready_mono hr (Ne.symm hji)) hej h3.1 hS' hS0' ?_⟩
      rw [Array.setIfInBounds_comm _ _ hji]
      exact h3.2.2.2

/-- The order: js1: values that σ₁ alone tells; js2: values that k0 waits for; ks: from k0 on. -/
def lowB0 (ops : Array Oper) (k0 : Nat) (ks : List Nat) (listed : Array Bool) : Bool :=
  (match ks with | [] => false | k :: _ => Nat.beq k k0) && (match ops[k0]? with | some o => effB o | none => false) && (listed.setIfInBounds k0 true).getD k0 false && schedB ops ks listed
def lowB2 (ops : Array Oper) (k0 : Nat) (ks : List Nat) : List Nat → Array Bool → Bool
  | [], listed => lowB0 ops k0 ks listed
  | k :: js2, listed => (match ops[k]? with | some o => !effB o && (Region.ready .any ops listed).contains k && Region.free .any ops listed k && waitsB ops k0 k && !listed.getD k0 false | none => false) && lowB2 ops k0 ks js2 (listed.setIfInBounds k true)
def lowB (ops : Array Oper) (k0 : Nat) (ks js2 : List Nat) : List Nat → Array Bool → Bool
  | [], listed => lowB2 ops k0 ks js2 listed
  | k :: js1, listed => (match ops[k]? with | some o => !effB o && (Region.ready .any ops listed).contains k && Region.free .any ops listed k && !Nat.beq k k0 | none => false) && lowB ops k0 ks js2 js1 (listed.setIfInBounds k true)
theorem Sub.trans {a b c : Sig} (h : Sub a b) (h' : Sub b c) : Sub a c :=
  let ⟨τ, hτ⟩ := h; let ⟨ρ, hρ⟩ := h'; ⟨τ ++ ρ, hρ.trans (by rw [← List.append_assoc]; exact hτ.append_right ρ)⟩

theorem low_end {ops : List Oper} {σ₀ σ₁ : Sig} {k0 : Nat} {ks : List Nat} (hsel : Region.noSelect ops.toArray = true) (listed : Array Bool) (f : Fr) (σ : Sig) (m : Mem) (hB : lowB0 ops.toArray k0 ks listed = true) (hs1 : Sub σ₁ σ)
    (h : SL P n (.drawn σ₁) ops.toArray Q (pick ops ks) f σ m) (g : Gh) (W : World) (a : Act) (hC : Conc g W m σ) (hF : FrOk a f n) (S0 : World → Prop) :
    wpAnyM P ops.toArray (lift g n (onlyN Q)) S0 (Icls g σ₁ m) k0 ks.length listed a W := by
  simp only [lowB0, Bool.and_eq_true] at hB
  obtain ⟨⟨⟨hk, he⟩, hset⟩, hsch⟩ := hB
  have hH := SLD_any hsel ks listed f σ m hsch (h hs1) g W a hC hF
  cases ks with
  | nil => cases hk
  | cons k ks =>
    obtain rfl := Nat.eq_of_beq_eq_true hk
    have hr : Region.ready .any ops.toArray listed = [k] := by
      simp only [schedB, Bool.and_eq_true] at hsch
      cases hok : ops.toArray[k]? with
      | none => rw [hok] at he; cases he
      | some o =>
        rw [hok] at he
        have h1 := hsch.1
        simp only [hok] at h1
        have he' : effB o = true := he
        rw [he'] at h1
        simpa using h1
    exact wpAnyM_start hr hset hH

theorem low_mid {ops : List Oper} {σ₀ σ₁ : Sig} {k0 : Nat} {ks : List Nat} (hsel : Region.noSelect ops.toArray = true) (h01 : Sub σ₁ σ₀) : ∀ (js2 : List Nat) (listed : Array Bool) (f : Fr) (σ : Sig) (m : Mem), lowB2 ops.toArray k0 ks js2 listed = true → Sub σ₀ σ →
    SL P n (.drawn σ₀) ops.toArray (fun _ f σ m => SL P n (.drawn σ₁) ops.toArray Q (pick ops ks) f σ m) (pick ops js2) f σ m →
    ∀ g W a, Conc g W m σ → FrOk a f n → wpAnyM P ops.toArray (lift g n (onlyN Q)) (Icls g σ₀ m) (Icls g σ₁ m) k0 (js2.length + ks.length) listed a W
  | [], listed, f, σ, m, hB, hs0, h, g, W, a, hC, hF => by
    obtain ⟨σ', m', hC', hl, hs', hq⟩ := h hs0 g W hC
    have := low_end (σ₀ := σ₀) hsel listed f σ' m' hB (h01.trans hs') hq g W a hC' hF (Icls g σ₀ m')
    simp only [List.length_nil, Nat.zero_add]
    exact wpAnyM_mono (fun w hw => hw.mono hl) (fun w hw => hw.mono hl) _ _ _ _ this
  | k :: js2, listed, f, σ, m, hB, hs0, h, g, W, a, hC, hF => by
    simp only [lowB2, Bool.and_eq_true] at hB
    obtain ⟨hk, hB'⟩ := hB
    cases hok : ops[k]? with
    | none => simp [hok] at hk
    | some o =>
      have hok' : ops.toArray[k]? = some o := by simpa using hok
      simp only [hok', Bool.and_eq_true, Bool.not_eq_true'] at hk
      obtain ⟨⟨⟨⟨hne, hrd⟩, hfr⟩, hw0⟩, hl0⟩ := hk
      simp only [pick, hok] at h
      obtain ⟨σ', m', hC', hl, hs, hd, hh⟩ := h hs0 g W hC
      have hwant : Region.wanted o (yielded ops.toArray a.tmps) = wantedF ops.toArray o f := by unfold wantedF; rw [hF.yielded]
      rcases hh with ⟨v, hv, hn⟩ | ⟨he, _, _⟩
      · have hrest := low_mid hsel h01 js2 _ _ σ' m' hB' hs (fun _ => hn) g W (a.put o.dst v) hC' (hF.putO hd v)
        have hy : YieldsIf P ops.toArray (Icls g σ₀ m') o v a := by
          rcases hv with ⟨h1, h2⟩ | ⟨h1, h2⟩
          · exact .inl ⟨hwant.trans h1, fun w hw => by rw [hF.eval]; exact h2 _ _ hw.conc⟩
          · exact .inr ⟨hwant.trans h1, h2⟩
        have hI0 : Icls g σ₀ m' W := ⟨m', σ', Le.refl m', hs, hC'⟩
        have hI1 : Icls g σ₁ m' W := ⟨m', σ', Le.refl m', h01.trans hs, hC'⟩
        refine wpAnyM_mono (S0 := Icls g σ₀ m') (S1 := Icls g σ₁ m') (fun w hw => hw.mono hl) (fun w hw => hw.mono hl) _ _ _ _ ?_
        rw [List.length_cons, Nat.succ_add]
        exact wpAnyM_mid hok' (Region.noSelect_spec hsel) (fun c a w hq => by obtain ⟨_, _, _, _, _, hq⟩ := hq; exact hq.elim) hw0 _ _ _ _ (Region.free_spec hok' hfr) (by simpa using hrd) hl0 hy hI1 hI0 hrest
      · rw [hne] at he; cases he

theorem low_run {ops : List Oper} {σ₀ σ₁ : Sig} {k0 : Nat} {ks js2 : List Nat} (hsel : Region.noSelect ops.toArray = true) (h01 : Sub σ₁ σ₀) : ∀ (js1 : List Nat) (listed : Array Bool) (f : Fr) (σ : Sig) (m m0 : Mem), lowB ops.toArray k0 ks js2 js1 listed = true → Sub σ₁ σ → Le m0 m →
    SL P n (.drawn σ₁) ops.toArray (fun _ f σ m => Sub σ₀ σ ∧ SL P n (.drawn σ₀) ops.toArray (fun _ f σ m => SL P n (.drawn σ₁) ops.toArray Q (pick ops ks) f σ m) (pick ops js2) f σ m) (pick ops js1) f σ m →
    ∀ g W a, Conc g W m σ → Icls g σ₀ m0 W → FrOk a f n → wpAnyM P ops.toArray (lift g n (onlyN Q)) (Icls g σ₀ m0) (Icls g σ₁ m) k0 (js1.length + (js2.length + ks.length)) listed a W
  | [], listed, f, σ, m, m0, hB, hs1, hm0, h, g, W, a, hC, hI0, hF => by
    obtain ⟨σ', m', hC', hl, hs', hs0, hq⟩ := h hs1 g W hC
    have := low_mid hsel h01 js2 listed f σ' m' hB hs0 hq g W a hC' hF
    simp only [List.length_nil, Nat.zero_add]
    exact wpAnyM_mono (fun w hw => hw.mono (hm0.trans hl)) (fun w hw => hw.mono hl) _ _ _ _ this
  | k :: js1, listed, f, σ, m, m0, hB, hs1, hm0, h, g, W, a, hC, hI0, hF => by
    simp only [lowB, Bool.and_eq_true] at hB
    obtain ⟨hk, hB'⟩ := hB
    cases hok : ops[k]? with
    | none => simp [hok] at hk
    | some o =>
      have hok' : ops.toArray[k]? = some o := by simpa using hok
      simp only [hok', Bool.and_eq_true, Bool.not_eq_true'] at hk
      obtain ⟨⟨⟨hne, hrd⟩, hfr⟩, hk0⟩ := hk
      have hne0 : k ≠ k0 := fun e => by subst e; simp at hk0
      simp only [pick, hok] at h
      obtain ⟨σ', m', hC', hl, hs, hd, hh⟩ := h hs1 g W hC
      have hwant : Region.wanted o (yielded ops.toArray a.tmps) = wantedF ops.toArray o f := by unfold wantedF; rw [hF.yielded]
      rcases hh with ⟨v, hv, hn⟩ | ⟨he, _, _⟩
      · have hrest := low_run hsel h01 js1 _ _ σ' m' m0 hB' hs (hm0.trans hl) (fun _ => hn) g W (a.put o.dst v) hC' hI0 (hF.putO hd v)
        have hy : YieldsIf P ops.toArray (Icls g σ₁ m') o v a := by
          rcases hv with ⟨h1, h2⟩ | ⟨h1, h2⟩
          · exact .inl ⟨hwant.trans h1, fun w hw => by rw [hF.eval]; exact h2 _ _ hw.conc⟩
          · exact .inr ⟨hwant.trans h1, h2⟩
        have hI1 : Icls g σ₁ m' W := ⟨m', σ', Le.refl m', hs, hC'⟩
        refine wpAnyM_mono (S0 := Icls g σ₀ m0) (S1 := Icls g σ₁ m') (fun w hw => hw) (fun w hw => hw.mono hl) _ _ _ _ ?_
        rw [List.length_cons, Nat.succ_add]
        exact wpAnyM_low hok' (Region.noSelect_spec hsel) (fun c a w hq => by obtain ⟨_, _, _, _, _, hq⟩ := hq; exact hq.elim) hne0 _ _ _ _ (Region.free_spec hok' hfr) (by simpa using hrd) hy hI1 (fun _ => hI0) hrest
      · rw [hne] at he; cases he

/-- A region that draws its order: js1: operations that read only what σ₁ says; js2: operations for which k0 waits (and that may read all of σ₀); ks: k0 and what comes after it, one after another, leaving σ₁ alone. -/
theorem SWP_low {id : Nat} {l : List Oper} (σ₀ σ₁ : Sig) (k0 : Nat) (js1 js2 ks : List Nat) (hm : P.follows .mixedOrders = true)
    (hB : (Region.noSelect l.toArray && Nat.beq (js1.length + (js2.length + ks.length)) l.length && lowB l.toArray k0 ks js2 js1 (Array.replicate l.length false)) = true)
    (h01 : Sub σ₁ σ₀) (hs : Sub σ₀ σ)
    (h : SL P n (.drawn σ₁) l.toArray (fun _ f σ m => Sub σ₀ σ ∧ SL P n (.drawn σ₀) l.toArray (fun _ f σ m => SL P n (.drawn σ₁) l.toArray Q (pick l ks) f σ m) (pick l js2) f σ m) (pick l js1) f σ m) :
    SWP P n (.region id l.toArray true) Q f σ m :=
  fun g W a hC hF => by
    simp only [Bool.and_eq_true] at hB
    have hlen := Nat.eq_of_beq_eq_true hB.1.2
    have hC' := hC.drawn (W.drawn + 1)
    have h1 := low_run (k0 := k0) hB.1.1 h01 js1 _ f σ m m hB.2 (h01.trans hs) (Le.refl m) h g { W with drawn := W.drawn + 1 } a hC' ⟨m, σ, Le.refl m, hs, hC'⟩ hF
    have h2 := wpAny_of_M _ _ _ _ h1
    rw [hlen] at h2
    refine wp_mono (wp_region_any hm (Q := lift g n (onlyN Q)) (by simpa using h2)) fun e a W ⟨f, σ, m, q1, q2, q3⟩ => ?_
    cases e <;> first | exact ⟨f, σ, m, q1, q2, q3⟩ | exact q3.elim
end
end Eng
end Go.Proofs.Ytkopdlglenejmaa
