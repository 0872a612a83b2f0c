/- The engine, part 6: lists that the running code owns: their elements read and written. -/
import Derived.Test.YtkopdlglenejmaaEngMap
namespace Go.Proofs.Ytkopdlglenejmaa
namespace Eng
section
variable {α : Type} {en : α → List Value} {e size : Nat} {v : Value} {L : List α} {σe σ τ : Sig}

theorem OwnS.lenL (hs : 0 < size) (he : ∀ x, (en x).length = size) (h : OwnS e size v (L.flatMap en) σe) : ∃ a cap, v = .slice a L.length cap := by
  obtain ⟨a, n, cap, h1, h2, _⟩ := h.len
  rw [flatMap_len he] at h2
  exact ⟨a, cap, by rw [h1, Nat.eq_of_mul_eq_mul_right hs h2]⟩

theorem OwnS.small (hs : 0 < size) (he : ∀ x, (en x).length = size) (h : OwnS e size v (L.flatMap en) σe) : L.length ≤ maxLen := by
  generalize hx : L.flatMap en = xs at h
  have hl := flatMap_len he L
  rw [hx] at hl
  cases h with
  | nil =>
    have : L.length = 0 := by
      rcases Nat.mul_eq_zero.1 hl.symm with h | h
      · exact h
      · omega
    omega
  | row B n cap xs hx hn hc =>
    rw [hl] at hx
    have := Nat.eq_of_mul_eq_mul_right hs hx
    omega

theorem OwnS.atL {k : Nat} {b : α} (hs : 0 < size) (he : ∀ x, (en x).length = size) (h : OwnS e size v (L.flatMap en) σe) (hk : L[k]? = some b) :
    ∃ ad cap, v = .slice (some ad) L.length cap ∧ ∀ (σ : Sig) (m : Mem), (∀ c ∈ σe, c ∈ σ) → Rd σ m (ad.add (k * size)) (en b) := by
  obtain ⟨a, cap, hv⟩ := h.lenL hs he
  obtain ⟨a', n, cap', h1, h2, h3, h4, h5⟩ := h.rd (σ := σe) (m := fun _ => none) (fun _ h => h)
  have hlt := (List.getElem?_eq_some_iff.1 hk).1
  cases a' with
  | none =>
    have := (h4 rfl).1
    rw [flatMap_len he, this, Nat.zero_mul] at h2
    have : L.length = 0 := by
      rcases Nat.mul_eq_zero.1 h2 with h | h
      · exact h
      · omega
    omega
  | some ad =>
    have hva : a = some ad := by rw [h1] at hv; cases hv; rfl
    subst hva
    refine ⟨ad, cap, hv, fun σ m hsub => ?_⟩
    obtain ⟨a2, n2, cap2, g1, g2, g3, g4, g5⟩ := h.rd (σ := σ) (m := m) hsub
    have ha2 : a2 = some ad := by rw [hv] at g1; cases g1; rfl
    have hr := ((g5 ad ha2).drop (k * size)).take size
    rwa [flatMap_seg he L k b hk] at hr

theorem OwnS.atN {k n cap : Nat} {a : Option Addr} {b : α} (hs : 0 < size) (he : ∀ x, (en x).length = size) (h : OwnS e size (.slice a n cap) (L.flatMap en) σe) (hk : L[k]? = some b) :
    ∃ ad, a = some ad ∧ n = L.length ∧ k < n ∧ ∀ (σ : Sig) (m : Mem), (∀ c ∈ σe, c ∈ σ) → Rd σ m (ad.add (k * size)) (en b) := by
  obtain ⟨ad, cap', hv, hr⟩ := h.atL hs he hk
  injection hv with h1 h2 h3
  exact ⟨ad, h1, h2, by rw [h2]; exact (List.getElem?_eq_some_iff.1 hk).1, hr⟩

theorem laySeg_len : ∀ (vs cs : List Value) (o : Nat), (laySeg cs o vs).length = cs.length
  | [], _, _ => rfl
  | v :: vs, cs, o => by rw [laySeg, laySeg_len vs]; simp
theorem laySeg_takeN (n : Nat) : ∀ (vs cs : List Value) (o : Nat), (laySeg cs o vs).take n = laySeg (cs.take n) o vs
  | [], _, _ => rfl
  | v :: vs, cs, o => by rw [laySeg, laySeg_takeN n vs, laySeg, List.take_set]
theorem laySeg_left : ∀ (vs cs ds : List Value) (o : Nat), o + vs.length ≤ cs.length → laySeg (cs ++ ds) o vs = laySeg cs o vs ++ ds
  | [], _, _, _, _ => rfl
  | v :: vs, cs, ds, o, h => by
    simp only [List.length_cons] at h
    rw [laySeg, laySeg, List.set_append_left _ _ (by omega), laySeg_left vs _ ds (o + 1) (by simp; omega)]
theorem laySeg_right : ∀ (vs cs ds : List Value) (o : Nat), laySeg (cs ++ ds) (cs.length + o) vs = cs ++ laySeg ds o vs
  | [], _, _, _ => rfl
  | v :: vs, cs, ds, o => by
    rw [laySeg, laySeg, List.set_append_right _ _ (by omega), Nat.add_sub_cancel_left, Nat.add_assoc, laySeg_right vs]
theorem flatMap_set (he : ∀ x, (en x).length = size) {off : Nat} {vs : List Value} {b b' : α} (hl : laySeg (en b) off vs = en b') (hf : off + vs.length ≤ size) : ∀ (L : List α) (k : Nat), L[k]? = some b →
    laySeg (L.flatMap en) (k * size + off) vs = (L.set k b').flatMap en
  | [], _, h => by simp at h
  | y :: L, 0, h => by
    simp only [List.getElem?_cons_zero, Option.some.injEq] at h
    subst h
    rw [Nat.zero_mul, Nat.zero_add, List.flatMap_cons, List.set_cons_zero, List.flatMap_cons, laySeg_left _ _ _ _ (by rw [he]; exact hf), hl]
  | y :: L, k + 1, h => by
    simp only [List.getElem?_cons_succ] at h
    rw [List.flatMap_cons, List.set_cons_succ, List.flatMap_cons, show (k + 1) * size + off = (en y).length + (k * size + off) by rw [he, Nat.succ_mul]; omega, laySeg_right, flatMap_set he hl hf L k h]

variable {P : Program} {T : TyTab} [TyOk P T]
variable {n : Nat} {md : Mode} {Q : APost} {f : Fr} {m : Mem} {ops : Array Oper} {rest : List Oper} {d : Nat} {ty : TypeId} {pos : String} {after : Array Edge}

/-- A load of, or within, an element that is owned. -/
theorem ldO {t : TypeId} {x : Operand} {q p : Addr} {off : Nat} {cs : List Value} {v : Value} (hr : Rd (md.own σ) m p cs) (hx : ev f x = .pointer (some q)) (hq : q = p.add off) (hv : ldV T t cs off = some v) (hdn : Nat.blt d n = true)
    (h : SL P n md ops Q rest (upd f d v) σ m) : SL P n md ops Q (⟨some d, .load t x, ty, pos, after, none⟩ :: rest) f σ m := ld hr hx hq hv hdn h

/-- A list that is owned is let go. -/
theorem SL_freezeL {l : List Oper} (hs : 0 < size) (he : ∀ x, (en x).length = size) (hown : OwnS e size v (L.flatMap en) σe) (h : ∀ m', Le m m' → RL m' en size v L → SL P n md ops Q l f τ m')
    (hm : md.loud = true := by exact rfl) (hkeep : md.keep τ := by first | exact True.intro | exact Sub.nil _ | (repeat (first | exact Sub.refl _ | exact Sub.nil _ | refine Sub.cons2 _ ?_ | refine Sub.cons _ ?_ | refine Sub.left _ ?_))) : SL P n md ops Q l f (σe ++ τ) m :=
  SL_ghost hm fun _ _ hC _ => by
    obtain ⟨m', h1, h2, h3⟩ := hown.freezeL hs he hC
    exact ⟨τ, m', h2, h1, hkeep, h m' h1 h3⟩

/-- A store to, or within, an element that is owned. -/
theorem stL {t : TypeId} {x y : Operand} {k len cap off : Nat} {ad q : Addr} {b b' : α} {u : Value} {ti : TI} (he : ∀ x, (en x).length = size) (hi : tyGet T t = some ti) (hown : OwnS e size (.slice (some ad) len cap) (L.flatMap en) σe) (hσ : σ.Perm (σe ++ τ)) (hk : L[k]? = some b)
    (hx : ev f x = .pointer (some q)) (hq : q = (ad.add (k * size)).add off) (hy : ev f y = u) (hlen : Nat.beq u.cells.toList.length ti.size = true) (hfit : off + u.cells.toList.length ≤ size) (h1 : u.cells.toList.all (·.oneCell') = true)
    (hlay : laySeg (en b) off u.cells.toList = en b')
    (h : ∀ σe', OwnS e size (.slice (some ad) len cap) ((L.set k b').flatMap en) σe' → SL P n md ops Q rest f (σe' ++ τ) m)
    (hm : md.loud = true := by exact rfl) (hkeep : md.keep τ := by first | exact True.intro | exact Sub.nil _ | (repeat (first | exact Sub.refl _ | exact Sub.nil _ | refine Sub.cons2 _ ?_ | refine Sub.cons _ ?_ | refine Sub.left _ ?_))) :
    SL P n md ops Q (⟨none, .store t x y, ty, pos, after, none⟩ :: rest) f σ m :=
  SL_skip hm rfl rfl rfl fun g W hC _ => by
    have hC' := hC.perm hσ
    obtain ⟨B, hB, hσe⟩ : ∃ B, ad = ⟨B, 0, none⟩ ∧ σe = [(B, Row e size cap (L.flatMap en))] := by
      cases hown with
      | row B n cap xs hx hn hc => exact ⟨B, rfl, rfl⟩
    subst hB
    subst hσe
    subst hq
    have hpos : ∀ (c : List (Nat × Chk)), [(B, Row e size cap (L.flatMap en))] ++ c = (B, Row e size cap (L.flatMap en)) :: c := fun _ => rfl
    rw [hpos] at hC'
    obtain ⟨⟨o, hg, cur, rfl, c1, c2, c3, c4⟩, _⟩ := hC'.own _ (List.mem_cons_self ..)
    simp only at hg
    have hlt := (List.getElem?_eq_some_iff.1 hk).1
    have hfl := flatMap_len he L
    have hle : k * size + off + u.cells.toList.length ≤ (L.flatMap en).length := by
      rw [hfl]
      have : (k + 1) * size ≤ L.length * size := Nat.mul_le_mul_right _ hlt
      rw [Nat.succ_mul] at this
      omega
    have hle2 : k * size + off + u.cells.toList.length ≤ cur.toList.length := by
      have : cur.toList.length = cur.size := by simp
      omega
    have hs := (TyOk.get (P := P) hi).sizeOf W
    have hrun := run_storeCells_at (P := P) B (k * size + off) e u.cells.toList 0 cur W hg (by simpa using hle2) (fun u hu => List.all_eq_true.1 h1 u hu)
    have hsz : u.cells.size = ti.size := by simpa using Nat.eq_of_beq_eq_true hlen
    have hflat := flatMap_set he hlay hfit L k hk
    have hown' : OwnS e size (.slice (some ⟨B, 0, none⟩) len cap) ((L.set k b').flatMap en) [(B, Row e size cap ((L.set k b').flatMap en))] := by
      cases hown with
      | row B n cap xs hx hn hc => exact .row B _ _ _ (by rw [flatMap_len he, List.length_set, ← hfl]; exact hx) hn hc
    refine ⟨W.setRow B (laySeg cur.toList (k * size + off) u.cells.toList).toArray, [(B, Row e size cap ((L.set k b').flatMap en))] ++ τ, m, ?_, setRow_conc (ψ := Row e size cap ((L.set k b').flatMap en)) hC' hg ?_, Le.refl m, Mode.keep_cons _ hkeep, h _ hown'⟩
    · rw [add_add, Addr.add_lit, Nat.zero_add] at hx
      rw [laySeg_take _ _ _ hle2]
      simp only [Nat.add_zero] at hrun
      simp [execOp, hx, hy, Instr.storeAt, Instr.sureAddr, storeVar, hs, hsz, hrun]
    · refine ⟨_, rfl, by simp [laySeg_len, c1], c2, ?_, ?_⟩
      · rw [flatMap_len he, List.length_set, ← hfl]; exact c3
      · have e1 : ((L.set k b').flatMap en).length = (L.flatMap en).length := by rw [flatMap_len he, List.length_set, hfl]
        show (laySeg cur.toList (k * size + off) u.cells.toList).take ((L.set k b').flatMap en).length = _
        rw [e1, laySeg_takeN, c4, hflat]
end
end Eng
end Go.Proofs.Ytkopdlglenejmaa
