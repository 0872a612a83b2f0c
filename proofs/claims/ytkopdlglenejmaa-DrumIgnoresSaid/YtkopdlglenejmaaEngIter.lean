/- The engine, part 7: make of a slice, a range over a map. -/
import Derived.Test.YtkopdlglenejmaaEngOwn
import Derived.Laws.MakeOwn
namespace Go.Proofs.Ytkopdlglenejmaa
namespace Eng
section
variable {α β : Type} {kc : α → Value} {vc : β → Value}
variable {P : Program} {T : TyTab} [TyOk P T]
variable {n : Nat} {md : Mode} {Q : APost} {f : Fr} {σ : Sig} {m : Mem} {ops : Array Oper} {rest : List Oper} {d : Nat} {ty : TypeId} {pos : String} {after : Array Edge}

/-- make([]T, 0, c). -/
theorem msl {t : TypeId} {e c : Nat} {ei : TI} {x y : Operand} {kl kq : IntKind} {ag : Bool} {ts tb : Nat} {tz : Value} (ht : tyGet T t = some ⟨.slice e, ag, ts, tb, tz⟩) (he : tyGet T e = some ei) (hx : ev f x = .int kl 0) (hy : ev f y = .int kq (c : Nat)) (hb : ei.bytes * c ≤ 281474976710656) (hc : c ≤ maxLen) (hdn : Nat.blt d n = true)
    (h : ∀ B σe, σe = [(B, Row e ei.size c [])] → OwnS e ei.size (.slice (some ⟨B, 0, none⟩) 0 c) [] σe → SL P n md ops Q rest (upd f d (.slice (some ⟨B, 0, none⟩) 0 c)) (σe ++ σ) m) (hm : md.loud = true := by exact rfl) :
    SL P n md ops Q (⟨some d, .makeSlice t x y, ty, pos, after, none⟩ :: rest) f σ m :=
  SL_val hm rfl rfl rfl hdn fun g W hC hk => by
    obtain ⟨dd, hd1, hd2, _⟩ := (TyOk.get (P := P) ht).desc
    obtain rfl : dd = .slice e := by cases dd <;> simp [DescOk] at hd2 ⊢; exact hd2
    obtain ⟨info, hi, hzz, hss, hbb⟩ := (TyOk.get (P := P) he).infoEx
    have hc' := hc
    unfold maxLen at hc'
    have hb' : (info.bytes : Int) * (c : Int) ≤ 281474976710656 := by
      rw [hbb]
      have h : ((ei.bytes * c : Nat) : Int) ≤ 281474976710656 := by omega
      rwa [Int.natCast_mul] at h
    have hr := run_make (P := P) W t e info ei.zero hd1 hi hzz kl kq 0 c (Int.le_refl _) (by omega) hb' (by omega)
    simp only [Int.toNat_zero, Int.toNat_natCast, hss] at hr
    refine ⟨_, W.alloc (.cells (madeCells ei.zero.cells (c * ei.size)) e), [(W.heap.size, Row e ei.size c [])] ++ σ, m, by simp [execOp, hx, hy, hr], (hC.alloc _).imp (ψ := Row e ei.size c []) (fun o ho => ?_), Le.refl m, Mode.keep_cons _ hk, h W.heap.size _ rfl (.row W.heap.size 0 c [] (by simp) (Nat.zero_le _) hc)⟩
    subst ho
    exact ⟨_, rfl, size_madeCells _ _, hc, by simp, rfl⟩

/-- A map whose entries' stamps are known. -/
theorem SWP_openMap {c : Code} {M : Nat} {l : List (α × β)} {τ : Sig} (hp : σ.Perm ((M, MapC kc vc l) :: τ))
    (h : ∀ bs clock, bs.Nodup → (∀ b ∈ bs, b < clock) → bs.length = l.length → SWP P n c Q f ((M, MapB kc vc l bs clock) :: τ) m) : SWP P n c Q f σ m :=
  SWP_ghost fun g W hC => by
    have hC' := hC.perm hp
    obtain ⟨⟨o, ho, bs, clock, hb, h1, h2⟩, _⟩ := hC'.own _ (List.mem_cons_self ..)
    have hlen : bs.length = l.length := by
      obtain ⟨es, _, e1, e2⟩ := hb
      rw [← e2, List.length_map]
      have := congrArg List.length e1
      simpa using this
    refine ⟨(M, MapB kc vc l bs clock) :: τ, m, ?_, h bs clock h1 h2 hlen⟩
    have hC2 := hC'.turn (W' := W) (ψ := MapB kc vc l bs clock) o hb rfl rfl rfl ho (fun _ _ _ h => h)
    exact hC2
theorem MapB.close {l : List (α × β)} {bs : List Nat} {clock : Nat} (h1 : bs.Nodup) (h2 : ∀ b ∈ bs, b < clock) : ∀ o, MapB kc vc l bs clock o → MapC kc vc l o := fun _ h => ⟨bs, clock, h, h1, h2⟩
theorem SWP_imp {c : Code} {i : Nat} {φ ψ : Chk} (hi : ∀ o, φ o → ψ o) (h : SWP P n c Q f ((i, ψ) :: σ) m) : SWP P n c Q f ((i, φ) :: σ) m :=
  fun g W a hC hF => h g W a (hC.imp hi) hF

/-- An iterator over a map into which nothing has come since. -/
def IterB (M clock : Nat) (seen : Array Nat) : Chk := fun o => o = .mapIter (some M) clock seen clock

variable {M r : Nat} {l : List (α × β)} {bs : List Nat} {clock : Nat}

theorem run_getMap {M : Nat} {o : Obj} {W : World} {es : Array MapEntry} {c : Nat} (h : W.heap[M]? = some o) (he : o = .map es c) : (getObj M).run P W = .ok (.map es c) W := run_getObj' (by rw [h, he])

theorem rgm {t : TypeId} {k e : Nat} {x : Operand} {ag : Bool} {ts tb : Nat} {tz : Value} (ht : tyGet T t = some ⟨.map k e, ag, ts, tb, tz⟩) (hx : ev f x = .map (some M)) (hM : (M, MapB kc vc l bs clock) ∈ σ) (hdn : Nat.blt d n = true)
    (h : ∀ r, SL P n md ops Q rest (upd f d (.pointer (some ⟨r, 0, none⟩))) ((r, IterB M clock #[]) :: σ) m) (hm : md.loud = true := by exact rfl) :
    SL P n md ops Q (⟨some d, .range t x, ty, pos, after, none⟩ :: rest) f σ m :=
  SL_val hm rfl rfl rfl hdn fun g W hC hk => by
    obtain ⟨⟨o, ho, es, rfl, _⟩, _⟩ := hC.own _ hM
    refine ⟨_, W.alloc (.mapIter (some M) clock #[] clock), _, m, ?_, (hC.alloc _).imp (ψ := IterB M clock #[]) (fun o ho => ho), Le.refl m, Mode.keep_cons _ hk, h W.heap.size⟩
    have e1 : (newObj (.mapIter (some M) clock #[] clock)).run P W = .ok W.heap.size (W.alloc (.mapIter (some M) clock #[] clock)) := rfl
    simp [execOp, hx, Instr.range, run_underlying (mapDesc ht), run_getObj' ho, e1]

theorem nxm {x : Operand} {seen : Array Nat} {τ : Sig} (hlt : ∀ b ∈ bs, b < clock) (hx : ev f x = .pointer (some ⟨r, 0, none⟩)) (hσ : σ = (r, IterB M clock seen) :: τ) (hM : (M, MapB kc vc l bs clock) ∈ τ) (hdn : Nat.blt d n = true)
    (hdone : (∀ b ∈ bs, b ∈ seen.toList) → SL P n md ops Q rest (upd f d (.tuple #[.bool false])) ((r, IterB M clock seen) :: τ) m)
    (hmore : ∀ (j b : Nat) (p : α × β), bs[j]? = some b → l[j]? = some p → b ∉ seen.toList → SL P n md ops Q rest (upd f d (.tuple #[.bool true, kc p.1, vc p.2])) ((r, IterB M clock (seen.push b)) :: τ) m)
    (hm : md.loud = true := by exact rfl) (hkeep : md.keep τ := by first | exact True.intro | exact Sub.nil _ | (repeat (first | exact Sub.refl _ | exact Sub.nil _ | refine Sub.cons2 _ ?_ | refine Sub.cons _ ?_))) :
    SL P n md ops Q (⟨some d, .next x false, ty, pos, after, none⟩ :: rest) f σ m :=
  SL_val hm rfl rfl rfl hdn fun g W hC _ => by
    subst hσ
    obtain ⟨⟨o, ho, es, rfl, h1, h2⟩, _⟩ := hC.own _ (List.mem_cons_of_mem _ hM)
    obtain ⟨⟨o2, ho2, rfl⟩, _⟩ := hC.own _ (List.mem_cons_self ..)
    simp only at ho ho2
    rcases run_next_at (P := P) W ty r M clock clock seen es clock ho2 ho (fun x hx => hlt _ (by rw [← h2]; exact List.mem_map.2 ⟨x, hx, rfl⟩)) (Nat.le_refl _) with ⟨h0, hr⟩ | ⟨e, he, w1, hw1, hr⟩
    · refine ⟨_, W, _, m, by simp [execOp, hx, hr], hC, Le.refl m, Mode.keep_cons _ hkeep, hdone fun b hb => ?_⟩
      rw [← h2] at hb
      obtain ⟨x, hx, rfl⟩ := List.mem_map.1 hb
      have hnil : leftOf es seen = #[] := Array.size_eq_zero_iff.1 h0
      cases hc : seen.contains x.born with
      | true => exact Array.mem_toList_iff.2 (by simpa using hc)
      | false =>
        have : x ∈ leftOf es seen := by
          unfold leftOf
          rw [Array.mem_filter]
          exact ⟨Array.mem_toList_iff.1 hx, by simp only [hc, Bool.not_false]⟩
        rw [hnil] at this
        simp at this
    · have he' : e ∈ es.toList ∧ e.born ∉ seen.toList := by
        unfold leftOf at he
        rw [Array.mem_toList_iff, Array.mem_filter] at he
        refine ⟨Array.mem_toList_iff.2 he.1, fun hc => ?_⟩
        have h3 := he.2
        rw [Array.mem_toList_iff] at hc
        simp [hc] at h3
      obtain ⟨j, hj⟩ := List.getElem?_of_mem he'.1
      have hb : bs[j]? = some e.born := by rw [← h2, List.getElem?_map, hj]; rfl
      have e1 := congrArg (fun z => z[j]?) h1
      simp only [List.getElem?_map, hj, Option.map_some] at e1
      cases hp : l[j]? with
      | none => rw [hp] at e1; cases e1
      | some p =>
        rw [hp] at e1
        simp only [Option.map_some, Option.some.injEq, Prod.mk.injEq] at e1
        have hC1 : Conc g w1 m ((r, IterB M clock seen) :: τ) := by
          rcases hw1 with rfl | rfl
          · exact hC
          · exact hC.drawn _
        have hr1 : w1.heap[r]? = some (.mapIter (some M) clock seen clock) := by
          rcases hw1 with rfl | rfl <;> exact ho2
        refine ⟨.tuple #[.bool true, e.key, e.val], setB w1 r (.mapIter (some M) clock (seen.push e.born) clock), (r, IterB M clock (seen.push e.born)) :: τ, m, by simp [execOp, hx, hr]; rfl, ?_, Le.refl m, Mode.keep_cons _ hkeep, ?_⟩
        · exact setBlock_conc (ψ := IterB M clock (seen.push e.born)) (o' := .mapIter (some M) clock (seen.push e.born) clock) hC1 hr1 rfl
        · rw [e1.1, e1.2]
          exact hmore j e.born p hb hp he'.2

theorem enm {x : Operand} {seen : Array Nat} {j b : Nat} {p : α × β} (hnd : bs.Nodup) (hx : ev f x = .pointer (some ⟨r, 0, none⟩)) (hI : (r, IterB M clock (seen.push b)) ∈ md.own σ) (hM : (M, MapB kc vc l bs clock) ∈ md.own σ) (hb : bs[j]? = some b) (hp : l[j]? = some p) (hdn : Nat.blt d n = true)
    (h : SL P n md ops Q rest (upd f d (.tuple #[kc p.1, vc p.2])) σ m) : SL P n md ops Q (⟨some d, .entry x, ty, pos, after, none⟩ :: rest) f σ m :=
  SL_same rfl rfl hdn (fun g W hC => by
    obtain ⟨⟨o, ho, es, rfl, h1, h2⟩, _⟩ := hC.own _ hM
    obtain ⟨⟨o2, ho2, rfl⟩, _⟩ := hC.own _ hI
    simp only at ho ho2
    have e2 := hb
    rw [← h2, List.getElem?_map] at e2
    obtain ⟨e, he, rfl⟩ := Option.map_eq_some_iff.1 e2
    have e1 := congrArg (fun z => z[j]?) h1
    simp only [List.getElem?_map, he, hp, Option.map_some, Option.some.injEq, Prod.mk.injEq] at e1
    have hr := run_entry_at (P := P) W r M clock seen es clock e ho2 ho (List.mem_of_getElem? he) (by rw [h2]; exact hnd)
    rw [← e1.1, ← e1.2]
    simp [execOp, hx, hr]) h
end
end Eng
end Go.Proofs.Ytkopdlglenejmaa
