/- Games, their add-ons and tiers; what is wrong with a game. -/
import Derived.Test.YtkopdlglenejmaaNames
import Derived.Test.YtkopdlglenejmaaEngMore
import Derived.Test.YtkopdlglenejmaaData
namespace Go.Proofs.Ytkopdlglenejmaa
open Eng

structure Tier where
  main : Int
  bonus : Int
  extra : Int
  mode : Int
  kind : Int
  value : Int
deriving DecidableEq
def Tier.enc (t : Tier) : List Value := [.int .i64 t.main, .int .i64 t.bonus, .int .i64 t.extra, .int .i64 t.mode, .int .i64 t.kind, .int .i64 t.value]
def Tier.val (t : Tier) : Value := .agg #[.int .i64 t.main, .int .i64 t.bonus, .int .i64 t.extra, .int .i64 t.mode, .int .i64 t.kind, .int .i64 t.value]
theorem Tier.enc_len (t : Tier) : t.enc.length = 6 := rfl
structure Addon where
  name : ByteArray
  kind : Int
  price : Int
  fa : Option Addr
  fc : Nat
  factors : List Int
  digits : Int
  pa : Option Addr
  pc : Nat
  prizes : List Int
def Addon.enc (a : Addon) : List Value := [.string a.name, .int .i64 a.kind, .int .i64 a.price, .slice a.fa a.factors.length a.fc, .int .i64 a.digits, .slice a.pa a.prizes.length a.pc]
def Addon.val (a : Addon) : Value := .agg #[.string a.name, .int .i64 a.kind, .int .i64 a.price, .slice a.fa a.factors.length a.fc, .int .i64 a.digits, .slice a.pa a.prizes.length a.pc]
theorem Addon.enc_len (a : Addon) : a.enc.length = 6 := rfl
def Addon.In (m : Mem) (a : Addon) : Prop := RL m intE 1 (.slice a.fa a.factors.length a.fc) a.factors ∧ RL m intE 1 (.slice a.pa a.prizes.length a.pc) a.prizes
theorem Addon.In.mono {m m' : Mem} {a : Addon} (h : a.In m) (hl : Le m m') : a.In m' := ⟨h.1.mono hl, h.2.mono hl⟩
structure Game where
  name : ByteArray
  kind : Int
  price : Int
  main : Int
  of : Int
  bonus : Int
  bonusOf : Int
  extra : Int
  draws : Int
  system : Int
  days : Int
  minute : Int
  close : Int
  cancel : Int
  expiry : Int
  pool : Int
  reserve : Int
  round : Int
  cap : Int
  rolls : Int
  aa : Option Addr
  ac : Nat
  addons : List Addon
  ta : Option Addr
  tc : Nat
  tiers : List Tier
def Game.val (g : Game) : Value := .agg #[.string g.name, .int .i64 g.kind, .int .i64 g.price, .int .i64 g.main, .int .i64 g.of, .int .i64 g.bonus, .int .i64 g.bonusOf, .int .i64 g.extra, .int .i64 g.draws, .int .i64 g.system, .int .i64 g.days, .int .i64 g.minute, .int .i64 g.close, .int .i64 g.cancel, .int .i64 g.expiry, .int .i64 g.pool, .int .i64 g.reserve, .int .i64 g.round, .int .i64 g.cap, .int .i64 g.rolls, .slice g.aa g.addons.length g.ac, .slice g.ta g.tiers.length g.tc]
structure Game.In (m : Mem) (g : Game) : Prop where
  ads : RL m Addon.enc 6 (.slice g.aa g.addons.length g.ac) g.addons
  each : ∀ a ∈ g.addons, a.In m
  trs : RL m Tier.enc 6 (.slice g.ta g.tiers.length g.tc) g.tiers
theorem Game.In.mono {m m' : Mem} {g : Game} (h : g.In m) (hl : Le m m') : g.In m' := ⟨h.ads.mono hl, fun a ha => (h.each a ha).mono hl, h.trs.mono hl⟩
/-- An element of a list that memory keeps. -/
theorem Eng.RL.atA {α : Type} {m : Mem} {e : α → List Value} {size k n c : Nat} {a : Option Addr} {l : List α} {x : α} (he : ∀ x, (e x).length = size) (h : RL m e size (.slice a n c) l) (hk : l[k]? = some x) : ∃ ad, a = some ad ∧ n = l.length ∧ At m (ad.add (k * size)) (e x) := by
  obtain ⟨ad, cap, h1, h2⟩ := RL.at_ he h hk
  injection h1 with e1 e2
  exact ⟨ad, e1, e2, h2⟩
theorem Eng.RL.atI {m : Mem} {k n c : Nat} {a : Option Addr} {l : List Int} {x : Int} (h : RL m intE 1 (.slice a n c) l) (hk : l[k]? = some x) : ∃ ad, a = some ad ∧ n = l.length ∧ At m (ad.add k) (intE x) := by
  have := Eng.RL.atA intE_len h hk
  simpa using this

/-! ## What is wrong with a game -/

structure MxOk (g : Game) : Prop where
  h1 : 1 ≤ g.price ∧ g.price ≤ 1000000
  h2 : 1 ≤ g.main ∧ g.main ≤ 10
  h3 : g.kind = 2 → 2 ≤ g.of ∧ g.of ≤ 10
  h4 : g.kind ≠ 2 → g.main ≤ g.of ∧ g.of ≤ 80
  h5 : 0 ≤ g.bonus
  h6 : g.kind = 2 → g.bonus ≤ 0
  h7 : g.kind ≠ 2 → g.bonus ≤ 4
  h8 : g.bonus = 0 → g.bonusOf = 0
  h9 : g.bonus ≠ 0 → g.bonus ≤ g.bonusOf ∧ g.bonusOf ≤ 80
  h10 : 0 ≤ g.extra
  h11 : g.kind = 2 → g.extra ≤ 0
  h12 : g.kind ≠ 2 → g.extra ≤ 4 ∧ g.main + g.extra ≤ g.of
  h13 : 1 ≤ g.draws ∧ g.draws ≤ 32
  h14 : g.main ≤ g.system
  h15 : g.kind = 2 → g.system ≤ g.main
  h16 : g.kind ≠ 2 → g.system ≤ 14 ∧ g.system ≤ g.of
structure TmOk (g : Game) : Prop where
  h1 : 1 ≤ g.days ∧ g.days ≤ 127
  h2 : 0 ≤ g.minute ∧ g.minute ≤ 1439
  h3 : 0 ≤ g.close ∧ g.close ≤ 1440
  h4 : 0 ≤ g.cancel ∧ g.cancel ≤ 10080
  h5 : 1 ≤ g.expiry ∧ g.expiry ≤ 3660
  h6 : 0 ≤ g.pool ∧ g.pool ≤ 10000
  h7 : 0 ≤ g.reserve ∧ g.reserve ≤ 10000
  h8 : 1 ≤ g.round ∧ g.round ≤ 1000000
  h9 : 0 ≤ g.cap ∧ g.cap ≤ 1000000000000
  h10 : 0 ≤ g.rolls ∧ g.rolls ≤ 64
open Classical in
noncomputable def okE (p : Prop) (a b : Int) : Int := if p then a else b
theorem okE_t {p : Prop} {a b : Int} (h : p) : okE p a b = a := if_pos h
theorem okE_f {p : Prop} {a b : Int} (h : ¬ p) : okE p a b = b := if_neg h
def allErr (lo hi : Int) (l : List Int) : Int := if ∀ x ∈ l, lo ≤ x ∧ x ≤ hi then 0 else 2
def addonErr (a : Addon) : Int :=
  if nameB a.name = false then 4
  else if a.kind ≠ 1 ∧ a.kind ≠ 2 then 7
  else if ¬ (0 ≤ a.price ∧ a.price ≤ 1000000) then 2
  else if a.kind = 1 then
    if a.digits ≠ 0 ∨ 0 < a.prizes.length then 7
    else if ¬ (1 ≤ a.factors.length ∧ a.factors.length ≤ 8) then 3
    else allErr 1 100 a.factors
  else if 0 < a.factors.length then 7
  else if ¬ (1 ≤ a.digits ∧ a.digits ≤ 8) then 2
  else if (a.prizes.length : Int) ≠ a.digits then 3
  else allErr 0 1000000000 a.prizes
def addonsFrom (pre : List Addon) : List Addon → Int
  | [] => 0
  | a :: l => if addonErr a ≠ 0 then addonErr a else if ∃ b ∈ pre, b.name = a.name ∨ b.kind = a.kind then 6 else addonsFrom (pre ++ [a]) l
def addonsErr (l : List Addon) : Int := if 4 < l.length then 3 else addonsFrom [] l
def hitsErr (kind gm gb ge : Int) (t : Tier) : Int :=
  if kind = 2 then
    if ¬ (1 ≤ t.mode ∧ t.mode ≤ 4) then 7
    else if t.bonus ≠ 0 ∨ t.extra ≠ 0 ∨ (t.mode ≤ 2 ∧ t.main ≠ 0) ∨ (3 ≤ t.mode ∧ ¬ (1 ≤ t.main ∧ t.main ≤ gm)) then 2
    else 0
  else if t.mode ≠ 0 then 7
  else if ¬ (0 ≤ t.main ∧ t.main ≤ gm) ∨ ¬ (0 ≤ t.bonus ∧ t.bonus ≤ gb) ∨ ¬ (0 ≤ t.extra ∧ t.extra ≤ ge) ∨ (t.main = 0 ∧ t.bonus = 0 ∧ t.extra = 0) then 2
  else 0
def tierErr (g : Game) (t : Tier) : Int :=
  if hitsErr g.kind g.main g.bonus g.extra t ≠ 0 then hitsErr g.kind g.main g.bonus g.extra t
  else if t.kind ≠ 1 ∧ t.kind ≠ 2 ∧ t.kind ≠ 3 then 7
  else if ¬ (0 ≤ t.value ∧ t.value ≤ 1000000000) then 2
  else 0
def effM (g : Game) (t : Tier) : Int := if (t.mode = 3 ∨ t.mode = 4) ∧ t.main = g.main then 1 else t.mode
def covP (g : Game) (a b : Tier) : Prop := (g.kind = 1 ∧ a.main ≤ b.main ∧ a.bonus ≤ b.bonus ∧ a.extra ≤ b.extra) ∨ (g.kind ≠ 1 ∧ (effM g b = 1 ∨ (effM g a = effM g b ∧ a.main ≤ b.main)))
instance (g : Game) (a b : Tier) : Decidable (covP g a b) := by unfold covP; infer_instance
def tiersFrom (g : Game) (pre : List Tier) : List Tier → Int
  | [] => 0
  | t :: l => if tierErr g t ≠ 0 then tierErr g t else if ∃ b ∈ pre, covP g b t then 6 else tiersFrom g (pre ++ [t]) l
def tiersErr (g : Game) : Int := if ¬ (1 ≤ g.tiers.length ∧ g.tiers.length ≤ 12) then 3 else tiersFrom g [] g.tiers
noncomputable def gameErr (g : Game) : Int :=
  if nameB g.name = false then 4
  else if g.kind ≠ 1 ∧ g.kind ≠ 2 then 7
  else okE (MxOk g ∧ TmOk g) (if addonsErr g.addons ≠ 0 then addonsErr g.addons else tiersErr g) 2
theorem addonsFrom_at {pre l : List Addon} {i : Nat} {a : Addon} (h : l[i]? = some a) : addonsFrom pre (l.drop i) = if addonErr a ≠ 0 then addonErr a else if ∃ b ∈ pre, b.name = a.name ∨ b.kind = a.kind then 6 else addonsFrom (pre ++ [a]) (l.drop (i + 1)) := by
  have hk := List.getElem?_eq_some_iff.1 h
  rw [List.drop_eq_getElem_cons hk.1, hk.2]; rfl
theorem tiersFrom_at {g : Game} {pre l : List Tier} {i : Nat} {a : Tier} (h : l[i]? = some a) : tiersFrom g pre (l.drop i) = if tierErr g a ≠ 0 then tierErr g a else if ∃ b ∈ pre, covP g b a then 6 else tiersFrom g (pre ++ [a]) (l.drop (i + 1)) := by
  have hk := List.getElem?_eq_some_iff.1 h
  rw [List.drop_eq_getElem_cons hk.1, hk.2]; rfl
theorem take_snocA {α : Type} {x : α} {S : List α} {i : Nat} (hx : S[i]? = some x) : S.take (i + 1) = S.take i ++ [x] := by
  have hk := List.getElem?_eq_some_iff.1 hx
  rw [List.take_succ_eq_append_getElem hk.1, hk.2]
theorem emptyS {s : ByteArray} {p : Prop} (hs : s = ByteArray.empty) (h : p) : s = ByteArray.empty ↔ p := ⟨fun _ => h, fun _ => hs⟩
theorem fullS {s : ByteArray} {p : Prop} (hs : s ≠ ByteArray.empty) (h : ¬ p) : s = ByteArray.empty ↔ p := ⟨fun h' => absurd h' hs, fun h' => absurd h' h⟩

end Go.Proofs.Ytkopdlglenejmaa

