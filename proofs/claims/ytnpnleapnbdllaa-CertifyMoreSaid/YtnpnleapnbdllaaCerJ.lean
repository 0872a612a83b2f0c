/- Plain laws of certified results: the balls of a further witness. -/
import Derived.Test.YtnpnleapnbdllaaCerH
import Derived.Test.YtnpnleapnbdllaaMecF
namespace Go.Proofs.Ytnpnleapnbdllaa
open Eng

theorem more_balls {g : Game} {l : List Ball} {q w : Int} {x : Res} (h : (certF g l q).1 = 0) (kx : x.key = (certF g l q).2.1) (h1 : 1 ≤ w) (h8 : w ≤ 8) :
    outE g w x = 0 ∧ mechE g (outB g w x) = 0 ∧ outKey (mechO g (outB g w x)) = (certF g l q).2.1 := by
  obtain ⟨hg, hq1, hq2, y, hy, e⟩ := certF_zero h
  obtain ⟨hm, hw⟩ := find_some hy
  unfold reps at hm
  obtain ⟨w0, _, rfl⟩ := List.mem_map.1 hm
  have ok : mechE g (ofB l w0) = 0 := of_decide_eq_true (winB_def.1 hw).1
  rw [e] at kx ⊢
  have kx' : x.key = outKey (mechO g (ofB l w0)) := kx
  have hO : OutIs x (mechO g (ofB l w0)).1 (mechO g (ofB l w0)).2.1 (mechO g (ofB l w0)).2.2 := by
    unfold Res.key outKey at kx'
    simp only [Prod.mk.injEq] at kx'
    exact ⟨kx'.1, kx'.2.1, kx'.2.2.1, kx'.2.2.2.1, kx'.2.2.2.2⟩
  have hr := fits_ok ok hO
  have hE : outE g w x = 0 := by
    unfold outE
    rw [if_neg (by rw [hg]; decide), if_neg (by omega)]
    exact hr
  obtain ⟨p1, p2⟩ := pref_mech hE
  refine ⟨hE, p1, ?_⟩
  rw [p2]
  show outKey (x.main, x.bonus, x.extra) = outKey (mechO g (ofB l w0))
  rw [← kx']
  unfold outKey Res.key
  rw [hO.fc, hO.sr]

end Go.Proofs.Ytnpnleapnbdllaa

