/- A value of a small polynomial does not fail, in whatever order its coefficients come. Plain. -/
import Derived.Test.YtaalbmnlpppeaaaGreatDoorK17
import Derived.Test.YtaalbmnlpppeaaaGreatDoorM7
namespace Go.Proofs.YtaalbmnlpppeaaaGreatDoor
open Num

theorem ev_of {D N n : Nat} {l : List Rat} {v : Rat} (h : Ok D N n l) (hv : lim 3 v) (h0 : 0 < D) (hD : D ≤ 36) (hN : N ≤ 6480) (hn : n ≤ 9) : EvB D N v.den 999 l v := by
  obtain ⟨b1, b2, b3⟩ := lim_bd hv
  have hl : l.length ≤ 9 := Nat.le_trans h.1 hn
  have e1 : v.den ^ l.length ≤ 999 ^ 9 := Nat.le_trans (Nat.pow_le_pow_left b3 _) (Nat.pow_le_pow_right (by decide) hl)
  have e2 : (999 + v.den) ^ l.length ≤ 1998 ^ 9 := Nat.le_trans (Nat.pow_le_pow_left (by omega) _) (Nat.pow_le_pow_right (by decide) hl)
  refine ⟨h0, b2, b1, h.2.2, ?_, ?_, Lo.mono (b := 999) (by decide) b3, by decide⟩
  · exact Lo.mono (b := 36 * 999 ^ 9) (by decide) (Nat.mul_le_mul hD e1)
  · exact Lo.mono (b := 10 * (6480 * 1998 ^ 9)) (by decide) (Nat.mul_le_mul (by omega) (Nat.mul_le_mul hN e2))
theorem ring_ev {p q r pq qr : List Rat} {v : Rat} (hp : In p) (hq : In q) (hr : In r) (hv : lim 3 v) (h1 : timesO p q = some pq) (h2 : combO addQ q r = some qr) :
    EvB 6 36 v.den 999 p v ∧ EvB 6 36 v.den 999 q v ∧ EvB 6 36 v.den 999 r v ∧ EvB 36 6480 v.den 999 pq v ∧ EvB 6 72 v.den 999 qr v := by
  obtain ⟨pq', a1, a2, a3⟩ := times_c hp hq (by decide) (by decide) (by decide) (by decide) (by decide) (by decide) (by decide) (by decide) (by decide)
  obtain ⟨qr', c1, c2, c3⟩ := add_c hq hr (by decide) (by decide) (by decide) (by decide)
  obtain rfl := Option.some.inj (a1.symm.trans h1)
  obtain rfl := Option.some.inj (c1.symm.trans h2)
  exact ⟨ev_of hp hv (by decide) (by decide) (by decide) (by decide), ev_of hq hv (by decide) (by decide) (by decide) (by decide), ev_of hr hv (by decide) (by decide) (by decide) (by decide), ev_of a3 hv (by decide) (by decide) (by decide) (by decide), ev_of c3 hv (by decide) (by decide) (by decide) (by decide)⟩
theorem derive_ev {p dp : List Rat} {v : Rat} (hp : In p) (hv : lim 3 v) (h1 : derivO p = some dp) : EvB 6 36 v.den 999 p v ∧ EvB 6 468 v.den 999 dp v := by
  obtain ⟨dp', c1, c2, c3⟩ := deriv_c hp (by decide) (by decide) (by decide) (by decide)
  obtain rfl := Option.some.inj (c1.symm.trans h1)
  exact ⟨ev_of hp hv (by decide) (by decide) (by decide) (by decide), ev_of c3 hv (by decide) (by decide) (by decide) (by decide)⟩
theorem EvB.fitP {D N E M : Nat} {p : List Rat} {x : Rat} (h : EvB D N E M p x) : fitQ (evP p x) := Vl_all x p ▸ h.fit (down p.length p.length) (by rw [down_length (Nat.le_refl _)]; exact Nat.le_refl _)
theorem lim3_fit {v : Rat} (h : lim 3 v) : fitQ v := lim.fit (k := 3) h (by decide)
theorem mul_fit' {a b c : Rat} (h : mulQ a b = some c) : fitQ c := mulQ_fit h

end Go.Proofs.YtaalbmnlpppeaaaGreatDoor
