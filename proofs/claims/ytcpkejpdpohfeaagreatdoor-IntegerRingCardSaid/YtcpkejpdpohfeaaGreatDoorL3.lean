/- IntegerRing: its walk. Condition: the tables of strconv. -/
import Derived.Test.YtcpkejpdpohfeaaGreatDoorL2
namespace Go.Proofs.YtcpkejpdpohfeaaGreatDoor
open Go.RowKit Num
open Go.Shelf

set_option maxHeartbeats 2000000 in
set_option maxRecDepth 100000 in
theorem ring_any (a b c : ByteArray) (w : World) (hL : Laid w) : Calls Tryz.prog 3 #[.string a, .string b, .string c] w (RetB w true) := by
  have hB : Below w.heap.size w w := Below.refl _ _
  go_enter Tryz.func3, Tryz.ntmps3
  go_wp2_with (first
      | (go_at_call 12; (with_reducible refine (sane_any _ hL).mono ?_); rintro e v ⟨rfl, hb⟩; replace hL := hL.below hb; replace hB := below_up hB hb; clear hb)
      | (go_at_call 13; (with_reducible refine (made_at a 60 60 rfl (by decide) _).mono ?_); rintro e v ⟨X, x, hx, hxs, rfl, hb⟩; replace hL := hL.below hb; replace hB := below_up hB hb; clear hb)
      | (go_at_call 13; (with_reducible refine (made_at b 60 60 rfl (by decide) _).mono ?_); rintro e v ⟨Y, y, hy, hys, rfl, hb⟩; replace hL := hL.below hb; replace hB := below_up hB hb; clear hb)
      | (go_at_call 13; (with_reducible refine (made_at c 60 60 rfl (by decide) _).mono ?_); rintro e v ⟨Z, z, hz, hzs, rfl, hb⟩; replace hL := hL.below hb; replace hB := below_up hB hb; clear hb))
  have kxy := nabs_add hxs.out hys.out
  have pxy := nabs_mul hxs.out hys.out
  obtain ⟨XY, hXY⟩ := Is.ex (z := x + y) (sm_of kxy (by decide))
  obtain ⟨XYZ, hXYZ⟩ := Is.ex (z := x + y + z) (sm_of (nabs_add kxy hzs.out) (by decide))
  obtain ⟨YZ, hYZ⟩ := Is.ex (z := y + z) (sm_of (nabs_add hys.out hzs.out) (by decide))
  obtain ⟨P, hP⟩ := Is.ex (z := x * y) (sm_of pxy (by decide))
  obtain ⟨PZ, hPZ⟩ := Is.ex (z := x * y * z) (sm_of (nabs_mul pxy hzs.out) (by decide))
  obtain ⟨R, hR⟩ := Is.ex (z := y * z) (sm_of (nabs_mul hys.out hzs.out) (by decide))
  obtain ⟨L, hLL⟩ := Is.ex (z := (x + y) * z) (sm_of (nabs_mul kxy hzs.out) (by decide))
  obtain ⟨XZ, hXZ⟩ := Is.ex (z := x * z) (sm_of (nabs_mul hxs.out hzs.out) (by decide))
  obtain ⟨D, hD⟩ := Is.ex (z := x - y) (sm_of (nabs_sub hxs.out hys.out) (by decide))
  clear hxs hys hzs kxy pxy
  go_wp2_with (first
      | (go_at_call 14; (with_reducible refine (add_is hx hy hXY rfl _ hL).mono ?_); rintro e v ⟨rfl, hb⟩; replace hL := hL.below hb; replace hB := below_up hB hb; clear hb)
      | (go_at_call 14; (with_reducible refine (add_is hy hx hXY (Int.add_comm _ _) _ hL).mono ?_); rintro e v ⟨rfl, hb⟩; replace hL := hL.below hb; replace hB := below_up hB hb; clear hb)
      | (go_at_call 14; (with_reducible refine (add_is hXY hz hXYZ rfl _ hL).mono ?_); rintro e v ⟨rfl, hb⟩; replace hL := hL.below hb; replace hB := below_up hB hb; clear hb)
      | (go_at_call 14; (with_reducible refine (add_is hy hz hYZ rfl _ hL).mono ?_); rintro e v ⟨rfl, hb⟩; replace hL := hL.below hb; replace hB := below_up hB hb; clear hb)
      | (go_at_call 14; (with_reducible refine (add_is hx hYZ hXYZ (Int.add_assoc _ _ _).symm _ hL).mono ?_); rintro e v ⟨rfl, hb⟩; replace hL := hL.below hb; replace hB := below_up hB hb; clear hb)
      | (go_at_call 15; (with_reducible refine (mul_is hx hy hP rfl _ hL).mono ?_); rintro e v ⟨rfl, hb⟩; replace hL := hL.below hb; replace hB := below_up hB hb; clear hb)
      | (go_at_call 15; (with_reducible refine (mul_is hy hx hP (Int.mul_comm _ _) _ hL).mono ?_); rintro e v ⟨rfl, hb⟩; replace hL := hL.below hb; replace hB := below_up hB hb; clear hb)
      | (go_at_call 15; (with_reducible refine (mul_is hP hz hPZ rfl _ hL).mono ?_); rintro e v ⟨rfl, hb⟩; replace hL := hL.below hb; replace hB := below_up hB hb; clear hb)
      | (go_at_call 15; (with_reducible refine (mul_is hy hz hR rfl _ hL).mono ?_); rintro e v ⟨rfl, hb⟩; replace hL := hL.below hb; replace hB := below_up hB hb; clear hb)
      | (go_at_call 15; (with_reducible refine (mul_is hx hR hPZ (Int.mul_assoc _ _ _).symm _ hL).mono ?_); rintro e v ⟨rfl, hb⟩; replace hL := hL.below hb; replace hB := below_up hB hb; clear hb)
      | (go_at_call 15; (with_reducible refine (mul_is hXY hz hLL rfl _ hL).mono ?_); rintro e v ⟨rfl, hb⟩; replace hL := hL.below hb; replace hB := below_up hB hb; clear hb)
      | (go_at_call 15; (with_reducible refine (mul_is hx hz hXZ rfl _ hL).mono ?_); rintro e v ⟨rfl, hb⟩; replace hL := hL.below hb; replace hB := below_up hB hb; clear hb)
      | (go_at_call 14; (with_reducible refine (add_is hXZ hR hLL (Int.add_mul _ _ _).symm _ hL).mono ?_); rintro e v ⟨rfl, hb⟩; replace hL := hL.below hb; replace hB := below_up hB hb; clear hb)
      | (go_at_call 16; (with_reducible refine (sub_is hx hy hD rfl _ hL).mono ?_); rintro e v ⟨rfl, hb⟩; replace hL := hL.below hb; replace hB := below_up hB hb; clear hb)
      | (go_at_call 14; (with_reducible refine (add_is hD hy hx (Int.sub_add_cancel _ _) _ hL).mono ?_); rintro e v ⟨rfl, hb⟩; replace hL := hL.below hb; replace hB := below_up hB hb; clear hb)
      | (go_at_call 15; (with_reducible refine (mul_is hx lit_1 hx (Int.mul_one _) _ hL).mono ?_); rintro e v ⟨rfl, hb⟩; replace hL := hL.below hb; replace hB := below_up hB hb; clear hb)
      | (go_at_call 15; (with_reducible refine (mul_is hx lit_0 lit_0 (Int.mul_zero _) _ hL).mono ?_); rintro e v ⟨rfl, hb⟩; replace hL := hL.below hb; replace hB := below_up hB hb; clear hb))
  go_ret
  exact ⟨rfl, hB⟩

end Go.Proofs.YtcpkejpdpohfeaaGreatDoor
