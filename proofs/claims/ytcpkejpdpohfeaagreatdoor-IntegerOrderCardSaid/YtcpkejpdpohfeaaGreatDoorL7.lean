/- IntegerOrder: its walk. Condition: the tables of strconv. -/
import Derived.Test.YtcpkejpdpohfeaaGreatDoorL4
namespace Go.Proofs.YtcpkejpdpohfeaaGreatDoor
open Go.RowKit Num
open Go.Shelf

set_option maxHeartbeats 2000000 in
set_option maxRecDepth 100000 in
theorem order_any (a b c : ByteArray) (w : World) (hL : Laid w) : Calls Tryz.prog 7 #[.string a, .string b, .string c] w (RetB w true) := by
  have hB : Below w.heap.size w w := Below.refl _ _
  go_enter Tryz.func7, Tryz.ntmps7
  go_wp2_with (first
      | (go_at_call 12; (with_reducible refine (sane_any _ hL).mono ?_); rintro e v ⟨rfl, hb⟩; replace hL := hL.below hb; replace hB := below_up hB hb; clear hb)
      | (go_at_call 13; (with_reducible refine (made_at a 60 60 rfl (by decide) _).mono ?_); rintro e v ⟨X, x, hx, hxs, rfl, hb⟩; replace hL := hL.below hb; replace hB := below_up hB hb; clear hb)
      | (go_at_call 13; (with_reducible refine (made_at b 60 60 rfl (by decide) _).mono ?_); rintro e v ⟨Y, y, hy, hys, rfl, hb⟩; replace hL := hL.below hb; replace hB := below_up hB hb; clear hb)
      | (go_at_call 13; (with_reducible refine (made_at c 60 60 rfl (by decide) _).mono ?_); rintro e v ⟨Z, z, hz, hzs, rfl, hb⟩; replace hL := hL.below hb; replace hB := below_up hB hb; clear hb))
  have hxs := hxs.out
  have hys := hys.out
  have hzs := hzs.out
  obtain ⟨D, hD⟩ := Is.ex (z := x - y) (sm_of (nabs_sub hxs hys) (by decide))
  obtain ⟨XZ, hXZ⟩ := Is.ex (z := x + z) (sm_of (nabs_add hxs hzs) (by decide))
  obtain ⟨YZ, hYZ⟩ := Is.ex (z := y + z) (sm_of (nabs_add hys hzs) (by decide))
  have C1 := Lib.hid (fun w hL => sub_is hx hy hD rfl w hL)
  have C2 := Lib.hid (fun w hL => add_is hx hz hXZ rfl w hL)
  have C3 := Lib.hid (fun w hL => add_is hy hz hYZ rfl w hL)
  clear hxs hys hzs
  rcases Int.lt_trichotomy x y with h | h | h
  · have D1 := Lib.hid (fun w => cmp_is hx hy (cmp_lt h) w)
    have D2 := Lib.hid (fun w => cmp_is hy hx (cmp_gt h) w)
    have D3 := Lib.hid (fun w => cmp_is hD lit_0 (cmp_lt (by omega)) w)
    have D4 := Lib.hid (fun w => cmp_is hXZ hYZ (cmp_lt (by omega)) w)
    have hne : (X.toList == Y.toList) = false := hx.differ hy (by omega)
    have hyz : (z < y ∧ Hid (∀ w, Calls Tryz.prog 18 #[.string Y, .string Z] w (RetI w 1))) ∨
        (x < z ∧ Hid (∀ w, Calls Tryz.prog 18 #[.string Y, .string Z] w (RetI w (-1)))) ∨
        (x < z ∧ Hid (∀ w, Calls Tryz.prog 18 #[.string Y, .string Z] w (RetI w 0))) := by
      rcases Int.lt_trichotomy y z with k | k | k
      · exact .inr (.inl ⟨by omega, Lib.hid (fun w => cmp_is hy hz (cmp_lt k) w)⟩)
      · exact .inr (.inr ⟨by omega, Lib.hid (fun w => cmp_is hy hz (cmp_eq k) w)⟩)
      · exact .inl ⟨k, Lib.hid (fun w => cmp_is hy hz (cmp_gt k) w)⟩
    rcases hyz with ⟨k, D5⟩ | ⟨k, D5⟩ | ⟨k, D5⟩
    · clear hx hy hz hD hXZ hYZ h k
      go_wp2_with (first
          | (go_at_call 16; (with_reducible refine (C1.out _ hL).mono ?_); rintro e v ⟨rfl, hb⟩; replace hL := hL.below hb; replace hB := below_up hB hb; clear hb)
          | (go_at_call 14; (with_reducible refine (C2.out _ hL).mono ?_); rintro e v ⟨rfl, hb⟩; replace hL := hL.below hb; replace hB := below_up hB hb; clear hb)
          | (go_at_call 14; (with_reducible refine (C3.out _ hL).mono ?_); rintro e v ⟨rfl, hb⟩; replace hL := hL.below hb; replace hB := below_up hB hb; clear hb)
          | (go_at_call 18; (with_reducible refine (D1.out _).mono ?_); rintro e v ⟨rfl, hb⟩; replace hL := hL.below hb; replace hB := below_up hB hb; clear hb)
          | (go_at_call 18; (with_reducible refine (D2.out _).mono ?_); rintro e v ⟨rfl, hb⟩; replace hL := hL.below hb; replace hB := below_up hB hb; clear hb)
          | (go_at_call 18; (with_reducible refine (D3.out _).mono ?_); rintro e v ⟨rfl, hb⟩; replace hL := hL.below hb; replace hB := below_up hB hb; clear hb)
          | (go_at_call 18; (with_reducible refine (D4.out _).mono ?_); rintro e v ⟨rfl, hb⟩; replace hL := hL.below hb; replace hB := below_up hB hb; clear hb)
          | (go_at_call 18; (with_reducible refine (D5.out _).mono ?_); rintro e v ⟨rfl, hb⟩; replace hL := hL.below hb; replace hB := below_up hB hb; clear hb))
      go_ret
      exact ⟨rfl, hB⟩
    all_goals
      have D6 := Lib.hid (fun w => cmp_is hx hz (cmp_lt k) w)
      clear hx hy hz hD hXZ hYZ h k
      go_wp2_with (first
          | (go_at_call 16; (with_reducible refine (C1.out _ hL).mono ?_); rintro e v ⟨rfl, hb⟩; replace hL := hL.below hb; replace hB := below_up hB hb; clear hb)
          | (go_at_call 14; (with_reducible refine (C2.out _ hL).mono ?_); rintro e v ⟨rfl, hb⟩; replace hL := hL.below hb; replace hB := below_up hB hb; clear hb)
          | (go_at_call 14; (with_reducible refine (C3.out _ hL).mono ?_); rintro e v ⟨rfl, hb⟩; replace hL := hL.below hb; replace hB := below_up hB hb; clear hb)
          | (go_at_call 18; (with_reducible refine (D1.out _).mono ?_); rintro e v ⟨rfl, hb⟩; replace hL := hL.below hb; replace hB := below_up hB hb; clear hb)
          | (go_at_call 18; (with_reducible refine (D2.out _).mono ?_); rintro e v ⟨rfl, hb⟩; replace hL := hL.below hb; replace hB := below_up hB hb; clear hb)
          | (go_at_call 18; (with_reducible refine (D3.out _).mono ?_); rintro e v ⟨rfl, hb⟩; replace hL := hL.below hb; replace hB := below_up hB hb; clear hb)
          | (go_at_call 18; (with_reducible refine (D4.out _).mono ?_); rintro e v ⟨rfl, hb⟩; replace hL := hL.below hb; replace hB := below_up hB hb; clear hb)
          | (go_at_call 18; (with_reducible refine (D5.out _).mono ?_); rintro e v ⟨rfl, hb⟩; replace hL := hL.below hb; replace hB := below_up hB hb; clear hb)
          | (go_at_call 18; (with_reducible refine (D6.out _).mono ?_); rintro e v ⟨rfl, hb⟩; replace hL := hL.below hb; replace hB := below_up hB hb; clear hb))
      go_ret
      exact ⟨rfl, hB⟩
  · subst h
    obtain rfl : X = Y := hx.uniq hy
    obtain rfl : XZ = YZ := hXZ.uniq hYZ
    have D1 := Lib.hid (fun w => cmp_is hx hx (cmp_eq rfl) w)
    have D3 := Lib.hid (fun w => cmp_is hD lit_0 (cmp_eq (by omega)) w)
    have D4 := Lib.hid (fun w => cmp_is hXZ hXZ (cmp_eq rfl) w)
    rcases Int.lt_trichotomy x z with k | k | k
    · have D5 := Lib.hid (fun w => cmp_is hx hz (cmp_lt k) w)
      clear hx hy hz hD hXZ hYZ k
      go_wp2_with (first
          | (go_at_call 16; (with_reducible refine (C1.out _ hL).mono ?_); rintro e v ⟨rfl, hb⟩; replace hL := hL.below hb; replace hB := below_up hB hb; clear hb)
          | (go_at_call 14; (with_reducible refine (C2.out _ hL).mono ?_); rintro e v ⟨rfl, hb⟩; replace hL := hL.below hb; replace hB := below_up hB hb; clear hb)
          | (go_at_call 14; (with_reducible refine (C3.out _ hL).mono ?_); rintro e v ⟨rfl, hb⟩; replace hL := hL.below hb; replace hB := below_up hB hb; clear hb)
          | (go_at_call 18; (with_reducible refine (D1.out _).mono ?_); rintro e v ⟨rfl, hb⟩; replace hL := hL.below hb; replace hB := below_up hB hb; clear hb)
          | (go_at_call 18; (with_reducible refine (D3.out _).mono ?_); rintro e v ⟨rfl, hb⟩; replace hL := hL.below hb; replace hB := below_up hB hb; clear hb)
          | (go_at_call 18; (with_reducible refine (D4.out _).mono ?_); rintro e v ⟨rfl, hb⟩; replace hL := hL.below hb; replace hB := below_up hB hb; clear hb)
          | (go_at_call 18; (with_reducible refine (D5.out _).mono ?_); rintro e v ⟨rfl, hb⟩; replace hL := hL.below hb; replace hB := below_up hB hb; clear hb))
      go_ret
      exact ⟨rfl, hB⟩
    · have D5 := Lib.hid (fun w => cmp_is hx hz (cmp_eq k) w)
      clear hx hy hz hD hXZ hYZ k
      go_wp2_with (first
          | (go_at_call 16; (with_reducible refine (C1.out _ hL).mono ?_); rintro e v ⟨rfl, hb⟩; replace hL := hL.below hb; replace hB := below_up hB hb; clear hb)
          | (go_at_call 14; (with_reducible refine (C2.out _ hL).mono ?_); rintro e v ⟨rfl, hb⟩; replace hL := hL.below hb; replace hB := below_up hB hb; clear hb)
          | (go_at_call 14; (with_reducible refine (C3.out _ hL).mono ?_); rintro e v ⟨rfl, hb⟩; replace hL := hL.below hb; replace hB := below_up hB hb; clear hb)
          | (go_at_call 18; (with_reducible refine (D1.out _).mono ?_); rintro e v ⟨rfl, hb⟩; replace hL := hL.below hb; replace hB := below_up hB hb; clear hb)
          | (go_at_call 18; (with_reducible refine (D3.out _).mono ?_); rintro e v ⟨rfl, hb⟩; replace hL := hL.below hb; replace hB := below_up hB hb; clear hb)
          | (go_at_call 18; (with_reducible refine (D4.out _).mono ?_); rintro e v ⟨rfl, hb⟩; replace hL := hL.below hb; replace hB := below_up hB hb; clear hb)
          | (go_at_call 18; (with_reducible refine (D5.out _).mono ?_); rintro e v ⟨rfl, hb⟩; replace hL := hL.below hb; replace hB := below_up hB hb; clear hb))
      go_ret
      exact ⟨rfl, hB⟩
    · have D5 := Lib.hid (fun w => cmp_is hx hz (cmp_gt k) w)
      clear hx hy hz hD hXZ hYZ k
      go_wp2_with (first
          | (go_at_call 16; (with_reducible refine (C1.out _ hL).mono ?_); rintro e v ⟨rfl, hb⟩; replace hL := hL.below hb; replace hB := below_up hB hb; clear hb)
          | (go_at_call 14; (with_reducible refine (C2.out _ hL).mono ?_); rintro e v ⟨rfl, hb⟩; replace hL := hL.below hb; replace hB := below_up hB hb; clear hb)
          | (go_at_call 14; (with_reducible refine (C3.out _ hL).mono ?_); rintro e v ⟨rfl, hb⟩; replace hL := hL.below hb; replace hB := below_up hB hb; clear hb)
          | (go_at_call 18; (with_reducible refine (D1.out _).mono ?_); rintro e v ⟨rfl, hb⟩; replace hL := hL.below hb; replace hB := below_up hB hb; clear hb)
          | (go_at_call 18; (with_reducible refine (D3.out _).mono ?_); rintro e v ⟨rfl, hb⟩; replace hL := hL.below hb; replace hB := below_up hB hb; clear hb)
          | (go_at_call 18; (with_reducible refine (D4.out _).mono ?_); rintro e v ⟨rfl, hb⟩; replace hL := hL.below hb; replace hB := below_up hB hb; clear hb)
          | (go_at_call 18; (with_reducible refine (D5.out _).mono ?_); rintro e v ⟨rfl, hb⟩; replace hL := hL.below hb; replace hB := below_up hB hb; clear hb))
      go_ret
      exact ⟨rfl, hB⟩
  · have D1 := Lib.hid (fun w => cmp_is hx hy (cmp_gt h) w)
    have D2 := Lib.hid (fun w => cmp_is hy hx (cmp_lt h) w)
    have D3 := Lib.hid (fun w => cmp_is hD lit_0 (cmp_gt (by omega)) w)
    have D4 := Lib.hid (fun w => cmp_is hXZ hYZ (cmp_gt (by omega)) w)
    have hne : (X.toList == Y.toList) = false := hx.differ hy (by omega)
    clear hx hy hz hD hXZ hYZ h
    go_wp2_with (first
        | (go_at_call 16; (with_reducible refine (C1.out _ hL).mono ?_); rintro e v ⟨rfl, hb⟩; replace hL := hL.below hb; replace hB := below_up hB hb; clear hb)
        | (go_at_call 14; (with_reducible refine (C2.out _ hL).mono ?_); rintro e v ⟨rfl, hb⟩; replace hL := hL.below hb; replace hB := below_up hB hb; clear hb)
        | (go_at_call 14; (with_reducible refine (C3.out _ hL).mono ?_); rintro e v ⟨rfl, hb⟩; replace hL := hL.below hb; replace hB := below_up hB hb; clear hb)
        | (go_at_call 18; (with_reducible refine (D1.out _).mono ?_); rintro e v ⟨rfl, hb⟩; replace hL := hL.below hb; replace hB := below_up hB hb; clear hb)
        | (go_at_call 18; (with_reducible refine (D2.out _).mono ?_); rintro e v ⟨rfl, hb⟩; replace hL := hL.below hb; replace hB := below_up hB hb; clear hb)
        | (go_at_call 18; (with_reducible refine (D3.out _).mono ?_); rintro e v ⟨rfl, hb⟩; replace hL := hL.below hb; replace hB := below_up hB hb; clear hb)
        | (go_at_call 18; (with_reducible refine (D4.out _).mono ?_); rintro e v ⟨rfl, hb⟩; replace hL := hL.below hb; replace hB := below_up hB hb; clear hb))
    go_ret
    exact ⟨rfl, hB⟩

end Go.Proofs.YtcpkejpdpohfeaaGreatDoor
