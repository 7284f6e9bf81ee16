/- IntegerRoot: its walk. Condition: the tables of strconv. -/
import Derived.Test.YtcpkejpdpohfeaaGreatDoorL4
namespace Go.Proofs.YtcpkejpdpohfeaaGreatDoor
open Go.RowKit Num
open Go.Shelf

theorem isq_ex : ∀ n : Nat, ∃ r, isq n r
  | 0 => ⟨0, by unfold isq; omega⟩
  | n + 1 => by
    obtain ⟨r, h1, h2⟩ := isq_ex n
    by_cases h : n + 1 < (r + 1) * (r + 1)
    · exact ⟨r, by omega, h⟩
    · have e : (r + 1 + 1) * (r + 1 + 1) = (r + 1) * (r + 1) + (2 * r + 3) := by
        rw [Nat.add_mul, Nat.mul_add (r + 1) (r + 1) 1]
        omega
      exact ⟨r + 1, by omega, by omega⟩
theorem isq_square (x : Int) : isq (x * x).toNat x.natAbs := by
  have e : (x * x).toNat = x.natAbs * x.natAbs := by
    have := Int.natAbs_mul_self (a := x)
    omega
  rw [e]
  exact ⟨Nat.le_refl _, Nat.mul_lt_mul'' (by omega) (by omega)⟩

set_option maxHeartbeats 2000000 in
set_option maxRecDepth 100000 in
theorem root_law (a : ByteArray) (w : World) (hL : Laid w) : Calls Tryz.prog 6 #[.string a] w (RetB w true) := by
  have hB : Below w.heap.size w w := Below.refl _ _
  go_enter Tryz.func6, Tryz.ntmps6
  go_wp2_with (first
      | (go_at_call 12; (with_reducible refine (sane_any _ hL).mono ?_); rintro e v ⟨rfl, hb⟩; replace hL := hL.below hb; replace hB := below_up hB hb; clear hb)
      | (go_at_call 13; (with_reducible refine (made_at a 80 80 rfl (by decide) _).mono ?_); rintro e v ⟨X, x, hx, hxs, rfl, hb⟩; replace hL := hL.below hb; replace hB := below_up hB hb; clear hb))
  have hxs := hxs.out
  have hsq : 0 ≤ x * x := by have := Int.natAbs_mul_self (a := x); omega
  obtain ⟨M, hM⟩ := Is.ex (z := x * x) (sm_of (nabs_mul hxs hxs) (by decide))
  have C2 := Lib.hid (fun w hL => mul_is hx hx hM rfl w hL)
  by_cases h0 : x < 0
  · obtain ⟨S, hS⟩ := Is.ex (z := ((x.natAbs : Nat) : Int)) (sm_of (m := 10 ^ 80) (by omega) (by decide))
    have C1 := Lib.hid (fun w => root_neg hx h0 w)
    have C3 := Lib.hid (fun w hL => root_is hM hsq (isq_square x) hS w hL)
    have C4 := Lib.hid (fun w hL => add_is hS hx lit_0 (by omega) w hL)
    have C5 := Lib.hid (fun w => cmp_is hx lit_0 (cmp_lt h0) w)
    have hne : (S.toList == X.toList) = false := hS.differ hx (by omega)
    clear hxs hsq h0 hx hM hS
    go_wp2_with (first
        | (go_at_call 21; (with_reducible refine (C1.out _).mono ?_); rintro e v ⟨rfl, hb⟩; replace hL := hL.below hb; replace hB := below_up hB hb; clear hb)
        | (go_at_call 15; (with_reducible refine (C2.out _ hL).mono ?_); rintro e v ⟨rfl, hb⟩; replace hL := hL.below hb; replace hB := below_up hB hb; clear hb)
        | (go_at_call 21; (with_reducible refine (C3.out _ hL).mono ?_); rintro e v ⟨rfl, hb⟩; replace hL := hL.below hb; replace hB := below_up hB hb; clear hb)
        | (go_at_call 14; (with_reducible refine (C4.out _ hL).mono ?_); rintro e v ⟨rfl, hb⟩; replace hL := hL.below hb; replace hB := below_up hB hb; clear hb)
        | (go_at_call 18; (with_reducible refine (C5.out _).mono ?_); rintro e v ⟨rfl, hb⟩; replace hL := hL.below hb; replace hB := below_up hB hb; clear hb))
    go_ret
    exact ⟨rfl, hB⟩
  · obtain ⟨r, hr⟩ := isq_ex x.toNat
    have hr' := hr
    obtain ⟨hr1, hr2⟩ := hr'
    have hrx : r ≤ x.toNat := by
      rcases Nat.eq_zero_or_pos r with h | h
      · omega
      · exact Nat.le_trans (Nat.le_mul_of_pos_left r h) hr1
    have hra : ((r : Nat) : Int).natAbs < 10 ^ 80 := by omega
    obtain ⟨R, hR⟩ := Is.ex (z := ((r : Nat) : Int)) (sm_of hra (by decide))
    obtain ⟨B, hBB⟩ := Is.ex (z := x + x) (sm_of (nabs_add hxs hxs) (by decide))
    obtain ⟨L, hLL⟩ := Is.ex (z := (r : Int) * r) (sm_of (nabs_mul hra hra) (by decide))
    have hra1 : ((r : Int) + 1).natAbs < 10 ^ 80 + 2 := by omega
    obtain ⟨N, hN⟩ := Is.ex (z := (r : Int) + 1) (sm_of hra1 (by decide))
    obtain ⟨H, hH⟩ := Is.ex (z := ((r : Int) + 1) * (r + 1)) (sm_of (nabs_mul hra1 hra1) (by decide))
    have C1 := Lib.hid (fun w hL => root_is hx (by omega) hr hR w hL)
    have C3 := Lib.hid (fun w hL => root_is hM hsq (isq_square x) (hx.cast (by omega)) w hL)
    have C4 := Lib.hid (fun w hL => add_is hx hx hBB rfl w hL)
    have e1 : ((r * r : Nat) : Int) = (r : Int) * r := Int.natCast_mul _ _
    have e2 : (((r + 1) * (r + 1) : Nat) : Int) = ((r : Int) + 1) * (r + 1) := by rw [Int.natCast_mul]; rfl
    have C6 := Lib.hid (fun w hL => mul_is hR hR hLL rfl w hL)
    have C7 := Lib.hid (fun w hL => add_is hR lit_1 hN rfl w hL)
    have C8 := Lib.hid (fun w hL => mul_is hN hN hH rfl w hL)
    have C10 := Lib.hid (fun w => cmp_is hH hx (cmp_gt (by omega)) w)
    have hlow : (r : Int) * r < x ∨ (r : Int) * r = x := by omega
    have hxc : 0 < x ∨ x = 0 := by omega
    have hcx : ∃ c, ¬ c < 0 ∧ Hid (Lib.compareInt x 0 = c) := by
      obtain ⟨c, h1, h2⟩ := cmp_nonneg (show 0 ≤ x by omega)
      exact ⟨c, by omega, h2⟩
    obtain ⟨c5, hc5, hcr⟩ := hcx
    have C5 := Lib.hid (fun w => cmp_is hx lit_0 hcr.out w)
    rcases hlow with hlow | hlow
    · have C9 := Lib.hid (fun w => cmp_is hLL hx (cmp_lt hlow) w)
      clear hxs hsq h0 hr hr1 hr2 hrx hra hra1 e1 e2 hlow hxc hcr hx hM hR hBB hLL hN hH
      go_wp2_with (first
          | (go_at_call 21; (with_reducible refine (C1.out _ hL).mono ?_); rintro e v ⟨rfl, hb⟩; replace hL := hL.below hb; replace hB := below_up hB hb; clear hb)
          | (go_at_call 15; (with_reducible refine (C2.out _ hL).mono ?_); rintro e v ⟨rfl, hb⟩; replace hL := hL.below hb; replace hB := below_up hB hb; clear hb)
          | (go_at_call 21; (with_reducible refine (C3.out _ hL).mono ?_); rintro e v ⟨rfl, hb⟩; replace hL := hL.below hb; replace hB := below_up hB hb; clear hb)
          | (go_at_call 14; (with_reducible refine (C4.out _ hL).mono ?_); rintro e v ⟨rfl, hb⟩; replace hL := hL.below hb; replace hB := below_up hB hb; clear hb)
          | (go_at_call 18; (with_reducible refine (C5.out _).mono ?_); rintro e v ⟨rfl, hb⟩; replace hL := hL.below hb; replace hB := below_up hB hb; clear hb)
          | (go_at_call 15; (with_reducible refine (C6.out _ hL).mono ?_); rintro e v ⟨rfl, hb⟩; replace hL := hL.below hb; replace hB := below_up hB hb; clear hb)
          | (go_at_call 14; (with_reducible refine (C7.out _ hL).mono ?_); rintro e v ⟨rfl, hb⟩; replace hL := hL.below hb; replace hB := below_up hB hb; clear hb)
          | (go_at_call 15; (with_reducible refine (C8.out _ hL).mono ?_); rintro e v ⟨rfl, hb⟩; replace hL := hL.below hb; replace hB := below_up hB hb; clear hb)
          | (go_at_call 18; (with_reducible refine (C9.out _).mono ?_); rintro e v ⟨rfl, hb⟩; replace hL := hL.below hb; replace hB := below_up hB hb; clear hb)
          | (go_at_call 18; (with_reducible refine (C10.out _).mono ?_); rintro e v ⟨rfl, hb⟩; replace hL := hL.below hb; replace hB := below_up hB hb; clear hb))
      go_ret
      exact ⟨rfl, hB⟩
    · have C9 := Lib.hid (fun w => cmp_is hLL hx (cmp_eq hlow) w)
      clear hxs hsq h0 hr hr1 hr2 hrx hra hra1 e1 e2 hlow hxc hcr hx hM hR hBB hLL hN hH
      go_wp2_with (first
          | (go_at_call 21; (with_reducible refine (C1.out _ hL).mono ?_); rintro e v ⟨rfl, hb⟩; replace hL := hL.below hb; replace hB := below_up hB hb; clear hb)
          | (go_at_call 15; (with_reducible refine (C2.out _ hL).mono ?_); rintro e v ⟨rfl, hb⟩; replace hL := hL.below hb; replace hB := below_up hB hb; clear hb)
          | (go_at_call 21; (with_reducible refine (C3.out _ hL).mono ?_); rintro e v ⟨rfl, hb⟩; replace hL := hL.below hb; replace hB := below_up hB hb; clear hb)
          | (go_at_call 14; (with_reducible refine (C4.out _ hL).mono ?_); rintro e v ⟨rfl, hb⟩; replace hL := hL.below hb; replace hB := below_up hB hb; clear hb)
          | (go_at_call 18; (with_reducible refine (C5.out _).mono ?_); rintro e v ⟨rfl, hb⟩; replace hL := hL.below hb; replace hB := below_up hB hb; clear hb)
          | (go_at_call 15; (with_reducible refine (C6.out _ hL).mono ?_); rintro e v ⟨rfl, hb⟩; replace hL := hL.below hb; replace hB := below_up hB hb; clear hb)
          | (go_at_call 14; (with_reducible refine (C7.out _ hL).mono ?_); rintro e v ⟨rfl, hb⟩; replace hL := hL.below hb; replace hB := below_up hB hb; clear hb)
          | (go_at_call 15; (with_reducible refine (C8.out _ hL).mono ?_); rintro e v ⟨rfl, hb⟩; replace hL := hL.below hb; replace hB := below_up hB hb; clear hb)
          | (go_at_call 18; (with_reducible refine (C9.out _).mono ?_); rintro e v ⟨rfl, hb⟩; replace hL := hL.below hb; replace hB := below_up hB hb; clear hb)
          | (go_at_call 18; (with_reducible refine (C10.out _).mono ?_); rintro e v ⟨rfl, hb⟩; replace hL := hL.below hb; replace hB := below_up hB hb; clear hb))
      go_ret
      exact ⟨rfl, hB⟩

end Go.Proofs.YtcpkejpdpohfeaaGreatDoor
