/- IntegerDivided: its walk. Condition: the tables of strconv. -/
import Derived.Test.YtcpkejpdpohfeaaGreatDoorL2
namespace Go.Proofs.YtcpkejpdpohfeaaGreatDoor
open Go.RowKit Num
open Go.Shelf

theorem list_0 : (⟨#[48]⟩ : ByteArray).toList = [48] := by rw [ByteArray.toList_eq]
theorem Is.differ0 {s : ByteArray} {x : Int} (h : Is s x) (hn : x ≠ 0) : (s.toList == [48]) = false := by
  have := h.differ lit_0 hn
  rwa [list_0] at this
theorem cmp_nonneg {a : Int} (h : 0 ≤ a) : ∃ c, 0 ≤ c ∧ Hid (Lib.compareInt a 0 = c) := by
  refine ⟨_, ?_, Lib.hid rfl⟩
  unfold Lib.compareInt
  rw [if_neg (by omega)]
  split <;> omega

set_option maxHeartbeats 2000000 in
set_option maxRecDepth 100000 in
theorem divided_any (a b : ByteArray) (w : World) (hL : Laid w) : Calls Tryz.prog 4 #[.string a, .string b] w (RetB w true) := by
  have hB : Below w.heap.size w w := Below.refl _ _
  go_enter Tryz.func4, Tryz.ntmps4
  go_wp2_with (first
      | (go_at_call 12; (with_reducible refine (sane_any _ hL).mono ?_); rintro e v ⟨rfl, hb⟩; replace hL := hL.below hb; replace hB := below_up hB hb; clear hb)
      | (go_at_call 13; (with_reducible refine (made_at a 90 90 rfl (by decide) _).mono ?_); rintro e v ⟨X, x, hx, hxs, rfl, hb⟩; replace hL := hL.below hb; replace hB := below_up hB hb; clear hb)
      | (go_at_call 13; (with_reducible refine (made_at b 60 60 rfl (by decide) _).mono ?_); rintro e v ⟨Y, y, hy, hys, rfl, hb⟩; replace hL := hL.below hb; replace hB := below_up hB hb; clear hb))
  by_cases h0 : y = 0
  · subst h0
    obtain rfl : Y = ⟨#[48]⟩ := hy.uniq lit_0
    clear hxs hys
    go_wp2_with (first
        | (go_at_call 17; (with_reducible refine (div_zero hx lit_0 _ hL).mono ?_); rintro e v ⟨rfl, hb⟩; replace hL := hL.below hb; replace hB := below_up hB hb; clear hb))
    go_ret
    exact ⟨rfl, hB⟩
  · have hne : (Y.toList == [48]) = false := hy.differ0 h0
    have hr0 := Int.emod_nonneg x h0
    have hr1 := Int.emod_lt x h0
    have hq0 := Int.natAbs_ediv_le_natAbs x y
    have he := Int.ediv_mul_add_emod x y
    have hxs := hxs.out
    have hys := hys.out
    obtain ⟨Q, hQ⟩ := Is.ex (z := x / y) (sm_of (Nat.lt_of_le_of_lt hq0 hxs) (by decide))
    obtain ⟨R, hR⟩ := Is.ex (z := x % y) (sm_of (m := 10 ^ 60) (by omega) (by decide))
    obtain ⟨P, hP⟩ := Is.ex (z := x / y * y) (sm_of (m := 10 ^ 90 + 10 ^ 60) (by omega) (by decide))
    obtain ⟨M, hM⟩ := Is.ex (z := x * y) (sm_of (nabs_mul hxs hys) (by decide))
    obtain ⟨S, hS⟩ := Is.ex (z := 0 - y) (sm_of (m := 10 ^ 60) (by omega) (by decide))
    have C1 := Lib.hid (fun w hL => div_is hx hy h0 hQ hR rfl rfl w hL)
    have C2 := Lib.hid (fun w hL => mul_is hQ hy hP rfl w hL)
    have C3 := Lib.hid (fun w hL => add_is hP hR hx he w hL)
    have C4 := Lib.hid (fun w hL => mul_is hy lit_1 hy (Int.mul_one _) w hL)
    have C5 := Lib.hid (fun w hL => sub_is lit_0 hy hS rfl w hL)
    have C6 := Lib.hid (fun w hL => mul_is hx hy hM rfl w hL)
    have C7 := Lib.hid (fun w hL => div_is hM hy h0 hx lit_0 (Int.mul_ediv_cancel x h0) (Int.mul_emod_left x y) w hL)
    obtain ⟨c, hc, hcr⟩ := cmp_nonneg hr0
    have C8 := Lib.hid (fun w => cmp_is hR lit_0 hcr.out w)
    have C9 := Lib.hid (fun w => valid_is hR w)
    rcases Int.lt_or_gt_of_ne h0 with hs | hs
    · have D1 := Lib.hid (fun w => cmp_is hy lit_0 (cmp_lt hs) w)
      have D2 := Lib.hid (fun w => cmp_is hR hS (cmp_lt (by omega)) w)
      clear hxs hys hr0 hr1 hq0 he h0 hs hQ hR hP hM hS hcr hx hy
      go_wp2_with (first
          | (go_at_call 17; (with_reducible refine (C1.out _ hL).mono ?_); rintro e v ⟨rfl, hb⟩; replace hL := hL.below hb; replace hB := below_up hB hb; clear hb)
          | (go_at_call 15; (with_reducible refine (C2.out _ hL).mono ?_); rintro e v ⟨rfl, hb⟩; replace hL := hL.below hb; replace hB := below_up hB hb; clear hb)
          | (go_at_call 14; (with_reducible refine (C3.out _ hL).mono ?_); rintro e v ⟨rfl, hb⟩; replace hL := hL.below hb; replace hB := below_up hB hb; clear hb)
          | (go_at_call 15; (with_reducible refine (C4.out _ hL).mono ?_); rintro e v ⟨rfl, hb⟩; replace hL := hL.below hb; replace hB := below_up hB hb; clear hb)
          | (go_at_call 18; (with_reducible refine (D1.out _).mono ?_); rintro e v ⟨rfl, hb⟩; replace hL := hL.below hb; replace hB := below_up hB hb; clear hb)
          | (go_at_call 16; (with_reducible refine (C5.out _ hL).mono ?_); rintro e v ⟨rfl, hb⟩; replace hL := hL.below hb; replace hB := below_up hB hb; clear hb)
          | (go_at_call 15; (with_reducible refine (C6.out _ hL).mono ?_); rintro e v ⟨rfl, hb⟩; replace hL := hL.below hb; replace hB := below_up hB hb; clear hb)
          | (go_at_call 17; (with_reducible refine (C7.out _ hL).mono ?_); rintro e v ⟨rfl, hb⟩; replace hL := hL.below hb; replace hB := below_up hB hb; clear hb)
          | (go_at_call 18; (with_reducible refine (C8.out _).mono ?_); rintro e v ⟨rfl, hb⟩; replace hL := hL.below hb; replace hB := below_up hB hb; clear hb)
          | (go_at_call 18; (with_reducible refine (D2.out _).mono ?_); rintro e v ⟨rfl, hb⟩; replace hL := hL.below hb; replace hB := below_up hB hb; clear hb)
          | (go_at_call 19; (with_reducible refine (C9.out _).mono ?_); rintro e v ⟨rfl, hb⟩; replace hL := hL.below hb; replace hB := below_up hB hb; clear hb))
      go_ret
      exact ⟨rfl, hB⟩
    · have D1 := Lib.hid (fun w => cmp_is hy lit_0 (cmp_gt hs) w)
      have D2 := Lib.hid (fun w => cmp_is hR hy (cmp_lt (by omega)) w)
      clear hxs hys hr0 hr1 hq0 he h0 hs hQ hR hP hM hS hcr hx hy
      go_wp2_with (first
          | (go_at_call 17; (with_reducible refine (C1.out _ hL).mono ?_); rintro e v ⟨rfl, hb⟩; replace hL := hL.below hb; replace hB := below_up hB hb; clear hb)
          | (go_at_call 15; (with_reducible refine (C2.out _ hL).mono ?_); rintro e v ⟨rfl, hb⟩; replace hL := hL.below hb; replace hB := below_up hB hb; clear hb)
          | (go_at_call 14; (with_reducible refine (C3.out _ hL).mono ?_); rintro e v ⟨rfl, hb⟩; replace hL := hL.below hb; replace hB := below_up hB hb; clear hb)
          | (go_at_call 15; (with_reducible refine (C4.out _ hL).mono ?_); rintro e v ⟨rfl, hb⟩; replace hL := hL.below hb; replace hB := below_up hB hb; clear hb)
          | (go_at_call 18; (with_reducible refine (D1.out _).mono ?_); rintro e v ⟨rfl, hb⟩; replace hL := hL.below hb; replace hB := below_up hB hb; clear hb)
          | (go_at_call 15; (with_reducible refine (C6.out _ hL).mono ?_); rintro e v ⟨rfl, hb⟩; replace hL := hL.below hb; replace hB := below_up hB hb; clear hb)
          | (go_at_call 17; (with_reducible refine (C7.out _ hL).mono ?_); rintro e v ⟨rfl, hb⟩; replace hL := hL.below hb; replace hB := below_up hB hb; clear hb)
          | (go_at_call 18; (with_reducible refine (C8.out _).mono ?_); rintro e v ⟨rfl, hb⟩; replace hL := hL.below hb; replace hB := below_up hB hb; clear hb)
          | (go_at_call 18; (with_reducible refine (D2.out _).mono ?_); rintro e v ⟨rfl, hb⟩; replace hL := hL.below hb; replace hB := below_up hB hb; clear hb)
          | (go_at_call 19; (with_reducible refine (C9.out _).mono ?_); rintro e v ⟨rfl, hb⟩; replace hL := hL.below hb; replace hB := below_up hB hb; clear hb))
      go_ret
      exact ⟨rfl, hB⟩

end Go.Proofs.YtcpkejpdpohfeaaGreatDoor
