/- The fixed examples hold ('sane'). Condition: the tables of strconv. -/
import Derived.Test.YtcpkejpdpohfeaaGreatDoorL1
namespace Go.Proofs.YtcpkejpdpohfeaaGreatDoor
open Go.RowKit Num
open Go.Shelf

theorem lit_999 : Is ⟨#[57, 57, 57]⟩ 999 := by unfold Is; kernel_rfl
theorem lit_1000 : Is ⟨#[49, 48, 48, 48]⟩ 1000 := by unfold Is; kernel_rfl
theorem lit_m999 : Is ⟨#[45, 57, 57, 57]⟩ (-999) := by unfold Is; kernel_rfl
theorem lit_m12 : Is ⟨#[45, 49, 50]⟩ (-12) := by unfold Is; kernel_rfl
theorem lit_12 : Is ⟨#[49, 50]⟩ 12 := by unfold Is; kernel_rfl
theorem lit_m144 : Is ⟨#[45, 49, 52, 52]⟩ (-144) := by unfold Is; kernel_rfl
theorem lit_m7 : Is ⟨#[45, 55]⟩ (-7) := by unfold Is; kernel_rfl
theorem lit_m8 : Is ⟨#[45, 56]⟩ (-8) := by unfold Is; kernel_rfl
theorem lit_2 : Is ⟨#[50]⟩ 2 := by unfold Is; kernel_rfl
theorem lit_m2 : Is ⟨#[45, 50]⟩ (-2) := by unfold Is; kernel_rfl
theorem lit_4 : Is ⟨#[52]⟩ 4 := by unfold Is; kernel_rfl
theorem lit_m4 : Is ⟨#[45, 52]⟩ (-4) := by unfold Is; kernel_rfl
theorem lit_m18 : Is ⟨#[45, 49, 56]⟩ (-18) := by unfold Is; kernel_rfl
theorem lit_6 : Is ⟨#[54]⟩ 6 := by unfold Is; kernel_rfl
theorem lit_99 : Is ⟨#[57, 57]⟩ 99 := by unfold Is; kernel_rfl
theorem lit_9 : Is ⟨#[57]⟩ 9 := by unfold Is; kernel_rfl
theorem lit_9n : Is ⟨#[57]⟩ ((9 : Nat) : Int) := lit_9
theorem lit_m1 : Is ⟨#[45, 49]⟩ (-1) := by unfold Is; kernel_rfl
theorem bad_007 : rdI ⟨#[48, 48, 55]⟩ = none := by kernel_rfl
theorem bad_m0 : rdI ⟨#[45, 48]⟩ = none := by kernel_rfl
theorem bad_nil : rdI ⟨#[]⟩ = none := by kernel_rfl

theorem root_99 (w : World) (hL : Laid w) : Calls Tryz.prog 21 #[.string ⟨#[57, 57]⟩] w (RetSt w ⟨#[57]⟩) :=
  root_is lit_99 (by decide) (show isq (99 : Int).toNat 9 by unfold isq; decide) lit_9n w hL

set_option maxHeartbeats 2000000 in
set_option maxRecDepth 100000 in
theorem sane_any (w : World) (hL : Laid w) : Calls Tryz.prog 12 #[] w (RetB w true) := by
  have hB : Below w.heap.size w w := Below.refl _ _
  go_enter Tryz.func12, Tryz.ntmps12
  go_wp2_with (first
      | (go_at_call 14; (with_reducible refine (add_is lit_999 lit_1 lit_1000 rfl _ hL).mono ?_); rintro e v ⟨rfl, hb⟩; replace hL := hL.below hb; replace hB := below_up hB hb; clear hb)
      | (go_at_call 16; (with_reducible refine (sub_is lit_1 lit_1000 lit_m999 rfl _ hL).mono ?_); rintro e v ⟨rfl, hb⟩; replace hL := hL.below hb; replace hB := below_up hB hb; clear hb)
      | (go_at_call 15; (with_reducible refine (mul_is lit_m12 lit_12 lit_m144 rfl _ hL).mono ?_); rintro e v ⟨rfl, hb⟩; replace hL := hL.below hb; replace hB := below_up hB hb; clear hb)
      | (go_at_call 17; (with_reducible refine (div_is lit_m7 lit_2 (by decide) lit_m4 lit_1 (by decide) (by decide) _ hL).mono ?_); rintro e v ⟨rfl, hb⟩; replace hL := hL.below hb; replace hB := below_up hB hb; clear hb)
      | (go_at_call 17; (with_reducible refine (div_is lit_m7 lit_m2 (by decide) lit_4 lit_1 (by decide) (by decide) _ hL).mono ?_); rintro e v ⟨rfl, hb⟩; replace hL := hL.below hb; replace hB := below_up hB hb; clear hb)
      | (go_at_call 20; (with_reducible refine (gcd_is lit_12 lit_m18 lit_6 (by decide) _ hL).mono ?_); rintro e v ⟨rfl, hb⟩; replace hL := hL.below hb; replace hB := below_up hB hb; clear hb)
      | (go_at_call 21; (with_reducible refine (root_99 _ hL).mono ?_); rintro e v ⟨rfl, hb⟩; replace hL := hL.below hb; replace hB := below_up hB hb; clear hb)
      | (go_at_call 21; (with_reducible refine (root_neg lit_m1 (by decide) _).mono ?_); rintro e v ⟨rfl, hb⟩; replace hL := hL.below hb; replace hB := below_up hB hb; clear hb)
      | (go_at_call 14; (with_reducible refine (add_bad (.inl bad_007) _ hL).mono ?_); rintro e v ⟨rfl, hb⟩; replace hL := hL.below hb; replace hB := below_up hB hb; clear hb)
      | (go_at_call 19; (with_reducible refine (valid_is lit_m7 _).mono ?_); rintro e v ⟨rfl, hb⟩; replace hL := hL.below hb; replace hB := below_up hB hb; clear hb)
      | (go_at_call 19; (with_reducible refine (valid_bad bad_m0 _).mono ?_); rintro e v ⟨rfl, hb⟩; replace hL := hL.below hb; replace hB := below_up hB hb; clear hb)
      | (go_at_call 19; (with_reducible refine (valid_bad bad_nil _).mono ?_); rintro e v ⟨rfl, hb⟩; replace hL := hL.below hb; replace hB := below_up hB hb; clear hb)
      | (go_at_call 18; (with_reducible refine (cmp_is lit_m8 lit_m7 (show _ = -1 from by decide) _).mono ?_); rintro e v ⟨rfl, hb⟩; replace hL := hL.below hb; replace hB := below_up hB hb; clear hb))
  go_ret
  exact ⟨rfl, hB⟩

end Go.Proofs.YtcpkejpdpohfeaaGreatDoor
