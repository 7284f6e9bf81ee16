/- The walks of package integer's Compare and Mul. Conditions: the tables that strconv.Itoa reads. -/
import Derived.Test.YtcpkejpdpohfeaaGreatDoorI17
namespace Go.Proofs.YtcpkejpdpohfeaaGreatDoor
open Go.RowKit Num
open Go.Shelf

def cmpI (a b : ByteArray) : Int :=
  match rdI a, rdI b with
  | some x, some y => Lib.compareInt x y
  | _, _ => 0
theorem cmp_cases (x y : Int) : Lib.compareInt x y = if x < 0 then (if y < 0 then Lib.compareInt y.natAbs x.natAbs else -1) else (if y < 0 then 1 else Lib.compareInt x.natAbs y.natAbs) := by
  unfold Lib.compareInt
  repeat' split
  all_goals omega

set_option maxHeartbeats 1000000 in
theorem compare_api (a b : ByteArray) (w : World) : Calls Tryz.prog 18 #[.string a, .string b] w fun e w' => e = .returned (.int .i64 (cmpI a b)) ∧ Below w.heap.size w w' := by
  rcases cases2 a b with ⟨x, y, ha, hb⟩ | h
  · have BO := Lib.hid (both_ok ha hb)
    have EQ : cmpI a b = Lib.compareInt x y := by unfold cmpI; rw [ha, hb]
    rw [EQ, cmp_cases]
    clear ha hb EQ
    go_enter Tryz.func18, Tryz.ntmps18
    have CM := fun a b v u w h1 h2 => Lib.hid (compare_any a b v u w h1 h2)
    have CMH := Lib.hid CM
    clear CM
    by_cases h1 : x < 0
    · rw [if_pos h1]
      rw [show decide (x < 0) = true by simpa using h1] at BO
      by_cases h2 : y < 0
      · rw [if_pos h2]
        rw [show decide (y < 0) = true by simpa using h2] at BO
        clear h1 h2
        generalize x.natAbs = m1 at *
        generalize y.natAbs = m2 at *
        go_wp2_with (first
          | (go_at_call 38; (with_reducible refine (BO.out _).mono ?_); rintro e W1 ⟨A1, A2, c1, c2, rfl, hr1, hr2, hb1⟩)
          | (go_at_call 46; (with_reducible refine (CMH.out m2 m1 _ _ _ (hr2.below (below2 _ _ _)) (hr1.below (below2 _ _ _))).out.mono ?_); rintro e W2 ⟨rfl, hb2⟩))
        go_ret
        exact ⟨rfl, below_up (below_up hb1 (below2 W1 _ _)) hb2⟩
      · rw [if_neg h2]
        rw [show decide (y < 0) = false by simpa using h2] at BO
        clear h1 h2
        go_wp2_with (go_at_call 38; (with_reducible refine (BO.out _).mono ?_); rintro e W1 ⟨A1, A2, c1, c2, rfl, hr1, hr2, hb1⟩)
        go_ret
        exact ⟨rfl, below_up hb1 (below2 W1 _ _)⟩
    · rw [if_neg h1]
      rw [show decide (x < 0) = false by simpa using h1] at BO
      by_cases h2 : y < 0
      · rw [if_pos h2]
        rw [show decide (y < 0) = true by simpa using h2] at BO
        clear h1 h2
        go_wp2_with (go_at_call 38; (with_reducible refine (BO.out _).mono ?_); rintro e W1 ⟨A1, A2, c1, c2, rfl, hr1, hr2, hb1⟩)
        go_ret
        exact ⟨rfl, below_up hb1 (below2 W1 _ _)⟩
      · rw [if_neg h2]
        rw [show decide (y < 0) = false by simpa using h2] at BO
        clear h1 h2
        generalize x.natAbs = m1 at *
        generalize y.natAbs = m2 at *
        go_wp2_with (first
          | (go_at_call 38; (with_reducible refine (BO.out _).mono ?_); rintro e W1 ⟨A1, A2, c1, c2, rfl, hr1, hr2, hb1⟩)
          | (go_at_call 46; (with_reducible refine (CMH.out m1 m2 _ _ _ (hr1.below (below2 _ _ _)) (hr2.below (below2 _ _ _))).out.mono ?_); rintro e W2 ⟨rfl, hb2⟩))
        go_ret
        exact ⟨rfl, below_up (below_up hb1 (below2 W1 _ _)) hb2⟩
  · have BO := Lib.hid (both_no h)
    have EQ : cmpI a b = 0 := by
      unfold cmpI
      rcases h with h | h
      · rw [h]
      · rw [h]; cases rdI a <;> rfl
    rw [EQ]
    clear EQ h
    go_enter Tryz.func18, Tryz.ntmps18
    go_wp2_with (go_at_call 38; (with_reducible refine (BO.out _).mono ?_); rintro e W1 ⟨rfl, hb1⟩)
    go_ret
    exact ⟨rfl, below_up hb1 (below2 W1 _ _)⟩

end Go.Proofs.YtcpkejpdpohfeaaGreatDoor
