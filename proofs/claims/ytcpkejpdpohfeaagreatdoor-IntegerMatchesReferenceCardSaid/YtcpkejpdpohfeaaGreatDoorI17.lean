/- The walks of package integer's Sub, Mul, Compare, Valid, FromInt. Conditions: the tables that strconv.Itoa reads. -/
import Derived.Test.YtcpkejpdpohfeaaGreatDoorI16
namespace Go.Proofs.YtcpkejpdpohfeaaGreatDoor
open Go.RowKit Num
open Go.Shelf

theorem sgn_not (n : Bool) (m : Nat) : sgn (!n) m = - sgn n m := by unfold sgn; cases n <;> simp

set_option maxHeartbeats 1000000 in
theorem sub_any (a b : ByteArray) (w : World) (hL : Laid w) : Calls Tryz.prog 16 #[.string a, .string b] w (RetP w (op2 (fun x y => outI (x - y)) a b)) := by
  have HL := Lib.hid hL
  clear hL
  rcases cases2 a b with ⟨x, y, ha, hb⟩ | h
  · have BO := Lib.hid (both_ok ha hb)
    have hx := rd_small ha
    have hy := rd_small hb
    have hbg := big_gt
    have EQ := Lib.hid (op2_ok (f := fun x y => outI (x - y)) ha hb)
    have HS : Hid (sgn (decide (x < 0)) x.natAbs + sgn (!decide (y < 0)) y.natAbs = x - y) := Lib.hid (by rw [sgn_not, sgn_self, sgn_self]; rfl)
    have hsum : x.natAbs + y.natAbs < big := by omega
    rw [EQ.out]
    clear ha hb hx hy hbg EQ
    go_enter Tryz.func16, Tryz.ntmps16
    generalize decide (x < 0) = n1 at *
    generalize decide (y < 0) = n2 at *
    generalize x.natAbs = m1 at *
    generalize y.natAbs = m2 at *
    go_wp2_with (first
      | (go_at_call 38; (with_reducible refine (BO.out _).mono ?_); rintro e W1 ⟨A1, A2, c1, c2, rfl, hr1, hr2, hb1⟩)
      | (go_at_call 39; (with_reducible refine (plusS_any n1 (!n2) m1 m2 A1 A2 _ _ c1 c2 _ (hr1.below (below2 _ _ _)) (hr2.below (below2 _ _ _)) hsum).mono ?_); rintro e W2 ⟨n, A, m, c, k, rfl, hr3, hz, hb2⟩; have HZ := Lib.hid hz; clear hz; have hbl := below_up (below_up hb1 (below2 W1 _ _)) hb2)
      | (go_at_call 40; (with_reducible refine (text_any n k _ _ hr3 (HL.out.below hbl)).mono ?_); rintro e W3 ⟨rfl, hb3⟩))
    go_ret2
    exact ⟨by rw [← HS.out, ← HZ.out]; rfl, below_up hbl hb3⟩
  · have BO := Lib.hid (both_no h)
    have EQ := Lib.hid (op2_no (f := fun x y => outI (x - y)) h)
    rw [EQ.out]
    clear EQ h
    go_enter Tryz.func16, Tryz.ntmps16
    go_wp2_with (go_at_call 38; (with_reducible refine (BO.out _).mono ?_); rintro e W1 ⟨rfl, hb1⟩)
    go_ret2
    exact ⟨rfl, below_up hb1 (below2 W1 _ _)⟩

theorem valid_api (a : ByteArray) (w : World) : Calls Tryz.prog 19 #[.string a] w fun e w' => e = .returned (.bool (rdI a).isSome) ∧ Below w.heap.size w w' := by
  have h : (rdI a).isSome = validL a.data.toList := by unfold rdI; cases validL a.data.toList <;> rfl
  rw [h]
  have VA := Lib.hid (valid_any a)
  clear h
  generalize validL a.data.toList = v at *
  go_enter Tryz.func19, Tryz.ntmps19
  go_wp2_with (go_at_call 47; (with_reducible refine (VA.out _).mono ?_); rintro e W1 ⟨rfl, hb1⟩)
  go_ret
  exact ⟨rfl, hb1⟩

theorem fromInt_any (n : Int) (h0 : -9223372036854775808 ≤ n) (h1 : n ≤ 9223372036854775807) (w : World) (hL : Laid w) : Calls Tryz.prog 35 #[.int .i64 n] w fun e w' => e = .returned (.string (tx n)) ∧ Below w.heap.size w w' := by
  have IT := Lib.hid (Tryz.strconv_Itoa n h0 h1 w hL.1)
  clear hL
  go_enter Tryz.func35, Tryz.ntmps35
  go_wp2_with (go_at_call 58; (with_reducible refine IT.out.mono ?_); rintro e W1 ⟨rfl, k, os, rfl⟩; have hb1 := Lib.below_grow _ w (Nat.le_refl _) k os)
  go_ret
  exact ⟨rfl, hb1⟩

end Go.Proofs.YtcpkejpdpohfeaaGreatDoor
