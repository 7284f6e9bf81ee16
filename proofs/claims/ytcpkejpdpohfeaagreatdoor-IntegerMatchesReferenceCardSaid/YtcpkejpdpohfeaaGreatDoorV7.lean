/- The walks of the reference implementation's 'Sub' and 'Compare'. Conditions: sizes. -/
import Derived.Test.YtcpkejpdpohfeaaGreatDoorV6
namespace Go.Proofs.YtcpkejpdpohfeaaGreatDoor
open Go.RowKit Num
open Go.Shelf

set_option maxHeartbeats 2000000 in
theorem rsub_any (a b : ByteArray) (has : a.size ≤ 9223372036854775807) (hbs : b.size ≤ 9223372036854775807) (w : World) :
    Calls Tryz.prog 26 #[.string a, .string b] w (RetP w (op2 (fun x y => outI (x - y)) a b)) := by
  rcases cases_two a b with ⟨x, y, ha, hb⟩ | ha | ⟨x, ha, hb⟩
  · rw [op2_ok ha hb]
    have V1 := Lib.hid (fun w => rvalid_some ha w)
    have V2 := Lib.hid (fun w => rvalid_some hb w)
    have D1 := Lib.hid (fun w => digits_any (s := a) ha w)
    have D2 := Lib.hid (fun w => digits_any (s := b) hb w)
    have S := Lib.hid (fun v u w hv hu => rsum_any (decide (x < 0)) (!decide (y < 0)) x.natAbs y.natAbs v u w hv hu (by have := is_len ha; omega) (by have := is_len hb; omega))
    rw [sgn_not, sgn_self, sgn_self, ← Int.sub_eq_add_neg] at S
    clear ha hb has hbs
    go_enter Tryz.func26, Tryz.ntmps26
    go_wp2_with (first
      | (go_at_call 33; (with_reducible refine (V1.out _).mono ?_); rintro e w1 ⟨rfl, hb1⟩)
      | (go_at_call 33; (with_reducible refine (V2.out _).mono ?_); rintro e w2 ⟨rfl, hb2⟩)
      | (go_at_call 48; (with_reducible refine (D1.out _).mono ?_); rintro e w3 ⟨v3, rfl, hr3, hb3⟩)
      | (go_at_call 48; (with_reducible refine (D2.out _).mono ?_); rintro e w4 ⟨v4, rfl, hr4, hb4⟩)
      | (go_at_call 49; (with_reducible refine (S.out v3 v4 _ (hr3.below hb4) hr4).mono ?_); rintro e w5 ⟨rfl, hb5⟩))
    go_ret2
    exact ⟨rfl, below_up hb1 (below_up hb2 (below_up hb3 (below_up hb4 hb5)))⟩
  · rw [op2_no (.inl ha)]
    have V1 := Lib.hid (fun w => rvalid_none has ha w)
    clear ha has hbs
    go_enter Tryz.func26, Tryz.ntmps26
    go_wp2_with (go_at_call 33; (with_reducible refine (V1.out _).mono ?_); rintro e w1 ⟨rfl, hb1⟩)
    go_ret2
    exact ⟨rfl, hb1⟩
  · rw [op2_no (.inr hb)]
    have V1 := Lib.hid (fun w => rvalid_some ha w)
    have V2 := Lib.hid (fun w => rvalid_none hbs hb w)
    clear ha hb has hbs
    go_enter Tryz.func26, Tryz.ntmps26
    go_wp2_with (first
      | (go_at_call 33; (with_reducible refine (V1.out _).mono ?_); rintro e w1 ⟨rfl, hb1⟩)
      | (go_at_call 33; (with_reducible refine (V2.out _).mono ?_); rintro e w2 ⟨rfl, hb2⟩))
    go_ret2
    exact ⟨rfl, below_up hb1 hb2⟩

set_option maxHeartbeats 2000000 in
theorem rcompare_any (a b : ByteArray) (has : a.size ≤ 9223372036854775807) (hbs : b.size ≤ 9223372036854775807) (w : World) :
    Calls Tryz.prog 34 #[.string a, .string b] w (RetI w (cmpI a b)) := by
  rcases cases_two a b with ⟨x, y, ha, hb⟩ | ha | ⟨x, ha, hb⟩
  · have hc : cmpI a b = Lib.compareInt x y := by unfold cmpI; rw [ha, hb]
    rw [hc, cmp_cases]
    have V1 := Lib.hid (fun w => rvalid_some ha w)
    have V2 := Lib.hid (fun w => rvalid_some hb w)
    have D1 := Lib.hid (fun w => digits_any (s := a) ha w)
    have D2 := Lib.hid (fun w => digits_any (s := b) hb w)
    have O1 := Lib.hid (fun v u w hv hu => rorder_any x.natAbs y.natAbs v u w hv hu)
    have O2 := Lib.hid (fun v u w hv hu => rorder_any y.natAbs x.natAbs v u w hv hu)
    clear ha hb has hbs hc
    by_cases hx : x < 0
    · by_cases hy : y < 0
      · rw [if_pos hx, if_pos hy]
        rw [decide_eq_true hx] at D1
        rw [decide_eq_true hy] at D2
        clear hx hy O1
        go_enter Tryz.func34, Tryz.ntmps34
        go_wp2_with (first
          | (go_at_call 33; (with_reducible refine (V1.out _).mono ?_); rintro e w1 ⟨rfl, hb1⟩)
          | (go_at_call 33; (with_reducible refine (V2.out _).mono ?_); rintro e w2 ⟨rfl, hb2⟩)
          | (go_at_call 48; (with_reducible refine (D1.out _).mono ?_); rintro e w3 ⟨v3, rfl, hr3, hb3⟩)
          | (go_at_call 48; (with_reducible refine (D2.out _).mono ?_); rintro e w4 ⟨v4, rfl, hr4, hb4⟩)
          | (go_at_call 55; (with_reducible refine (O2.out v4 v3 _ hr4 (hr3.below hb4)).mono ?_); rintro e w5 ⟨rfl, hb5⟩))
        go_ret
        exact ⟨rfl, below_up hb1 (below_up hb2 (below_up hb3 (below_up hb4 hb5)))⟩
      · rw [if_pos hx, if_neg hy]
        rw [decide_eq_true hx] at D1
        rw [decide_eq_false hy] at D2
        clear hx hy O1 O2
        go_enter Tryz.func34, Tryz.ntmps34
        go_wp2_with (first
          | (go_at_call 33; (with_reducible refine (V1.out _).mono ?_); rintro e w1 ⟨rfl, hb1⟩)
          | (go_at_call 33; (with_reducible refine (V2.out _).mono ?_); rintro e w2 ⟨rfl, hb2⟩)
          | (go_at_call 48; (with_reducible refine (D1.out _).mono ?_); rintro e w3 ⟨v3, rfl, hr3, hb3⟩)
          | (go_at_call 48; (with_reducible refine (D2.out _).mono ?_); rintro e w4 ⟨v4, rfl, hr4, hb4⟩))
        go_ret
        exact ⟨rfl, below_up hb1 (below_up hb2 (below_up hb3 hb4))⟩
    · by_cases hy : y < 0
      · rw [if_neg hx, if_pos hy]
        rw [decide_eq_false hx] at D1
        rw [decide_eq_true hy] at D2
        clear hx hy O1 O2
        go_enter Tryz.func34, Tryz.ntmps34
        go_wp2_with (first
          | (go_at_call 33; (with_reducible refine (V1.out _).mono ?_); rintro e w1 ⟨rfl, hb1⟩)
          | (go_at_call 33; (with_reducible refine (V2.out _).mono ?_); rintro e w2 ⟨rfl, hb2⟩)
          | (go_at_call 48; (with_reducible refine (D1.out _).mono ?_); rintro e w3 ⟨v3, rfl, hr3, hb3⟩)
          | (go_at_call 48; (with_reducible refine (D2.out _).mono ?_); rintro e w4 ⟨v4, rfl, hr4, hb4⟩))
        go_ret
        exact ⟨rfl, below_up hb1 (below_up hb2 (below_up hb3 hb4))⟩
      · rw [if_neg hx, if_neg hy]
        rw [decide_eq_false hx] at D1
        rw [decide_eq_false hy] at D2
        clear hx hy O2
        go_enter Tryz.func34, Tryz.ntmps34
        go_wp2_with (first
          | (go_at_call 33; (with_reducible refine (V1.out _).mono ?_); rintro e w1 ⟨rfl, hb1⟩)
          | (go_at_call 33; (with_reducible refine (V2.out _).mono ?_); rintro e w2 ⟨rfl, hb2⟩)
          | (go_at_call 48; (with_reducible refine (D1.out _).mono ?_); rintro e w3 ⟨v3, rfl, hr3, hb3⟩)
          | (go_at_call 48; (with_reducible refine (D2.out _).mono ?_); rintro e w4 ⟨v4, rfl, hr4, hb4⟩)
          | (go_at_call 55; (with_reducible refine (O1.out v3 v4 _ (hr3.below hb4) hr4).mono ?_); rintro e w5 ⟨rfl, hb5⟩))
        go_ret
        exact ⟨rfl, below_up hb1 (below_up hb2 (below_up hb3 (below_up hb4 hb5)))⟩
  · rw [show cmpI a b = 0 by unfold cmpI; rw [ha]]
    have V1 := Lib.hid (fun w => rvalid_none has ha w)
    clear ha has hbs
    go_enter Tryz.func34, Tryz.ntmps34
    go_wp2_with (go_at_call 33; (with_reducible refine (V1.out _).mono ?_); rintro e w1 ⟨rfl, hb1⟩)
    go_ret
    exact ⟨rfl, hb1⟩
  · rw [show cmpI a b = 0 by unfold cmpI; rw [ha, hb]]
    have V1 := Lib.hid (fun w => rvalid_some ha w)
    have V2 := Lib.hid (fun w => rvalid_none hbs hb w)
    clear ha hb has hbs
    go_enter Tryz.func34, Tryz.ntmps34
    go_wp2_with (first
      | (go_at_call 33; (with_reducible refine (V1.out _).mono ?_); rintro e w1 ⟨rfl, hb1⟩)
      | (go_at_call 33; (with_reducible refine (V2.out _).mono ?_); rintro e w2 ⟨rfl, hb2⟩))
    go_ret
    exact ⟨rfl, below_up hb1 hb2⟩

end Go.Proofs.YtcpkejpdpohfeaaGreatDoor
