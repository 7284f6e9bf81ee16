/- The walk of package integer's Mul. Conditions: the tables that strconv.Itoa reads. -/
import Derived.Test.YtcpkejpdpohfeaaGreatDoorI18
import Derived.Deep.RegionHeld3
namespace Go.Proofs.YtcpkejpdpohfeaaGreatDoor
open Go.RowKit Num
open Go.Shelf

theorem sgn_mul (x y : Int) : sgn (decide (x < 0) != decide (y < 0)) (x.natAbs * y.natAbs) = x * y := by
  have h1 := sgn_self x
  have h2 := sgn_self y
  unfold sgn at *
  generalize decide (x < 0) = n1 at *
  generalize decide (y < 0) = n2 at *
  rw [← h1, ← h2]
  cases n1 <;> cases n2 <;> simp [Int.natCast_mul, Int.neg_mul, Int.mul_neg]
theorem mul_fits {m1 m2 : Nat} (h1 : m1 < 10 ^ 200) (h2 : m2 < 10 ^ 200) : m1 * 10000 ^ (dg 10000 m2).length < big := by
  have h3 : (dg 10000 m2).length ≤ 50 := dg_len (by omega) 50 m2 (Nat.lt_of_lt_of_le h2 (by decide))
  have h4 : 10000 ^ (dg 10000 m2).length ≤ 10000 ^ 50 := Nat.pow_le_pow_right (by omega) h3
  have h5 := Nat.mul_le_mul (Nat.le_of_lt h1) h4
  exact Nat.lt_of_le_of_lt h5 (by unfold big; decide)

/-- Two boxes of a call of its own. -/
theorem boxes2 (w : World) (n1 n2 : Bool) (v1 v2 : Value) : SBox ((w.alloc (.cells #[.bool n1, v1] 50)).alloc (.cells #[.bool n2, v2] 50)) w.heap.size n1 v1 ∧ SBox ((w.alloc (.cells #[.bool n1, v1] 50)).alloc (.cells #[.bool n2, v2] 50)) (w.heap.size + 1) n2 v2 := by
  refine ⟨((below1 _ _).block _ (by simp)).trans (World.alloc_heap_new w _), ?_⟩
  have := World.alloc_heap_new (w.alloc (.cells #[.bool n1, v1] 50)) (.cells #[.bool n2, v2] 50)
  unfold SBox
  simpa using this

set_option maxHeartbeats 1000000 in
theorem mul_any (a b : ByteArray) (w : World) (hL : Laid w) : Calls Tryz.prog 15 #[.string a, .string b] w (RetP w (op2 (fun x y => outI (x * y)) a b)) := by
  have HL := Lib.hid hL
  clear hL
  rcases cases2 a b with ⟨x, y, ha, hb⟩ | h
  · have BO := Lib.hid (both_ok ha hb)
    have hfit := mul_fits (rd_small ha) (rd_small hb)
    have EQ := Lib.hid (op2_ok (f := fun x y => outI (x * y)) ha hb)
    have HS := Lib.hid (sgn_mul x y)
    rw [EQ.out]
    clear ha hb EQ
    go_enter Tryz.func15, Tryz.ntmps15
    generalize decide (x < 0) = n1 at *
    generalize decide (y < 0) = n2 at *
    generalize x.natAbs = m1 at *
    generalize y.natAbs = m2 at *
    go_wp2_with (go_at_call 38; (with_reducible refine (BO.out _).mono ?_); rintro e W1 ⟨A1, A2, c1, c2, rfl, hr1, hr2, hb1⟩)
    have hmixed : Tryz.prog.follows .mixedOrders = true := by kernel_rfl
    have hB2 : Below w.heap.size w ((W1.alloc (.cells #[.bool n1, .slice A1 (dg 10000 m1).length c1] 50)).alloc (.cells #[.bool n2, .slice A2 (dg 10000 m2).length c2] 50)) := below_up hb1 (below2 W1 _ _)
    obtain ⟨s1, s2⟩ := boxes2 W1 n1 n2 (.slice A1 (dg 10000 m1).length c1) (.slice A2 (dg 10000 m2).length c2)
    have TI := Lib.hid (times_any m1 m2 _ _ ((W1.alloc (.cells #[.bool n1, .slice A1 (dg 10000 m1).length c1] 50)).alloc (.cells #[.bool n2, .slice A2 (dg 10000 m2).length c2] 50)).drew (hr1.below (below2 W1 _ _).drew) (hr2.below (below2 W1 _ _).drew) hfit)
    generalize (W1.alloc (.cells #[.bool n1, .slice A1 (dg 10000 m1).length c1] 50)).alloc (.cells #[.bool n2, .slice A2 (dg 10000 m2).length c2] 50) = W2 at *
    have x0 := s1.cell0
    have x1 := s1.cell1
    have y0 := s2.cell0
    have y1 := s2.cell1
    generalize m1 * m2 = m at *
    go_region_held3 (fun w' => w'.cell? ⟨W1.heap.size, 0, none⟩ = some (.bool n1) ∧ w'.cell? ⟨W1.heap.size, 1, none⟩ = some (.slice A1 (dg 10000 m1).length c1) ∧ w'.cell? ⟨W1.heap.size + 1, 0, none⟩ = some (.bool n2) ∧ w'.cell? ⟨W1.heap.size + 1, 1, none⟩ = some (.slice A2 (dg 10000 m2).length c2)) (go_keep)
      (first
        | (go_at_call 41; (with_reducible refine TI.out.mono ?_); rintro e W3 ⟨v3, rfl, hr3, hb3⟩; obtain ⟨A3, c3, rfl, -⟩ := id hr3; have hbl3 := below_drewL hb3; have xx0 := (hbl3.cell (cell_lt x0)).trans x0; have xx1 := (hbl3.cell (cell_lt x1)).trans x1; have yy0 := (hbl3.cell (cell_lt y0)).trans y0; have yy1 := (hbl3.cell (cell_lt y1)).trans y1)
        | (go_at_call 40; (with_reducible refine (text_any _ m _ W3 hr3 (HL.out.below (below_up hB2 hbl3))).mono ?_); rintro e W4 ⟨rfl, hb4⟩; have xy0 := (hb4.cell (cell_lt xx0)).trans xx0; have xy1 := (hb4.cell (cell_lt xx1)).trans xx1; have yz0 := (hb4.cell (cell_lt yy0)).trans yy0; have yz1 := (hb4.cell (cell_lt yy1)).trans yy1))
    all_goals go_wp2
    all_goals go_ret2
    all_goals exact ⟨by rw [← HS.out]; rfl, below_up (below_up hB2 hbl3) hb4⟩
  · have BO := Lib.hid (both_no h)
    have EQ := Lib.hid (op2_no (f := fun x y => outI (x * y)) h)
    rw [EQ.out]
    clear EQ h
    go_enter Tryz.func15, Tryz.ntmps15
    go_wp2_with (go_at_call 38; (with_reducible refine (BO.out _).mono ?_); rintro e W1 ⟨rfl, hb1⟩)
    go_ret2
    exact ⟨rfl, below_up hb1 (below2 W1 _ _)⟩

end Go.Proofs.YtcpkejpdpohfeaaGreatDoor
