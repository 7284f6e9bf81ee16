/- IntegerMachine: its walk. Condition: the tables of strconv; the two numbers are of 32 bits. -/
import Derived.Test.YtcpkejpdpohfeaaGreatDoorL4
namespace Go.Proofs.YtcpkejpdpohfeaaGreatDoor
open Go.RowKit Num
open Go.Shelf

theorem prod32 {a b : Int} (ha0 : -2147483648 ≤ a) (ha1 : a ≤ 2147483647) (hb0 : -2147483648 ≤ b) (hb1 : b ≤ 2147483647) : -4611686018427387904 ≤ a * b ∧ a * b ≤ 4611686018427387904 := by
  have h : (a * b).natAbs ≤ 2147483648 * 2147483648 := by
    rw [Int.natAbs_mul]
    exact Nat.mul_le_mul (by omega) (by omega)
  omega
theorem parts_of (x y : Int) (hy : y ≠ 0) : (x.tmod y = x % y ∧ x.tdiv y = x / y ∧ 0 ≤ x.tmod y) ∨
    (0 < y ∧ x < 0 ∧ x.tmod y < 0 ∧ x.tmod y + y = x % y ∧ x.tdiv y - 1 = x / y) ∨ (y < 0 ∧ x.tmod y < 0 ∧ x.tmod y - y = x % y ∧ x.tdiv y + 1 = x / y) := by
  have h1 := Int.tmod_eq_emod (a := x) (b := y)
  have h2 := Int.tdiv_eq_ediv (a := x) (b := y)
  have h3 := Int.emod_nonneg x hy
  have h4 := Int.emod_lt x hy
  by_cases h : 0 ≤ x ∨ y ∣ x
  · rw [if_pos h] at h1 h2
    exact .inl ⟨by omega, by omega, by omega⟩
  · rw [if_neg h] at h1 h2
    rcases Int.lt_or_gt_of_ne hy with k | k
    · rw [Int.sign_eq_neg_one_of_neg k] at h2
      exact .inr (.inr ⟨k, by omega, by omega, by omega⟩)
    · rw [Int.sign_eq_one_of_pos k] at h2
      exact .inr (.inl ⟨k, by omega, by omega, by omega, by omega⟩)

set_option maxHeartbeats 4000000 in
set_option maxRecDepth 100000 in
theorem machine_any (x y : Int) (hx0 : -2147483648 ≤ x) (hx1 : x ≤ 2147483647) (hy0 : -2147483648 ≤ y) (hy1 : y ≤ 2147483647) (w : World) (hL : Laid w) :
    Calls Tryz.prog 10 #[.int .i32 x, .int .i32 y] w (RetB w true) := by
  have hB : Below w.heap.size w w := Below.refl _ _
  obtain ⟨hp0, hp1⟩ := prod32 hx0 hx1 hy0 hy1
  obtain ⟨X, hX⟩ := Is.ex (z := x) (sm_of (m := 2147483649) (by omega) (by decide))
  obtain ⟨Y, hY⟩ := Is.ex (z := y) (sm_of (m := 2147483649) (by omega) (by decide))
  obtain ⟨SU, hSU⟩ := Is.ex (z := x + y) (sm_of (m := 4294967297) (by omega) (by decide))
  obtain ⟨DI, hDI⟩ := Is.ex (z := x - y) (sm_of (m := 4294967297) (by omega) (by decide))
  obtain ⟨PR, hPR⟩ := Is.ex (z := x * y) (sm_of (m := 4611686018427387905) (by omega) (by decide))
  have C1 := Lib.hid (fun w hL => from_is hX (by omega) (by omega) w hL)
  have C2 := Lib.hid (fun w hL => from_is hY (by omega) (by omega) w hL)
  have C3 := Lib.hid (fun w hL => toInt_is hX (by omega) (by omega) w hL)
  have C4 := Lib.hid (fun w hL => add_is hX hY hSU rfl w hL)
  have C5 := Lib.hid (fun w hL => sub_is hX hY hDI rfl w hL)
  have C6 := Lib.hid (fun w hL => mul_is hX hY hPR rfl w hL)
  have C7 := Lib.hid (fun w hL => from_is hSU (by omega) (by omega) w hL)
  have C8 := Lib.hid (fun w hL => from_is hDI (by omega) (by omega) w hL)
  have hw : wrap64 (x * y) = x * y := IntWalk.wrap64_in _ (by omega)
  have C9 := Lib.hid (fun w hL => from_is (n := wrap64 (x * y)) (hPR.cast hw.symm) (by omega) (by omega) w hL)
  clear hw
  have D := Lib.hid (fun q r hq hr (h0 : y ≠ 0) w hL => div_is (q := q) (r := r) (c := x / y) (d := x % y) hX hY h0 hq hr rfl rfl w hL)
  have D0 := Lib.hid (fun (h0 : y = 0) w hL => div_zero hX (hY.cast h0) w hL)
  have hc : (x < y ∧ Hid (∀ w, Calls Tryz.prog 18 #[.string X, .string Y] w (RetI w (-1)))) ∨
      (¬ x < y ∧ y < x ∧ Hid (∀ w, Calls Tryz.prog 18 #[.string X, .string Y] w (RetI w 1))) ∨
      (¬ x < y ∧ ¬ y < x ∧ Hid (∀ w, Calls Tryz.prog 18 #[.string X, .string Y] w (RetI w 0))) := by
    rcases Int.lt_trichotomy x y with k | k | k
    · exact .inl ⟨k, Lib.hid (fun w => cmp_is hX hY (cmp_lt k) w)⟩
    · exact .inr (.inr ⟨by omega, by omega, Lib.hid (fun w => cmp_is hX hY (cmp_eq k) w)⟩)
    · exact .inr (.inl ⟨by omega, k, Lib.hid (fun w => cmp_is hX hY (cmp_gt k) w)⟩)
  have hqb := Int.natAbs_ediv_le_natAbs x y
  clear hX hY hSU hDI hPR
  clear hp0 hp1
  have rest : ∀ (v : World) (hL : Laid v) (hB : Below w.heap.size w v) (a : Act), True := fun _ _ _ _ => trivial
  clear rest
  rcases hc with ⟨h1, CC⟩ | ⟨h1, h2, CC⟩ | ⟨h1, h2, CC⟩
  all_goals
    go_enter Tryz.func10, Tryz.ntmps10
    go_wp2_with (first
        | (go_at_call 12; (with_reducible refine (sane_any _ hL).mono ?_); rintro e v ⟨rfl, hb⟩; replace hL := hL.below hb; replace hB := below_up hB hb; clear hb)
        | (go_at_call 35; (with_reducible refine (C1.out _ hL).mono ?_); rintro e v ⟨rfl, hb⟩; replace hL := hL.below hb; replace hB := below_up hB hb; clear hb)
        | (go_at_call 35; (with_reducible refine (C2.out _ hL).mono ?_); rintro e v ⟨rfl, hb⟩; replace hL := hL.below hb; replace hB := below_up hB hb; clear hb)
        | (go_at_call 31; (with_reducible refine (C3.out _ hL).mono ?_); rintro e v ⟨rfl, hb⟩; replace hL := hL.below hb; replace hB := below_up hB hb; clear hb)
        | (go_at_call 14; (with_reducible refine (C4.out _ hL).mono ?_); rintro e v ⟨rfl, hb⟩; replace hL := hL.below hb; replace hB := below_up hB hb; clear hb)
        | (go_at_call 16; (with_reducible refine (C5.out _ hL).mono ?_); rintro e v ⟨rfl, hb⟩; replace hL := hL.below hb; replace hB := below_up hB hb; clear hb)
        | (go_at_call 15; (with_reducible refine (C6.out _ hL).mono ?_); rintro e v ⟨rfl, hb⟩; replace hL := hL.below hb; replace hB := below_up hB hb; clear hb)
        | (go_at_call 35; (with_reducible refine (C7.out _ hL).mono ?_); rintro e v ⟨rfl, hb⟩; replace hL := hL.below hb; replace hB := below_up hB hb; clear hb)
        | (go_at_call 35; (with_reducible refine (C8.out _ hL).mono ?_); rintro e v ⟨rfl, hb⟩; replace hL := hL.below hb; replace hB := below_up hB hb; clear hb)
        | (go_at_call 35; (with_reducible refine (C9.out _ hL).mono ?_); rintro e v ⟨rfl, hb⟩; replace hL := hL.below hb; replace hB := below_up hB hb; clear hb)
        | (go_at_call 18; (with_reducible refine (CC.out _).mono ?_); rintro e v ⟨rfl, hb⟩; replace hL := hL.below hb; replace hB := below_up hB hb; clear hb))
    by_cases h0 : y = 0
    · have E := Lib.hid (D0.out h0)
      clear D D0 C1 C2 C3 C4 C5 C6 C7 C8 C9
      go_wp2_with (first
          | (go_at_call 17; (with_reducible refine (E.out _ hL).mono ?_); rintro e v ⟨rfl, hb⟩; replace hL := hL.below hb; replace hB := below_up hB hb; clear hb))
      go_ret
      exact ⟨rfl, hB⟩
    · have hb0 := Int.emod_nonneg x h0
      have hb1 := Int.emod_lt x h0
      obtain ⟨QQ, hQQ⟩ := Is.ex (z := x / y) (sm_of (m := 2147483649) (by omega) (by decide))
      obtain ⟨RR, hRR⟩ := Is.ex (z := x % y) (sm_of (m := 2147483649) (by omega) (by decide))
      have E := Lib.hid (D.out QQ RR hQQ hRR h0)
      have hpt := parts_of x y h0
      have hh0 : (y == 0) = false := by rw [beq_eq_false_iff_ne]; exact h0
      clear D D0 C1 C2 C3 C4 C5 C6 C7 C8 C9
      rcases hpt with ⟨e1, e2, e3⟩ | ⟨hpos, hxn, e3, e1, e2⟩ | ⟨hpos, e3, e1, e2⟩
      · have F1 := Lib.hid (fun w hL => from_is (n := x.tdiv y) (hQQ.cast e2.symm) (by omega) (by omega) w hL)
        have F2 := Lib.hid (fun w hL => from_is (n := x.tmod y) (hRR.cast e1.symm) (by omega) (by omega) w hL)
        have hb2 : -2147483648 ≤ x.tdiv y ∧ x.tdiv y ≤ 2147483648 ∧ x.tmod y ≤ 2147483648 ∧ ¬ x.tmod y < 0 := by omega
        obtain ⟨hb2, hb3, hb4, hb5⟩ := hb2
        clear hQQ hRR e1 e2 hqb hb0 hb1
        go_wp2_with (first
            | (go_at_call 17; (with_reducible refine (E.out _ hL).mono ?_); rintro e v ⟨rfl, hb⟩; replace hL := hL.below hb; replace hB := below_up hB hb; clear hb)
            | (go_at_call 35; (with_reducible refine (F1.out _ hL).mono ?_); rintro e v ⟨rfl, hb⟩; replace hL := hL.below hb; replace hB := below_up hB hb; clear hb)
            | (go_at_call 35; (with_reducible refine (F2.out _ hL).mono ?_); rintro e v ⟨rfl, hb⟩; replace hL := hL.below hb; replace hB := below_up hB hb; clear hb))
        go_ret
        exact ⟨rfl, hB⟩
      · have F1 := Lib.hid (fun w hL => from_is (n := x.tdiv y - 1) (hQQ.cast e2.symm) (by omega) (by omega) w hL)
        have F2 := Lib.hid (fun w hL => from_is (n := x.tmod y + y) (hRR.cast e1.symm) (by omega) (by omega) w hL)
        have hb2 : -2147483649 ≤ x.tdiv y ∧ x.tdiv y ≤ 2147483649 ∧ -2147483649 ≤ x.tmod y ∧ ¬ x.tmod y + y < 0 := by omega
        obtain ⟨hb2, hb3, hb4, hb5⟩ := hb2
        clear hQQ hRR e1 e2 hqb hb0 hb1
        first
        | (exfalso
           omega)
        | (go_wp2_with (first
               | (go_at_call 17; (with_reducible refine (E.out _ hL).mono ?_); rintro e v ⟨rfl, hb⟩; replace hL := hL.below hb; replace hB := below_up hB hb; clear hb)
               | (go_at_call 35; (with_reducible refine (F1.out _ hL).mono ?_); rintro e v ⟨rfl, hb⟩; replace hL := hL.below hb; replace hB := below_up hB hb; clear hb)
               | (go_at_call 35; (with_reducible refine (F2.out _ hL).mono ?_); rintro e v ⟨rfl, hb⟩; replace hL := hL.below hb; replace hB := below_up hB hb; clear hb))
           go_ret
           exact ⟨rfl, hB⟩)
      · have F1 := Lib.hid (fun w hL => from_is (n := x.tdiv y + 1) (hQQ.cast e2.symm) (by omega) (by omega) w hL)
        have F2 := Lib.hid (fun w hL => from_is (n := x.tmod y - y) (hRR.cast e1.symm) (by omega) (by omega) w hL)
        have hb2 : -2147483649 ≤ x.tdiv y ∧ x.tdiv y ≤ 2147483649 ∧ -2147483649 ≤ x.tmod y ∧ ¬ 0 < y := by omega
        obtain ⟨hb2, hb3, hb4, hb5⟩ := hb2
        clear hQQ hRR e1 e2 hqb hb0 hb1
        go_wp2_with (first
            | (go_at_call 17; (with_reducible refine (E.out _ hL).mono ?_); rintro e v ⟨rfl, hb⟩; replace hL := hL.below hb; replace hB := below_up hB hb; clear hb)
            | (go_at_call 35; (with_reducible refine (F1.out _ hL).mono ?_); rintro e v ⟨rfl, hb⟩; replace hL := hL.below hb; replace hB := below_up hB hb; clear hb)
            | (go_at_call 35; (with_reducible refine (F2.out _ hL).mono ?_); rintro e v ⟨rfl, hb⟩; replace hL := hL.below hb; replace hB := below_up hB hb; clear hb))
        go_ret
        exact ⟨rfl, hB⟩

end Go.Proofs.YtcpkejpdpohfeaaGreatDoor
