/- IntegerCommon: its walk. Condition: the tables of strconv. -/
import Derived.Test.YtcpkejpdpohfeaaGreatDoorL4
namespace Go.Proofs.YtcpkejpdpohfeaaGreatDoor
open Go.RowKit Num
open Go.Shelf

theorem gcd_small {x y : Int} {m : Nat} (hm : 0 < m) (hx : x.natAbs < m) (hy : y.natAbs < m) : ((Int.gcd x y : Nat) : Int).natAbs < m := by
  rw [Int.natAbs_natCast]
  by_cases h : x = 0
  · by_cases k : y = 0
    · subst h; subst k
      simpa using hm
    · rw [Int.gcd_comm]
      exact Nat.lt_of_le_of_lt (Int.gcd_le_natAbs_left _ k) hy
  · exact Nat.lt_of_le_of_lt (Int.gcd_le_natAbs_left _ h) hx
theorem gcd_parts {x y : Int} (h : ¬ (x = 0 ∧ y = 0)) : 0 < (Int.gcd x y : Int) ∧ x % (Int.gcd x y : Int) = 0 ∧ y % (Int.gcd x y : Int) = 0 ∧ Int.gcd (x / (Int.gcd x y : Int)) (y / (Int.gcd x y : Int)) = 1 := by
  have hp : 0 < Int.gcd x y := Nat.pos_of_ne_zero fun e => h (Int.gcd_eq_zero_iff.1 e)
  have h1 : ((Int.gcd x y : Nat) : Int) ∣ x := Int.gcd_dvd_left _ _
  have h2 : ((Int.gcd x y : Nat) : Int) ∣ y := Int.gcd_dvd_right _ _
  refine ⟨by omega, Int.emod_eq_zero_of_dvd h1, Int.emod_eq_zero_of_dvd h2, ?_⟩
  have e := Int.gcd_mul_right (x / (Int.gcd x y : Int)) (Int.gcd x y : Int) (y / (Int.gcd x y : Int))
  rw [Int.ediv_mul_cancel h1, Int.ediv_mul_cancel h2, Int.natAbs_natCast] at e
  have e2 : Int.gcd (x / (Int.gcd x y : Int)) (y / (Int.gcd x y : Int)) * Int.gcd x y = 1 * Int.gcd x y := by rw [← e, Nat.one_mul]
  exact Nat.eq_of_mul_eq_mul_right hp e2

set_option maxHeartbeats 4000000 in
set_option maxRecDepth 100000 in
theorem common_any (a b c : ByteArray) (w : World) (hL : Laid w) : Calls Tryz.prog 5 #[.string a, .string b, .string c] w (RetB w true) := by
  have hB : Below w.heap.size w w := Below.refl _ _
  go_enter Tryz.func5, Tryz.ntmps5
  go_wp2_with (first
      | (go_at_call 12; (with_reducible refine (sane_any _ hL).mono ?_); rintro e v ⟨rfl, hb⟩; replace hL := hL.below hb; replace hB := below_up hB hb; clear hb)
      | (go_at_call 13; (with_reducible refine (made_at a 40 40 rfl (by decide) _).mono ?_); rintro e v ⟨X, x, hx, hxs, rfl, hb⟩; replace hL := hL.below hb; replace hB := below_up hB hb; clear hb)
      | (go_at_call 13; (with_reducible refine (made_at b 40 40 rfl (by decide) _).mono ?_); rintro e v ⟨Y, y, hy, hys, rfl, hb⟩; replace hL := hL.below hb; replace hB := below_up hB hb; clear hb)
      | (go_at_call 13; (with_reducible refine (made_at c 40 40 rfl (by decide) _).mono ?_); rintro e v ⟨Z, z, hz, hzs, rfl, hb⟩; replace hL := hL.below hb; replace hB := below_up hB hb; clear hb))
  have hxs := hxs.out
  have hys := hys.out
  have hzs := hzs.out
  have hgs := gcd_small (by decide) hxs hys
  obtain ⟨G, hG⟩ := Is.ex (z := (Int.gcd x y : Int)) (sm_of hgs (by decide))
  have C1 := Lib.hid (fun w hL => gcd_is hx hy hG rfl w hL)
  have C2 := Lib.hid (fun w hL => gcd_is hy hx hG (by rw [Int.gcd_comm]) w hL)
  obtain ⟨c3, hc3, hcr⟩ := cmp_nonneg (Int.natCast_nonneg (Int.gcd x y))
  have C3 := Lib.hid (fun w => cmp_is hG lit_0 hcr.out w)
  have hc3' : ¬ c3 < 0 := by omega
  clear hcr hc3
  by_cases h0 : x = 0 ∧ y = 0
  · obtain ⟨rfl, rfl⟩ := h0
    obtain rfl : X = ⟨#[48]⟩ := hx.uniq lit_0
    obtain rfl : Y = ⟨#[48]⟩ := hy.uniq lit_0
    obtain rfl : G = ⟨#[48]⟩ := hG.uniq (lit_0.cast (by decide))
    clear hxs hys hzs hgs
    go_wp2_with (first
        | (go_at_call 20; (with_reducible refine (C1.out _ hL).mono ?_); rintro e v ⟨rfl, hb⟩; replace hL := hL.below hb; replace hB := below_up hB hb; clear hb)
        | (go_at_call 18; (with_reducible refine (C3.out _).mono ?_); rintro e v ⟨rfl, hb⟩; replace hL := hL.below hb; replace hB := below_up hB hb; clear hb))
    go_ret
    exact ⟨rfl, hB⟩
  · obtain ⟨hg0, hgx, hgy, hg1⟩ := gcd_parts h0
    have hgm := Int.gcd_mul_right x z y
    have hd1 := Int.natAbs_ediv_le_natAbs x (Int.gcd x y : Int)
    have hd2 := Int.natAbs_ediv_le_natAbs y (Int.gcd x y : Int)
    have hgz := nabs_mul hgs hzs
    have hgz2 : ((Int.gcd x y * z.natAbs : Nat) : Int).natAbs < 10 ^ 40 * 10 ^ 40 := by
      rw [Int.natAbs_natCast]
      rw [Int.natAbs_natCast] at hgs
      exact Nat.mul_lt_mul'' hgs hzs
    obtain ⟨P, hP⟩ := Is.ex (z := x / (Int.gcd x y : Int)) (sm_of (Nat.lt_of_le_of_lt hd1 hxs) (by decide))
    obtain ⟨Q, hQ⟩ := Is.ex (z := y / (Int.gcd x y : Int)) (sm_of (Nat.lt_of_le_of_lt hd2 hys) (by decide))
    obtain ⟨XZ, hXZ⟩ := Is.ex (z := x * z) (sm_of (nabs_mul hxs hzs) (by decide))
    obtain ⟨YZ, hYZ⟩ := Is.ex (z := y * z) (sm_of (nabs_mul hys hzs) (by decide))
    obtain ⟨GZ, hGZ⟩ := Is.ex (z := (Int.gcd x y : Int) * z) (sm_of hgz (by decide))
    obtain ⟨A, hA⟩ := Is.ex (z := ((Int.gcd x y * z.natAbs : Nat) : Int)) (sm_of hgz2 (by decide))
    have C4 := Lib.hid (fun w hL => div_is hx hG (by omega) hP lit_0 rfl hgx w hL)
    have C5 := Lib.hid (fun w hL => div_is hy hG (by omega) hQ lit_0 rfl hgy w hL)
    have C6 := Lib.hid (fun w hL => gcd_is hP hQ lit_1 (by rw [hg1]; rfl) w hL)
    have C7 := Lib.hid (fun w hL => mul_is hx hz hXZ rfl w hL)
    have C8 := Lib.hid (fun w hL => mul_is hy hz hYZ rfl w hL)
    have C9 := Lib.hid (fun w hL => gcd_is hXZ hYZ hA (by rw [hgm]) w hL)
    have C10 := Lib.hid (fun w hL => mul_is hG hz hGZ rfl w hL)
    by_cases hz0 : z < 0
    · have hneg : (Int.gcd x y : Int) * z < 0 := Int.mul_neg_of_pos_of_neg hg0 hz0
      have C11 := Lib.hid (fun w => cmp_is hGZ lit_0 (cmp_lt hneg) w)
      have eA : 0 - (Int.gcd x y : Int) * z = ((Int.gcd x y * z.natAbs : Nat) : Int) := by
        rw [Int.natCast_mul, show ((z.natAbs : Nat) : Int) = -z by omega, Int.mul_neg]
        omega
      have C12 := Lib.hid (fun w hL => sub_is lit_0 hGZ hA eA w hL)
      have hne : ((X.toList == [48]) = false) ∨ ((X.toList == [48]) = true ∧ (Y.toList == [48]) = false) := by
        by_cases hx0 : x = 0
        · subst hx0
          obtain rfl : X = ⟨#[48]⟩ := hx.uniq lit_0
          exact .inr ⟨by rw [list_0]; rfl, hy.differ0 (fun e => h0 ⟨rfl, e⟩)⟩
        · exact .inl (hx.differ0 hx0)
      clear hxs hys hzs hgs h0 hg0 hgx hgy hg1 hgm hd1 hd2 hgz hgz2 hz0 hneg eA hP hQ hXZ hYZ hGZ hA hx hy hz hG
      rcases hne with hne | ⟨hne, hne2⟩
      all_goals
        go_wp2_with (first
            | (go_at_call 20; (with_reducible refine (C1.out _ hL).mono ?_); rintro e v ⟨rfl, hb⟩; replace hL := hL.below hb; replace hB := below_up hB hb; clear hb)
            | (go_at_call 20; (with_reducible refine (C2.out _ hL).mono ?_); rintro e v ⟨rfl, hb⟩; replace hL := hL.below hb; replace hB := below_up hB hb; clear hb)
            | (go_at_call 18; (with_reducible refine (C3.out _).mono ?_); rintro e v ⟨rfl, hb⟩; replace hL := hL.below hb; replace hB := below_up hB hb; clear hb)
            | (go_at_call 17; (with_reducible refine (C4.out _ hL).mono ?_); rintro e v ⟨rfl, hb⟩; replace hL := hL.below hb; replace hB := below_up hB hb; clear hb)
            | (go_at_call 17; (with_reducible refine (C5.out _ hL).mono ?_); rintro e v ⟨rfl, hb⟩; replace hL := hL.below hb; replace hB := below_up hB hb; clear hb)
            | (go_at_call 20; (with_reducible refine (C6.out _ hL).mono ?_); rintro e v ⟨rfl, hb⟩; replace hL := hL.below hb; replace hB := below_up hB hb; clear hb)
            | (go_at_call 15; (with_reducible refine (C7.out _ hL).mono ?_); rintro e v ⟨rfl, hb⟩; replace hL := hL.below hb; replace hB := below_up hB hb; clear hb)
            | (go_at_call 15; (with_reducible refine (C8.out _ hL).mono ?_); rintro e v ⟨rfl, hb⟩; replace hL := hL.below hb; replace hB := below_up hB hb; clear hb)
            | (go_at_call 20; (with_reducible refine (C9.out _ hL).mono ?_); rintro e v ⟨rfl, hb⟩; replace hL := hL.below hb; replace hB := below_up hB hb; clear hb)
            | (go_at_call 15; (with_reducible refine (C10.out _ hL).mono ?_); rintro e v ⟨rfl, hb⟩; replace hL := hL.below hb; replace hB := below_up hB hb; clear hb)
            | (go_at_call 18; (with_reducible refine (C11.out _).mono ?_); rintro e v ⟨rfl, hb⟩; replace hL := hL.below hb; replace hB := below_up hB hb; clear hb)
            | (go_at_call 16; (with_reducible refine (C12.out _ hL).mono ?_); rintro e v ⟨rfl, hb⟩; replace hL := hL.below hb; replace hB := below_up hB hb; clear hb))
        go_ret
        exact ⟨rfl, hB⟩
    · obtain ⟨c4, hc4, hcr⟩ := cmp_nonneg (Int.mul_nonneg (by omega) (show 0 ≤ z by omega) : 0 ≤ (Int.gcd x y : Int) * z)
      have hc4' : ¬ c4 < 0 := by omega
      have C11 := Lib.hid (fun w => cmp_is hGZ lit_0 hcr.out w)
      have eA : GZ = A := hGZ.uniq (hA.cast (by rw [Int.natCast_mul, show ((z.natAbs : Nat) : Int) = z by omega]))
      subst eA
      have hne : ((X.toList == [48]) = false) ∨ ((X.toList == [48]) = true ∧ (Y.toList == [48]) = false) := by
        by_cases hx0 : x = 0
        · subst hx0
          obtain rfl : X = ⟨#[48]⟩ := hx.uniq lit_0
          exact .inr ⟨by rw [list_0]; rfl, hy.differ0 (fun e => h0 ⟨rfl, e⟩)⟩
        · exact .inl (hx.differ0 hx0)
      clear hxs hys hzs hgs h0 hg0 hgx hgy hg1 hgm hd1 hd2 hgz hgz2 hz0 hcr hc4 hP hQ hXZ hYZ hGZ hA hx hy hz hG
      rcases hne with hne | ⟨hne, hne2⟩
      all_goals
        go_wp2_with (first
            | (go_at_call 20; (with_reducible refine (C1.out _ hL).mono ?_); rintro e v ⟨rfl, hb⟩; replace hL := hL.below hb; replace hB := below_up hB hb; clear hb)
            | (go_at_call 20; (with_reducible refine (C2.out _ hL).mono ?_); rintro e v ⟨rfl, hb⟩; replace hL := hL.below hb; replace hB := below_up hB hb; clear hb)
            | (go_at_call 18; (with_reducible refine (C3.out _).mono ?_); rintro e v ⟨rfl, hb⟩; replace hL := hL.below hb; replace hB := below_up hB hb; clear hb)
            | (go_at_call 17; (with_reducible refine (C4.out _ hL).mono ?_); rintro e v ⟨rfl, hb⟩; replace hL := hL.below hb; replace hB := below_up hB hb; clear hb)
            | (go_at_call 17; (with_reducible refine (C5.out _ hL).mono ?_); rintro e v ⟨rfl, hb⟩; replace hL := hL.below hb; replace hB := below_up hB hb; clear hb)
            | (go_at_call 20; (with_reducible refine (C6.out _ hL).mono ?_); rintro e v ⟨rfl, hb⟩; replace hL := hL.below hb; replace hB := below_up hB hb; clear hb)
            | (go_at_call 15; (with_reducible refine (C7.out _ hL).mono ?_); rintro e v ⟨rfl, hb⟩; replace hL := hL.below hb; replace hB := below_up hB hb; clear hb)
            | (go_at_call 15; (with_reducible refine (C8.out _ hL).mono ?_); rintro e v ⟨rfl, hb⟩; replace hL := hL.below hb; replace hB := below_up hB hb; clear hb)
            | (go_at_call 20; (with_reducible refine (C9.out _ hL).mono ?_); rintro e v ⟨rfl, hb⟩; replace hL := hL.below hb; replace hB := below_up hB hb; clear hb)
            | (go_at_call 15; (with_reducible refine (C10.out _ hL).mono ?_); rintro e v ⟨rfl, hb⟩; replace hL := hL.below hb; replace hB := below_up hB hb; clear hb)
            | (go_at_call 18; (with_reducible refine (C11.out _).mono ?_); rintro e v ⟨rfl, hb⟩; replace hL := hL.below hb; replace hB := below_up hB hb; clear hb))
        go_ret
        exact ⟨rfl, hB⟩

end Go.Proofs.YtcpkejpdpohfeaaGreatDoor
