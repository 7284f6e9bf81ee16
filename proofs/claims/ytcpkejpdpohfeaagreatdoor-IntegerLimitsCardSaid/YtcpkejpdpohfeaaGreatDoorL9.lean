/- IntegerLimits: its walk, from the contracts of nines and pick. Condition: the tables of strconv; the two numbers are ints. -/
import Derived.Test.YtcpkejpdpohfeaaGreatDoorL8
namespace Go.Proofs.YtcpkejpdpohfeaaGreatDoor
open Go.RowKit Num
open Go.Shelf

theorem pow_sm (m n : Nat) : sm (((10 ^ m * (2 * 10 ^ n - 1) : Nat) : Int)) ↔ m + n < 200 := by
  have hp : 10 ^ m * 10 ^ n = 10 ^ (m + n) := (Nat.pow_add 10 m n).symm
  have e : 10 ^ m * (2 * 10 ^ n - 1) = 2 * 10 ^ (m + n) - 10 ^ m := by
    rw [Nat.mul_sub, Nat.mul_one, ← hp, Nat.mul_left_comm]
  have hm : 0 < 10 ^ m := Nat.pow_pos (by omega)
  have hle : 10 ^ m ≤ 10 ^ (m + n) := Nat.pow_le_pow_right (by omega) (by omega)
  unfold sm
  rw [Int.natAbs_natCast, e]
  constructor
  · intro h
    by_cases k : m + n < 200
    · exact k
    · have := Nat.pow_le_pow_right (show 0 < 10 by omega) (show 200 ≤ m + n by omega)
      omega
  · intro h
    have h1 : 10 ^ (m + n + 1) ≤ 10 ^ 200 := Nat.pow_le_pow_right (by omega) (by omega)
    rw [Nat.pow_succ] at h1
    omega
theorem pow_len {s : ByteArray} {m n : Nat} (h : Is s (((10 ^ m * (2 * 10 ^ n - 1) : Nat) : Int))) : s.size = m + n + 1 := by
  have hp : 10 ^ m * 10 ^ n = 10 ^ (m + n) := (Nat.pow_add 10 m n).symm
  have e : 10 ^ m * (2 * 10 ^ n - 1) = 2 * 10 ^ (m + n) - 10 ^ m := by
    rw [Nat.mul_sub, Nat.mul_one, ← hp, Nat.mul_left_comm]
  have hm : 0 < 10 ^ m := Nat.pow_pos (by omega)
  have hle : 10 ^ m ≤ 10 ^ (m + n) := Nat.pow_le_pow_right (by omega) (by omega)
  rw [h.eq, e]
  unfold tx
  rw [itoa_pos]
  show (Lib.decDigits (2 * 10 ^ (m + n) - 10 ^ m)).toArray.size = _
  rw [List.size_toArray]
  have h1 : (Lib.decDigits (2 * 10 ^ (m + n) - 10 ^ m)).length ≤ m + n + 1 := dec_len (by omega) (by rw [Nat.pow_succ]; omega)
  have h2 : ¬ (Lib.decDigits (2 * 10 ^ (m + n) - 10 ^ m)).length ≤ m + n := by
    intro k
    rcases Nat.eq_zero_or_pos (m + n) with h0 | h0
    · have := List.length_pos_iff.2 (dec_ne (2 * 10 ^ (m + n) - 10 ^ m))
      omega
    · have := (dec_len_iff (u := 2 * 10 ^ (m + n) - 10 ^ m) h0).1 k
      omega
  omega

set_option maxHeartbeats 4000000 in
set_option maxRecDepth 100000 in
theorem limits_any (a : ByteArray) (m n : Int) (hm0 : -9223372036854775808 ≤ m) (hm1 : m ≤ 9223372036854775807) (hn0 : -9223372036854775808 ≤ n) (hn1 : n ≤ 9223372036854775807) (w : World) (hL : Laid w) :
    Calls Tryz.prog 8 #[.string a, .int .i64 m, .int .i64 n] w (RetB w true) := by
  have hB : Below w.heap.size w w := Below.refl _ _
  obtain ⟨M, hM, PM⟩ : ∃ M : Nat, M < 200 ∧ Hid (∀ w, Calls Tryz.prog 23 #[.int .i64 m, .int .i64 200] w (RetI w M)) :=
    ⟨pk m, by unfold pk; omega, Lib.hid (fun w => pick_any m hm0 hm1 w)⟩
  obtain ⟨N, hN, PN⟩ : ∃ N : Nat, N < 200 ∧ Hid (∀ w, Calls Tryz.prog 23 #[.int .i64 n, .int .i64 200] w (RetI w N)) :=
    ⟨pk n, by unfold pk; omega, Lib.hid (fun w => pick_any n hn0 hn1 w)⟩
  clear hm0 hm1 hn0 hn1
  have N0 := Lib.hid (fun w => nines_any 200 200 rfl (by omega) w)
  have N1 := Lib.hid (fun w => nines_any (M : Int) M rfl (by omega) w)
  have N2 := Lib.hid (fun w => nines_any (N : Int) N rfl (by omega) w)
  have z1 : ¬ 9223372036854775807 < (⟨#[45]⟩ : ByteArray).size + (nz 200).size := by rw [nz_size]; decide
  have z2 : ¬ 9223372036854775807 < (⟨#[49]⟩ : ByteArray).size + (nz N).size := by rw [nz_size]; show ¬ _ < 1 + N; omega
  have z3 : ¬ 9223372036854775807 < (nz 200).size + (⟨#[57]⟩ : ByteArray).size := by rw [nz_size]; decide
  have hmost := is_nines (show 0 < 200 by omega) (Nat.le_refl 200)
  have hneg := is_minus_nines (show 0 < 200 by omega) (Nat.le_refl 200)
  have V1 := Lib.hid (fun w => valid_bad bad_nines w)
  have V2 := Lib.hid (fun w => valid_is hneg w)
  have hTwo := is_one_nines hN
  obtain ⟨One, hOne⟩ := Is.ex (z := ((10 ^ M : Nat) : Int)) (by unfold sm; rw [Int.natAbs_natCast]; exact Nat.pow_lt_pow_right (by omega) hM)
  go_enter Tryz.func8, Tryz.ntmps8
  go_wp2_with (first
      | (go_at_call 12; (with_reducible refine (sane_any _ hL).mono ?_); rintro e v ⟨rfl, hb⟩; replace hL := hL.below hb; replace hB := below_up hB hb; clear hb)
      | (go_at_call 13; (with_reducible refine (made_at a 5 5 rfl (by decide) _).mono ?_); rintro e v ⟨X, x, hx, hxs, rfl, hb⟩; replace hL := hL.below hb; replace hB := below_up hB hb; clear hb)
      | (go_at_call 22; (with_reducible refine (N0.out _).mono ?_); rintro e v ⟨rfl, hb⟩; replace hL := hL.below hb; replace hB := below_up hB hb; clear hb))
  have hxs := hxs.out
  have hX0 : (0 < x ∧ Hid (∀ w, Calls Tryz.prog 18 #[.string X, .string ⟨#[48]⟩] w (RetI w 1))) ∨ (x ≤ 0 ∧ ∃ c, ¬ 0 < c ∧ Hid (∀ w, Calls Tryz.prog 18 #[.string X, .string ⟨#[48]⟩] w (RetI w c))) := by
    rcases Int.lt_trichotomy x 0 with k | k | k
    · exact .inr ⟨by omega, _, (by omega : ¬ (0 : Int) < -1), Lib.hid (fun w => cmp_is hx lit_0 (cmp_lt k) w)⟩
    · exact .inr ⟨by omega, _, (by omega : ¬ (0 : Int) < 0), Lib.hid (fun w => cmp_is hx lit_0 (cmp_eq k) w)⟩
    · exact .inl ⟨k, Lib.hid (fun w => cmp_is hx lit_0 (cmp_gt k) w)⟩
  have hMz : (M = 0 ∧ Hid (Is One 1)) ∨ (0 < M ∧ Hid (Is (nz M) (((10 ^ M - 1 : Nat) : Int)))) := by
    rcases Nat.eq_zero_or_pos M with k | k
    · exact .inl ⟨k, Lib.hid (hOne.cast (by subst k; rfl))⟩
    · exact .inr ⟨k, Lib.hid (is_nines k (by omega))⟩
  have hS : ((M : Int) + (N : Int) < 200 ∧ ∃ P, (P.size : Int) = (M : Int) + (N : Int) + 1 ∧ Hid (∀ w, Laid w → Calls Tryz.prog 15 #[.string One, .string (⟨#[49]⟩ ++ nz N)] w (RetSt w P))) ∨
      (¬ (M : Int) + (N : Int) < 200 ∧ Hid (∀ w, Laid w → Calls Tryz.prog 15 #[.string One, .string (⟨#[49]⟩ ++ nz N)] w (RetE w))) := by
    have e : ((10 ^ M : Nat) : Int) * ((2 * 10 ^ N - 1 : Nat) : Int) = ((10 ^ M * (2 * 10 ^ N - 1) : Nat) : Int) := (Int.natCast_mul _ _).symm
    by_cases k : M + N < 200
    · obtain ⟨P, hP⟩ := Is.ex ((pow_sm M N).2 k)
      exact .inl ⟨by omega, P, by rw [pow_len hP]; omega, Lib.hid (fun w hL => mul_is hOne hTwo hP e w hL)⟩
    · exact .inr ⟨by omega, Lib.hid (fun w hL => mul_over hOne hTwo (by rw [e]; exact fun h => k ((pow_sm M N).1 h)) w hL)⟩
  have hbig : ((10 ^ 200 - 1 : Nat) : Int) = 10 ^ 200 - 1 := by decide
  rcases hX0 with ⟨k, C5⟩ | ⟨k, c5, hc5, C5⟩
  · have C1 := Lib.hid (fun w hL => add_over hmost hx (by unfold sm; rw [hbig]; omega) w hL)
    have C2 := Lib.hid (fun w hL => sub_over hneg hx (by unfold sm; rw [hbig]; omega) w hL)
    clear hxs k hbig hmost hneg hTwo hx
    rcases hMz with ⟨k, hOne1⟩ | ⟨k, hMM⟩
    · have C3 := Lib.hid (fun w hL => add_bad (s := nz M) (t := ⟨#[49]⟩) (.inl (by rw [k]; exact bad_nil)) w hL)
      have hMi : ((M : Int) == 0) = true := by rw [beq_iff_eq]; omega
      clear k
      have C4 := Lib.hid (fun w hL => add_is lit_0 lit_1 hOne1.out rfl w hL)
      clear hOne
      rcases hS with ⟨hs, P, hps, C6⟩ | ⟨hs, C6⟩
      all_goals
        go_wp2_with (first
            | (go_at_call 22; (with_reducible refine (N0.out _).mono ?_); rintro e v ⟨rfl, hb⟩; replace hL := hL.below hb; replace hB := below_up hB hb; clear hb)
            | (go_at_call 14; (with_reducible refine (C1.out _ hL).mono ?_); rintro e v ⟨rfl, hb⟩; replace hL := hL.below hb; replace hB := below_up hB hb; clear hb)
            | (go_at_call 16; (with_reducible refine (C2.out _ hL).mono ?_); rintro e v ⟨rfl, hb⟩; replace hL := hL.below hb; replace hB := below_up hB hb; clear hb)
            | (go_at_call 23; (with_reducible refine (PM.out _).mono ?_); rintro e v ⟨rfl, hb⟩; replace hL := hL.below hb; replace hB := below_up hB hb; clear hb)
            | (go_at_call 23; (with_reducible refine (PN.out _).mono ?_); rintro e v ⟨rfl, hb⟩; replace hL := hL.below hb; replace hB := below_up hB hb; clear hb)
            | (go_at_call 22; (with_reducible refine (N1.out _).mono ?_); rintro e v ⟨rfl, hb⟩; replace hL := hL.below hb; replace hB := below_up hB hb; clear hb)
            | (go_at_call 22; (with_reducible refine (N2.out _).mono ?_); rintro e v ⟨rfl, hb⟩; replace hL := hL.below hb; replace hB := below_up hB hb; clear hb)
            | (go_at_call 14; (with_reducible refine (C3.out _ hL).mono ?_); rintro e v ⟨rfl, hb⟩; replace hL := hL.below hb; replace hB := below_up hB hb; clear hb)
            | (go_at_call 14; (with_reducible refine (C4.out _ hL).mono ?_); rintro e v ⟨rfl, hb⟩; replace hL := hL.below hb; replace hB := below_up hB hb; clear hb)
            | (go_at_call 15; (with_reducible refine (C6.out _ hL).mono ?_); rintro e v ⟨rfl, hb⟩; replace hL := hL.below hb; replace hB := below_up hB hb; clear hb)
            | (go_at_call 18; (with_reducible refine (C5.out _).mono ?_); rintro e v ⟨rfl, hb⟩; replace hL := hL.below hb; replace hB := below_up hB hb; clear hb)
            | (go_at_call 19; (with_reducible refine (V1.out _).mono ?_); rintro e v ⟨rfl, hb⟩; replace hL := hL.below hb; replace hB := below_up hB hb; clear hb)
            | (go_at_call 19; (with_reducible refine (V2.out _).mono ?_); rintro e v ⟨rfl, hb⟩; replace hL := hL.below hb; replace hB := below_up hB hb; clear hb))
        go_ret
        exact ⟨rfl, hB⟩
    · have C3 := Lib.hid (fun w hL => add_is hMM.out lit_1 hOne (by have := Nat.pow_pos (n := M) (show 0 < 10 by omega); omega) w hL)
      have hMi : ((M : Int) == 0) = false := by rw [beq_eq_false_iff_ne]; omega
      clear hOne
      rcases hS with ⟨hs, P, hps, C6⟩ | ⟨hs, C6⟩
      all_goals
        go_wp2_with (first
            | (go_at_call 22; (with_reducible refine (N0.out _).mono ?_); rintro e v ⟨rfl, hb⟩; replace hL := hL.below hb; replace hB := below_up hB hb; clear hb)
            | (go_at_call 14; (with_reducible refine (C1.out _ hL).mono ?_); rintro e v ⟨rfl, hb⟩; replace hL := hL.below hb; replace hB := below_up hB hb; clear hb)
            | (go_at_call 16; (with_reducible refine (C2.out _ hL).mono ?_); rintro e v ⟨rfl, hb⟩; replace hL := hL.below hb; replace hB := below_up hB hb; clear hb)
            | (go_at_call 23; (with_reducible refine (PM.out _).mono ?_); rintro e v ⟨rfl, hb⟩; replace hL := hL.below hb; replace hB := below_up hB hb; clear hb)
            | (go_at_call 23; (with_reducible refine (PN.out _).mono ?_); rintro e v ⟨rfl, hb⟩; replace hL := hL.below hb; replace hB := below_up hB hb; clear hb)
            | (go_at_call 22; (with_reducible refine (N1.out _).mono ?_); rintro e v ⟨rfl, hb⟩; replace hL := hL.below hb; replace hB := below_up hB hb; clear hb)
            | (go_at_call 22; (with_reducible refine (N2.out _).mono ?_); rintro e v ⟨rfl, hb⟩; replace hL := hL.below hb; replace hB := below_up hB hb; clear hb)
            | (go_at_call 14; (with_reducible refine (C3.out _ hL).mono ?_); rintro e v ⟨rfl, hb⟩; replace hL := hL.below hb; replace hB := below_up hB hb; clear hb)
            | (go_at_call 15; (with_reducible refine (C6.out _ hL).mono ?_); rintro e v ⟨rfl, hb⟩; replace hL := hL.below hb; replace hB := below_up hB hb; clear hb)
            | (go_at_call 18; (with_reducible refine (C5.out _).mono ?_); rintro e v ⟨rfl, hb⟩; replace hL := hL.below hb; replace hB := below_up hB hb; clear hb)
            | (go_at_call 19; (with_reducible refine (V1.out _).mono ?_); rintro e v ⟨rfl, hb⟩; replace hL := hL.below hb; replace hB := below_up hB hb; clear hb)
            | (go_at_call 19; (with_reducible refine (V2.out _).mono ?_); rintro e v ⟨rfl, hb⟩; replace hL := hL.below hb; replace hB := below_up hB hb; clear hb))
        go_ret
        exact ⟨rfl, hB⟩
  · obtain ⟨SU, hSU⟩ := Is.ex (z := ((10 ^ 200 - 1 : Nat) : Int) + x) (by unfold sm; rw [hbig]; omega)
    obtain ⟨DI, hDI⟩ := Is.ex (z := -((10 ^ 200 - 1 : Nat) : Int) - x) (by unfold sm; rw [hbig]; omega)
    have C1 := Lib.hid (fun w hL => add_is hmost hx hSU rfl w hL)
    have C2 := Lib.hid (fun w hL => sub_is hneg hx hDI rfl w hL)
    clear hSU hDI
    clear hxs k hbig hmost hneg hTwo hx
    rcases hMz with ⟨k, hOne1⟩ | ⟨k, hMM⟩
    · have C3 := Lib.hid (fun w hL => add_bad (s := nz M) (t := ⟨#[49]⟩) (.inl (by rw [k]; exact bad_nil)) w hL)
      have hMi : ((M : Int) == 0) = true := by rw [beq_iff_eq]; omega
      clear k
      have C4 := Lib.hid (fun w hL => add_is lit_0 lit_1 hOne1.out rfl w hL)
      clear hOne
      rcases hS with ⟨hs, P, hps, C6⟩ | ⟨hs, C6⟩
      all_goals
        go_wp2_with (first
            | (go_at_call 22; (with_reducible refine (N0.out _).mono ?_); rintro e v ⟨rfl, hb⟩; replace hL := hL.below hb; replace hB := below_up hB hb; clear hb)
            | (go_at_call 14; (with_reducible refine (C1.out _ hL).mono ?_); rintro e v ⟨rfl, hb⟩; replace hL := hL.below hb; replace hB := below_up hB hb; clear hb)
            | (go_at_call 16; (with_reducible refine (C2.out _ hL).mono ?_); rintro e v ⟨rfl, hb⟩; replace hL := hL.below hb; replace hB := below_up hB hb; clear hb)
            | (go_at_call 23; (with_reducible refine (PM.out _).mono ?_); rintro e v ⟨rfl, hb⟩; replace hL := hL.below hb; replace hB := below_up hB hb; clear hb)
            | (go_at_call 23; (with_reducible refine (PN.out _).mono ?_); rintro e v ⟨rfl, hb⟩; replace hL := hL.below hb; replace hB := below_up hB hb; clear hb)
            | (go_at_call 22; (with_reducible refine (N1.out _).mono ?_); rintro e v ⟨rfl, hb⟩; replace hL := hL.below hb; replace hB := below_up hB hb; clear hb)
            | (go_at_call 22; (with_reducible refine (N2.out _).mono ?_); rintro e v ⟨rfl, hb⟩; replace hL := hL.below hb; replace hB := below_up hB hb; clear hb)
            | (go_at_call 14; (with_reducible refine (C3.out _ hL).mono ?_); rintro e v ⟨rfl, hb⟩; replace hL := hL.below hb; replace hB := below_up hB hb; clear hb)
            | (go_at_call 14; (with_reducible refine (C4.out _ hL).mono ?_); rintro e v ⟨rfl, hb⟩; replace hL := hL.below hb; replace hB := below_up hB hb; clear hb)
            | (go_at_call 15; (with_reducible refine (C6.out _ hL).mono ?_); rintro e v ⟨rfl, hb⟩; replace hL := hL.below hb; replace hB := below_up hB hb; clear hb)
            | (go_at_call 18; (with_reducible refine (C5.out _).mono ?_); rintro e v ⟨rfl, hb⟩; replace hL := hL.below hb; replace hB := below_up hB hb; clear hb)
            | (go_at_call 19; (with_reducible refine (V1.out _).mono ?_); rintro e v ⟨rfl, hb⟩; replace hL := hL.below hb; replace hB := below_up hB hb; clear hb)
            | (go_at_call 19; (with_reducible refine (V2.out _).mono ?_); rintro e v ⟨rfl, hb⟩; replace hL := hL.below hb; replace hB := below_up hB hb; clear hb))
        go_ret
        exact ⟨rfl, hB⟩
    · have C3 := Lib.hid (fun w hL => add_is hMM.out lit_1 hOne (by have := Nat.pow_pos (n := M) (show 0 < 10 by omega); omega) w hL)
      have hMi : ((M : Int) == 0) = false := by rw [beq_eq_false_iff_ne]; omega
      clear hOne
      rcases hS with ⟨hs, P, hps, C6⟩ | ⟨hs, C6⟩
      all_goals
        go_wp2_with (first
            | (go_at_call 22; (with_reducible refine (N0.out _).mono ?_); rintro e v ⟨rfl, hb⟩; replace hL := hL.below hb; replace hB := below_up hB hb; clear hb)
            | (go_at_call 14; (with_reducible refine (C1.out _ hL).mono ?_); rintro e v ⟨rfl, hb⟩; replace hL := hL.below hb; replace hB := below_up hB hb; clear hb)
            | (go_at_call 16; (with_reducible refine (C2.out _ hL).mono ?_); rintro e v ⟨rfl, hb⟩; replace hL := hL.below hb; replace hB := below_up hB hb; clear hb)
            | (go_at_call 23; (with_reducible refine (PM.out _).mono ?_); rintro e v ⟨rfl, hb⟩; replace hL := hL.below hb; replace hB := below_up hB hb; clear hb)
            | (go_at_call 23; (with_reducible refine (PN.out _).mono ?_); rintro e v ⟨rfl, hb⟩; replace hL := hL.below hb; replace hB := below_up hB hb; clear hb)
            | (go_at_call 22; (with_reducible refine (N1.out _).mono ?_); rintro e v ⟨rfl, hb⟩; replace hL := hL.below hb; replace hB := below_up hB hb; clear hb)
            | (go_at_call 22; (with_reducible refine (N2.out _).mono ?_); rintro e v ⟨rfl, hb⟩; replace hL := hL.below hb; replace hB := below_up hB hb; clear hb)
            | (go_at_call 14; (with_reducible refine (C3.out _ hL).mono ?_); rintro e v ⟨rfl, hb⟩; replace hL := hL.below hb; replace hB := below_up hB hb; clear hb)
            | (go_at_call 15; (with_reducible refine (C6.out _ hL).mono ?_); rintro e v ⟨rfl, hb⟩; replace hL := hL.below hb; replace hB := below_up hB hb; clear hb)
            | (go_at_call 18; (with_reducible refine (C5.out _).mono ?_); rintro e v ⟨rfl, hb⟩; replace hL := hL.below hb; replace hB := below_up hB hb; clear hb)
            | (go_at_call 19; (with_reducible refine (V1.out _).mono ?_); rintro e v ⟨rfl, hb⟩; replace hL := hL.below hb; replace hB := below_up hB hb; clear hb)
            | (go_at_call 19; (with_reducible refine (V2.out _).mono ?_); rintro e v ⟨rfl, hb⟩; replace hL := hL.below hb; replace hB := below_up hB hb; clear hb))
        go_ret
        exact ⟨rfl, hB⟩

end Go.Proofs.YtcpkejpdpohfeaaGreatDoor
