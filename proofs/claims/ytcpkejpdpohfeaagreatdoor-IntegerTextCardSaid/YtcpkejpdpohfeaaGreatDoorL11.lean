/- IntegerText: its walk. Condition: the tables of strconv; the number is an int. -/
import Derived.Test.YtcpkejpdpohfeaaGreatDoorL4
import Derived.Laws.IdiomStrings
namespace Go.Proofs.YtcpkejpdpohfeaaGreatDoor
open Go.RowKit Num
open Go.Shelf

theorem toI_any (s : ByteArray) (hs : s.size ≤ 281474976710656) (w : World) (hL : Laid w) : Calls Tryz.prog 31 #[.string s] w (RetN2 w (toI s).1 (toI s).2) := toInt_any s hs w hL
theorem toI_cases (s : ByteArray) : (toI s = (0, 30)) ∨ ∃ k, toI s = (k, 0) ∧ Is s k ∧ -9223372036854775808 ≤ k ∧ k ≤ 9223372036854775807 := by
  unfold toI
  cases h : rdI s with
  | none => exact .inl rfl
  | some z =>
    simp only
    by_cases k : -9223372036854775808 ≤ z ∧ z ≤ 9223372036854775807
    · rw [if_pos k]
      exact .inr ⟨z, rfl, h, k.1, k.2⟩
    · rw [if_neg k]
      exact .inl rfl

set_option maxHeartbeats 2000000 in
set_option maxRecDepth 100000 in
theorem text_law (n : Int) (h0 : -9223372036854775808 ≤ n) (h1 : n ≤ 9223372036854775807) (s : ByteArray) (w : World) (hL : Laid w) :
    Calls Tryz.prog 11 #[.int .i64 n, .string s] w (RetB w true) := by
  have hB : Below w.heap.size w w := Below.refl _ _
  obtain ⟨T, hT⟩ := Is.ex (z := n) (sm_of (m := 9223372036854775809) (by omega) (by decide))
  have C1 := Lib.hid (fun w hL => from_is hT h0 h1 w hL)
  have C2 := Lib.hid (fun w hL => toInt_is hT h0 h1 w hL)
  have C3 := Lib.hid (fun w => valid_is hT w)
  clear hT
  have hsz : (s.extract 0 (min (s.size : Int) 30).toNat).size ≤ 281474976710656 := by
    rw [ByteArray.size_extract]; omega
  have C4 := Lib.hid (fun w hL => toI_any (s.extract 0 (min (s.size : Int) 30).toNat) hsz w hL)
  have hk := toI_cases (s.extract 0 (min (s.size : Int) 30).toNat)
  rcases hk with hk | ⟨k, hk, hs, k0, k1⟩
  · rw [hk] at C4
    clear hk
    go_enter Tryz.func11, Tryz.ntmps11
    go_wp2_with (first
        | (go_at_call 12; (with_reducible refine (sane_any _ hL).mono ?_); rintro e v ⟨rfl, hb⟩; replace hL := hL.below hb; replace hB := below_up hB hb; clear hb)
        | (go_at_call 35; (with_reducible refine (C1.out _ hL).mono ?_); rintro e v ⟨rfl, hb⟩; replace hL := hL.below hb; replace hB := below_up hB hb; clear hb)
        | (go_at_call 31; (with_reducible refine (C2.out _ hL).mono ?_); rintro e v ⟨rfl, hb⟩; replace hL := hL.below hb; replace hB := below_up hB hb; clear hb)
        | (go_at_call 31; (with_reducible refine (C4.out _ hL).mono ?_); rintro e v ⟨rfl, hb⟩; replace hL := hL.below hb; replace hB := below_up hB hb; clear hb)
        | (go_at_call 19; (with_reducible refine (C3.out _).mono ?_); rintro e v ⟨rfl, hb⟩; replace hL := hL.below hb; replace hB := below_up hB hb; clear hb))
    go_ret
    exact ⟨rfl, hB⟩
  · rw [hk] at C4
    clear hk
    have C5 := Lib.hid (fun w => valid_is hs w)
    have C6 := Lib.hid (fun w hL => from_is hs k0 k1 w hL)
    clear hs
    go_enter Tryz.func11, Tryz.ntmps11
    go_wp2_with (first
        | (go_at_call 12; (with_reducible refine (sane_any _ hL).mono ?_); rintro e v ⟨rfl, hb⟩; replace hL := hL.below hb; replace hB := below_up hB hb; clear hb)
        | (go_at_call 35; (with_reducible refine (C1.out _ hL).mono ?_); rintro e v ⟨rfl, hb⟩; replace hL := hL.below hb; replace hB := below_up hB hb; clear hb)
        | (go_at_call 31; (with_reducible refine (C2.out _ hL).mono ?_); rintro e v ⟨rfl, hb⟩; replace hL := hL.below hb; replace hB := below_up hB hb; clear hb)
        | (go_at_call 31; (with_reducible refine (C4.out _ hL).mono ?_); rintro e v ⟨rfl, hb⟩; replace hL := hL.below hb; replace hB := below_up hB hb; clear hb)
        | (go_at_call 19; (with_reducible refine (C3.out _).mono ?_); rintro e v ⟨rfl, hb⟩; replace hL := hL.below hb; replace hB := below_up hB hb; clear hb)
        | (go_at_call 19; (with_reducible refine (C5.out _).mono ?_); rintro e v ⟨rfl, hb⟩; replace hL := hL.below hb; replace hB := below_up hB hb; clear hb)
        | (go_at_call 35; (with_reducible refine (C6.out _ hL).mono ?_); rintro e v ⟨rfl, hb⟩; replace hL := hL.below hb; replace hB := below_up hB hb; clear hb))
    go_ret
    exact ⟨rfl, hB⟩

end Go.Proofs.YtcpkejpdpohfeaaGreatDoor
