/- The walks of the reference implementation's 'checked', 'sum', 'Add', 'Sub', 'Compare'. Conditions: sizes. -/
import Derived.Test.YtcpkejpdpohfeaaGreatDoorV5
namespace Go.Proofs.YtcpkejpdpohfeaaGreatDoor
open Go.RowKit Num
open Go.Shelf

set_option maxHeartbeats 1000000 in
theorem checked_any (neg : Bool) (n : Nat) (v : Value) (w : World) (hv : Rd w v (dg 10 n)) : Calls Tryz.prog 50 #[.bool neg, v] w (RetP w (outI (sgn neg n))) := by
  have TX := Lib.hid (rtext_any neg n v w hv)
  by_cases h : n < 10 ^ 200
  · rw [outI_ok (by rw [sgn_abs]; exact h)]
    rw [decide_eq_true h] at TX
    clear h hv
    go_enter Tryz.func50, Tryz.ntmps50
    go_wp2_with (go_at_call 36; (with_reducible refine TX.out.mono ?_); rintro e w1 ⟨rfl, hb1⟩)
    go_ret2
    exact ⟨rfl, hb1⟩
  · rw [outI_no (by rw [sgn_abs]; exact h)]
    rw [decide_eq_false h] at TX
    clear h hv
    go_enter Tryz.func50, Tryz.ntmps50
    go_wp2_with (go_at_call 36; (with_reducible refine TX.out.mono ?_); rintro e w1 ⟨rfl, hb1⟩)
    go_ret2
    exact ⟨rfl, hb1⟩

theorem RetP.up {w w1 : World} (h : Below w.heap.size w w1) {p : ByteArray × Int} {e : Ending} {w' : World} (k : RetP w1 p e w') : RetP w p e w' := ⟨k.1, below_up h k.2⟩

set_option maxHeartbeats 2000000 in
theorem rsum_any (x y : Bool) (m n : Nat) (v u : Value) (w : World) (hv : Rd w v (dg 10 m)) (hu : Rd w u (dg 10 n)) (hm : (dg 10 m).length ≤ 2000) (hn : (dg 10 n).length ≤ 2000) :
    Calls Tryz.prog 49 #[.bool x, v, .bool y, u] w (RetP w (outI (sgn x m + sgn y n))) := by
  have HV := Lib.hid hv
  have HU := Lib.hid hu
  by_cases hxy : x = y
  · subst hxy
    have P := Lib.hid (rplus_any m n v u w hv hu hm hn)
    have e : Hid (sgn x m + sgn x n = sgn x (m + n)) := Lib.hid (by unfold sgn; cases x <;> simp; omega)
    clear hv hu
    have hb : (x == x) = true := by simp
    go_enter Tryz.func49, Tryz.ntmps49
    go_wp2_with (first
      | (go_at_call 53; (with_reducible refine P.out.mono ?_); rintro e w1 ⟨v1, rfl, hr1, hb1⟩)
      | (go_at_call 50; (with_reducible refine (checked_any x (m + n) v1 _ hr1).mono ?_); rintro e w2 ⟨rfl, hb2⟩))
    go_ret2
    exact ⟨by rw [e.out]; rfl, below_up hb1 hb2⟩
  · have hb : (x == y) = false := by rw [beq_eq_false_iff_ne]; exact hxy
    have O := Lib.hid (rorder_any m n v u w hv hu)
    by_cases hmn : n ≤ m
    · have hc : (0 : Int) ≤ Lib.compareInt m n := by unfold Lib.compareInt; rw [if_neg (by omega)]; split <;> omega
      have M := fun w1 (hb1 : Below w.heap.size w w1) => Lib.hid (rminus_any m n hmn v u w1 (HV.out.below hb1) (HU.out.below hb1) hm)
      have e : Hid (sgn x m + sgn y n = sgn x (m - n : Nat)) := Lib.hid (by unfold sgn; revert hxy; cases x <;> cases y <;> simp <;> omega)
      generalize Lib.compareInt m n = c at *
      clear hv hu hxy hmn
      have M := Lib.hid M
      go_enter Tryz.func49, Tryz.ntmps49
      go_wp2_with (first
        | (go_at_call 55; (with_reducible refine O.out.mono ?_); rintro e w1 ⟨rfl, hb1⟩)
        | (go_at_call 54; (with_reducible refine (M.out _ hb1).out.mono ?_); rintro e w2 ⟨v1, rfl, hr1, hb2⟩)
        | (go_at_call 50; (with_reducible refine (checked_any x (m - n) v1 _ hr1).mono ?_); rintro e w3 ⟨rfl, hb3⟩))
      go_ret2
      exact ⟨by rw [e.out]; rfl, below_up hb1 (below_up hb2 hb3)⟩
    · have hc : ¬ (0 : Int) ≤ Lib.compareInt m n := by unfold Lib.compareInt; rw [if_pos (by omega)]; omega
      have M := fun w1 (hb1 : Below w.heap.size w w1) => Lib.hid (rminus_any n m (by omega) u v w1 (HU.out.below hb1) (HV.out.below hb1) hn)
      have e : Hid (sgn x m + sgn y n = sgn y (n - m : Nat)) := Lib.hid (by unfold sgn; revert hxy; cases x <;> cases y <;> simp <;> omega)
      generalize Lib.compareInt m n = c at *
      clear hv hu hxy hmn
      have M := Lib.hid M
      go_enter Tryz.func49, Tryz.ntmps49
      go_wp2_with (first
        | (go_at_call 55; (with_reducible refine O.out.mono ?_); rintro e w1 ⟨rfl, hb1⟩)
        | (go_at_call 54; (with_reducible refine (M.out _ hb1).out.mono ?_); rintro e w2 ⟨v1, rfl, hr1, hb2⟩)
        | (go_at_call 50; (with_reducible refine (checked_any y (n - m) v1 _ hr1).mono ?_); rintro e w3 ⟨rfl, hb3⟩))
      go_ret2
      exact ⟨by rw [e.out]; rfl, below_up hb1 (below_up hb2 hb3)⟩

theorem is_len {s : ByteArray} {z : Int} (h : rdI s = some z) : (dg 10 z.natAbs).length ≤ 200 := dg_len (by omega) 200 _ (rd_small h)

theorem rvalid_some {s : ByteArray} {z : Int} (h : rdI s = some z) (w : World) : Calls Tryz.prog 33 #[.string s] w (RetB w true) := by
  have := rvalid_any s (by have := Is.size h; omega) w
  rw [h] at this
  exact this
theorem rvalid_none {s : ByteArray} (hs : s.size ≤ 9223372036854775807) (h : rdI s = none) (w : World) : Calls Tryz.prog 33 #[.string s] w (RetB w false) := by
  have := rvalid_any s hs w
  rw [h] at this
  exact this

/-- The two tests that open a function of two integers: where they fail. -/
theorem cases_two (a b : ByteArray) : (∃ x y, rdI a = some x ∧ rdI b = some y) ∨ (rdI a = none) ∨ (∃ x, rdI a = some x ∧ rdI b = none) := by
  cases ha : rdI a with
  | none => exact .inr (.inl rfl)
  | some x =>
    cases hb : rdI b with
    | none => exact .inr (.inr ⟨x, rfl, rfl⟩)
    | some y => exact .inl ⟨x, y, rfl, rfl⟩

set_option maxHeartbeats 2000000 in
theorem radd_any (a b : ByteArray) (has : a.size ≤ 9223372036854775807) (hbs : b.size ≤ 9223372036854775807) (w : World) :
    Calls Tryz.prog 25 #[.string a, .string b] w (RetP w (op2 (fun x y => outI (x + y)) a b)) := by
  rcases cases_two a b with ⟨x, y, ha, hb⟩ | ha | ⟨x, ha, hb⟩
  · rw [op2_ok ha hb]
    have V1 := Lib.hid (fun w => rvalid_some ha w)
    have V2 := Lib.hid (fun w => rvalid_some hb w)
    have D1 := Lib.hid (fun w => digits_any (s := a) ha w)
    have D2 := Lib.hid (fun w => digits_any (s := b) hb w)
    have S := Lib.hid (fun v u w hv hu => rsum_any (decide (x < 0)) (decide (y < 0)) x.natAbs y.natAbs v u w hv hu (by have := is_len ha; omega) (by have := is_len hb; omega))
    rw [sgn_self, sgn_self] at S
    clear ha hb has hbs
    go_enter Tryz.func25, Tryz.ntmps25
    go_wp2_with (first
      | (go_at_call 33; (with_reducible refine (V1.out _).mono ?_); rintro e w1 ⟨rfl, hb1⟩)
      | (go_at_call 33; (with_reducible refine (V2.out _).mono ?_); rintro e w2 ⟨rfl, hb2⟩)
      | (go_at_call 48; (with_reducible refine (D1.out _).mono ?_); rintro e w3 ⟨v3, rfl, hr3, hb3⟩)
      | (go_at_call 48; (with_reducible refine (D2.out _).mono ?_); rintro e w4 ⟨v4, rfl, hr4, hb4⟩)
      | (go_at_call 49; (with_reducible refine (S.out v3 v4 _ (hr3.below hb4) hr4).mono ?_); rintro e w5 ⟨rfl, hb5⟩))
    go_ret2
    exact ⟨rfl, below_up hb1 (below_up hb2 (below_up hb3 (below_up hb4 hb5)))⟩
  · rw [op2_no (.inl ha)]
    have V1 := Lib.hid (fun w => rvalid_none has ha w)
    clear ha has hbs
    go_enter Tryz.func25, Tryz.ntmps25
    go_wp2_with (go_at_call 33; (with_reducible refine (V1.out _).mono ?_); rintro e w1 ⟨rfl, hb1⟩)
    go_ret2
    exact ⟨rfl, hb1⟩
  · rw [op2_no (.inr hb)]
    have V1 := Lib.hid (fun w => rvalid_some ha w)
    have V2 := Lib.hid (fun w => rvalid_none hbs hb w)
    clear ha hb has hbs
    go_enter Tryz.func25, Tryz.ntmps25
    go_wp2_with (first
      | (go_at_call 33; (with_reducible refine (V1.out _).mono ?_); rintro e w1 ⟨rfl, hb1⟩)
      | (go_at_call 33; (with_reducible refine (V2.out _).mono ?_); rintro e w2 ⟨rfl, hb2⟩))
    go_ret2
    exact ⟨rfl, below_up hb1 hb2⟩

end Go.Proofs.YtcpkejpdpohfeaaGreatDoor
