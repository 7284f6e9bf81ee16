/- The walks of package integer's Add and Sub. Conditions: the tables that strconv.Itoa reads. -/
import Derived.Test.YtcpkejpdpohfeaaGreatDoorI15
namespace Go.Proofs.YtcpkejpdpohfeaaGreatDoor
open Go.RowKit Num
open Go.Shelf

/-- What a function of two integers answers. -/
def op2 (f : Int → Int → ByteArray × Int) (a b : ByteArray) : ByteArray × Int :=
  match rdI a, rdI b with
  | some x, some y => f x y
  | _, _ => (⟨#[]⟩, 30)
theorem op2_ok {f : Int → Int → ByteArray × Int} {a b : ByteArray} {x y : Int} (ha : rdI a = some x) (hb : rdI b = some y) : op2 f a b = f x y := by unfold op2; rw [ha, hb]
theorem op2_no {f : Int → Int → ByteArray × Int} {a b : ByteArray} (h : rdI a = none ∨ rdI b = none) : op2 f a b = (⟨#[]⟩, 30) := by
  unfold op2
  rcases h with h | h
  · rw [h]
  · rw [h]; cases rdI a <;> rfl
def RetP (w : World) (p : ByteArray × Int) (e : Ending) (w' : World) : Prop := e = .returned (.tuple #[.string p.1, .int .i64 p.2]) ∧ Below w.heap.size w w'

def RetBoth1 (w : World) (n1 n2 : Bool) (m1 m2 : Nat) (e : Ending) (w' : World) : Prop := ∃ A1 A2 c1 c2, e = .returned (.tuple #[.agg #[.bool n1, .slice A1 (dg 10000 m1).length c1], .agg #[.bool n2, .slice A2 (dg 10000 m2).length c2], .bool true]) ∧
  Rd w' (.slice A1 (dg 10000 m1).length c1) (dg 10000 m1) ∧ Rd w' (.slice A2 (dg 10000 m2).length c2) (dg 10000 m2) ∧ Below w.heap.size w w'
theorem both_ok {a b : ByteArray} {x y : Int} (ha : rdI a = some x) (hb : rdI b = some y) (w : World) : Calls Tryz.prog 38 #[.string a, .string b] w (RetBoth1 w (decide (x < 0)) (decide (y < 0)) x.natAbs y.natAbs) := by
  refine (both_any a b w).mono ?_
  rintro e w' ⟨hbl, ⟨x', y', u, v, hx, hy, rfl, ⟨A1, c1, rfl, h1⟩, ⟨A2, c2, rfl, h2⟩⟩ | ⟨h, _⟩⟩
  · rw [ha] at hx; cases hx
    rw [hb] at hy; cases hy
    exact ⟨A1, A2, c1, c2, rfl, h1, h2, hbl⟩
  · rw [ha, hb] at h; rcases h with h | h <;> cases h
theorem both_no {a b : ByteArray} (h : rdI a = none ∨ rdI b = none) (w : World) : Calls Tryz.prog 38 #[.string a, .string b] w fun e w' => e = .returned (.tuple #[.agg #[.bool false, .slice none 0 0], .agg #[.bool false, .slice none 0 0], .bool false]) ∧ Below w.heap.size w w' := by
  refine (both_any a b w).mono ?_
  rintro e w' ⟨hbl, ⟨x', y', u, v, hx, hy, _⟩ | ⟨_, rfl⟩⟩
  · rw [hx, hy] at h; rcases h with h | h <;> cases h
  · exact ⟨rfl, hbl⟩
theorem rd_small {s : ByteArray} {z : Int} (h : rdI s = some z) : z.natAbs < 10 ^ 200 := (rdI_some h).2
theorem big_gt : 4 * 10 ^ 200 < big := by unfold big; decide
theorem sgn_self (z : Int) : sgn (decide (z < 0)) z.natAbs = z := by
  unfold sgn
  rcases Int.lt_or_le z 0 with h | h
  · simp [h]; omega
  · have : ¬ z < 0 := by omega
    simp [this]; omega
theorem cases2 (a b : ByteArray) : (∃ x y, rdI a = some x ∧ rdI b = some y) ∨ (rdI a = none ∨ rdI b = none) := by
  cases ha : rdI a with
  | none => exact .inr (.inl rfl)
  | some x =>
    cases hb : rdI b with
    | none => exact .inr (.inr rfl)
    | some y => exact .inl ⟨x, y, rfl, rfl⟩

set_option maxHeartbeats 1000000 in
theorem add_any (a b : ByteArray) (w : World) (hL : Laid w) : Calls Tryz.prog 14 #[.string a, .string b] w (RetP w (op2 (fun x y => outI (x + y)) a b)) := by
  have HL := Lib.hid hL
  clear hL
  rcases cases2 a b with ⟨x, y, ha, hb⟩ | h
  · have BO := Lib.hid (both_ok ha hb)
    have hx := rd_small ha
    have hy := rd_small hb
    have hbg := big_gt
    have EQ := Lib.hid (op2_ok (f := fun x y => outI (x + y)) ha hb)
    have HS : Hid (sgn (decide (x < 0)) x.natAbs + sgn (decide (y < 0)) y.natAbs = x + y) := Lib.hid (by rw [sgn_self, sgn_self])
    have hsum : x.natAbs + y.natAbs < big := by omega
    rw [EQ.out]
    clear ha hb hx hy hbg EQ
    go_enter Tryz.func14, Tryz.ntmps14
    generalize decide (x < 0) = n1 at *
    generalize decide (y < 0) = n2 at *
    generalize x.natAbs = m1 at *
    generalize y.natAbs = m2 at *
    go_wp2_with (first
      | (go_at_call 38; (with_reducible refine (BO.out _).mono ?_); rintro e W1 ⟨A1, A2, c1, c2, rfl, hr1, hr2, hb1⟩)
      | (go_at_call 39; (with_reducible refine (plusS_any n1 n2 m1 m2 A1 A2 _ _ c1 c2 _ (hr1.below (below2 _ _ _)) (hr2.below (below2 _ _ _)) hsum).mono ?_); rintro e W2 ⟨n, A, m, c, k, rfl, hr3, hz, hb2⟩; have HZ := Lib.hid hz; clear hz; have hbl := below_up (below_up hb1 (below2 W1 _ _)) hb2)
      | (go_at_call 40; (with_reducible refine (text_any n k _ _ hr3 (HL.out.below hbl)).mono ?_); rintro e W3 ⟨rfl, hb3⟩))
    go_ret2
    exact ⟨by rw [← HS.out, ← HZ.out]; rfl, below_up hbl hb3⟩
  · have BO := Lib.hid (both_no h)
    have EQ := Lib.hid (op2_no (f := fun x y => outI (x + y)) h)
    rw [EQ.out]
    clear EQ h
    go_enter Tryz.func14, Tryz.ntmps14
    go_wp2_with (go_at_call 38; (with_reducible refine (BO.out _).mono ?_); rintro e W1 ⟨rfl, hb1⟩)
    go_ret2
    exact ⟨rfl, below_up hb1 (below2 W1 _ _)⟩

end Go.Proofs.YtcpkejpdpohfeaaGreatDoor
