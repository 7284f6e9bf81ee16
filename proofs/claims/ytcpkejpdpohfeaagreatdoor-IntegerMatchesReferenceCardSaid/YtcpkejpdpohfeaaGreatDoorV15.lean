/- The two implementations answer alike. Conditions: sizes; the tables of strconv. -/
import Derived.Test.YtcpkejpdpohfeaaGreatDoorV14
namespace Go.Proofs.YtcpkejpdpohfeaaGreatDoor
open Go.RowKit Num
open Go.Shelf

theorem isq_some : ∀ n : Nat, ∃ r, isq n r
  | 0 => ⟨0, by unfold isq; omega⟩
  | n + 1 => by
    obtain ⟨r, h1, h2⟩ := isq_some n
    by_cases h : n + 1 < (r + 1) * (r + 1)
    · exact ⟨r, by omega, h⟩
    · have e : (r + 1 + 1) * (r + 1 + 1) = (r + 1) * (r + 1) + (2 * r + 3) := by
        rw [Nat.add_mul, Nat.mul_add (r + 1) (r + 1) 1]
        omega
      exact ⟨r + 1, by omega, by omega⟩
theorem rroot_bad {s : ByteArray} (hs : s.size ≤ 9223372036854775807) (h : rdI s = none) (w : World) : Calls Tryz.prog 30 #[.string s] w (RetE w) := by
  have V1 := Lib.hid (fun w => rvalid_none hs h w)
  clear h hs
  go_enter Tryz.func30, Tryz.ntmps30
  go_wp2_with (go_at_call 33; (with_reducible refine (V1.out _).mono ?_); rintro e w1 ⟨rfl, hb1⟩)
  go_ret2
  exact ⟨rfl, hb1⟩
theorem rroot_neg {s : ByteArray} {z : Int} (hz : Is s z) (h0 : z < 0) (w : World) : Calls Tryz.prog 30 #[.string s] w (RetE w) := by
  have V1 := Lib.hid (fun w => rvalid_some hz w)
  obtain ⟨t, hts, ht, hs0, hc⟩ := behind hz
  have h45 : (((s[0]'hs0).toNat : Int) == 45) = true := by
    rcases hc with ⟨_, k, _⟩ | ⟨k, _, _⟩
    · exact k
    · omega
  have hs0' : (0 : Int) < (s.size : Int) := by omega
  clear ht hc hts hz h0
  go_enter Tryz.func30, Tryz.ntmps30
  go_wp2_with (go_at_call 33; (with_reducible refine (V1.out _).mono ?_); rintro e w1 ⟨rfl, hb1⟩)
  go_ret2
  exact ⟨rfl, hb1⟩

/-- A string and a number. -/
def RetSE (w : World) (s : ByteArray) (n : Int) (e : Ending) (w' : World) : Prop := e = .returned (.tuple #[.string s, .int .i64 n]) ∧ Below w.heap.size w w'
def RetSSE (w : World) (s t : ByteArray) (n : Int) (e : Ending) (w' : World) : Prop := e = .returned (.tuple #[.string s, .string t, .int .i64 n]) ∧ Below w.heap.size w w'
/-- Two functions of two strings answer the same. -/
def Same2 (f g : Nat) (x y : ByteArray) : Prop := ∃ s n, Hid (∀ w, Laid w → Calls Tryz.prog f #[.string x, .string y] w (RetSE w s n)) ∧ Hid (∀ w, Calls Tryz.prog g #[.string x, .string y] w (RetSE w s n))
def SameD (f g : Nat) (x y : ByteArray) : Prop := ∃ s t n, Hid (∀ w, Laid w → Calls Tryz.prog f #[.string x, .string y] w (RetSSE w s t n)) ∧ Hid (∀ w, Calls Tryz.prog g #[.string x, .string y] w (RetSSE w s t n))
def Same1 (f g : Nat) (x : ByteArray) : Prop := ∃ s n, Hid (∀ w, Laid w → Calls Tryz.prog f #[.string x] w (RetSE w s n)) ∧ Hid (∀ w, Calls Tryz.prog g #[.string x] w (RetSE w s n))
def SameN (f g : Nat) (x : ByteArray) : Prop := ∃ k n, Hid (∀ w, Laid w → Calls Tryz.prog f #[.string x] w (RetN2 w k n)) ∧ Hid (∀ w, Calls Tryz.prog g #[.string x] w (RetN2 w k n))
def SameB (f g : Nat) (x : ByteArray) : Prop := ∃ b, Hid (∀ w, Calls Tryz.prog f #[.string x] w (RetB w b)) ∧ Hid (∀ w, Calls Tryz.prog g #[.string x] w (RetB w b))
def SameI (f g : Nat) (x y : ByteArray) : Prop := ∃ n, Hid (∀ w, Calls Tryz.prog f #[.string x, .string y] w (RetI w n)) ∧ Hid (∀ w, Calls Tryz.prog g #[.string x, .string y] w (RetI w n))

section
variable {x y : ByteArray} (hx : x.size ≤ 1000) (hy : y.size ≤ 1000)
include hx hy
theorem same_add : Same2 14 25 x y :=
  ⟨_, _, Lib.hid (fun w hL => add_any x y w hL), Lib.hid (fun w => radd_any x y (by omega) (by omega) w)⟩
theorem same_sub : Same2 16 26 x y :=
  ⟨_, _, Lib.hid (fun w hL => sub_any x y w hL), Lib.hid (fun w => rsub_any x y (by omega) (by omega) w)⟩
theorem same_mul : Same2 15 27 x y :=
  ⟨_, _, Lib.hid (fun w hL => mul_any x y w hL), Lib.hid (fun w => rmul_any x y (by omega) (by omega) w)⟩
theorem same_gcd : Same2 20 29 x y :=
  ⟨_, _, Lib.hid (fun w hL => gcd_any x y w hL), Lib.hid (fun w => rgcd_any x y (by omega) (by omega) w)⟩
theorem same_div : SameD 17 28 x y :=
  ⟨_, _, _, Lib.hid (fun w hL => div_any x y w hL), Lib.hid (fun w => rdiv_any x y (by omega) (by omega) w)⟩
theorem same_cmp : SameI 18 34 x y :=
  ⟨_, Lib.hid (fun w => compare_api x y w), Lib.hid (fun w => rcompare_any x y (by omega) (by omega) w)⟩
end
section
variable {x : ByteArray} (hx : x.size ≤ 1000)
include hx
theorem same_valid : SameB 19 33 x :=
  ⟨_, Lib.hid (fun w => valid_api x w), Lib.hid (fun w => rvalid_any x (by omega) w)⟩
theorem same_toInt : SameN 31 32 x :=
  ⟨_, _, Lib.hid (fun w hL => toInt_any x (by omega) w hL), Lib.hid (fun w => rtoInt_any x (by omega) w)⟩
theorem same_root : Same1 21 30 x := by
  cases h : rdI x with
  | none => exact ⟨_, _, Lib.hid (fun w _ => root_no x (fun z hz => by rw [h] at hz; cases hz) w), Lib.hid (fun w => rroot_bad (by omega) h w)⟩
  | some z =>
    by_cases hz : z < 0
    · exact ⟨_, _, Lib.hid (fun w _ => root_no x (fun q hq => by rw [h] at hq; cases hq; exact hz) w), Lib.hid (fun w => rroot_neg h hz w)⟩
    · obtain ⟨r, hr⟩ := isq_some z.toNat
      refine ⟨tx r, 0, Lib.hid (fun w hL => (root_any x z h (by omega) w hL).mono fun e w' k => ?_), Lib.hid (fun w => (rroot_any x z h (by omega) w).mono fun e w' k => ?_)⟩
      · obtain ⟨q, hq, he, hb⟩ := k
        rw [isq_unique hq hr] at he
        exact ⟨he, hb⟩
      · obtain ⟨q, hq, he, hb⟩ := k
        rw [isq_unique hq hr] at he
        exact ⟨he, hb⟩
end

end Go.Proofs.YtcpkejpdpohfeaaGreatDoor
