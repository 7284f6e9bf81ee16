/- Contracts of package integer at written integers. Conditions: sizes. -/
import Derived.Test.YtcpkejpdpohfeaaGreatDoorR4
namespace Go.Proofs.YtcpkejpdpohfeaaGreatDoor
open Go.RowKit Num
open Go.Shelf

/-! ### Strings that are texts of integers -/
/-- The string is the text of the integer, which has at most 200 digits. -/
def Is (s : ByteArray) (z : Int) : Prop := rdI s = some z
def sm (z : Int) : Prop := z.natAbs < 10 ^ 200
theorem is_tx {z : Int} (h : sm z) : Is (tx z) z := rdI_tx h
theorem Is.ex {z : Int} (h : sm z) : ∃ s, Is s z := ⟨_, is_tx h⟩
theorem Is.eq {s : ByteArray} {z : Int} (h : Is s z) : s = tx z := (rdI_some h).1
theorem Is.small {s : ByteArray} {z : Int} (h : Is s z) : sm z := (rdI_some h).2
theorem Is.uniq {s t : ByteArray} {z : Int} (h : Is s z) (k : Is t z) : s = t := h.eq.trans k.eq.symm
theorem Is.inj {s : ByteArray} {x y : Int} (h : Is s x) (k : Is s y) : x = y := Option.some.inj (h.symm.trans k)
theorem Is.differ {s t : ByteArray} {x y : Int} (h : Is s x) (k : Is t y) (hn : x ≠ y) : (s.toList == t.toList) = false := by
  rw [beq_eq_false_iff_ne]
  intro e
  have e2 : s = t := by
    rw [ByteArray.toList_eq] at e
    rw [ByteArray.toList_eq] at e
    exact ByteArray.ext (Array.toList_inj.1 e)
  subst e2
  exact hn (h.inj k)
theorem Is.cast {s : ByteArray} {x y : Int} (h : Is s x) (e : x = y) : Is s y := e ▸ h
theorem nabs_mul {a b : Int} {m n : Nat} (ha : a.natAbs < m) (hb : b.natAbs < n) : (a * b).natAbs < m * n := by
  rw [Int.natAbs_mul]
  exact Nat.mul_lt_mul'' ha hb
theorem nabs_add {a b : Int} {m n : Nat} (ha : a.natAbs < m) (hb : b.natAbs < n) : (a + b).natAbs < m + n := by omega
theorem nabs_sub {a b : Int} {m n : Nat} (ha : a.natAbs < m) (hb : b.natAbs < n) : (a - b).natAbs < m + n := by omega
theorem sm_of {z : Int} {m : Nat} (h : z.natAbs < m) (hm : m ≤ 10 ^ 200) : sm z := Nat.lt_of_lt_of_le h hm

/-! ### What a call answers -/
/-- A string, and no error. -/
def RetSt (w : World) (s : ByteArray) (e : Ending) (w' : World) : Prop := e = .returned (.tuple #[.string s, .int .i64 0]) ∧ Below w.heap.size w w'
/-- ErrInteger. -/
def RetE (w : World) (e : Ending) (w' : World) : Prop := e = .returned (.tuple #[.string ⟨#[]⟩, .int .i64 30]) ∧ Below w.heap.size w w'
def RetI (w : World) (n : Int) (e : Ending) (w' : World) : Prop := e = .returned (.int .i64 n) ∧ Below w.heap.size w w'
def RetB (w : World) (b : Bool) (e : Ending) (w' : World) : Prop := e = .returned (.bool b) ∧ Below w.heap.size w w'
def RetD (w : World) (q r : ByteArray) (e : Ending) (w' : World) : Prop := e = .returned (.tuple #[.string q, .string r, .int .i64 0]) ∧ Below w.heap.size w w'
def RetDE (w : World) (e : Ending) (w' : World) : Prop := e = .returned (.tuple #[.string ⟨#[]⟩, .string ⟨#[]⟩, .int .i64 30]) ∧ Below w.heap.size w w'
def RetZ (w : World) (s : ByteArray) (e : Ending) (w' : World) : Prop := e = .returned (.string s) ∧ Below w.heap.size w w'
def RetMade (w : World) (k : Nat) (e : Ending) (w' : World) : Prop := ∃ s z, Is s z ∧ Hid (z.natAbs < 10 ^ k) ∧ e = .returned (.string s) ∧ Below w.heap.size w w'

theorem made_at (s : ByteArray) (m : Int) (k : Nat) (hm : m = k) (hk : k ≤ 200) (w : World) : Calls Tryz.prog 13 #[.string s, .int .i64 m] w (RetMade w k) := by
  subst hm
  refine (made_any s k (by omega) w).mono fun e w' h => ?_
  obtain ⟨z, hz, he, hb⟩ := h
  exact ⟨tx z, z, is_tx (Nat.lt_of_lt_of_le hz (Nat.pow_le_pow_right (by omega) hk)), Lib.hid hz, he, hb⟩

theorem add_is {s t r : ByteArray} {a b c : Int} (hs : Is s a) (ht : Is t b) (hr : Is r c) (h : a + b = c) (w : World) (hL : Laid w) :
    Calls Tryz.prog 14 #[.string s, .string t] w (RetSt w r) := by
  refine (add_any s t w hL).mono fun e w' k => ?_
  rw [op2_ok hs ht] at k
  simp only [h] at k
  rw [outI_ok hr.small, ← hr.eq] at k
  exact k
theorem sub_is {s t r : ByteArray} {a b c : Int} (hs : Is s a) (ht : Is t b) (hr : Is r c) (h : a - b = c) (w : World) (hL : Laid w) :
    Calls Tryz.prog 16 #[.string s, .string t] w (RetSt w r) := by
  refine (sub_any s t w hL).mono fun e w' k => ?_
  rw [op2_ok hs ht] at k
  simp only [h] at k
  rw [outI_ok hr.small, ← hr.eq] at k
  exact k
theorem mul_is {s t r : ByteArray} {a b c : Int} (hs : Is s a) (ht : Is t b) (hr : Is r c) (h : a * b = c) (w : World) (hL : Laid w) :
    Calls Tryz.prog 15 #[.string s, .string t] w (RetSt w r) := by
  refine (mul_any s t w hL).mono fun e w' k => ?_
  rw [op2_ok hs ht] at k
  simp only [h] at k
  rw [outI_ok hr.small, ← hr.eq] at k
  exact k
theorem gcd_is {s t r : ByteArray} {a b c : Int} (hs : Is s a) (ht : Is t b) (hr : Is r c) (h : ((Int.gcd a b : Nat) : Int) = c) (w : World) (hL : Laid w) :
    Calls Tryz.prog 20 #[.string s, .string t] w (RetSt w r) := by
  refine (gcd_any s t w hL).mono fun e w' k => ?_
  rw [op2_ok hs ht] at k
  simp only [h] at k
  rw [outI_ok hr.small, ← hr.eq] at k
  exact k
/-- Too great a result. -/
theorem add_over {s t : ByteArray} {a b : Int} (hs : Is s a) (ht : Is t b) (h : ¬ sm (a + b)) (w : World) (hL : Laid w) :
    Calls Tryz.prog 14 #[.string s, .string t] w (RetE w) := by
  refine (add_any s t w hL).mono fun e w' k => ?_
  rw [op2_ok hs ht] at k
  simp only [outI_no h] at k
  exact k
theorem sub_over {s t : ByteArray} {a b : Int} (hs : Is s a) (ht : Is t b) (h : ¬ sm (a - b)) (w : World) (hL : Laid w) :
    Calls Tryz.prog 16 #[.string s, .string t] w (RetE w) := by
  refine (sub_any s t w hL).mono fun e w' k => ?_
  rw [op2_ok hs ht] at k
  simp only [outI_no h] at k
  exact k
theorem mul_over {s t : ByteArray} {a b : Int} (hs : Is s a) (ht : Is t b) (h : ¬ sm (a * b)) (w : World) (hL : Laid w) :
    Calls Tryz.prog 15 #[.string s, .string t] w (RetE w) := by
  refine (mul_any s t w hL).mono fun e w' k => ?_
  rw [op2_ok hs ht] at k
  simp only [outI_no h] at k
  exact k
theorem add_bad {s t : ByteArray} (h : rdI s = none ∨ rdI t = none) (w : World) (hL : Laid w) :
    Calls Tryz.prog 14 #[.string s, .string t] w (RetE w) := by
  refine (add_any s t w hL).mono fun e w' k => ?_
  rw [op2_no h] at k
  exact k
theorem div_is {s t q r : ByteArray} {a b c d : Int} (hs : Is s a) (ht : Is t b) (h0 : b ≠ 0) (hq : Is q c) (hr : Is r d) (h : a / b = c) (k : a % b = d) (w : World) (hL : Laid w) :
    Calls Tryz.prog 17 #[.string s, .string t] w (RetD w q r) := by
  refine (div_any s t w hL).mono fun e w' m => ?_
  have e1 : divI s t = (q, r, 0) := by
    unfold divI
    rw [show rdI s = some a from hs, show rdI t = some b from ht]
    simp only
    rw [if_neg h0, h, k, ← hq.eq, ← hr.eq]
  rw [e1] at m
  exact m
theorem div_zero {s t : ByteArray} {a : Int} (hs : Is s a) (ht : Is t 0) (w : World) (hL : Laid w) :
    Calls Tryz.prog 17 #[.string s, .string t] w (RetDE w) := by
  refine (div_any s t w hL).mono fun e w' m => ?_
  have e1 : divI s t = (⟨#[]⟩, ⟨#[]⟩, 30) := by
    unfold divI
    rw [show rdI s = some a from hs, show rdI t = some 0 from ht]
    simp
  rw [e1] at m
  exact m
theorem cmp_is {s t : ByteArray} {a b c : Int} (hs : Is s a) (ht : Is t b) (h : Lib.compareInt a b = c) (w : World) :
    Calls Tryz.prog 18 #[.string s, .string t] w (RetI w c) := by
  refine (compare_api s t w).mono fun e w' k => ?_
  unfold cmpI at k
  rw [show rdI s = some a from hs, show rdI t = some b from ht] at k
  simp only [h] at k
  exact k
theorem cmp_lt {a b : Int} (h : a < b) : Lib.compareInt a b = -1 := by unfold Lib.compareInt; rw [if_pos h]
theorem cmp_gt {a b : Int} (h : b < a) : Lib.compareInt a b = 1 := by unfold Lib.compareInt; rw [if_neg (by omega), if_pos h]
theorem cmp_eq {a b : Int} (h : a = b) : Lib.compareInt a b = 0 := by unfold Lib.compareInt; rw [if_neg (by omega), if_neg (by omega)]
theorem valid_is {s : ByteArray} {a : Int} (hs : Is s a) (w : World) : Calls Tryz.prog 19 #[.string s] w (RetB w true) := by
  refine (valid_api s w).mono fun e w' k => ?_
  rw [show rdI s = some a from hs] at k
  exact k
theorem valid_bad {s : ByteArray} (hs : rdI s = none) (w : World) : Calls Tryz.prog 19 #[.string s] w (RetB w false) := by
  refine (valid_api s w).mono fun e w' k => ?_
  rw [hs] at k
  exact k
theorem root_is {s r : ByteArray} {a : Int} {q : Nat} (hs : Is s a) (h0 : 0 ≤ a) (hq : isq a.toNat q) (hr : Is r q) (w : World) (hL : Laid w) :
    Calls Tryz.prog 21 #[.string s] w (RetSt w r) := by
  refine (root_any s a hs h0 w hL).mono fun e w' k => ?_
  obtain ⟨p, hp, he, hb⟩ := k
  rw [isq_unique hp hq, ← hr.eq] at he
  exact ⟨he, hb⟩
theorem root_neg {s : ByteArray} {a : Int} (hs : Is s a) (h0 : a < 0) (w : World) :
    Calls Tryz.prog 21 #[.string s] w (RetE w) :=
  root_no s (fun x hx => by rw [← hs.inj hx]; exact h0) w
theorem from_is {s : ByteArray} {n : Int} (hs : Is s n) (h0 : -9223372036854775808 ≤ n) (h1 : n ≤ 9223372036854775807) (w : World) (hL : Laid w) :
    Calls Tryz.prog 35 #[.int .i64 n] w (RetZ w s) := by
  refine (fromInt_any n h0 h1 w hL).mono fun e w' k => ?_
  rw [← hs.eq] at k
  exact k
/-- What a machine's number and its error are, as a tuple. -/
def RetN2 (w : World) (n e0 : Int) (e : Ending) (w' : World) : Prop := e = .returned (.tuple #[.int .i64 n, .int .i64 e0]) ∧ Below w.heap.size w w'
theorem Is.size {s : ByteArray} {n : Int} (h : Is s n) : s.size ≤ 201 := by
  have h1 : validL s.data.toList = true := (rd_valid h).1
  unfold validL at h1
  simp only [Bool.and_eq_true, decide_eq_true_eq] at h1
  have h2 := h1.1.1.2
  unfold body at h2
  rw [← ByteArray.size_data, ← Array.length_toList]
  split at h2
  · rw [List.length_tail] at h2; omega
  · omega
theorem toInt_is {s : ByteArray} {n : Int} (hs : Is s n) (h0 : -9223372036854775808 ≤ n) (h1 : n ≤ 9223372036854775807) (w : World) (hL : Laid w) :
    Calls Tryz.prog 31 #[.string s] w (RetN2 w n 0) := by
  refine (toInt_any s (by have := hs.size; omega) w hL).mono fun e w' k => ?_
  have e1 : toI s = (n, 0) := by
    unfold toI
    rw [show rdI s = some n from hs]
    simp only
    rw [if_pos ⟨h0, h1⟩]
  rw [e1] at k
  exact k

/-! ### Literals -/
theorem lit_0 : Is ⟨#[48]⟩ 0 := rd_zero
theorem lit_1 : Is ⟨#[49]⟩ 1 := by unfold Is; decide

end Go.Proofs.YtcpkejpdpohfeaaGreatDoor
