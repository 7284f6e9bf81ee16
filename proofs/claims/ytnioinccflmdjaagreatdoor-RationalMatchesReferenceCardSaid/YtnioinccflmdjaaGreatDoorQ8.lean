/- Plain facts of the order of fractions. No conditions. -/
import Derived.Test.YtnioinccflmdjaaGreatDoorQ7
namespace Go.Proofs.YtnioinccflmdjaaGreatDoor
open Go.RowKit Num
open Go.Shelf

theorem Blk.new4 (w : World) (o o' o'' : Obj) (T : TypeId) (vs : List Value) : Blk ((((w.alloc o).alloc o').alloc o'').alloc (.cells vs.toArray T)) (w.heap.size + 1 + 1 + 1) T vs := by
  have h := Blk.new3 (w.alloc o) o' o'' T vs
  rwa [show (w.alloc o).heap.size = w.heap.size + 1 by simp] at h
theorem prod_one {a b : Int} (ha : a.natAbs ≤ 1) (hb : b.natAbs ≤ 1) : -1 ≤ a * b ∧ a * b ≤ 1 := by
  have h : (a * b).natAbs ≤ 1 * 1 := by rw [Int.natAbs_mul]; exact Nat.mul_le_mul ha hb
  omega
theorem cmp_lt_ {p q : Rat} (h : p < q) : cmpO (some p) (some q) = -1 ∧ cmpO (some q) (some p) = 1 := by
  rw [cmpO_some, cmpO_some, if_pos h, if_neg (by grind), if_pos h]
  exact ⟨rfl, rfl⟩
theorem cmp_same (p : Rat) : cmpO (some p) (some p) = 0 := by
  rw [cmpO_some, if_neg (by grind), if_neg (by grind)]
/-- What three comparisons can be. -/
theorem cmp_three (p q r : Rat) {ab ba bc ac : Int} (h1 : cmpO (some p) (some q) = ab) (h2 : cmpO (some q) (some p) = ba) (h3 : cmpO (some q) (some r) = bc) (h4 : cmpO (some p) (some r) = ac) :
    (p = q ∧ ab = 0 ∧ ba = 0 ∧ ((bc = -1 ∧ ac = -1) ∨ (bc = 0 ∧ ac = 0) ∨ (bc = 1 ∧ ac = 1))) ∨
    (p ≠ q ∧ ((ab = -1 ∧ ba = 1 ∧ ((bc = -1 ∧ ac = -1) ∨ (bc = 0 ∧ ac = -1) ∨ (bc = 1 ∧ (ac = -1 ∨ ac = 0 ∨ ac = 1)))) ∨
      (ab = 1 ∧ ba = -1 ∧ ((bc = -1 ∧ (ac = -1 ∨ ac = 0 ∨ ac = 1)) ∨ (bc = 0 ∧ ac = 1) ∨ (bc = 1 ∧ ac = 1))))) := by
  subst h1 h2 h3 h4
  simp only [cmpO_some]
  by_cases a : p < q
  · rw [if_pos a, if_neg (show ¬ q < p by grind), if_pos a]
    refine .inr ⟨by grind, .inl ⟨rfl, rfl, ?_⟩⟩
    by_cases b : q < r
    · rw [if_pos b, if_pos (show p < r by grind)]; exact .inl ⟨rfl, rfl⟩
    · rw [if_neg b]
      by_cases c : r < q
      · rw [if_pos c]
        refine .inr (.inr ⟨rfl, ?_⟩)
        by_cases d : p < r
        · rw [if_pos d]; exact .inl rfl
        · rw [if_neg d]
          by_cases e : r < p
          · rw [if_pos e]; exact .inr (.inr rfl)
          · rw [if_neg e]; exact .inr (.inl rfl)
      · rw [if_neg c, if_pos (show p < r by grind)]; exact .inr (.inl ⟨rfl, rfl⟩)
  · rw [if_neg a]
    by_cases a2 : q < p
    · rw [if_pos a2, if_pos a2]
      refine .inr ⟨by grind, .inr ⟨rfl, rfl, ?_⟩⟩
      by_cases b : q < r
      · rw [if_pos b]
        refine .inl ⟨rfl, ?_⟩
        by_cases d : p < r
        · rw [if_pos d]; exact .inl rfl
        · rw [if_neg d]
          by_cases e : r < p
          · rw [if_pos e]; exact .inr (.inr rfl)
          · rw [if_neg e]; exact .inr (.inl rfl)
      · rw [if_neg b, if_neg (show ¬ p < r by grind), if_pos (show r < p by grind)]
        by_cases c : r < q
        · rw [if_pos c]; exact .inr (.inr ⟨rfl, rfl⟩)
        · rw [if_neg c]; exact .inr (.inl ⟨rfl, rfl⟩)
    · rw [if_neg a2]
      obtain rfl : p = q := by grind
      refine .inl ⟨rfl, rfl, ?_, ?_⟩
      · rw [if_neg a, if_neg a]
      · by_cases b : p < r
        · rw [if_pos b]; exact .inl ⟨rfl, rfl⟩
        · rw [if_neg b]
          by_cases c : r < p
          · rw [if_pos c]; exact .inr (.inr ⟨rfl, rfl⟩)
          · rw [if_neg c]; exact .inr (.inl ⟨rfl, rfl⟩)
theorem cmp_bound (a b : Option Rat) : -1 ≤ cmpO a b ∧ cmpO a b ≤ 1 := by
  cases a with
  | none => exact ⟨by show (-1 : Int) ≤ 0; decide, by show (0 : Int) ≤ 1; decide⟩
  | some p => cases b with
    | none => exact ⟨by show (-1 : Int) ≤ 0; decide, by show (0 : Int) ≤ 1; decide⟩
    | some q =>
      rw [cmpO_some]
      split
      · decide
      · split <;> decide
theorem cmp_sub {p q : Rat} {o : Option Rat} (h : op2Q subQ (some p) (some q) = o) (h0 : (errT o == 0) = true) : cmpO o (some 0) = cmpO (some p) (some q) := by
  obtain ⟨x, rfl⟩ := is_some h0
  rw [subQ_some h, cmpO_some, cmpO_some]
  by_cases a : p < q
  · rw [if_pos a, if_pos (by grind)]
  · rw [if_neg a, if_neg (by grind)]
    by_cases b : q < p
    · rw [if_pos b, if_pos (by grind)]
    · rw [if_neg b, if_neg (by grind)]
theorem cmp_add_ {p q t : Rat} {o o' : Option Rat} (h : op2Q addQ (some p) (some t) = o) (h' : op2Q addQ (some q) (some t) = o') (h0 : (errT o == 0) = true) (h1 : (errT o' == 0) = true) : cmpO o o' = cmpO (some p) (some q) := by
  obtain ⟨x, rfl⟩ := is_some h0
  obtain ⟨y, rfl⟩ := is_some h1
  rw [addQ_some h, addQ_some h', cmpO_some, cmpO_some]
  by_cases a : p < q
  · rw [if_pos a, if_pos (by grind)]
  · rw [if_neg a, if_neg (by grind)]
    by_cases b : q < p
    · rw [if_pos b, if_pos (by grind)]
    · rw [if_neg b, if_neg (by grind)]
theorem mul_lt_neg {p q t : Rat} (ht : t < 0) : p * t < q * t ↔ q < p := by
  have h := Rat.mul_lt_mul_right (a := q) (b := p) (c := -t) (by grind)
  rw [← h]
  constructor
  · intro k; grind
  · intro k; grind
theorem cmp_mul_ {p q t : Rat} {o o' : Option Rat} (h : op2Q mulQ (some p) (some t) = o) (h' : op2Q mulQ (some q) (some t) = o') (h0 : (errT o == 0) = true) (h1 : (errT o' == 0) = true) : cmpO o o' = cmpO (some p) (some q) * cmpO (some t) (some 0) := by
  obtain ⟨x, rfl⟩ := is_some h0
  obtain ⟨y, rfl⟩ := is_some h1
  rw [mulQ_some h, mulQ_some h', cmpO_some, cmpO_some, cmpO_some]
  by_cases c : t < 0
  · rw [if_pos c]
    by_cases a : p < q
    · rw [if_pos a, if_neg (fun k => by have := (mul_lt_neg c).1 k; grind), if_pos ((mul_lt_neg c).2 a)]; rfl
    · rw [if_neg a]
      by_cases b : q < p
      · rw [if_pos b, if_pos ((mul_lt_neg c).2 b)]; rfl
      · rw [if_neg b]; obtain rfl : p = q := by grind
        rw [if_neg (by grind), if_neg (by grind)]; rfl
  · rw [if_neg c]
    by_cases d : 0 < t
    · rw [if_pos d]
      by_cases a : p < q
      · rw [if_pos a, if_pos ((Rat.mul_lt_mul_right d).2 a)]; rfl
      · rw [if_neg a]
        by_cases b : q < p
        · rw [if_pos b, if_neg (fun k => a ((Rat.mul_lt_mul_right d).1 k)), if_pos ((Rat.mul_lt_mul_right d).2 b)]; rfl
        · rw [if_neg b]; obtain rfl : p = q := by grind
          rw [if_neg (by grind), if_neg (by grind)]; rfl
    · rw [if_neg d]
      obtain rfl : t = 0 := by grind
      rw [Rat.mul_zero, Rat.mul_zero, if_neg (by grind), if_neg (by grind), Int.mul_zero]
/-- Different fractions have different texts. -/
theorem diff_text {p q : Rat} (hp : fitQ p) (hq : fitQ q) (h : p ≠ q) : ((numT (some p)).toList == (numT (some q)).toList) = false ∨ ((denT (some p)).toList == (denT (some q)).toList) = false := by
  by_cases h1 : p.num = q.num
  · right
    refine (fr_fit hp).2.differ (fr_fit hq).2 (fun e => h ?_)
    have e2 : p.den = q.den := by omega
    rw [← Rat.num_divInt_den p, ← Rat.num_divInt_den q, h1, e2]
  · left
    exact (fr_fit hp).1.differ (fr_fit hq).1 h1

end Go.Proofs.YtnioinccflmdjaaGreatDoor
