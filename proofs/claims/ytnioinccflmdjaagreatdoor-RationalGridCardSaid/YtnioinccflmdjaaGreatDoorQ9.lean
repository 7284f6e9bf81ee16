/- Plain facts of rounding on a grid. No conditions. -/
import Derived.Test.YtnioinccflmdjaaGreatDoorQ8
import Derived.Test.YtnioinccflmdjaaGreatDoorW5
namespace Go.Proofs.YtnioinccflmdjaaGreatDoor
open Go.RowKit Num
open Go.Shelf

theorem neg_fits {x : Rat} (h : fitQ x) : op2Q subQ (some 0) (some x) = some (0 - x) := by
  have e1 : (0 : Rat).num = 0 := rfl
  have e2 : ((0 : Rat).den : Int) = 1 := rfl
  refine fsub_fits ⟨?_, ?_, ?_, ?_⟩
  · rw [e1, Int.zero_mul]; decide
  · rw [e2, Int.mul_one]; exact h.1
  · rw [e1, e2, Int.zero_mul, Int.mul_one]
    have := h.1
    unfold sm at this ⊢
    omega
  · rw [e2, Int.one_mul]; exact h.2
theorem round_at {p : Rat} {k : Nat} {up : Bool} (hk : k ≤ 30) (h : sm (gridZ k p)) : (some p).bind (roundQ up (k : Int)) = some (Rat.divInt (roundZ up k p) ((10 ^ k : Nat) : Int)) := by
  show roundQ up (k : Int) p = _
  unfold roundQ
  rw [Int.toNat_natCast, if_pos ⟨by omega, by omega, h⟩]
theorem ceil_neg {N d : Int} (hd : 0 < d) : -((-N) / d) = if N % d ≠ 0 then N / d + 1 else N / d := by
  have h1 := Int.mul_ediv_add_emod N d
  have h2 := Int.emod_nonneg N (show d ≠ 0 by omega)
  have h3 := Int.emod_lt_of_pos N hd
  by_cases h : N % d = 0
  · rw [if_neg (by omega)]
    have : (-N) / d = -(N / d) := Int.ediv_eq_of_eq_mul_left (by omega) (by rw [Int.neg_mul, Int.mul_comm]; omega)
    omega
  · rw [if_pos h]
    have : (-N) / d = -(N / d) - 1 := by
      have e : -N = d * (-(N / d) - 1) + (d - N % d) := by
        rw [Int.mul_sub, Int.mul_neg]
        omega
      rw [e, Int.add_comm, Int.add_mul_ediv_left _ _ (by omega), Int.ediv_eq_zero_of_lt (by omega) (by omega)]
      omega
    omega
/-- A multiple of the grid is rounded to itself. -/
theorem round_self {z : Int} {k : Nat} (up : Bool) : roundZ up k (Rat.divInt z ((10 ^ k : Nat) : Int)) = z := by
  have hT := pw_pos k
  have e := num_eq (a := z) (b := ((10 ^ k : Nat) : Int)) (by omega)
  have hd := (Rat.divInt z ((10 ^ k : Nat) : Int)).den_pos
  unfold roundZ gridZ
  rw [e]
  have h1 : z * ((Rat.divInt z ((10 ^ k : Nat) : Int)).den : Int) % ((Rat.divInt z ((10 ^ k : Nat) : Int)).den : Int) = 0 := Int.mul_emod_left _ _
  have h2 : z * ((Rat.divInt z ((10 ^ k : Nat) : Int)).den : Int) / ((Rat.divInt z ((10 ^ k : Nat) : Int)).den : Int) = z := Int.mul_ediv_cancel _ (by omega)
  rw [h1, h2]
  simp
theorem ten_le {k : Nat} (hk : k ≤ 30) : (((10 ^ k : Nat) : Int)).natAbs < 10 ^ 31 := by
  rw [Int.natAbs_natCast]
  exact Nat.pow_lt_pow_right (by decide) (by omega)
theorem grid_small {p : Rat} {k : Nat} (hp : lim 100 p) (hk : k ≤ 30) : (gridZ k p).natAbs < 10 ^ 131 := by
  unfold gridZ
  have h := nabs_mul hp.1 (ten_le hk)
  rwa [← Nat.pow_add] at h
theorem quo_small {N d : Int} {m : Nat} (h : N.natAbs < 10 ^ m) : (N / d).natAbs < 10 ^ m := Nat.lt_of_le_of_lt (Int.natAbs_ediv_le_natAbs _ _) h
theorem round_z_small {p : Rat} {k : Nat} (up : Bool) (hp : lim 100 p) (hk : k ≤ 30) : (roundZ up k p).natAbs < 10 ^ 132 := by
  have h := quo_small (d := (p.den : Int)) (grid_small hp hk)
  have e : (10 : Nat) ^ 132 = 10 * 10 ^ 131 := rfl
  have h0 : 0 < (10 : Nat) ^ 131 := Nat.pow_pos (by decide)
  unfold roundZ
  rw [e]
  generalize (10 : Nat) ^ 131 = c at *
  split <;> omega
/-- A multiple of the grid, its numerator small: what the operations want of it. -/
theorem mult_facts {z : Int} {k : Nat} (hz : z.natAbs < 10 ^ 132) (hk : k ≤ 30) : (Rat.divInt z ((10 ^ k : Nat) : Int)).num.natAbs < 10 ^ 132 ∧ (Rat.divInt z ((10 ^ k : Nat) : Int)).den < 10 ^ 31 := by
  have hT := pw_pos k
  obtain ⟨h1, h2⟩ := num_le (a := z) (b := ((10 ^ k : Nat) : Int)) (by omega)
  exact ⟨Nat.lt_of_le_of_lt h1 hz, Nat.lt_of_le_of_lt h2 (ten_le hk)⟩
theorem mult_fit {z : Int} {k : Nat} (hz : z.natAbs < 10 ^ 132) (hk : k ≤ 30) : fitQ (Rat.divInt z ((10 ^ k : Nat) : Int)) := by
  obtain ⟨h1, h2⟩ := mult_facts hz hk
  exact ⟨sm_of h1 (by decide), by unfold sm; rw [Int.natAbs_natCast]; exact Nat.lt_of_lt_of_le h2 (by decide)⟩
theorem mult_grid {z : Int} {k : Nat} (hz : z.natAbs < 10 ^ 132) (hk : k ≤ 30) : sm (gridZ k (Rat.divInt z ((10 ^ k : Nat) : Int))) := by
  unfold gridZ
  have h := nabs_mul (mult_facts hz hk).1 (ten_le hk)
  exact sm_of h (by decide)
theorem mult_sub {z y : Int} {k : Nat} (hz : z.natAbs < 10 ^ 132) (hy : y.natAbs < 10 ^ 132) (hk : k ≤ 30) :
    op2Q subQ (some (Rat.divInt z ((10 ^ k : Nat) : Int))) (some (Rat.divInt y ((10 ^ k : Nat) : Int))) = some (Rat.divInt (z - y) ((10 ^ k : Nat) : Int)) := by
  have hT := pw_pos k
  obtain ⟨a1, a2⟩ := mult_facts hz hk
  obtain ⟨b1, b2⟩ := mult_facts hy hk
  rw [fsub_fits]
  · rw [Rat.divInt_sub_divInt _ _ (by omega) (by omega), ← Int.sub_mul, Rat.divInt_mul_right (by omega)]
  · generalize Rat.divInt z ((10 ^ k : Nat) : Int) = u at *
    generalize Rat.divInt y ((10 ^ k : Nat) : Int) = v at *
    have h1 := nabs_mul (a := u.num) (b := (v.den : Int)) (n := 10 ^ 31) a1 (by rw [Int.natAbs_natCast]; exact b2)
    have h2 := nabs_mul (a := v.num) (b := (u.den : Int)) (n := 10 ^ 31) b1 (by rw [Int.natAbs_natCast]; exact a2)
    have h3 := nabs_mul (a := (u.den : Int)) (b := (v.den : Int)) (m := 10 ^ 31) (n := 10 ^ 31) (by rw [Int.natAbs_natCast]; exact a2) (by rw [Int.natAbs_natCast]; exact b2)
    exact ⟨sm_of h1 (by decide), sm_of h2 (by decide), sm_of (nabs_sub h1 h2) (by decide), sm_of h3 (by decide)⟩
theorem mult_ten {z : Int} {k : Nat} (hz : z.natAbs < 10 ^ 132) (hk : k ≤ 30) : op2Q mulQ (some (Rat.divInt z ((10 ^ k : Nat) : Int))) (some (tq k)) = some (z : Rat) := by
  have hT := pw_pos k
  obtain ⟨a1, a2⟩ := mult_facts hz hk
  rw [fmul_fits]
  · congr 1
    rw [show tq k = Rat.divInt ((10 ^ k : Nat) : Int) 1 from (Rat.num_divInt_den (tq k)).symm, Rat.divInt_mul_divInt, Int.mul_one]
    conv => lhs; rw [← Int.one_mul (((10 ^ k : Nat) : Int))]
    rw [Int.one_mul, show z * ((10 ^ k : Nat) : Int) = z * ((10 ^ k : Nat) : Int) from rfl]
    have e : Rat.divInt (z * ((10 ^ k : Nat) : Int)) (1 * ((10 ^ k : Nat) : Int)) = Rat.divInt z 1 := Rat.divInt_mul_right (by omega)
    rw [Int.one_mul] at e
    rw [e]
    exact Rat.num_divInt_den (z : Rat)
  · generalize Rat.divInt z ((10 ^ k : Nat) : Int) = u at *
    have h1 := nabs_mul (a := u.num) (b := (tq k).num) (n := 10 ^ 31) a1 (ten_le hk)
    refine ⟨sm_of h1 (by decide), ?_⟩
    rw [tq_den]
    show sm ((u.den : Int) * 1)
    rw [Int.mul_one]
    unfold sm; rw [Int.natAbs_natCast]; exact Nat.lt_of_lt_of_le a2 (by decide)
theorem unit_num (k : Nat) : (Rat.divInt 1 ((10 ^ k : Nat) : Int)).num = 1 ∧ ((Rat.divInt 1 ((10 ^ k : Nat) : Int)).den : Int) = ((10 ^ k : Nat) : Int) := by
  have h1 := red_pos (n := 1) (pw_pos k)
  simp only [Int.gcd_one_left] at h1
  exact ⟨by simpa using h1.1.symm, by simpa using h1.2.symm⟩
/-- What the law asks of a fraction and a grid. -/
theorem grid_all {p : Rat} {k : Nat} (hp : lim 100 p) (hk : k ≤ 30) : ∃ (z y : Int), z.natAbs < 10 ^ 132 ∧ y.natAbs < 10 ^ 132 ∧
    (some p).bind (roundQ false (k : Int)) = some (Rat.divInt z ((10 ^ k : Nat) : Int)) ∧ (some p).bind (roundQ true (k : Int)) = some (Rat.divInt y ((10 ^ k : Nat) : Int)) ∧
    (some (0 - p)).bind (roundQ false (k : Int)) = some (Rat.divInt (-y) ((10 ^ k : Nat) : Int)) ∧
    ((z = y ∧ cmpO (some (Rat.divInt z ((10 ^ k : Nat) : Int))) (some p) = 0 ∧ cmpO (some (Rat.divInt y ((10 ^ k : Nat) : Int))) (some p) = 0) ∨
     (y = z + 1 ∧ cmpO (some (Rat.divInt z ((10 ^ k : Nat) : Int))) (some p) = -1 ∧ cmpO (some (Rat.divInt y ((10 ^ k : Nat) : Int))) (some p) = 1)) := by
  have hT := pw_pos k
  have hd : (0 : Int) < p.den := by have := p.den_pos; omega
  have hs : sm (gridZ k p) := sm_of (grid_small hp hk) (by decide)
  have hm : (0 - p : Rat) = -p := by grind
  have hmn : (-p : Rat).num = -p.num := rfl
  have hmd : (-p : Rat).den = p.den := rfl
  have hg : gridZ k (-p) = -gridZ k p := by unfold gridZ; rw [hmn, Int.neg_mul]
  refine ⟨roundZ false k p, roundZ true k p, round_z_small _ hp hk, round_z_small _ hp hk, round_at hk hs, round_at hk hs, ?_, ?_⟩
  · rw [hm, round_at hk (by rw [hg]; unfold sm at hs ⊢; rw [Int.natAbs_neg]; exact hs)]
    congr 2
    have := ceil_neg (N := gridZ k p) hd
    unfold roundZ
    rw [hg, hmd]
    by_cases h : gridZ k p % p.den = 0
    · rw [if_neg (by omega)] at this
      simp [h]; omega
    · rw [if_pos h] at this
      simp [h]; omega
  · have e1 := Int.mul_ediv_add_emod (gridZ k p) p.den
    have e2 := Int.emod_nonneg (gridZ k p) (show (p.den : Int) ≠ 0 by omega)
    have e3 := Int.emod_lt_of_pos (gridZ k p) hd
    have pe : p = Rat.divInt p.num p.den := (Rat.num_divInt_den p).symm
    have c1 : ∀ z : Int, cmpO (some (Rat.divInt z ((10 ^ k : Nat) : Int))) (some p) = if z * p.den < gridZ k p then -1 else if gridZ k p < z * p.den then 1 else 0 := fun z => by
      conv => lhs; rw [pe]
      exact cmp_divInt hT hd
    rw [c1, c1]
    unfold roundZ
    by_cases h : gridZ k p % p.den = 0
    · left
      have e4 : gridZ k p / p.den * p.den = gridZ k p := by rw [Int.mul_comm]; omega
      simp [h, e4]
    · right
      have e4 : gridZ k p / p.den * p.den < gridZ k p := by rw [Int.mul_comm]; omega
      have e5 : gridZ k p < (gridZ k p / p.den + 1) * p.den := by rw [Int.add_mul, Int.one_mul, Int.mul_comm]; omega
      have f1 : decide (gridZ k p % p.den ≠ 0) = true := decide_eq_true h
      rw [f1]
      simp only [Bool.false_and, Bool.true_and, Bool.false_eq_true, if_false, if_true]
      rw [if_pos e4, if_neg (show ¬ (gridZ k p / p.den + 1) * p.den < gridZ k p by omega), if_pos e5]
      refine ⟨?_, ?_, ?_⟩ <;> first | trivial | rfl

end Go.Proofs.YtnioinccflmdjaaGreatDoor
