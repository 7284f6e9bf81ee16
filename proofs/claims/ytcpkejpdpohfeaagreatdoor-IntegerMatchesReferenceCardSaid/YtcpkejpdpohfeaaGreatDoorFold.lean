/- What a fold over groups of digits with a carry comes to: plain lemmas. No program. -/
import Derived.Test.YtcpkejpdpohfeaaGreatDoorNum
namespace Go.Proofs.YtcpkejpdpohfeaaGreatDoor.Num

/-- The value of the groups d k, d (k + 1), .., f of them. -/
def S (d : Nat → Int) (k : Nat) : Nat → Int
  | 0 => 0
  | f + 1 => d k + 10000 * S d (k + 1) f

/-- After k groups, carry c, digits ys: what is to come makes T. -/
structure FI (d : Nat → Int) (n : Nat) (T : Int) (k : Nat) (c : Int) (ys : List Int) : Prop where
  len : ys.length = k
  dig : Dig 10000 ys
  lo : -1 ≤ c
  hi : c ≤ 10001
  val : nv 10000 ys + (10000 : Int) ^ k * (c + S d k (n - k)) = T
  k2 : k ≤ n + 2
  c1 : n < k → c ≤ 1
  c0 : n + 1 < k → c ≤ 0

theorem FI.start (d : Nat → Int) (n : Nat) : FI d n (S d 0 n) 0 0 [] :=
  ⟨rfl, Dig.nil _, by omega, by omega, by simp [nv], by omega, fun h => by omega, fun h => by omega⟩

theorem FI.nonneg {d : Nat → Int} {n : Nat} {T : Int} {k : Nat} {c : Int} {ys : List Int} (h : FI d n T k c ys) (hT : 0 ≤ T) (hk : n ≤ k) : 0 ≤ c := by
  rcases Int.lt_or_le c 0 with h1 | h1
  · have h2 := h.val
    rw [show n - k = 0 by omega, S, Int.add_zero] at h2
    have h3 := nv_lt h.dig
    rw [h.len] at h3
    have hp : 0 ≤ (10000 : Int) ^ k := Int.pow_nonneg (by omega)
    have h4 : (10000 : Int) ^ k * c ≤ (10000 : Int) ^ k * (-1) := Int.mul_le_mul_of_nonneg_left (by omega) hp
    have e : ((10000 : Nat) : Int) ^ k = (10000 : Int) ^ k := rfl
    rw [e] at h3
    omega
  · exact h1

theorem FI.step {d : Nat → Int} {n : Nat} {T : Int} {k : Nat} {c q r : Int} {ys : List Int} (h : FI d n T k c ys) (hT : 0 ≤ T)
    (hd : -9999 ≤ d k ∧ d k ≤ 100000000) (hz : n ≤ k → d k = 0) (hgo : k < n ∨ c ≠ 0) (hr0 : 0 ≤ r) (hr1 : r < 10000) (hs : d k + c = r + 10000 * q) : FI d n T (k + 1) q (ys ++ [r]) := by
  have hc := h.lo
  have hc2 := h.hi
  have hcn := h.nonneg hT
  have k2 := h.k2
  have c1 := h.c1
  have c0 := h.c0
  refine ⟨by rw [List.length_append, h.len]; rfl, h.dig.append (Dig.one hr0 hr1), by omega, by omega, ?_, ?_, ?_, ?_⟩
  · rw [nv_snoc, h.len, ← h.val]
    have e : ((10000 : Nat) : Int) ^ k = (10000 : Int) ^ k := rfl
    rw [e, Int.pow_succ]
    have hS : S d k (n - k) = d k + 10000 * S d (k + 1) (n - (k + 1)) := by
      rcases Nat.lt_or_ge k n with h1 | h1
      · rw [show n - k = (n - (k + 1)) + 1 by omega]; rfl
      · rw [show n - k = 0 by omega, show n - (k + 1) = 0 by omega, hz h1]; simp [S]
    rw [hS]
    generalize S d (k + 1) (n - (k + 1)) = s
    generalize (10000 : Int) ^ k = p
    rw [show c + (d k + 10000 * s) = r + 10000 * (q + s) by omega, Int.mul_add p r, Int.mul_assoc p 10000 (q + s)]
    omega
  · rcases Nat.lt_or_ge k n with h1 | h1
    · omega
    · have := hcn h1
      omega
  · intro h1
    rcases Nat.lt_or_ge k n with h2 | h2
    · omega
    · have := hz h2; omega
  · intro h1
    have := hz (by omega)
    have := hcn (by omega)
    have := c1 (by omega)
    omega

theorem FI.done {d : Nat → Int} {n : Nat} {T : Int} {k : Nat} {ys : List Int} (h : FI d n T k 0 ys) (hk : n ≤ k) : nv 10000 ys = T := by
  have h2 := h.val
  rw [show n - k = 0 by omega, S] at h2
  simpa using h2

/-- The measure goes down. -/
theorem FI.bound {d : Nat → Int} {n : Nat} {T : Int} {k : Nat} {c : Int} {ys : List Int} (h : FI d n T k c ys) (hT : 0 ≤ T) (hgo : k < n ∨ c ≠ 0) : k ≤ n + 1 := by
  have k2 := h.k2
  have c0 := h.c0
  have hcn := h.nonneg hT
  omega

/-! ### What the three folds come to -/
theorem S_add (f g : Nat → Int) (k : Nat) : ∀ m, S (fun i => f i + g i) k m = S f k m + S g k m := by
  intro m
  induction m generalizing k with
  | zero => rfl
  | succ m ih => simp only [S, ih]; omega
theorem S_sub (f g : Nat → Int) (k : Nat) : ∀ m, S (fun i => f i - g i) k m = S f k m - S g k m := by
  intro m
  induction m generalizing k with
  | zero => rfl
  | succ m ih => simp only [S, ih]; omega
theorem S_mul (f : Nat → Int) (c : Int) (k : Nat) : ∀ m, S (fun i => f i * c) k m = S f k m * c := by
  intro m
  induction m generalizing k with
  | zero => simp [S]
  | succ m ih => simp only [S, ih]; rw [Int.add_mul, Int.mul_assoc]
theorem S_list : ∀ (l : List Int) (k m : Nat), l.length ≤ k + m → S (fun i => l[i]?.getD 0) k m = nv 10000 (l.drop k) := by
  intro l k m
  induction m generalizing k with
  | zero => intro h; rw [List.drop_of_length_le (by omega)]; rfl
  | succ m ih =>
    intro h
    simp only [S]
    rw [ih (k + 1) (by omega)]
    rcases Nat.lt_or_ge k l.length with h1 | h1
    · rw [List.drop_eq_getElem_cons h1, nv, List.getElem?_eq_getElem h1]; rfl
    · rw [List.drop_of_length_le (by omega), List.drop_of_length_le (by omega), List.getElem?_eq_none (by omega)]; rfl
theorem S_dg (a m : Nat) (h : (dg 10000 a).length ≤ m) : S (fun i => (dg 10000 a)[i]?.getD 0) 0 m = a := by
  rw [S_list _ _ _ (by omega), List.drop_zero, nv_dg (by omega)]

theorem dgat (a i : Nat) : 0 ≤ (dg 10000 a)[i]?.getD 0 ∧ (dg 10000 a)[i]?.getD 0 ≤ 9999 := by
  have := (dig_dg (B := 10000) (by omega) a).getD (by omega) i
  rw [List.getD_eq_getElem?_getD] at this
  omega
theorem dgout {a i : Nat} (h : (dg 10000 a).length ≤ i) : (dg 10000 a)[i]?.getD 0 = 0 := by
  rw [List.getElem?_eq_none h]; rfl

end Go.Proofs.YtcpkejpdpohfeaaGreatDoor.Num
