/- Numbers as lists of digits in a base, lowest digit first, and as decimal text: plain lemmas. No program. Slices that are only read: 'Rd w v xs': the slice value v reads as the numbers xs; it stays so whatever is laid later. Conditions: none. The walks of package integer's functions 'at' and 'trimmed' over groups of digits. Conditions: none. What a fold over groups of digits with a carry comes to: plain lemmas. No program. The walks of package integer's closures over groups of digits, of 'fold', 'plus', 'minus' and 'by'. Conditions: sizes. The walks of the reference implementation's functions on lists of decimal digits: trim. Conditions: none. The walks of package integer's 'plus', 'minus' and 'by' of groups of digits. Conditions: sizes. -/
import Derived.Lib.ItoaMem
import Derived.Lib.Atoi
import Derived.Lib.AtoiAll
import Derived.Test.YtffndcjmabjhiaaGreatDoorProg
import Derived.WalkKit
import Derived.WalkSpells
import Derived.WalkLawsBesides
import Derived.Deep.QuietTactic
import Derived.BigQuiet
import Derived.Deep.LoopGhost
import Derived.Maps.AppendAt
import Derived.Shelf.Abstract
namespace Go.Proofs.YtffndcjmabjhiaaGreatDoor.Num
open Go.Lib (decDigits itoa)

/-! ### Lists of digits -/
def dg (B : Nat) (n : Nat) : List Int :=
  if _h : n = 0 ∨ B < 2 then [] else ((n % B : Nat) : Int) :: dg B (n / B)
termination_by n
decreasing_by exact Nat.div_lt_self (by omega) (by omega)

def nv (B : Nat) : List Int → Int
  | [] => 0
  | x :: xs => x + B * nv B xs

def Dig (B : Nat) (l : List Int) : Prop := ∀ x ∈ l, 0 ≤ x ∧ x < B

theorem dg_zero (B : Nat) : dg B 0 = [] := by rw [dg]; simp
theorem dg_pos {B n : Nat} (hB : 2 ≤ B) (hn : 0 < n) : dg B n = ((n % B : Nat) : Int) :: dg B (n / B) := by
  rw [dg, dif_neg (by omega)]
theorem dg_eq_nil {B n : Nat} (hB : 2 ≤ B) : dg B n = [] ↔ n = 0 := by
  constructor
  · intro h
    rcases Nat.eq_zero_or_pos n with h0 | h0
    · exact h0
    · rw [dg_pos hB h0] at h; cases h
  · rintro rfl; exact dg_zero B

theorem nv_dg {B : Nat} (hB : 2 ≤ B) (n : Nat) : nv B (dg B n) = n := by
  induction n using Nat.strongRecOn with
  | _ n ih =>
    rcases Nat.eq_zero_or_pos n with rfl | h0
    · rw [dg_zero]; rfl
    · rw [dg_pos hB h0, nv, ih (n / B) (Nat.div_lt_self h0 hB)]
      have := Nat.mod_add_div n B
      rw [← Int.natCast_mul, ← Int.natCast_add, this]

theorem dig_dg {B : Nat} (hB : 2 ≤ B) (n : Nat) : Dig B (dg B n) := by
  induction n using Nat.strongRecOn with
  | _ n ih =>
    rcases Nat.eq_zero_or_pos n with rfl | h0
    · rw [dg_zero]; intro x hx; cases hx
    · rw [dg_pos hB h0]
      intro x hx
      rcases List.mem_cons.1 hx with rfl | hx
      · have := Nat.mod_lt n (show 0 < B by omega); omega
      · exact ih _ (Nat.div_lt_self h0 hB) x hx

theorem Dig.nil (B : Nat) : Dig B [] := fun x hx => by cases hx
theorem Dig.tail {B : Nat} {x : Int} {l : List Int} (h : Dig B (x :: l)) : Dig B l := fun y hy => h y (List.mem_cons_of_mem _ hy)
theorem Dig.head {B : Nat} {x : Int} {l : List Int} (h : Dig B (x :: l)) : 0 ≤ x ∧ x < B := h x List.mem_cons_self
theorem Dig.append {B : Nat} {a b : List Int} (ha : Dig B a) (hb : Dig B b) : Dig B (a ++ b) := fun x hx => (List.mem_append.1 hx).elim (ha x) (hb x)
theorem Dig.one {B : Nat} {x : Int} (h0 : 0 ≤ x) (h1 : x < B) : Dig B [x] := fun y hy => by rw [List.mem_singleton] at hy; subst hy; exact ⟨h0, h1⟩
theorem Dig.take {B : Nat} {l : List Int} (h : Dig B l) (k : Nat) : Dig B (l.take k) := fun x hx => h x (List.mem_of_mem_take hx)
theorem Dig.drop {B : Nat} {l : List Int} (h : Dig B l) (k : Nat) : Dig B (l.drop k) := fun x hx => h x (List.mem_of_mem_drop hx)
theorem Dig.get {B : Nat} {l : List Int} (h : Dig B l) {i : Nat} (hi : i < l.length) : 0 ≤ l[i] ∧ l[i] < B := h _ (List.getElem_mem hi)
theorem Dig.getD {B : Nat} (hB : 0 < B) {l : List Int} (h : Dig B l) (i : Nat) : 0 ≤ l.getD i 0 ∧ l.getD i 0 < B := by
  rw [List.getD_eq_getElem?_getD]
  cases hi : l[i]? with
  | none => simp; omega
  | some x => exact h x (List.mem_of_getElem? hi)

theorem nv_nonneg {B : Nat} : ∀ {l : List Int}, Dig B l → 0 ≤ nv B l
  | [], _ => Int.le_refl _
  | x :: xs, h => by
    have h1 := nv_nonneg h.tail
    have h2 := h.head
    have h3 : 0 ≤ (B : Int) * nv B xs := Int.mul_nonneg (by omega) h1
    simp only [nv]; omega

theorem nv_lt {B : Nat} : ∀ {l : List Int}, Dig B l → nv B l < (B : Int) ^ l.length
  | [], _ => by simp [nv]
  | x :: xs, h => by
    have h1 := nv_lt h.tail
    have h2 := h.head
    have h3 : (B : Int) * (nv B xs + 1) ≤ (B : Int) * (B : Int) ^ xs.length := Int.mul_le_mul_of_nonneg_left (by omega) (by omega)
    rw [Int.mul_add, Int.mul_one] at h3
    simp only [nv, List.length_cons, Int.pow_succ]
    rw [Int.mul_comm ((B : Int) ^ xs.length)]
    omega

theorem nv_append {B : Nat} (b : List Int) : ∀ (a : List Int), nv B (a ++ b) = nv B a + (B : Int) ^ a.length * nv B b
  | [] => by simp [nv]
  | x :: xs => by
    simp only [List.cons_append, nv, nv_append b xs, List.length_cons, Int.pow_succ]
    rw [Int.mul_add, ← Int.mul_assoc, Int.mul_comm ((B : Int) ^ xs.length), Int.add_assoc]
theorem nv_snoc {B : Nat} (a : List Int) (x : Int) : nv B (a ++ [x]) = nv B a + (B : Int) ^ a.length * x := by
  rw [nv_append]; simp [nv]

theorem canon {B : Nat} (hB : 2 ≤ B) : ∀ (l : List Int), Dig B l → l.getLast? ≠ some 0 → l = dg B (nv B l).toNat
  | [], _, _ => by simp [nv, dg_zero]
  | [x], h, hl => by
    have h2 := h.head
    have hx : x ≠ 0 := by simpa using hl
    have e : (nv B [x]).toNat = x.toNat := by simp [nv]
    rw [e, dg_pos hB (by omega), Nat.mod_eq_of_lt (by omega), Nat.div_eq_of_lt (by omega), dg_zero]
    congr 1; omega
  | x :: y :: ys, h, hl => by
    have hl' : (y :: ys).getLast? ≠ some 0 := by simpa [List.getLast?_cons_cons] using hl
    have ih := canon hB (y :: ys) h.tail hl'
    have h2 := h.head
    have h3 := nv_nonneg h.tail
    obtain ⟨m, hm⟩ : ∃ m : Nat, nv B (y :: ys) = m := ⟨_, (Int.toNat_of_nonneg h3).symm⟩
    rw [hm, Int.toNat_natCast] at ih
    have hm0 : 0 < m := by
      rcases Nat.eq_zero_or_pos m with h0 | h0
      · rw [h0, dg_zero] at ih; cases ih
      · exact h0
    obtain ⟨k, rfl⟩ : ∃ k : Nat, x = k := ⟨_, (Int.toNat_of_nonneg h2.1).symm⟩
    have e : (nv B ((k : Int) :: y :: ys)).toNat = k + B * m := by
      rw [nv, hm, ← Int.natCast_mul, ← Int.natCast_add, Int.toNat_natCast]
    have hk : k < B := by omega
    have hBm : 0 < B * m := Nat.mul_pos (by omega) hm0
    rw [e, dg_pos hB (by omega), Nat.add_mul_mod_self_left, Nat.mod_eq_of_lt hk, Nat.add_mul_div_left _ _ (by omega), Nat.div_eq_of_lt hk, Nat.zero_add, ← ih]

theorem dg_last {B : Nat} (hB : 2 ≤ B) (n : Nat) : (dg B n).getLast? ≠ some 0 := by
  induction n using Nat.strongRecOn with
  | _ n ih =>
    rcases Nat.eq_zero_or_pos n with rfl | h0
    · rw [dg_zero]; simp
    · rw [dg_pos hB h0]
      rcases Nat.eq_zero_or_pos (n / B) with h1 | h1
      · rw [h1, dg_zero]
        have : n < B := by
          rcases Nat.lt_or_ge n B with h | h
          · exact h
          · have := Nat.div_pos h (by omega); omega
        rw [Nat.mod_eq_of_lt this]
        simp; omega
      · have ih := ih (n / B) (Nat.div_lt_self h0 hB)
        rw [dg_pos hB h1] at ih ⊢
        rw [List.getLast?_cons_cons]; exact ih

theorem nv_inj {B : Nat} (hB : 2 ≤ B) {a b : Nat} (h : dg B a = dg B b) : a = b := by
  have := nv_dg hB a; rw [h, nv_dg hB b] at this; omega

theorem dg_len {B : Nat} (hB : 2 ≤ B) : ∀ (k n : Nat), n < B ^ k → (dg B n).length ≤ k
  | 0, n, h => by
    have : n = 0 := by simpa using h
    subst this; rw [dg_zero]; exact Nat.le_refl _
  | k + 1, n, h => by
    rcases Nat.eq_zero_or_pos n with rfl | h0
    · rw [dg_zero]; exact Nat.zero_le _
    · rw [dg_pos hB h0, List.length_cons]
      have := dg_len hB k (n / B) (Nat.div_lt_of_lt_mul (by rw [Nat.pow_succ, Nat.mul_comm] at h; exact h))
      omega

theorem dg_len_lt {B : Nat} (hB : 2 ≤ B) (n : Nat) : n < B ^ (dg B n).length := by
  have h := nv_lt (dig_dg hB n)
  rw [nv_dg hB, ← Int.natCast_pow] at h
  exact Int.ofNat_lt.1 h

theorem dg_len_ge {B : Nat} (hB : 2 ≤ B) {n k : Nat} (h : k < (dg B n).length) : B ^ k ≤ n := by
  rcases Nat.lt_or_ge n (B ^ k) with h1 | h1
  · have := dg_len hB k n h1; omega
  · exact h1

/-- Of two lists of one length the one with the greater digit, above which they agree, is greater. -/
theorem nv_lt_of {B : Nat} {l m : List Int} (hl : Dig B l) (hm : Dig B m) (i : Nat) (h1 : i < l.length) (h2 : i < m.length) (hd : l.drop (i + 1) = m.drop (i + 1)) (hlt : l[i] < m[i]) : nv B l < nv B m := by
  have el : l = l.take i ++ (l[i] :: l.drop (i + 1)) := by rw [List.getElem_cons_drop, List.take_append_drop]
  have em : m = m.take i ++ (m[i] :: m.drop (i + 1)) := by rw [List.getElem_cons_drop, List.take_append_drop]
  have t1 := nv_lt (hl.take i)
  have t2 := nv_nonneg (hm.take i)
  rw [List.length_take, Nat.min_eq_left (by omega)] at t1
  have l1 : nv B l = nv B (l.take i) + (B : Int) ^ i * (l[i] + B * nv B (l.drop (i + 1))) := by
    conv => lhs; rw [el]
    rw [nv_append, nv, List.length_take, Nat.min_eq_left (by omega)]
  have m1 : nv B m = nv B (m.take i) + (B : Int) ^ i * (m[i] + B * nv B (m.drop (i + 1))) := by
    conv => lhs; rw [em]
    rw [nv_append, nv, List.length_take, Nat.min_eq_left (by omega)]
  rw [l1, m1, hd]
  generalize nv B (m.drop (i + 1)) = D
  generalize nv B (l.take i) = x at *
  generalize nv B (m.take i) = y at *
  generalize l[i] = p at *
  generalize m[i] = q at *
  have hp : 0 ≤ (B : Int) ^ i := Int.pow_nonneg (by omega)
  generalize (B : Int) ^ i = P at *
  have h3 : P * (p + 1 + B * D) ≤ P * (q + B * D) := Int.mul_le_mul_of_nonneg_left (by omega) hp
  rw [show p + 1 + B * D = (p + B * D) + 1 by omega, Int.mul_add, Int.mul_one] at h3
  omega

/-- The longer one of two canonical lists is greater. -/
theorem lt_of_len {B : Nat} (hB : 2 ≤ B) {a b : Nat} (h : (dg B a).length < (dg B b).length) : a < b :=
  Nat.lt_of_lt_of_le (dg_len_lt hB a) (dg_len_ge hB h)

/-! ### Decimal text -/
theorem dec_small {u : Nat} (h : u < 10) : decDigits u = [UInt8.ofNat (48 + u)] := by rw [decDigits, dif_pos h]
theorem dec_big {u : Nat} (h : ¬ u < 10) : decDigits u = decDigits (u / 10) ++ [UInt8.ofNat (48 + u % 10)] := by rw [decDigits, dif_neg h]

def isD (c : UInt8) : Bool := decide (48 ≤ c.toNat ∧ c.toNat ≤ 57)
def dval (l : List UInt8) : Nat := l.foldl (fun n c => 10 * n + (c.toNat - 48)) 0

theorem toNat_ch {d : Nat} (h : d < 10) : (UInt8.ofNat (48 + d)).toNat = 48 + d := by rw [UInt8.toNat_ofNat']; omega
theorem isD_ch {d : Nat} (h : d < 10) : isD (UInt8.ofNat (48 + d)) = true := by unfold isD; rw [toNat_ch h]; simp; omega

theorem dec_isD (u : Nat) : (decDigits u).all isD = true := by
  induction u using Nat.strongRecOn with
  | _ u ih =>
    by_cases h : u < 10
    · rw [dec_small h, List.all_cons, isD_ch h]; rfl
    · rw [dec_big h, List.all_append, ih _ (by omega), List.all_cons, isD_ch (show u % 10 < 10 by omega)]; rfl
theorem dec_ne (u : Nat) : decDigits u ≠ [] := by
  by_cases h : u < 10
  · rw [dec_small h]; simp
  · rw [dec_big h]; simp
theorem head_app {a b : List UInt8} (h : a ≠ []) : (a ++ b).head? = a.head? := by
  cases a with
  | nil => exact absurd rfl h
  | cons _ _ => rfl
theorem dec_head {u : Nat} (h0 : 0 < u) : (decDigits u).head? ≠ some 48 := by
  induction u using Nat.strongRecOn with
  | _ u ih =>
    by_cases h : u < 10
    · rw [dec_small h]
      simp only [List.head?_cons, ne_eq, Option.some.injEq]
      intro e
      have := congrArg UInt8.toNat e
      rw [toNat_ch h] at this
      have e48 : (48 : UInt8).toNat = 48 := rfl
      omega
    · rw [dec_big h]
      have := ih (u / 10) (by omega) (by omega)
      rw [head_app (dec_ne _)]
      exact this

theorem dval_foldl (l : List UInt8) : ∀ a : Nat, l.foldl (fun n c => 10 * n + (c.toNat - 48)) a = a * 10 ^ l.length + dval l := by
  induction l with
  | nil => intro a; simp [dval]
  | cons c l ih =>
    intro a
    simp only [List.foldl_cons, dval, List.length_cons]
    rw [ih, ih (10 * 0 + (c.toNat - 48)), Nat.pow_succ]
    simp only [Nat.mul_zero, Nat.zero_add]
    rw [Nat.add_mul, Nat.mul_comm 10 a, Nat.mul_assoc, Nat.mul_comm 10]
    omega
theorem dval_append (a b : List UInt8) : dval (a ++ b) = dval a * 10 ^ b.length + dval b := by
  conv => lhs; unfold dval
  rw [List.foldl_append, dval_foldl]
  rfl
theorem dval_one (c : UInt8) : dval [c] = c.toNat - 48 := by simp [dval]
theorem dval_nil : dval [] = 0 := rfl
theorem dval_snoc (a : List UInt8) (c : UInt8) : dval (a ++ [c]) = 10 * dval a + (c.toNat - 48) := by
  rw [dval_append, dval_one]; simp [Nat.mul_comm]

theorem dval_dec (u : Nat) : dval (decDigits u) = u := by
  induction u using Nat.strongRecOn with
  | _ u ih =>
    by_cases h : u < 10
    · rw [dec_small h, dval_one, toNat_ch h]; omega
    · rw [dec_big h, dval_snoc, ih _ (by omega), toNat_ch (show u % 10 < 10 by omega)]; omega

theorem dval_cons (c : UInt8) (l : List UInt8) : dval (c :: l) = (c.toNat - 48) * 10 ^ l.length + dval l := by
  rw [show c :: l = [c] ++ l from rfl, dval_append, dval_one]

theorem dval_lt : ∀ (l : List UInt8), l.all isD = true → dval l < 10 ^ l.length
  | [], _ => by simp [dval]
  | c :: l, h => by
    simp only [List.all_cons, Bool.and_eq_true] at h
    have h1 := dval_lt l h.2
    have h2 : c.toNat - 48 ≤ 9 := by
      have := h.1; unfold isD at this; simp at this; omega
    rw [dval_cons, List.length_cons, Nat.pow_succ]
    have h3 : (c.toNat - 48) * 10 ^ l.length ≤ 9 * 10 ^ l.length := Nat.mul_le_mul_right _ h2
    omega

theorem dec_dval : ∀ (k : Nat) (l : List UInt8), l.length = k → l.all isD = true → l ≠ [] → (l = [48] ∨ l.head? ≠ some 48) → decDigits (dval l) = l := by
  intro k
  induction k with
  | zero => intro l hk _ hn _; exact absurd (List.eq_nil_of_length_eq_zero hk) hn
  | succ k ih =>
    intro l hk hd hn hh
    obtain ⟨a, c, rfl⟩ : ∃ a c, l = a ++ [c] := ⟨l.dropLast, l.getLast hn, (List.dropLast_concat_getLast hn).symm⟩
    simp only [List.all_append, List.all_cons, List.all_nil, Bool.and_true, Bool.and_eq_true] at hd
    have hc : 48 ≤ c.toNat ∧ c.toNat ≤ 57 := by have := hd.2; unfold isD at this; simpa using this
    have hcc : UInt8.ofNat (48 + (c.toNat - 48)) = c := by
      rw [show 48 + (c.toNat - 48) = c.toNat by omega]; simp
    rw [dval_snoc]
    rcases List.eq_nil_or_concat a with rfl | ⟨a0, x0, ea⟩
    · rw [dval_nil, dec_small (by omega)]
      simp only [Nat.mul_zero, Nat.zero_add, List.nil_append]
      rw [hcc]
    · obtain rfl : a = a0 ++ [x0] := by rw [ea, List.concat_eq_append]
      clear ea
      have hne : a0 ++ [x0] ≠ [] := by simp
      have hh' : (a0 ++ [x0]).head? ≠ some 48 := by
        rcases hh with h | h
        · have := congrArg List.length h; simp at this
        · rwa [head_app hne] at h
      have hlen : (a0 ++ [x0]).length = k := by simpa using hk
      have ih := ih (a0 ++ [x0]) hlen hd.1 hne (.inr hh')
      have h0 : dval (a0 ++ [x0]) ≠ 0 := fun e => by
        rw [e, dec_small (by omega)] at ih
        rw [← ih] at hh'
        exact hh' rfl
      generalize dval (a0 ++ [x0]) = v at *
      rw [dec_big (by omega), show (10 * v + (c.toNat - 48)) / 10 = v by omega, show (10 * v + (c.toNat - 48)) % 10 = c.toNat - 48 by omega, ih, hcc]

theorem dec_len {k u : Nat} (hk : 0 < k) (h : u < 10 ^ k) : (decDigits u).length ≤ k := by
  induction u using Nat.strongRecOn generalizing k with
  | _ u ih =>
    by_cases hu : u < 10
    · rw [dec_small hu]; simp; omega
    · rw [dec_big hu, List.length_append, List.length_singleton]
      obtain ⟨k, rfl⟩ : ∃ j, k = j + 1 := ⟨k - 1, by omega⟩
      rw [Nat.pow_succ] at h
      have hk0 : 0 < k := by
        rcases Nat.eq_zero_or_pos k with rfl | h0
        · simp at h; omega
        · exact h0
      have := ih (u / 10) (by omega) hk0 (by omega)
      omega
theorem dec_lt {u : Nat} : u < 10 ^ (decDigits u).length := by
  have := dval_lt _ (dec_isD u); rwa [dval_dec] at this
theorem dec_len_iff {k u : Nat} (hk : 0 < k) : (decDigits u).length ≤ k ↔ u < 10 ^ k :=
  ⟨fun h => Nat.lt_of_lt_of_le dec_lt (Nat.pow_le_pow_right (by omega) h), dec_len hk⟩

/-- The last k digits, with zeros in front. -/
def pad : Nat → Nat → List UInt8
  | 0, _ => []
  | k + 1, r => pad k (r / 10) ++ [UInt8.ofNat (48 + r % 10)]
theorem dec_pad {q : Nat} (hq : 0 < q) : ∀ (k r : Nat), r < 10 ^ k → decDigits (q * 10 ^ k + r) = decDigits q ++ pad k r
  | 0, r, h => by
    have : r = 0 := by simpa using h
    subst this; simp [pad]
  | k + 1, r, h => by
    rw [Nat.pow_succ] at h ⊢
    have hp : 0 < 10 ^ k := Nat.pow_pos (by omega)
    have h1 : 0 < q * 10 ^ k := Nat.mul_pos hq hp
    rw [← Nat.mul_assoc]
    rw [dec_big (by omega), show (q * 10 ^ k * 10 + r) / 10 = q * 10 ^ k + r / 10 by omega, show (q * 10 ^ k * 10 + r) % 10 = r % 10 by omega, dec_pad hq k (r / 10) (by omega), pad, List.append_assoc]
theorem pad_eq : ∀ (k r : Nat), 0 < k → r < 10 ^ k → pad k r = List.replicate (k - (decDigits r).length) 48 ++ decDigits r
  | 1, r, _, h => by
    have hr : r < 10 := by simpa using h
    rw [dec_small hr]; simp [pad, Nat.mod_eq_of_lt hr]
  | k + 2, r, _, h => by
    rw [pad, pad_eq (k + 1) (r / 10) (by omega) (by rw [Nat.pow_succ] at h; omega)]
    by_cases hr : r < 10
    · rw [dec_small hr, show r / 10 = 0 by omega, dec_small (show 0 < 10 by omega), Nat.mod_eq_of_lt hr]
      simp only [List.length_singleton, Nat.add_sub_cancel]
      rw [show k + 2 - 1 = k + 1 by omega, List.replicate_succ']
      rfl
    · rw [dec_big hr]
      simp only [List.length_append, List.length_singleton]
      rw [show k + 2 - ((decDigits (r / 10)).length + 1) = k + 1 - (decDigits (r / 10)).length by omega, List.append_assoc]

/-! ### Integers as text -/
def tx (z : Int) : ByteArray := ⟨(itoa z).toArray⟩
theorem itoa_pos (u : Nat) : itoa (u : Int) = decDigits u := by unfold itoa; rw [if_neg (by omega)]; simp
theorem itoa_neg {z : Int} (h : z < 0) : itoa z = 45 :: decDigits z.natAbs := by unfold itoa; rw [if_pos h]
theorem itoa_nonneg {z : Int} (h : 0 ≤ z) : itoa z = decDigits z.natAbs := by unfold itoa; rw [if_neg (by omega)]; congr 1; omega

/-- The bytes behind a sign. -/
def body (l : List UInt8) : List UInt8 := if l.head? = some 45 then l.tail else l
def validL (l : List UInt8) : Bool := (!(body l).isEmpty) && decide ((body l).length ≤ 200) && (body l).all isD && (l == [48] || (body l).head? != some 48)
def valL (l : List UInt8) : Int := if l.head? = some 45 then -(dval (body l) : Int) else dval (body l)

theorem dec_head45 (u : Nat) : (decDigits u).head? ≠ some 45 := by
  intro h
  have h1 := dec_isD u
  cases hd : decDigits u with
  | nil => exact dec_ne u hd
  | cons c r =>
    rw [hd] at h h1
    simp only [List.head?_cons, Option.some.injEq] at h
    subst h
    simp [isD] at h1

theorem body_itoa (z : Int) : body (itoa z) = decDigits z.natAbs := by
  unfold body
  rcases Int.lt_or_le z 0 with h | h
  · rw [itoa_neg h]; simp
  · rw [itoa_nonneg h, if_neg (dec_head45 _)]
theorem valL_itoa (z : Int) : valL (itoa z) = z := by
  unfold valL
  rw [body_itoa, dval_dec]
  rcases Int.lt_or_le z 0 with h | h
  · rw [itoa_neg h]; simp; omega
  · rw [itoa_nonneg h, if_neg (dec_head45 _)]; omega
theorem itoa_inj {x y : Int} (h : itoa x = itoa y) : x = y := by rw [← valL_itoa x, h, valL_itoa]

theorem valid_itoa (z : Int) : validL (itoa z) = true ↔ z.natAbs < 10 ^ 200 := by
  unfold validL
  rw [body_itoa, ← dec_len_iff (show 0 < 200 by omega)]
  have h1 : (!(decDigits z.natAbs).isEmpty) = true := by
    cases h : decDigits z.natAbs with
    | nil => exact absurd h (dec_ne _)
    | cons _ _ => rfl
  have h2 : (itoa z == [48] || (decDigits z.natAbs).head? != some 48) = true := by
    rw [Bool.or_eq_true]
    rcases Nat.eq_zero_or_pos z.natAbs with h | h
    · left
      have : z = 0 := by omega
      subst this
      rw [show itoa 0 = itoa ((0 : Nat) : Int) from rfl, itoa_pos, dec_small (by omega)]
      rfl
    · right; rw [bne_iff_ne]; exact dec_head h
  rw [h1, h2, dec_isD]
  simp

theorem of_valid {l : List UInt8} (h : validL l = true) : l = itoa (valL l) ∧ (valL l).natAbs < 10 ^ 200 := by
  unfold validL at h
  simp only [Bool.and_eq_true, Bool.or_eq_true, decide_eq_true_eq, beq_iff_eq, bne_iff_ne] at h
  obtain ⟨⟨⟨h1, h2⟩, h3⟩, h4⟩ := h
  have hne : body l ≠ [] := by intro e; rw [e] at h1; simp at h1
  have hb : body l = [48] ∨ (body l).head? ≠ some 48 := by
    rcases h4 with h4 | h4
    · left; subst h4; rfl
    · exact .inr h4
  have e := dec_dval _ (body l) rfl h3 hne hb
  have hlt : dval (body l) < 10 ^ 200 := by
    have := dval_lt _ h3
    exact Nat.lt_of_lt_of_le this (Nat.pow_le_pow_right (by omega) h2)
  unfold valL
  by_cases hm : l.head? = some 45
  · rw [if_pos hm]
    refine ⟨?_, by omega⟩
    have hl : l = 45 :: body l := by
      unfold body; rw [if_pos hm]
      cases l with
      | nil => cases hm
      | cons c r => simp at hm; subst hm; rfl
    have h0 : dval (body l) ≠ 0 := fun z => by
      rw [z, dec_small (by omega)] at e
      rcases h4 with h4 | h4
      · rw [h4] at hm; simp at hm
      · rw [← e] at h4; exact h4 rfl
    rw [itoa_neg (by omega), show (-(dval (body l) : Int)).natAbs = dval (body l) by omega, e]
    exact hl
  · rw [if_neg hm]
    refine ⟨?_, by omega⟩
    rw [itoa_pos, e]
    unfold body; rw [if_neg hm]

/-! ### What a string stands for, and what is returned for a number -/
def rdI (s : ByteArray) : Option Int := if validL s.data.toList then some (valL s.data.toList) else none
theorem rdI_tx {z : Int} (h : z.natAbs < 10 ^ 200) : rdI (tx z) = some z := by
  unfold rdI tx
  simp only []
  rw [if_pos ((valid_itoa z).2 h), valL_itoa]
theorem rdI_some {s : ByteArray} {z : Int} (h : rdI s = some z) : s = tx z ∧ z.natAbs < 10 ^ 200 := by
  unfold rdI at h
  split at h
  · rename_i hv
    obtain rfl : valL s.data.toList = z := by simpa using h
    obtain ⟨h1, h2⟩ := of_valid hv
    refine ⟨?_, h2⟩
    unfold tx
    rw [← h1]
  · cases h
theorem tx_inj {x y : Int} (h : tx x = tx y) : x = y := by
  unfold tx at h
  have := congrArg (fun b : ByteArray => b.data.toList) h
  exact itoa_inj (by simpa using this)

def outI (z : Int) : ByteArray × Int := if z.natAbs < 10 ^ 200 then (tx z, 0) else (⟨#[]⟩, 30)
theorem outI_ok {z : Int} (h : z.natAbs < 10 ^ 200) : outI z = (tx z, 0) := if_pos h
theorem outI_no {z : Int} (h : ¬ z.natAbs < 10 ^ 200) : outI z = (⟨#[]⟩, 30) := if_neg h

end Go.Proofs.YtffndcjmabjhiaaGreatDoor.Num

namespace Go.Proofs.YtffndcjmabjhiaaGreatDoor
open Go.RowKit Num

/-- The slice value v reads as the numbers xs (a million of them at the most). -/
def Rd (w : World) (v : Value) (xs : List Int) : Prop :=
  ∃ (A : Option Addr) (c : Nat), v = .slice A xs.length c ∧ (xs.length ≤ c ∧ (A = none → c = 0)) ∧ xs.length ≤ 1000000 ∧
    (0 < xs.length → ∃ b o, A = some ⟨b, o, none⟩ ∧ ∀ j, j < xs.length → w.cell? ⟨b, o + j, none⟩ = some (.int .i64 (xs[j]?.getD 0)))

theorem cell_lt {w : World} {a : Addr} {v : Value} (h : w.cell? a = some v) : a.block < w.heap.size := World.block_lt_of_cell? w a h

theorem Rd.below {w w' : World} {v : Value} {xs : List Int} (h : Rd w v xs) (hb : Below w.heap.size w w') : Rd w' v xs := by
  obtain ⟨A, c, hv, hc, hm, hx⟩ := h
  refine ⟨A, c, hv, hc, hm, fun h0 => ?_⟩
  obtain ⟨b, o, hA, hx⟩ := hx h0
  exact ⟨b, o, hA, fun j hj => (hb.cell (cell_lt (hx j hj))).trans (hx j hj)⟩

theorem Rd.nil (w : World) : Rd w (.slice none 0 0) [] := ⟨none, 0, rfl, ⟨Nat.le_refl _, fun _ => rfl⟩, by simp, fun h => by simp at h⟩

theorem below_drewN {B : Nat} {w W : World} (h : Below B w W) (n : Nat) : Below B w (W.drewN n) := ⟨h.os, h.tape, h.output, h.size, h.block⟩
theorem below_up {w w1 w2 : World} (h : Below w.heap.size w w1) (k : Below w1.heap.size w1 w2) : Below w.heap.size w w2 :=
  h.trans (k.mono h.size)

/-- A row of the call's own is read. -/
theorem Rd.own {w : World} {base : Nat} {e : TypeId} {v : Value} {xs : List Int} (h : w.ownsRow base e 1 v xs.length (xs.map (Value.int .i64))) (hm : xs.length ≤ 1000000) : Rd w v xs := by
  obtain ⟨h1, h2⟩ := h
  rcases h2 with ⟨rfl, hn⟩ | ⟨g, cap, cur, rfl, hg, hh, hl, hc, hcap, h3⟩
  · have : xs = [] := List.eq_nil_of_length_eq_zero hn
    subst this
    exact Rd.nil w
  · have h' : w.ownsRow base e 1 (.slice (some ⟨g, 0, none⟩) xs.length cap) xs.length (xs.map (Value.int .i64)) := ⟨h1, .inr ⟨g, cap, cur, rfl, hg, hh, hl, hc, hcap, h3⟩⟩
    refine ⟨_, cap, rfl, ⟨hl, fun e => by cases e⟩, hm, fun _ => ⟨g, 0, rfl, fun j hj => ?_⟩⟩
    rw [Nat.zero_add, h'.cellAt j (by omega), List.getElem?_map]
    rw [List.getElem?_eq_getElem hj]
    rfl

/-- The call returns a slice of numbers of which P holds; what was there lies as it lay. -/
def RetL (w : World) (P : List Int → Prop) (e : Ending) (w' : World) : Prop := ∃ v ys, e = .returned v ∧ Rd w' v ys ∧ P ys ∧ Below w.heap.size w w'
/-- The call returns the groups of the number n. -/
def RetN (w : World) (n : Nat) (e : Ending) (w' : World) : Prop := ∃ v, e = .returned v ∧ Rd w' v (dg 10000 n) ∧ Below w.heap.size w w'

end Go.Proofs.YtffndcjmabjhiaaGreatDoor

namespace Go.Proofs.YtffndcjmabjhiaaGreatDoor
open Go.RowKit Num

set_option maxHeartbeats 400000 in
theorem at_any (v : Value) (xs : List Int) (i : Nat) (w : World) (hR : Rd w v xs) (hi : i ≤ 100000000) :
    Calls Tryz.prog 247 #[v, .int .i64 i] w fun e w' => e = .returned (.int .i64 (xs[i]?.getD 0)) ∧ w' = w := by
  obtain ⟨A, c, rfl, hc, hm, hx⟩ := hR
  by_cases hlt : i < xs.length
  · obtain ⟨b, o, rfl, hy⟩ := hx (by omega)
    have hcell := hy i hlt
    have h1 : (i : Int) < (xs.length : Int) := by omega
    have h0 : (0 : Int) ≤ (i : Int) := by omega
    generalize xs[i]?.getD 0 = x at hcell ⊢
    clear hx hy hlt
    go_enter Tryz.func247, Tryz.ntmps247
    go_wp2
    go_ret
    exact ⟨rfl, rfl⟩
  · have h1 : ¬ (i : Int) < (xs.length : Int) := by omega
    have e : xs[i]?.getD 0 = 0 := by rw [List.getElem?_eq_none (by omega)]; rfl
    rw [e]
    clear e hx hlt
    go_enter Tryz.func247, Tryz.ntmps247
    go_wp2
    go_ret
    exact ⟨rfl, rfl⟩


theorem nv_drop0 {xs : List Int} {m : Nat} (hm : m < xs.length) (h : xs[m]?.getD 0 = 0) : nv 10000 (xs.take (m + 1)) = nv 10000 (xs.take m) := by
  rw [List.take_succ_eq_append_getElem hm, nv_snoc]
  rw [List.getElem?_eq_getElem hm] at h
  simp only [Option.getD_some] at h
  rw [h]; simp
theorem take_canon {xs : List Int} {m : Nat} (hD : Dig 10000 xs) (hm : m < xs.length) (h : xs[m]?.getD 0 ≠ 0) : xs.take (m + 1) = dg 10000 (nv 10000 (xs.take (m + 1))).toNat := by
  refine canon (by omega) _ (hD.take _) ?_
  rw [List.take_succ_eq_append_getElem hm, List.getLast?_append]
  rw [List.getElem?_eq_getElem hm] at h
  simpa using h

theorem Rd.take {w : World} {A : Option Addr} {c : Nat} {xs : List Int} {k : Nat} (hc : xs.length ≤ c ∧ (A = none → c = 0)) (hm : xs.length ≤ 1000000)
    (hx : 0 < xs.length → ∃ b o, A = some ⟨b, o, none⟩ ∧ ∀ j, j < xs.length → w.cell? ⟨b, o + j, none⟩ = some (.int .i64 (xs[j]?.getD 0))) (hk : k ≤ xs.length) : Rd w (.slice A k c) (xs.take k) := by
  have hl : (xs.take k).length = k := by rw [List.length_take]; omega
  refine ⟨A, c, by rw [hl], ⟨by omega, hc.2⟩, by omega, fun h0 => ?_⟩
  obtain ⟨b, o, hA, hy⟩ := hx (by omega)
  refine ⟨b, o, hA, fun j hj => ?_⟩
  rw [hy j (by omega), List.getElem?_take_of_lt (by omega)]

set_option maxHeartbeats 400000 in
theorem trimmed_own (v : Value) (xs : List Int) (w : World) (hR : Rd w v xs) (hD : Dig 10000 xs) :
    Calls Tryz.prog 241 #[v] w fun e w' => ∃ v', e = .returned v' ∧ Rd w' v' (dg 10000 (nv 10000 xs).toNat) ∧ w' = w ∧ v'.ownBlock = v.ownBlock := by
  obtain ⟨A, c, rfl, hc, hm, hx⟩ := hR
  have HC := Lib.hid hc
  replace hc := hc.1
  go_enter Tryz.func241, Tryz.ntmps241
  go_wp2
  go_loop [0] (fun s => ∃ k : Nat, k ≤ xs.length ∧ s = .slice A k c ∧ Hid (nv 10000 (xs.take k) = nv 10000 xs)) (fun s => match s with | .slice _ n _ => n | _ => 0)
  case atStart => exact ⟨xs.length, Nat.le_refl _, rfl, by rw [List.take_length]; exact rfl⟩
  case round =>
    obtain ⟨k, hk, rfl, hI⟩ := hrel
    rcases Nat.eq_zero_or_pos k with rfl | h0
    · go_wp2
      go_ret
      have e : dg 10000 (nv 10000 xs).toNat = xs.take 0 := by
        rw [← hI.out]; simp [nv, dg_zero]
      exact ⟨_, rfl, by rw [e]; exact Rd.take HC.out hm hx hk, rfl, by cases A <;> rfl⟩
    · obtain ⟨m, rfl⟩ : ∃ m, k = m + 1 := ⟨k - 1, by omega⟩
      clear h0
      obtain ⟨b, o, rfl, hy⟩ := hx (by omega)
      have hcell := hy m (by omega)
      have HX := Lib.hid hx
      have HY := Lib.hid hy
      clear hx hy
      by_cases hz : xs[m]?.getD 0 = 0
      · have HZ := Lib.hid hz
        rw [hz] at hcell
        clear hz
        go_wp2
        go_round
        case rel => exact ⟨m, by omega, rfl, (nv_drop0 (by omega) HZ.out).symm.trans hI.out⟩
        case measure => simp
      · have HZ := Lib.hid hz
        have hb : (xs[m]?.getD 0 == 0) = false := by simpa using hz
        clear hz
        have e : Hid (dg 10000 (nv 10000 xs).toNat = xs.take (m + 1)) := by
          rw [← hI.out]; exact (take_canon hD (by omega) HZ.out).symm
        go_wp2
        go_ret
        exact ⟨_, rfl, by rw [e.out]; exact Rd.take HC.out hm HX.out hk, rfl, rfl⟩
theorem trimmed_any (v : Value) (xs : List Int) (w : World) (hR : Rd w v xs) (hD : Dig 10000 xs) :
    Calls Tryz.prog 241 #[v] w fun e w' => ∃ v', e = .returned v' ∧ Rd w' v' (dg 10000 (nv 10000 xs).toNat) ∧ w' = w :=
  (trimmed_own v xs w hR hD).mono fun _ _ ⟨v', h1, h2, h3, _⟩ => ⟨v', h1, h2, h3⟩

end Go.Proofs.YtffndcjmabjhiaaGreatDoor

namespace Go.Proofs.YtffndcjmabjhiaaGreatDoor.Num

/-- The value of the groups d k, d (k + 1), .., f of them. -/
def S (d : Nat → Int) (k : Nat) : Nat → Int
  | 0 => 0
  | f + 1 => d k + 10000 * S d (k + 1) f

/-- After k groups, carry c, digits ys: what is to come makes T. -/
structure FI (d : Nat → Int) (n : Nat) (T : Int) (k : Nat) (c : Int) (ys : List Int) : Prop where
  len : ys.length = k
  dig : Dig 10000 ys
  lo : -1 ≤ c
  hi : c ≤ 10001
  val : nv 10000 ys + (10000 : Int) ^ k * (c + S d k (n - k)) = T
  k2 : k ≤ n + 2
  c1 : n < k → c ≤ 1
  c0 : n + 1 < k → c ≤ 0

theorem FI.start (d : Nat → Int) (n : Nat) : FI d n (S d 0 n) 0 0 [] :=
  ⟨rfl, Dig.nil _, by omega, by omega, by simp [nv], by omega, fun h => by omega, fun h => by omega⟩

theorem FI.nonneg {d : Nat → Int} {n : Nat} {T : Int} {k : Nat} {c : Int} {ys : List Int} (h : FI d n T k c ys) (hT : 0 ≤ T) (hk : n ≤ k) : 0 ≤ c := by
  rcases Int.lt_or_le c 0 with h1 | h1
  · have h2 := h.val
    rw [show n - k = 0 by omega, S, Int.add_zero] at h2
    have h3 := nv_lt h.dig
    rw [h.len] at h3
    have hp : 0 ≤ (10000 : Int) ^ k := Int.pow_nonneg (by omega)
    have h4 : (10000 : Int) ^ k * c ≤ (10000 : Int) ^ k * (-1) := Int.mul_le_mul_of_nonneg_left (by omega) hp
    have e : ((10000 : Nat) : Int) ^ k = (10000 : Int) ^ k := rfl
    rw [e] at h3
    omega
  · exact h1

theorem FI.step {d : Nat → Int} {n : Nat} {T : Int} {k : Nat} {c q r : Int} {ys : List Int} (h : FI d n T k c ys) (hT : 0 ≤ T)
    (hd : -9999 ≤ d k ∧ d k ≤ 100000000) (hz : n ≤ k → d k = 0) (hgo : k < n ∨ c ≠ 0) (hr0 : 0 ≤ r) (hr1 : r < 10000) (hs : d k + c = r + 10000 * q) : FI d n T (k + 1) q (ys ++ [r]) := by
  have hc := h.lo
  have hc2 := h.hi
  have hcn := h.nonneg hT
  have k2 := h.k2
  have c1 := h.c1
  have c0 := h.c0
  refine ⟨by rw [List.length_append, h.len]; rfl, h.dig.append (Dig.one hr0 hr1), by omega, by omega, ?_, ?_, ?_, ?_⟩
  · rw [nv_snoc, h.len, ← h.val]
    have e : ((10000 : Nat) : Int) ^ k = (10000 : Int) ^ k := rfl
    rw [e, Int.pow_succ]
    have hS : S d k (n - k) = d k + 10000 * S d (k + 1) (n - (k + 1)) := by
      rcases Nat.lt_or_ge k n with h1 | h1
      · rw [show n - k = (n - (k + 1)) + 1 by omega]; rfl
      · rw [show n - k = 0 by omega, show n - (k + 1) = 0 by omega, hz h1]; simp [S]
    rw [hS]
    generalize S d (k + 1) (n - (k + 1)) = s
    generalize (10000 : Int) ^ k = p
    rw [show c + (d k + 10000 * s) = r + 10000 * (q + s) by omega, Int.mul_add p r, Int.mul_assoc p 10000 (q + s)]
    omega
  · rcases Nat.lt_or_ge k n with h1 | h1
    · omega
    · have := hcn h1
      omega
  · intro h1
    rcases Nat.lt_or_ge k n with h2 | h2
    · omega
    · have := hz h2; omega
  · intro h1
    have := hz (by omega)
    have := hcn (by omega)
    have := c1 (by omega)
    omega

theorem FI.done {d : Nat → Int} {n : Nat} {T : Int} {k : Nat} {ys : List Int} (h : FI d n T k 0 ys) (hk : n ≤ k) : nv 10000 ys = T := by
  have h2 := h.val
  rw [show n - k = 0 by omega, S] at h2
  simpa using h2

/-- The measure goes down. -/
theorem FI.bound {d : Nat → Int} {n : Nat} {T : Int} {k : Nat} {c : Int} {ys : List Int} (h : FI d n T k c ys) (hT : 0 ≤ T) (hgo : k < n ∨ c ≠ 0) : k ≤ n + 1 := by
  have k2 := h.k2
  have c0 := h.c0
  have hcn := h.nonneg hT
  omega

/-! ### What the three folds come to -/
theorem S_add (f g : Nat → Int) (k : Nat) : ∀ m, S (fun i => f i + g i) k m = S f k m + S g k m := by
  intro m
  induction m generalizing k with
  | zero => rfl
  | succ m ih => simp only [S, ih]; omega
theorem S_sub (f g : Nat → Int) (k : Nat) : ∀ m, S (fun i => f i - g i) k m = S f k m - S g k m := by
  intro m
  induction m generalizing k with
  | zero => rfl
  | succ m ih => simp only [S, ih]; omega
theorem S_mul (f : Nat → Int) (c : Int) (k : Nat) : ∀ m, S (fun i => f i * c) k m = S f k m * c := by
  intro m
  induction m generalizing k with
  | zero => simp [S]
  | succ m ih => simp only [S, ih]; rw [Int.add_mul, Int.mul_assoc]
theorem S_list : ∀ (l : List Int) (k m : Nat), l.length ≤ k + m → S (fun i => l[i]?.getD 0) k m = nv 10000 (l.drop k) := by
  intro l k m
  induction m generalizing k with
  | zero => intro h; rw [List.drop_of_length_le (by omega)]; rfl
  | succ m ih =>
    intro h
    simp only [S]
    rw [ih (k + 1) (by omega)]
    rcases Nat.lt_or_ge k l.length with h1 | h1
    · rw [List.drop_eq_getElem_cons h1, nv, List.getElem?_eq_getElem h1]; rfl
    · rw [List.drop_of_length_le (by omega), List.drop_of_length_le (by omega), List.getElem?_eq_none (by omega)]; rfl
theorem S_dg (a m : Nat) (h : (dg 10000 a).length ≤ m) : S (fun i => (dg 10000 a)[i]?.getD 0) 0 m = a := by
  rw [S_list _ _ _ (by omega), List.drop_zero, nv_dg (by omega)]

theorem dgat (a i : Nat) : 0 ≤ (dg 10000 a)[i]?.getD 0 ∧ (dg 10000 a)[i]?.getD 0 ≤ 9999 := by
  have := (dig_dg (B := 10000) (by omega) a).getD (by omega) i
  rw [List.getD_eq_getElem?_getD] at this
  omega
theorem dgout {a i : Nat} (h : (dg 10000 a).length ≤ i) : (dg 10000 a)[i]?.getD 0 = 0 := by
  rw [List.getElem?_eq_none h]; rfl

end Go.Proofs.YtffndcjmabjhiaaGreatDoor.Num

namespace Go.Proofs.YtffndcjmabjhiaaGreatDoor
open Go.RowKit Num
open Go.Shelf

theorem Rd.drewN {w : World} {v : Value} {xs : List Int} (h : Rd w v xs) (n : Nat) : Rd (w.drewN n) v xs := h.below (below_drewN (Below.refl _ _) n)

set_option maxHeartbeats 400000 in
theorem plus1_any (v u : Value) (xs ys : List Int) (bl bm i : Nat) (w : World) (hv : w.cell? ⟨bl, 0, none⟩ = some v) (hu : w.cell? ⟨bm, 0, none⟩ = some u)
    (hx : Rd w v xs) (hy : Rd w u ys) (hi : i ≤ 100000000) (h1 : 0 ≤ xs[i]?.getD 0 ∧ xs[i]?.getD 0 ≤ 9999) (h2 : 0 ≤ ys[i]?.getD 0 ∧ ys[i]?.getD 0 ≤ 9999) :
    Calls Tryz.prog 246 #[.int .i64 i, .pointer (some ⟨bl, 0, none⟩), .pointer (some ⟨bm, 0, none⟩)] w fun e w' => e = .returned (.int .i64 (xs[i]?.getD 0 + ys[i]?.getD 0)) ∧ ∃ n, w' = w.drewN n := by
  have c1 : ∀ n, Calls Tryz.prog 247 #[v, .int .i64 i] (w.drewN n) fun e w' => e = .returned (.int .i64 (xs[i]?.getD 0)) ∧ w' = w.drewN n := fun n => at_any v xs i _ (hx.drewN n) hi
  have c2 : ∀ n, Calls Tryz.prog 247 #[u, .int .i64 i] (w.drewN n) fun e w' => e = .returned (.int .i64 (ys[i]?.getD 0)) ∧ w' = w.drewN n := fun n => at_any u ys i _ (hy.drewN n) hi
  generalize xs[i]?.getD 0 = x at h1 c1 ⊢
  generalize ys[i]?.getD 0 = y at h2 c2 ⊢
  have C1 := Lib.hid c1
  have C2 := Lib.hid c2
  obtain ⟨h1, h1'⟩ := h1
  obtain ⟨h2, h2'⟩ := h2
  clear c1 c2 hx hy
  go_enter Tryz.func246, Tryz.ntmps246
  go_wp2
  go_quiet ((go_at_call 247; first | with_reducible exact Calls.quiet_of_same (C1.out _) | with_reducible exact Calls.quiet_of_same (C2.out _)))
  go_wp2
  go_ret
  exact ⟨rfl, _, rfl⟩

set_option maxHeartbeats 400000 in
theorem minus1_any (v u : Value) (xs ys : List Int) (bl bm i : Nat) (w : World) (hv : w.cell? ⟨bl, 0, none⟩ = some v) (hu : w.cell? ⟨bm, 0, none⟩ = some u)
    (hx : Rd w v xs) (hy : Rd w u ys) (hi : i ≤ 100000000) (h1 : 0 ≤ xs[i]?.getD 0 ∧ xs[i]?.getD 0 ≤ 9999) (h2 : 0 ≤ ys[i]?.getD 0 ∧ ys[i]?.getD 0 ≤ 9999) :
    Calls Tryz.prog 248 #[.int .i64 i, .pointer (some ⟨bl, 0, none⟩), .pointer (some ⟨bm, 0, none⟩)] w fun e w' => e = .returned (.int .i64 (xs[i]?.getD 0 - ys[i]?.getD 0)) ∧ ∃ n, w' = w.drewN n := by
  have c1 : ∀ n, Calls Tryz.prog 247 #[v, .int .i64 i] (w.drewN n) fun e w' => e = .returned (.int .i64 (xs[i]?.getD 0)) ∧ w' = w.drewN n := fun n => at_any v xs i _ (hx.drewN n) hi
  have c2 : ∀ n, Calls Tryz.prog 247 #[u, .int .i64 i] (w.drewN n) fun e w' => e = .returned (.int .i64 (ys[i]?.getD 0)) ∧ w' = w.drewN n := fun n => at_any u ys i _ (hy.drewN n) hi
  generalize xs[i]?.getD 0 = x at h1 c1 ⊢
  generalize ys[i]?.getD 0 = y at h2 c2 ⊢
  have C1 := Lib.hid c1
  have C2 := Lib.hid c2
  obtain ⟨h1, h1'⟩ := h1
  obtain ⟨h2, h2'⟩ := h2
  clear c1 c2 hx hy
  go_enter Tryz.func248, Tryz.ntmps248
  go_wp2
  go_quiet ((go_at_call 247; first | with_reducible exact Calls.quiet_of_same (C1.out _) | with_reducible exact Calls.quiet_of_same (C2.out _)))
  go_wp2
  go_ret
  exact ⟨rfl, _, rfl⟩

set_option maxHeartbeats 400000 in
theorem by1_any (v : Value) (xs : List Int) (q : Int) (bl bn i : Nat) (w : World) (hv : w.cell? ⟨bl, 0, none⟩ = some v) (hu : w.cell? ⟨bn, 0, none⟩ = some (.int .i64 q))
    (hx : Rd w v xs) (hi : i ≤ 100000000) (h1 : 0 ≤ xs[i]?.getD 0 ∧ xs[i]?.getD 0 ≤ 9999) (h2 : 0 ≤ q ∧ q ≤ 9999) :
    Calls Tryz.prog 301 #[.int .i64 i, .pointer (some ⟨bl, 0, none⟩), .pointer (some ⟨bn, 0, none⟩)] w fun e w' => e = .returned (.int .i64 (xs[i]?.getD 0 * q)) ∧ ∃ n, w' = w.drewN n := by
  have c1 : ∀ n, Calls Tryz.prog 247 #[v, .int .i64 i] (w.drewN n) fun e w' => e = .returned (.int .i64 (xs[i]?.getD 0)) ∧ w' = w.drewN n := fun n => at_any v xs i _ (hx.drewN n) hi
  generalize xs[i]?.getD 0 = x at h1 c1 ⊢
  have C1 := Lib.hid c1
  have hw : IntKind.i64.wrap (x * q) = x * q := by
    have a1 : 0 ≤ x * q := Int.mul_nonneg h1.1 h2.1
    have a2 : x * q ≤ 9999 * 9999 := Int.mul_le_mul h1.2 h2.2 h2.1 (by omega)
    exact IntWalk.i64_in _ (by omega)
  clear c1 hx h1 h2
  go_enter Tryz.func301, Tryz.ntmps301
  go_wp2
  go_quiet ((go_at_call 247; with_reducible exact Calls.quiet_of_same (C1.out _)))
  go_wp2
  go_ret
  exact ⟨rfl, _, rfl⟩

theorem Tryz.info3 : (Tryz.prog.info? 3).map (fun i => (i.zero, i.size, i.bytes)) = some (some (.int .i64 0), 1, 8) := by kernel_rfl

/-- A row of numbers, appended to by one of a new block. -/
theorem app_one {w : World} {ops : Array Oper} {rest : List Oper} {o : Oper} {a : Act} {Q : Exit → Act → World → Prop} (hgd : o.guard = none) (s x : Operand)
    (ho : o.op = .call { callee := .builtin .append, args := #[s, x], argTypes := #[213, 213] }) (B : Nat) (v : Value) (ys : List Int) (r : Int) (hs : a.eval s = v)
    (hown : w.ownsRow B 3 1 v ys.length (ys.map (Value.int .i64))) (hx : a.eval x = .slice (some ⟨w.heap.size, 0, none⟩) 1 1) (hl : ys.length ≤ 1000000) (hB : B ≤ w.heap.size)
    (h : ∀ v' w', w'.ownsRow B 3 1 v' (ys ++ [r]).length ((ys ++ [r]).map (Value.int .i64)) → (∀ b W, Below b W w → b ≤ B → Below b W w') → wpList Tryz.prog ops Q rest (a.put o.dst v') w') :
    wpList Tryz.prog ops Q (o :: rest) a (w.alloc (.cells #[.int .i64 r] 3)) := by
  obtain ⟨i0, hi, hz0, hz1, hz2⟩ := info_parts Tryz.info3
  refine wpList_append_own _ hgd s x 213 ho B 3 i0 (.int .i64 0) 1 8 Tryz.underlying213 hi hz0 hz1 hz2 rfl (by decide) v ys.length _ hs (hown.alloc _) ⟨w.heap.size, 0, none⟩ 1 1 [.int .i64 r] hx rfl (cell_one_new _ _ _) ?_ ?_ ?_ ?_ ?_
  · intro u hu; simp at hu; subst hu; rfl
  · unfold maxLen; omega
  · omega
  · simp; omega
  · intro v' w' hown' hg _
    refine h v' w' (by simpa using hown') (fun b W hb hbB => ?_)
    exact (hb.alloc (by omega) _).grown hg (by simp; omega) (fun k hk => by have := (hown.lt k hk).1; omega)

set_option maxHeartbeats 1000000 in
set_option maxRecDepth 100000 in
theorem fold_any (g : Nat) (cb : Array Value) (n : Nat) (d : Nat → Int) (w : World) (eg : ∀ args w, (callFunc g args).run Tryz.prog w = .ok (.enter g args) w) (hn : n ≤ 900000) (hT : 0 ≤ S d 0 n)
    (hd : ∀ k, -9999 ≤ d k ∧ d k ≤ 100000000) (hz : ∀ k, n ≤ k → d k = 0)
    (hf : ∀ (i : Nat) (W : World), i ≤ 1000000 → Below w.heap.size w W → Calls Tryz.prog g (#[.int .i64 i] ++ cb) W fun e w' => e = .returned (.int .i64 (d i)) ∧ ∃ m, w' = W.drewN m) :
    Calls Tryz.prog 245 #[.int .i64 n, .int .i64 0, .func (.func g) #[] cb] w (RetL w fun ys => Dig 10000 ys ∧ nv 10000 ys = S d 0 n) := by
  obtain ⟨i0, hi, hz0, hz1, hz2⟩ := info_parts Tryz.info3
  have HT := Lib.hid hT
  have HD := Lib.hid hd
  have HZ := Lib.hid hz
  have HF := Lib.hid hf
  have HS := Lib.hid (FI.start d n)
  clear hT hd hz hf
  generalize S d 0 n = T at HT HS ⊢
  go_enter Tryz.func245, Tryz.ntmps245
  go_wp2_with (at_make; refine wpList_make_own _ rfl _ _ 213 rfl w.heap.size 3 i0 (.int .i64 0) 1 Tryz.underlying213 hi hz0 hz1 _ _ _ (n + 1) rfl rfl (by omega) ?b2 ?b3 (Nat.le_refl _) ?_)
  case b2 => rw [hz2]; omega
  case b3 => unfold maxLen; omega
  intro w0 hown0 hgrow0
  go_wp2
  go_loopw [1, 7, 8] (fun sc so si wr => ∃ (k : Nat) (c : Int) (ys : List Int), si = .int .i64 k ∧ sc = .int .i64 c ∧ wr.ownsRow w.heap.size 3 1 so ys.length (ys.map (Value.int .i64)) ∧ Hid (FI d n T k c ys) ∧ Below w.heap.size w wr)
    (fun _ _ si _ => n + 3 - (intOf si).toNat)
  case atStart => exact ⟨0, 0, [], rfl, rfl, hown0, HS.out, (Below.refl _ _).grown hgrow0 (Nat.le_refl _) (fun k h => by cases h)⟩
  case round =>
    obtain ⟨k, c, ys, rfl, rfl, hown, hI, hnx⟩ := hrel
    have HL := Lib.hid hI.out.len
    have hlo := hI.out.lo
    have hhi := hI.out.hi
    have hk2 := hI.out.k2
    by_cases hfin : n ≤ k ∧ c = 0
    · obtain ⟨hk, rfl⟩ := hfin
      have h1 : ¬ (k : Int) < (n : Int) := by omega
      go_wp2
      go_ret
      exact ⟨_, ys, rfl, Rd.own hown (by rw [HL.out]; omega), ⟨hI.out.dig, hI.out.done hk⟩, hnx⟩
    · have hgo : k < n ∨ c ≠ 0 := by omega
      have hkb := hI.out.bound HT.out hgo
      have hst : ∀ q r : Int, 0 ≤ r → r < 10000 → d k + c = r + 10000 * q → FI d n T (k + 1) q (ys ++ [r]) := fun q r h0 h1 h2 => hI.out.step HT.out (HD.out k) (HZ.out k) hgo h0 h1 h2
      have HST := Lib.hid hst
      have hcall := HF.out k wr (by omega) hnx
      have hdk := HD.out k
      have hl6 : ys.length ≤ 1000000 := by rw [HL.out]; omega
      generalize d k = x at HST hcall hdk
      obtain ⟨hd1, hd2⟩ := hdk
      clear hst HF HD HZ HT HS hI HL hfin
      have HC := Lib.hid hcall
      clear hcall
      have hkk : k < n ∨ (n ≤ k ∧ (c == 0) = false ∧ (c != 0) = true) := by
        rcases hgo with h | h
        · exact .inl h
        · rcases Nat.lt_or_ge k n with h1 | h1
          · exact .inl h1
          · exact .inr ⟨h1, by simpa using h, by simpa using h⟩
      clear hgo
      rcases hkk with hkn | ⟨hkn, hc1, hc2⟩
      all_goals
        rcases Int.lt_or_le (x + c) 0 with hs | hs
        · first
          | have hkn' : (k : Int) < (n : Int) := by omega
            skip
          | have hkn' : ¬ (k : Int) < (n : Int) := by omega
            skip
          go_wp2_with (first | (go_at_fn g; refine HC.out.mono ?_; rintro e w' ⟨rfl, m, rfl⟩) | (at_builtin; refine app_one rfl (.tmp 37) (.tmp 39) rfl w.heap.size _ ys (x + c + 10000) rfl (w := wr.drewN m) hown rfl hl6 (by have := hnx.size; exact this) ?_; intro v' w1 hown1 hb1))
          go_roundw
          case rel => exact ⟨k + 1, -1, ys ++ [x + c + 10000], by go_num, rfl, hown1, HST.out _ _ (by omega) (by omega) (by omega), hb1 _ _ (below_drewN hnx m) (Nat.le_refl _)⟩
          case measure => simp [intOf]; omega
        · rcases Int.lt_or_le (x + c) 10000 with hs2 | hs2
          · go_wp2_with (first | (go_at_fn g; refine HC.out.mono ?_; rintro e w' ⟨rfl, m, rfl⟩) | (at_builtin; refine app_one rfl (.tmp 37) (.tmp 39) rfl w.heap.size _ ys (x + c) rfl (w := wr.drewN m) hown rfl hl6 (by have := hnx.size; exact this) ?_; intro v' w1 hown1 hb1))
            go_roundw
            case rel => exact ⟨k + 1, 0, ys ++ [x + c], by go_num, rfl, hown1, HST.out _ _ (by omega) (by omega) (by omega), hb1 _ _ (below_drewN hnx m) (Nat.le_refl _)⟩
            case measure => simp [intOf]; omega
          · go_wp2_with (first | (go_at_fn g; refine HC.out.mono ?_; rintro e w' ⟨rfl, m, rfl⟩) | (at_builtin; refine app_one rfl (.tmp 37) (.tmp 39) rfl w.heap.size _ ys ((x + c) % 10000) rfl (w := wr.drewN m) hown rfl hl6 (by have := hnx.size; exact this) ?_; intro v' w1 hown1 hb1))
            go_roundw
            case rel => exact ⟨k + 1, (x + c) / 10000, ys ++ [(x + c) % 10000], by go_num, rfl, hown1, HST.out _ _ (by omega) (by omega) (by omega), hb1 _ _ (below_drewN hnx m) (Nat.le_refl _)⟩
            case measure => simp [intOf]; omega

end Go.Proofs.YtffndcjmabjhiaaGreatDoor

namespace Go.Proofs.YtffndcjmabjhiaaGreatDoor
open Go.RowKit Num

theorem nv10_drop0 {xs : List Int} {m : Nat} (hm : m < xs.length) (h : xs[m]?.getD 0 = 0) : nv 10 (xs.take (m + 1)) = nv 10 (xs.take m) := by
  rw [List.take_succ_eq_append_getElem hm, nv_snoc]
  rw [List.getElem?_eq_getElem hm] at h
  simp only [Option.getD_some] at h
  rw [h]; simp
theorem take10_canon {xs : List Int} {m : Nat} (hD : Dig 10 xs) (hm : m < xs.length) (h : xs[m]?.getD 0 ≠ 0) : xs.take (m + 1) = dg 10 (nv 10 (xs.take (m + 1))).toNat := by
  refine canon (by omega) _ (hD.take _) ?_
  rw [List.take_succ_eq_append_getElem hm, List.getLast?_append]
  rw [List.getElem?_eq_getElem hm] at h
  simpa using h

set_option maxHeartbeats 400000 in
theorem trim_own (v : Value) (xs : List Int) (w : World) (hR : Rd w v xs) (hD : Dig 10 xs) :
    Calls Tryz.prog 321 #[v] w fun e w' => ∃ v', e = .returned v' ∧ Rd w' v' (dg 10 (nv 10 xs).toNat) ∧ w' = w ∧ v'.ownBlock = v.ownBlock := by
  obtain ⟨A, c, rfl, hc, hm, hx⟩ := hR
  have HC := Lib.hid hc
  replace hc := hc.1
  go_enter Tryz.func321, Tryz.ntmps321
  go_wp2
  go_loop [0] (fun s => ∃ k : Nat, k ≤ xs.length ∧ s = .slice A k c ∧ Hid (nv 10 (xs.take k) = nv 10 xs)) (fun s => match s with | .slice _ n _ => n | _ => 0)
  case atStart => exact ⟨xs.length, Nat.le_refl _, rfl, by rw [List.take_length]; exact rfl⟩
  case round =>
    obtain ⟨k, hk, rfl, hI⟩ := hrel
    rcases Nat.eq_zero_or_pos k with rfl | h0
    · go_wp2
      go_ret
      have e : dg 10 (nv 10 xs).toNat = xs.take 0 := by
        rw [← hI.out]; simp [nv, dg_zero]
      exact ⟨_, rfl, by rw [e]; exact Rd.take HC.out hm hx hk, rfl, by cases A <;> rfl⟩
    · obtain ⟨m, rfl⟩ : ∃ m, k = m + 1 := ⟨k - 1, by omega⟩
      clear h0
      obtain ⟨b, o, rfl, hy⟩ := hx (by omega)
      have hcell := hy m (by omega)
      have HX := Lib.hid hx
      have HY := Lib.hid hy
      clear hx hy
      by_cases hz : xs[m]?.getD 0 = 0
      · have HZ := Lib.hid hz
        rw [hz] at hcell
        clear hz
        go_wp2
        go_round
        case rel => exact ⟨m, by omega, rfl, (nv10_drop0 (by omega) HZ.out).symm.trans hI.out⟩
        case measure => simp
      · have HZ := Lib.hid hz
        have hb : (xs[m]?.getD 0 == 0) = false := by simpa using hz
        clear hz
        have e : Hid (dg 10 (nv 10 xs).toNat = xs.take (m + 1)) := by
          rw [← hI.out]; exact (take10_canon hD (by omega) HZ.out).symm
        go_wp2
        go_ret
        exact ⟨_, rfl, by rw [e.out]; exact Rd.take HC.out hm HX.out hk, rfl, rfl⟩

end Go.Proofs.YtffndcjmabjhiaaGreatDoor

namespace Go.Proofs.YtffndcjmabjhiaaGreatDoor
open Go.RowKit Num
open Go.Shelf

/-- A bound on all numbers that are met. -/
def big : Nat := 10000 ^ 200
theorem dg_big {n : Nat} (h : n < big) : (dg 10000 n).length ≤ 200 := dg_len (by omega) 200 n (by unfold big at h; exact h)

theorem cell_new1 (w : World) (v : Value) (t : TypeId) : (w.alloc (.cells #[v] t)).cell? ⟨w.heap.size, 0, none⟩ = some v := by
  rw [World.cell?_alloc_at _ _ _ _ rfl]; rfl
theorem below1 (w : World) (o : Obj) : Below w.heap.size w (w.alloc o) := (Below.refl _ _).alloc (Nat.le_refl _) o
theorem cell_up {w : World} {a : Addr} {v : Value} (o : Obj) (h : w.cell? a = some v) : (w.alloc o).cell? a = some v :=
  ((below1 w o).cell (cell_lt h)).trans h
theorem below2 (w : World) (o o' : Obj) : Below w.heap.size w ((w.alloc o).alloc o') := (below1 w o).alloc (by simp) o'

set_option maxHeartbeats 400000 in
theorem plus_any (a b : Nat) (v u : Value) (w : World) (hv : Rd w v (dg 10000 a)) (hu : Rd w u (dg 10000 b)) (hs : a + b < big) :
    Calls Tryz.prog 162 #[v, u] w (RetN w (a + b)) := by
  have hla := dg_big (show a < big by omega)
  have hlb := dg_big (show b < big by omega)
  obtain ⟨W, hW⟩ : ∃ W, W = (w.alloc (.cells #[v] 213)).alloc (.cells #[u] 213) := ⟨_, rfl⟩
  have hb : Below w.heap.size w W := by rw [hW]; exact below2 _ _ _
  have cv : W.cell? ⟨w.heap.size, 0, none⟩ = some v := by rw [hW]; exact cell_up _ (cell_new1 _ _ _)
  have cu : W.cell? ⟨w.heap.size + 1, 0, none⟩ = some u := by rw [hW]; have := cell_new1 (w.alloc (.cells #[v] 213)) u 213; rwa [World.size_alloc] at this
  have eS : S (fun i => (dg 10000 a)[i]?.getD 0 + (dg 10000 b)[i]?.getD 0) 0 (max (dg 10000 a).length (dg 10000 b).length) = ((a + b : Nat) : Int) := by
    rw [S_add, S_dg _ _ (by omega), S_dg _ _ (by omega)]; omega
  have F := fold_any 246 #[.pointer (some ⟨w.heap.size, 0, none⟩), .pointer (some ⟨w.heap.size + 1, 0, none⟩)] (max (dg 10000 a).length (dg 10000 b).length)
    (fun i => (dg 10000 a)[i]?.getD 0 + (dg 10000 b)[i]?.getD 0) W (enters_of Tryz.func246 (by kernel_rfl) rfl) (by omega) (by rw [eS]; omega)
    (fun k => by have := dgat a k; have := dgat b k; omega) (fun k hk => by show _ + _ = _; rw [dgout (by omega), dgout (by omega)]; rfl)
    (fun i W1 hi hW1 => plus1_any v u _ _ _ _ i W1 ((hW1.cell (cell_lt cv)).trans cv) ((hW1.cell (cell_lt cu)).trans cu) (hv.below (below_up hb hW1)) (hu.below (below_up hb hW1)) (by omega) (dgat a i) (dgat b i))
  rw [eS] at F
  subst hW
  obtain ⟨A, c, rfl, _, _, _⟩ := hv
  obtain ⟨A', c', rfl, _, _, _⟩ := hu
  have HF := Lib.hid F
  have HB := Lib.hid hb
  generalize (dg 10000 a).length = la at *
  generalize (dg 10000 b).length = lb at *
  clear F hb cv cu eS
  clear hs
  rcases Nat.lt_or_ge la lb with h | h
  · rw [Nat.max_eq_right (by omega)] at HF
    go_enter Tryz.func162, Tryz.ntmps162
    go_wp2_with (first | (go_at_call 245; refine HF.out.mono ?_; rintro e W1 ⟨v1, ys, rfl, hr1, ⟨hd1, hv1⟩, hb1⟩) | (go_at_call 241; refine (trimmed_any v1 ys W1 hr1 hd1).mono ?_; rintro e W2 ⟨v2, rfl, hr2, rfl⟩))
    go_ret
    exact ⟨v2, rfl, by rw [hv1] at hr2; exact hr2, below_up HB.out hb1⟩
  · rw [Nat.max_eq_left (by omega)] at HF
    go_enter Tryz.func162, Tryz.ntmps162
    go_wp2_with (first | (go_at_call 245; refine HF.out.mono ?_; rintro e W1 ⟨v1, ys, rfl, hr1, ⟨hd1, hv1⟩, hb1⟩) | (go_at_call 241; refine (trimmed_any v1 ys W1 hr1 hd1).mono ?_; rintro e W2 ⟨v2, rfl, hr2, rfl⟩))
    go_ret
    exact ⟨v2, rfl, by rw [hv1] at hr2; exact hr2, below_up HB.out hb1⟩

set_option maxHeartbeats 400000 in
theorem minus_any (a b : Nat) (v u : Value) (w : World) (hv : Rd w v (dg 10000 a)) (hu : Rd w u (dg 10000 b)) (hs : a < big) (hba : b ≤ a) :
    Calls Tryz.prog 164 #[v, u] w (RetN w (a - b)) := by
  have hla := dg_big hs
  have hlb : (dg 10000 b).length ≤ (dg 10000 a).length := by
    rcases Nat.lt_or_ge (dg 10000 a).length (dg 10000 b).length with h | h
    · have := lt_of_len (by omega) h; omega
    · exact h
  obtain ⟨W, hW⟩ : ∃ W, W = (w.alloc (.cells #[v] 213)).alloc (.cells #[u] 213) := ⟨_, rfl⟩
  have hb : Below w.heap.size w W := by rw [hW]; exact below2 _ _ _
  have cv : W.cell? ⟨w.heap.size, 0, none⟩ = some v := by rw [hW]; exact cell_up _ (cell_new1 _ _ _)
  have cu : W.cell? ⟨w.heap.size + 1, 0, none⟩ = some u := by rw [hW]; have := cell_new1 (w.alloc (.cells #[v] 213)) u 213; rwa [World.size_alloc] at this
  have eS : S (fun i => (dg 10000 a)[i]?.getD 0 - (dg 10000 b)[i]?.getD 0) 0 (dg 10000 a).length = ((a - b : Nat) : Int) := by
    rw [S_sub, S_dg _ _ (by omega), S_dg _ _ (by omega)]; omega
  have F := fold_any 248 #[.pointer (some ⟨w.heap.size, 0, none⟩), .pointer (some ⟨w.heap.size + 1, 0, none⟩)] (dg 10000 a).length
    (fun i => (dg 10000 a)[i]?.getD 0 - (dg 10000 b)[i]?.getD 0) W (enters_of Tryz.func248 (by kernel_rfl) rfl) (by omega) (by rw [eS]; omega)
    (fun k => by have := dgat a k; have := dgat b k; omega) (fun k hk => by show _ - _ = _; rw [dgout (by omega), dgout (by omega)]; rfl)
    (fun i W1 hi hW1 => minus1_any v u _ _ _ _ i W1 ((hW1.cell (cell_lt cv)).trans cv) ((hW1.cell (cell_lt cu)).trans cu) (hv.below (below_up hb hW1)) (hu.below (below_up hb hW1)) (by omega) (dgat a i) (dgat b i))
  rw [eS] at F
  subst hW
  obtain ⟨A, c, rfl, _, _, _⟩ := hv
  obtain ⟨A', c', rfl, _, _, _⟩ := hu
  have HF := Lib.hid F
  have HB := Lib.hid hb
  generalize (dg 10000 a).length = la at *
  generalize (dg 10000 b).length = lb at *
  clear F hb cv cu eS hs hba
  go_enter Tryz.func164, Tryz.ntmps164
  go_wp2_with (first | (go_at_call 245; refine HF.out.mono ?_; rintro e W1 ⟨v1, ys, rfl, hr1, ⟨hd1, hv1⟩, hb1⟩) | (go_at_call 241; refine (trimmed_any v1 ys W1 hr1 hd1).mono ?_; rintro e W2 ⟨v2, rfl, hr2, rfl⟩))
  go_ret
  exact ⟨v2, rfl, by rw [hv1] at hr2; exact hr2, below_up HB.out hb1⟩

set_option maxHeartbeats 400000 in
theorem by_any (a q : Nat) (v : Value) (w : World) (hv : Rd w v (dg 10000 a)) (hs : a < big) (hq : q ≤ 9999) :
    Calls Tryz.prog 242 #[v, .int .i64 q] w (RetN w (a * q)) := by
  have hla := dg_big hs
  obtain ⟨W, hW⟩ : ∃ W, W = (w.alloc (.cells #[v] 213)).alloc (.cells #[.int .i64 q] 3) := ⟨_, rfl⟩
  have hb : Below w.heap.size w W := by rw [hW]; exact below2 _ _ _
  have cv : W.cell? ⟨w.heap.size, 0, none⟩ = some v := by rw [hW]; exact cell_up _ (cell_new1 _ _ _)
  have cu : W.cell? ⟨w.heap.size + 1, 0, none⟩ = some (.int .i64 q) := by rw [hW]; have := cell_new1 (w.alloc (.cells #[v] 213)) (.int .i64 q) 3; rwa [World.size_alloc] at this
  have eS : S (fun i => (dg 10000 a)[i]?.getD 0 * (q : Int)) 0 (dg 10000 a).length = ((a * q : Nat) : Int) := by
    rw [S_mul, S_dg _ _ (by omega)]; omega
  have F := fold_any 301 #[.pointer (some ⟨w.heap.size, 0, none⟩), .pointer (some ⟨w.heap.size + 1, 0, none⟩)] (dg 10000 a).length
    (fun i => (dg 10000 a)[i]?.getD 0 * (q : Int)) W (enters_of Tryz.func301 (by kernel_rfl) rfl) (by omega) (by rw [eS]; omega)
    (fun k => by
      have h1 := dgat a k
      have a1 : 0 ≤ (dg 10000 a)[k]?.getD 0 * (q : Int) := Int.mul_nonneg h1.1 (by omega)
      have a2 : (dg 10000 a)[k]?.getD 0 * (q : Int) ≤ 9999 * 9999 := Int.mul_le_mul h1.2 (by omega) (by omega) (by omega)
      omega) (fun k hk => by show _ * _ = _; rw [dgout (by omega)]; simp)
    (fun i W1 hi hW1 => by1_any v _ q _ _ i W1 ((hW1.cell (cell_lt cv)).trans cv) ((hW1.cell (cell_lt cu)).trans cu) (hv.below (below_up hb hW1)) (by omega) (dgat a i) (by omega))
  rw [eS] at F
  subst hW
  obtain ⟨A, c, rfl, _, _, _⟩ := hv
  have HF := Lib.hid F
  have HB := Lib.hid hb
  generalize (dg 10000 a).length = la at *
  clear F hb cv cu eS hs
  go_enter Tryz.func242, Tryz.ntmps242
  go_wp2_with (first | (go_at_call 245; refine HF.out.mono ?_; rintro e W1 ⟨v1, ys, rfl, hr1, ⟨hd1, hv1⟩, hb1⟩) | (go_at_call 241; refine (trimmed_any v1 ys W1 hr1 hd1).mono ?_; rintro e W2 ⟨v2, rfl, hr2, rfl⟩))
  go_ret
  exact ⟨v2, rfl, by rw [hv1] at hr2; exact hr2, below_up HB.out hb1⟩

end Go.Proofs.YtffndcjmabjhiaaGreatDoor
