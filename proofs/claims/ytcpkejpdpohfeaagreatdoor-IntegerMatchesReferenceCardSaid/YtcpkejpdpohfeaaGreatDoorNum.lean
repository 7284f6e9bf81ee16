/- Numbers as lists of digits in a base, lowest digit first, and as decimal text: plain lemmas. No program. -/
import Derived.Lib.ItoaMem
import Derived.Lib.Atoi
import Derived.Lib.AtoiAll
namespace Go.Proofs.YtcpkejpdpohfeaaGreatDoor.Num
open Go.Lib (decDigits itoa)

/-! ### Lists of digits -/
def dg (B : Nat) (n : Nat) : List Int :=
  if _h : n = 0 ∨ B < 2 then [] else ((n % B : Nat) : Int) :: dg B (n / B)
termination_by n
decreasing_by exact Nat.div_lt_self (by omega) (by omega)

def nv (B : Nat) : List Int → Int
  | [] => 0
  | x :: xs => x + B * nv B xs

def Dig (B : Nat) (l : List Int) : Prop := ∀ x ∈ l, 0 ≤ x ∧ x < B

theorem dg_zero (B : Nat) : dg B 0 = [] := by rw [dg]; simp
theorem dg_pos {B n : Nat} (hB : 2 ≤ B) (hn : 0 < n) : dg B n = ((n % B : Nat) : Int) :: dg B (n / B) := by
  rw [dg, dif_neg (by omega)]
theorem dg_eq_nil {B n : Nat} (hB : 2 ≤ B) : dg B n = [] ↔ n = 0 := by
  constructor
  · intro h
    rcases Nat.eq_zero_or_pos n with h0 | h0
    · exact h0
    · rw [dg_pos hB h0] at h; cases h
  · rintro rfl; exact dg_zero B

theorem nv_dg {B : Nat} (hB : 2 ≤ B) (n : Nat) : nv B (dg B n) = n := by
  induction n using Nat.strongRecOn with
  | _ n ih =>
    rcases Nat.eq_zero_or_pos n with rfl | h0
    · rw [dg_zero]; rfl
    · rw [dg_pos hB h0, nv, ih (n / B) (Nat.div_lt_self h0 hB)]
      have := Nat.mod_add_div n B
      rw [← Int.natCast_mul, ← Int.natCast_add, this]

theorem dig_dg {B : Nat} (hB : 2 ≤ B) (n : Nat) : Dig B (dg B n) := by
  induction n using Nat.strongRecOn with
  | _ n ih =>
    rcases Nat.eq_zero_or_pos n with rfl | h0
    · rw [dg_zero]; intro x hx; cases hx
    · rw [dg_pos hB h0]
      intro x hx
      rcases List.mem_cons.1 hx with rfl | hx
      · have := Nat.mod_lt n (show 0 < B by omega); omega
      · exact ih _ (Nat.div_lt_self h0 hB) x hx

theorem Dig.nil (B : Nat) : Dig B [] := fun x hx => by cases hx
theorem Dig.tail {B : Nat} {x : Int} {l : List Int} (h : Dig B (x :: l)) : Dig B l := fun y hy => h y (List.mem_cons_of_mem _ hy)
theorem Dig.head {B : Nat} {x : Int} {l : List Int} (h : Dig B (x :: l)) : 0 ≤ x ∧ x < B := h x List.mem_cons_self
theorem Dig.append {B : Nat} {a b : List Int} (ha : Dig B a) (hb : Dig B b) : Dig B (a ++ b) := fun x hx => (List.mem_append.1 hx).elim (ha x) (hb x)
theorem Dig.one {B : Nat} {x : Int} (h0 : 0 ≤ x) (h1 : x < B) : Dig B [x] := fun y hy => by rw [List.mem_singleton] at hy; subst hy; exact ⟨h0, h1⟩
theorem Dig.take {B : Nat} {l : List Int} (h : Dig B l) (k : Nat) : Dig B (l.take k) := fun x hx => h x (List.mem_of_mem_take hx)
theorem Dig.drop {B : Nat} {l : List Int} (h : Dig B l) (k : Nat) : Dig B (l.drop k) := fun x hx => h x (List.mem_of_mem_drop hx)
theorem Dig.get {B : Nat} {l : List Int} (h : Dig B l) {i : Nat} (hi : i < l.length) : 0 ≤ l[i] ∧ l[i] < B := h _ (List.getElem_mem hi)
theorem Dig.getD {B : Nat} (hB : 0 < B) {l : List Int} (h : Dig B l) (i : Nat) : 0 ≤ l.getD i 0 ∧ l.getD i 0 < B := by
  rw [List.getD_eq_getElem?_getD]
  cases hi : l[i]? with
  | none => simp; omega
  | some x => exact h x (List.mem_of_getElem? hi)

theorem nv_nonneg {B : Nat} : ∀ {l : List Int}, Dig B l → 0 ≤ nv B l
  | [], _ => Int.le_refl _
  | x :: xs, h => by
    have h1 := nv_nonneg h.tail
    have h2 := h.head
    have h3 : 0 ≤ (B : Int) * nv B xs := Int.mul_nonneg (by omega) h1
    simp only [nv]; omega

theorem nv_lt {B : Nat} : ∀ {l : List Int}, Dig B l → nv B l < (B : Int) ^ l.length
  | [], _ => by simp [nv]
  | x :: xs, h => by
    have h1 := nv_lt h.tail
    have h2 := h.head
    have h3 : (B : Int) * (nv B xs + 1) ≤ (B : Int) * (B : Int) ^ xs.length := Int.mul_le_mul_of_nonneg_left (by omega) (by omega)
    rw [Int.mul_add, Int.mul_one] at h3
    simp only [nv, List.length_cons, Int.pow_succ]
    rw [Int.mul_comm ((B : Int) ^ xs.length)]
    omega

theorem nv_append {B : Nat} (b : List Int) : ∀ (a : List Int), nv B (a ++ b) = nv B a + (B : Int) ^ a.length * nv B b
  | [] => by simp [nv]
  | x :: xs => by
    simp only [List.cons_append, nv, nv_append b xs, List.length_cons, Int.pow_succ]
    rw [Int.mul_add, ← Int.mul_assoc, Int.mul_comm ((B : Int) ^ xs.length), Int.add_assoc]
theorem nv_snoc {B : Nat} (a : List Int) (x : Int) : nv B (a ++ [x]) = nv B a + (B : Int) ^ a.length * x := by
  rw [nv_append]; simp [nv]

theorem canon {B : Nat} (hB : 2 ≤ B) : ∀ (l : List Int), Dig B l → l.getLast? ≠ some 0 → l = dg B (nv B l).toNat
  | [], _, _ => by simp [nv, dg_zero]
  | [x], h, hl => by
    have h2 := h.head
    have hx : x ≠ 0 := by simpa using hl
    have e : (nv B [x]).toNat = x.toNat := by simp [nv]
    rw [e, dg_pos hB (by omega), Nat.mod_eq_of_lt (by omega), Nat.div_eq_of_lt (by omega), dg_zero]
    congr 1; omega
  | x :: y :: ys, h, hl => by
    have hl' : (y :: ys).getLast? ≠ some 0 := by simpa [List.getLast?_cons_cons] using hl
    have ih := canon hB (y :: ys) h.tail hl'
    have h2 := h.head
    have h3 := nv_nonneg h.tail
    obtain ⟨m, hm⟩ : ∃ m : Nat, nv B (y :: ys) = m := ⟨_, (Int.toNat_of_nonneg h3).symm⟩
    rw [hm, Int.toNat_natCast] at ih
    have hm0 : 0 < m := by
      rcases Nat.eq_zero_or_pos m with h0 | h0
      · rw [h0, dg_zero] at ih; cases ih
      · exact h0
    obtain ⟨k, rfl⟩ : ∃ k : Nat, x = k := ⟨_, (Int.toNat_of_nonneg h2.1).symm⟩
    have e : (nv B ((k : Int) :: y :: ys)).toNat = k + B * m := by
      rw [nv, hm, ← Int.natCast_mul, ← Int.natCast_add, Int.toNat_natCast]
    have hk : k < B := by omega
    have hBm : 0 < B * m := Nat.mul_pos (by omega) hm0
    rw [e, dg_pos hB (by omega), Nat.add_mul_mod_self_left, Nat.mod_eq_of_lt hk, Nat.add_mul_div_left _ _ (by omega), Nat.div_eq_of_lt hk, Nat.zero_add, ← ih]

theorem dg_last {B : Nat} (hB : 2 ≤ B) (n : Nat) : (dg B n).getLast? ≠ some 0 := by
  induction n using Nat.strongRecOn with
  | _ n ih =>
    rcases Nat.eq_zero_or_pos n with rfl | h0
    · rw [dg_zero]; simp
    · rw [dg_pos hB h0]
      rcases Nat.eq_zero_or_pos (n / B) with h1 | h1
      · rw [h1, dg_zero]
        have : n < B := by
          rcases Nat.lt_or_ge n B with h | h
          · exact h
          · have := Nat.div_pos h (by omega); omega
        rw [Nat.mod_eq_of_lt this]
        simp; omega
      · have ih := ih (n / B) (Nat.div_lt_self h0 hB)
        rw [dg_pos hB h1] at ih ⊢
        rw [List.getLast?_cons_cons]; exact ih

theorem nv_inj {B : Nat} (hB : 2 ≤ B) {a b : Nat} (h : dg B a = dg B b) : a = b := by
  have := nv_dg hB a; rw [h, nv_dg hB b] at this; omega

theorem dg_len {B : Nat} (hB : 2 ≤ B) : ∀ (k n : Nat), n < B ^ k → (dg B n).length ≤ k
  | 0, n, h => by
    have : n = 0 := by simpa using h
    subst this; rw [dg_zero]; exact Nat.le_refl _
  | k + 1, n, h => by
    rcases Nat.eq_zero_or_pos n with rfl | h0
    · rw [dg_zero]; exact Nat.zero_le _
    · rw [dg_pos hB h0, List.length_cons]
      have := dg_len hB k (n / B) (Nat.div_lt_of_lt_mul (by rw [Nat.pow_succ, Nat.mul_comm] at h; exact h))
      omega

theorem dg_len_lt {B : Nat} (hB : 2 ≤ B) (n : Nat) : n < B ^ (dg B n).length := by
  have h := nv_lt (dig_dg hB n)
  rw [nv_dg hB, ← Int.natCast_pow] at h
  exact Int.ofNat_lt.1 h

theorem dg_len_ge {B : Nat} (hB : 2 ≤ B) {n k : Nat} (h : k < (dg B n).length) : B ^ k ≤ n := by
  rcases Nat.lt_or_ge n (B ^ k) with h1 | h1
  · have := dg_len hB k n h1; omega
  · exact h1

/-- Of two lists of one length the one with the greater digit, above which they agree, is greater. -/
theorem nv_lt_of {B : Nat} {l m : List Int} (hl : Dig B l) (hm : Dig B m) (i : Nat) (h1 : i < l.length) (h2 : i < m.length) (hd : l.drop (i + 1) = m.drop (i + 1)) (hlt : l[i] < m[i]) : nv B l < nv B m := by
  have el : l = l.take i ++ (l[i] :: l.drop (i + 1)) := by rw [List.getElem_cons_drop, List.take_append_drop]
  have em : m = m.take i ++ (m[i] :: m.drop (i + 1)) := by rw [List.getElem_cons_drop, List.take_append_drop]
  have t1 := nv_lt (hl.take i)
  have t2 := nv_nonneg (hm.take i)
  rw [List.length_take, Nat.min_eq_left (by omega)] at t1
  have l1 : nv B l = nv B (l.take i) + (B : Int) ^ i * (l[i] + B * nv B (l.drop (i + 1))) := by
    conv => lhs; rw [el]
    rw [nv_append, nv, List.length_take, Nat.min_eq_left (by omega)]
  have m1 : nv B m = nv B (m.take i) + (B : Int) ^ i * (m[i] + B * nv B (m.drop (i + 1))) := by
    conv => lhs; rw [em]
    rw [nv_append, nv, List.length_take, Nat.min_eq_left (by omega)]
  rw [l1, m1, hd]
  generalize nv B (m.drop (i + 1)) = D
  generalize nv B (l.take i) = x at *
  generalize nv B (m.take i) = y at *
  generalize l[i] = p at *
  generalize m[i] = q at *
  have hp : 0 ≤ (B : Int) ^ i := Int.pow_nonneg (by omega)
  generalize (B : Int) ^ i = P at *
  have h3 : P * (p + 1 + B * D) ≤ P * (q + B * D) := Int.mul_le_mul_of_nonneg_left (by omega) hp
  rw [show p + 1 + B * D = (p + B * D) + 1 by omega, Int.mul_add, Int.mul_one] at h3
  omega

/-- The longer one of two canonical lists is greater. -/
theorem lt_of_len {B : Nat} (hB : 2 ≤ B) {a b : Nat} (h : (dg B a).length < (dg B b).length) : a < b :=
  Nat.lt_of_lt_of_le (dg_len_lt hB a) (dg_len_ge hB h)

/-! ### Decimal text -/
theorem dec_small {u : Nat} (h : u < 10) : decDigits u = [UInt8.ofNat (48 + u)] := by rw [decDigits, dif_pos h]
theorem dec_big {u : Nat} (h : ¬ u < 10) : decDigits u = decDigits (u / 10) ++ [UInt8.ofNat (48 + u % 10)] := by rw [decDigits, dif_neg h]

def isD (c : UInt8) : Bool := decide (48 ≤ c.toNat ∧ c.toNat ≤ 57)
def dval (l : List UInt8) : Nat := l.foldl (fun n c => 10 * n + (c.toNat - 48)) 0

theorem toNat_ch {d : Nat} (h : d < 10) : (UInt8.ofNat (48 + d)).toNat = 48 + d := by rw [UInt8.toNat_ofNat']; omega
theorem isD_ch {d : Nat} (h : d < 10) : isD (UInt8.ofNat (48 + d)) = true := by unfold isD; rw [toNat_ch h]; simp; omega

theorem dec_isD (u : Nat) : (decDigits u).all isD = true := by
  induction u using Nat.strongRecOn with
  | _ u ih =>
    by_cases h : u < 10
    · rw [dec_small h, List.all_cons, isD_ch h]; rfl
    · rw [dec_big h, List.all_append, ih _ (by omega), List.all_cons, isD_ch (show u % 10 < 10 by omega)]; rfl
theorem dec_ne (u : Nat) : decDigits u ≠ [] := by
  by_cases h : u < 10
  · rw [dec_small h]; simp
  · rw [dec_big h]; simp
theorem head_app {a b : List UInt8} (h : a ≠ []) : (a ++ b).head? = a.head? := by
  cases a with
  | nil => exact absurd rfl h
  | cons _ _ => rfl
theorem dec_head {u : Nat} (h0 : 0 < u) : (decDigits u).head? ≠ some 48 := by
  induction u using Nat.strongRecOn with
  | _ u ih =>
    by_cases h : u < 10
    · rw [dec_small h]
      simp only [List.head?_cons, ne_eq, Option.some.injEq]
      intro e
      have := congrArg UInt8.toNat e
      rw [toNat_ch h] at this
      have e48 : (48 : UInt8).toNat = 48 := rfl
      omega
    · rw [dec_big h]
      have := ih (u / 10) (by omega) (by omega)
      rw [head_app (dec_ne _)]
      exact this

theorem dval_foldl (l : List UInt8) : ∀ a : Nat, l.foldl (fun n c => 10 * n + (c.toNat - 48)) a = a * 10 ^ l.length + dval l := by
  induction l with
  | nil => intro a; simp [dval]
  | cons c l ih =>
    intro a
    simp only [List.foldl_cons, dval, List.length_cons]
    rw [ih, ih (10 * 0 + (c.toNat - 48)), Nat.pow_succ]
    simp only [Nat.mul_zero, Nat.zero_add]
    rw [Nat.add_mul, Nat.mul_comm 10 a, Nat.mul_assoc, Nat.mul_comm 10]
    omega
theorem dval_append (a b : List UInt8) : dval (a ++ b) = dval a * 10 ^ b.length + dval b := by
  conv => lhs; unfold dval
  rw [List.foldl_append, dval_foldl]
  rfl
theorem dval_one (c : UInt8) : dval [c] = c.toNat - 48 := by simp [dval]
theorem dval_nil : dval [] = 0 := rfl
theorem dval_snoc (a : List UInt8) (c : UInt8) : dval (a ++ [c]) = 10 * dval a + (c.toNat - 48) := by
  rw [dval_append, dval_one]; simp [Nat.mul_comm]

theorem dval_dec (u : Nat) : dval (decDigits u) = u := by
  induction u using Nat.strongRecOn with
  | _ u ih =>
    by_cases h : u < 10
    · rw [dec_small h, dval_one, toNat_ch h]; omega
    · rw [dec_big h, dval_snoc, ih _ (by omega), toNat_ch (show u % 10 < 10 by omega)]; omega

theorem dval_cons (c : UInt8) (l : List UInt8) : dval (c :: l) = (c.toNat - 48) * 10 ^ l.length + dval l := by
  rw [show c :: l = [c] ++ l from rfl, dval_append, dval_one]

theorem dval_lt : ∀ (l : List UInt8), l.all isD = true → dval l < 10 ^ l.length
  | [], _ => by simp [dval]
  | c :: l, h => by
    simp only [List.all_cons, Bool.and_eq_true] at h
    have h1 := dval_lt l h.2
    have h2 : c.toNat - 48 ≤ 9 := by
      have := h.1; unfold isD at this; simp at this; omega
    rw [dval_cons, List.length_cons, Nat.pow_succ]
    have h3 : (c.toNat - 48) * 10 ^ l.length ≤ 9 * 10 ^ l.length := Nat.mul_le_mul_right _ h2
    omega

theorem dec_dval : ∀ (k : Nat) (l : List UInt8), l.length = k → l.all isD = true → l ≠ [] → (l = [48] ∨ l.head? ≠ some 48) → decDigits (dval l) = l := by
  intro k
  induction k with
  | zero => intro l hk _ hn _; exact absurd (List.eq_nil_of_length_eq_zero hk) hn
  | succ k ih =>
    intro l hk hd hn hh
    obtain ⟨a, c, rfl⟩ : ∃ a c, l = a ++ [c] := ⟨l.dropLast, l.getLast hn, (List.dropLast_concat_getLast hn).symm⟩
    simp only [List.all_append, List.all_cons, List.all_nil, Bool.and_true, Bool.and_eq_true] at hd
    have hc : 48 ≤ c.toNat ∧ c.toNat ≤ 57 := by have := hd.2; unfold isD at this; simpa using this
    have hcc : UInt8.ofNat (48 + (c.toNat - 48)) = c := by
      rw [show 48 + (c.toNat - 48) = c.toNat by omega]; simp
    rw [dval_snoc]
    rcases List.eq_nil_or_concat a with rfl | ⟨a0, x0, ea⟩
    · rw [dval_nil, dec_small (by omega)]
      simp only [Nat.mul_zero, Nat.zero_add, List.nil_append]
      rw [hcc]
    · obtain rfl : a = a0 ++ [x0] := by rw [ea, List.concat_eq_append]
      clear ea
      have hne : a0 ++ [x0] ≠ [] := by simp
      have hh' : (a0 ++ [x0]).head? ≠ some 48 := by
        rcases hh with h | h
        · have := congrArg List.length h; simp at this
        · rwa [head_app hne] at h
      have hlen : (a0 ++ [x0]).length = k := by simpa using hk
      have ih := ih (a0 ++ [x0]) hlen hd.1 hne (.inr hh')
      have h0 : dval (a0 ++ [x0]) ≠ 0 := fun e => by
        rw [e, dec_small (by omega)] at ih
        rw [← ih] at hh'
        exact hh' rfl
      generalize dval (a0 ++ [x0]) = v at *
      rw [dec_big (by omega), show (10 * v + (c.toNat - 48)) / 10 = v by omega, show (10 * v + (c.toNat - 48)) % 10 = c.toNat - 48 by omega, ih, hcc]

theorem dec_len {k u : Nat} (hk : 0 < k) (h : u < 10 ^ k) : (decDigits u).length ≤ k := by
  induction u using Nat.strongRecOn generalizing k with
  | _ u ih =>
    by_cases hu : u < 10
    · rw [dec_small hu]; simp; omega
    · rw [dec_big hu, List.length_append, List.length_singleton]
      obtain ⟨k, rfl⟩ : ∃ j, k = j + 1 := ⟨k - 1, by omega⟩
      rw [Nat.pow_succ] at h
      have hk0 : 0 < k := by
        rcases Nat.eq_zero_or_pos k with rfl | h0
        · simp at h; omega
        · exact h0
      have := ih (u / 10) (by omega) hk0 (by omega)
      omega
theorem dec_lt {u : Nat} : u < 10 ^ (decDigits u).length := by
  have := dval_lt _ (dec_isD u); rwa [dval_dec] at this
theorem dec_len_iff {k u : Nat} (hk : 0 < k) : (decDigits u).length ≤ k ↔ u < 10 ^ k :=
  ⟨fun h => Nat.lt_of_lt_of_le dec_lt (Nat.pow_le_pow_right (by omega) h), dec_len hk⟩

/-- The last k digits, with zeros in front. -/
def pad : Nat → Nat → List UInt8
  | 0, _ => []
  | k + 1, r => pad k (r / 10) ++ [UInt8.ofNat (48 + r % 10)]
theorem dec_pad {q : Nat} (hq : 0 < q) : ∀ (k r : Nat), r < 10 ^ k → decDigits (q * 10 ^ k + r) = decDigits q ++ pad k r
  | 0, r, h => by
    have : r = 0 := by simpa using h
    subst this; simp [pad]
  | k + 1, r, h => by
    rw [Nat.pow_succ] at h ⊢
    have hp : 0 < 10 ^ k := Nat.pow_pos (by omega)
    have h1 : 0 < q * 10 ^ k := Nat.mul_pos hq hp
    rw [← Nat.mul_assoc]
    rw [dec_big (by omega), show (q * 10 ^ k * 10 + r) / 10 = q * 10 ^ k + r / 10 by omega, show (q * 10 ^ k * 10 + r) % 10 = r % 10 by omega, dec_pad hq k (r / 10) (by omega), pad, List.append_assoc]
theorem pad_eq : ∀ (k r : Nat), 0 < k → r < 10 ^ k → pad k r = List.replicate (k - (decDigits r).length) 48 ++ decDigits r
  | 1, r, _, h => by
    have hr : r < 10 := by simpa using h
    rw [dec_small hr]; simp [pad, Nat.mod_eq_of_lt hr]
  | k + 2, r, _, h => by
    rw [pad, pad_eq (k + 1) (r / 10) (by omega) (by rw [Nat.pow_succ] at h; omega)]
    by_cases hr : r < 10
    · rw [dec_small hr, show r / 10 = 0 by omega, dec_small (show 0 < 10 by omega), Nat.mod_eq_of_lt hr]
      simp only [List.length_singleton, Nat.add_sub_cancel]
      rw [show k + 2 - 1 = k + 1 by omega, List.replicate_succ']
      rfl
    · rw [dec_big hr]
      simp only [List.length_append, List.length_singleton]
      rw [show k + 2 - ((decDigits (r / 10)).length + 1) = k + 1 - (decDigits (r / 10)).length by omega, List.append_assoc]

/-! ### Integers as text -/
def tx (z : Int) : ByteArray := ⟨(itoa z).toArray⟩
theorem itoa_pos (u : Nat) : itoa (u : Int) = decDigits u := by unfold itoa; rw [if_neg (by omega)]; simp
theorem itoa_neg {z : Int} (h : z < 0) : itoa z = 45 :: decDigits z.natAbs := by unfold itoa; rw [if_pos h]
theorem itoa_nonneg {z : Int} (h : 0 ≤ z) : itoa z = decDigits z.natAbs := by unfold itoa; rw [if_neg (by omega)]; congr 1; omega

/-- The bytes behind a sign. -/
def body (l : List UInt8) : List UInt8 := if l.head? = some 45 then l.tail else l
def validL (l : List UInt8) : Bool := (!(body l).isEmpty) && decide ((body l).length ≤ 200) && (body l).all isD && (l == [48] || (body l).head? != some 48)
def valL (l : List UInt8) : Int := if l.head? = some 45 then -(dval (body l) : Int) else dval (body l)

theorem dec_head45 (u : Nat) : (decDigits u).head? ≠ some 45 := by
  intro h
  have h1 := dec_isD u
  cases hd : decDigits u with
  | nil => exact dec_ne u hd
  | cons c r =>
    rw [hd] at h h1
    simp only [List.head?_cons, Option.some.injEq] at h
    subst h
    simp [isD] at h1

theorem body_itoa (z : Int) : body (itoa z) = decDigits z.natAbs := by
  unfold body
  rcases Int.lt_or_le z 0 with h | h
  · rw [itoa_neg h]; simp
  · rw [itoa_nonneg h, if_neg (dec_head45 _)]
theorem valL_itoa (z : Int) : valL (itoa z) = z := by
  unfold valL
  rw [body_itoa, dval_dec]
  rcases Int.lt_or_le z 0 with h | h
  · rw [itoa_neg h]; simp; omega
  · rw [itoa_nonneg h, if_neg (dec_head45 _)]; omega
theorem itoa_inj {x y : Int} (h : itoa x = itoa y) : x = y := by rw [← valL_itoa x, h, valL_itoa]

theorem valid_itoa (z : Int) : validL (itoa z) = true ↔ z.natAbs < 10 ^ 200 := by
  unfold validL
  rw [body_itoa, ← dec_len_iff (show 0 < 200 by omega)]
  have h1 : (!(decDigits z.natAbs).isEmpty) = true := by
    cases h : decDigits z.natAbs with
    | nil => exact absurd h (dec_ne _)
    | cons _ _ => rfl
  have h2 : (itoa z == [48] || (decDigits z.natAbs).head? != some 48) = true := by
    rw [Bool.or_eq_true]
    rcases Nat.eq_zero_or_pos z.natAbs with h | h
    · left
      have : z = 0 := by omega
      subst this
      rw [show itoa 0 = itoa ((0 : Nat) : Int) from rfl, itoa_pos, dec_small (by omega)]
      rfl
    · right; rw [bne_iff_ne]; exact dec_head h
  rw [h1, h2, dec_isD]
  simp

theorem of_valid {l : List UInt8} (h : validL l = true) : l = itoa (valL l) ∧ (valL l).natAbs < 10 ^ 200 := by
  unfold validL at h
  simp only [Bool.and_eq_true, Bool.or_eq_true, decide_eq_true_eq, beq_iff_eq, bne_iff_ne] at h
  obtain ⟨⟨⟨h1, h2⟩, h3⟩, h4⟩ := h
  have hne : body l ≠ [] := by intro e; rw [e] at h1; simp at h1
  have hb : body l = [48] ∨ (body l).head? ≠ some 48 := by
    rcases h4 with h4 | h4
    · left; subst h4; rfl
    · exact .inr h4
  have e := dec_dval _ (body l) rfl h3 hne hb
  have hlt : dval (body l) < 10 ^ 200 := by
    have := dval_lt _ h3
    exact Nat.lt_of_lt_of_le this (Nat.pow_le_pow_right (by omega) h2)
  unfold valL
  by_cases hm : l.head? = some 45
  · rw [if_pos hm]
    refine ⟨?_, by omega⟩
    have hl : l = 45 :: body l := by
      unfold body; rw [if_pos hm]
      cases l with
      | nil => cases hm
      | cons c r => simp at hm; subst hm; rfl
    have h0 : dval (body l) ≠ 0 := fun z => by
      rw [z, dec_small (by omega)] at e
      rcases h4 with h4 | h4
      · rw [h4] at hm; simp at hm
      · rw [← e] at h4; exact h4 rfl
    rw [itoa_neg (by omega), show (-(dval (body l) : Int)).natAbs = dval (body l) by omega, e]
    exact hl
  · rw [if_neg hm]
    refine ⟨?_, by omega⟩
    rw [itoa_pos, e]
    unfold body; rw [if_neg hm]

/-! ### What a string stands for, and what is returned for a number -/
def rdI (s : ByteArray) : Option Int := if validL s.data.toList then some (valL s.data.toList) else none
theorem rdI_tx {z : Int} (h : z.natAbs < 10 ^ 200) : rdI (tx z) = some z := by
  unfold rdI tx
  simp only []
  rw [if_pos ((valid_itoa z).2 h), valL_itoa]
theorem rdI_some {s : ByteArray} {z : Int} (h : rdI s = some z) : s = tx z ∧ z.natAbs < 10 ^ 200 := by
  unfold rdI at h
  split at h
  · rename_i hv
    obtain rfl : valL s.data.toList = z := by simpa using h
    obtain ⟨h1, h2⟩ := of_valid hv
    refine ⟨?_, h2⟩
    unfold tx
    rw [← h1]
  · cases h
theorem tx_inj {x y : Int} (h : tx x = tx y) : x = y := by
  unfold tx at h
  have := congrArg (fun b : ByteArray => b.data.toList) h
  exact itoa_inj (by simpa using this)

def outI (z : Int) : ByteArray × Int := if z.natAbs < 10 ^ 200 then (tx z, 0) else (⟨#[]⟩, 30)
theorem outI_ok {z : Int} (h : z.natAbs < 10 ^ 200) : outI z = (tx z, 0) := if_pos h
theorem outI_no {z : Int} (h : ¬ z.natAbs < 10 ^ 200) : outI z = (⟨#[]⟩, 30) := if_neg h

end Go.Proofs.YtcpkejpdpohfeaaGreatDoor.Num
