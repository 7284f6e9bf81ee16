/- Texts of digits: what 'TrimPrefix', 'Trim', 'Atoi' and pieces of four digits come to. No program here. Conditions: none. -/
import Derived.Test.YtcpkejpdpohfeaaGreatDoorNum
import Derived.Lib.Strings
import Derived.Lib.SlTrimSet
import Derived.Lib.AtoiAll
namespace Go.Proofs.YtcpkejpdpohfeaaGreatDoor.Num
open Go.Lib

theorem body_trim (l : List UInt8) : trimPrefix l [45] = body l := by
  unfold trimPrefix hasPrefix body
  cases l with
  | nil => rfl
  | cons c r =>
    by_cases h : c = 45
    · subst h; simp [List.isPrefixOf]
    · have h1 : ((45 : UInt8) == c) = false := by simpa using fun e => h e.symm
      simp [List.isPrefixOf, h, h1]

theorem digits_isD (c : UInt8) : [48, 49, 50, 51, 52, 53, 54, 55, 56, 57].contains c = isD c := by
  unfold isD
  have h : ∀ k : UInt8, (c = k) ↔ c.toNat = k.toNat := fun k => ⟨fun e => by rw [e], fun e => UInt8.toNat_inj.1 e⟩
  rw [Bool.eq_iff_iff]
  simp only [List.contains_cons, List.contains_nil, Bool.or_eq_true, beq_iff_eq, Bool.or_false, decide_eq_true_eq, h]
  simp
  omega
theorem dropWhile_nil {p : UInt8 → Bool} : ∀ {l : List UInt8}, l.dropWhile p = [] ↔ l.all p = true
  | [] => by simp
  | c :: r => by
    rw [List.dropWhile_cons, List.all_cons]
    cases h : p c with
    | true => simp [dropWhile_nil]
    | false => simp
theorem head_dropWhile {p : UInt8 → Bool} : ∀ {l : List UInt8} {c : UInt8} {r : List UInt8}, l.dropWhile p = c :: r → p c = false
  | [], c, r, h => by cases h
  | x :: l, c, r, h => by
    rw [List.dropWhile_cons] at h
    cases hp : p x with
    | true => rw [hp] at h; exact head_dropWhile h
    | false => rw [hp] at h; simp only [Bool.false_eq_true, if_false, List.cons.injEq] at h; rw [← h.1]; exact hp
theorem trim_digits (l : List UInt8) : trimS l [48, 49, 50, 51, 52, 53, 54, 55, 56, 57] = [] ↔ l.all isD = true := by
  have hp : (fun c => [48, 49, 50, 51, 52, 53, 54, 55, 56, 57].contains c) = isD := funext digits_isD
  unfold trimS trimLeftS trimRightS
  rw [hp, dropWhile_nil]
  cases h : l.reverse.dropWhile isD with
  | nil =>
    rw [dropWhile_nil, List.all_reverse] at h
    simp [h]
  | cons c r =>
    have hc := head_dropWhile h
    have hn : l.all isD = false := by
      rw [← List.all_reverse]
      cases he : l.reverse.all isD with
      | false => rfl
      | true => rw [dropWhile_nil.2 he] at h; cases h
    rw [hn]
    simp [hc]

theorem parse10 : ∀ (l : List UInt8) (acc : Nat), l.all isD = true → acc * 10 ^ l.length + dval l < 18446744073709551616 → parseUint10 acc l = .ok (acc * 10 ^ l.length + dval l)
  | [], acc, _, _ => by simp [parseUint10, dval]
  | c :: r, acc, h, hb => by
    rw [List.all_cons, Bool.and_eq_true] at h
    have hc : 48 ≤ c.toNat ∧ c.toNat ≤ 57 := by simpa [isD] using h.1
    have hd := dval_cons c r
    have e : (acc * 10 + (c.toNat - 48)) * 10 ^ r.length + dval r = acc * 10 ^ (c :: r).length + dval (c :: r) := by
      rw [hd, List.length_cons, Nat.pow_succ, Nat.add_mul, Nat.mul_assoc, Nat.mul_comm 10, Nat.add_assoc]
    have hge : acc * 10 + (c.toNat - 48) < 18446744073709551616 := by
      have h1 : (acc * 10 + (c.toNat - 48)) * 1 ≤ (acc * 10 + (c.toNat - 48)) * 10 ^ r.length := Nat.mul_le_mul_left _ (Nat.pow_pos (by omega))
      omega
    rw [parseUint10, if_pos hc, if_neg (by omega), if_neg (by omega), parse10 r _ h.2 (by rw [e]; exact hb), e]

theorem parse10_range : ∀ (l : List UInt8) (acc : Nat), l.all isD = true → acc < 18446744073709551616 → 18446744073709551616 ≤ acc * 10 ^ l.length + dval l → parseUint10 acc l = .range
  | [], acc, _, h1, h2 => by simp [dval] at h2; omega
  | c :: r, acc, h, h1, h2 => by
    rw [List.all_cons, Bool.and_eq_true] at h
    have hc : 48 ≤ c.toNat ∧ c.toNat ≤ 57 := by simpa [isD] using h.1
    have hd := dval_cons c r
    have e : (acc * 10 + (c.toNat - 48)) * 10 ^ r.length + dval r = acc * 10 ^ (c :: r).length + dval (c :: r) := by
      rw [hd, List.length_cons, Nat.pow_succ, Nat.add_mul, Nat.mul_assoc, Nat.mul_comm 10, Nat.add_assoc]
    rw [parseUint10, if_pos hc]
    split
    · rfl
    · split
      · rfl
      · exact parse10_range r _ h.2 (by omega) (by rw [e]; exact h2)
theorem mag_dec (u : Nat) : parseMag (decDigits u) = if u < 18446744073709551616 then .ok u else .range := by
  have hv := dval_dec u
  have ha := dec_isD u
  unfold parseMag
  rw [if_neg (dec_ne u)]
  split
  · rw [parse10 _ 0 ha (by rw [hv]; omega), hv]; simp
  · exact parse10_range _ 0 ha (by omega) (by rw [hv]; omega)
theorem atoi_itoa (z : Int) : atoiAll (itoa z) = if -9223372036854775808 ≤ z ∧ z ≤ 9223372036854775807 then .ok z else .range := by
  rcases Int.lt_or_le z 0 with h0 | h0
  · rw [itoa_neg h0]
    unfold atoiAll
    simp only
    rw [if_pos (by decide), mag_dec]
    by_cases hu : z.natAbs < 18446744073709551616
    · rw [if_pos hu]
      simp only
      rw [if_neg (by intro h; exact h.1 (by decide))]
      by_cases h2 : 9223372036854775808 < z.natAbs
      · rw [if_pos ⟨by decide, h2⟩, if_neg (by omega)]
      · rw [if_neg (fun h => h2 h.2), if_pos (by decide), if_pos (by omega)]
        congr 1
        omega
    · rw [if_neg hu, if_neg (by omega)]
  · rw [itoa_nonneg h0]
    have ha := dec_isD z.natAbs
    have hm := mag_dec z.natAbs
    have hne := dec_ne z.natAbs
    generalize hl : decDigits z.natAbs = l at *
    cases l with
    | nil => exact absurd rfl hne
    | cons c r =>
      have hc : 48 ≤ c.toNat ∧ c.toNat ≤ 57 := by
        rw [List.all_cons, Bool.and_eq_true] at ha
        simpa [isD] using ha.1
      unfold atoiAll
      simp only
      rw [if_neg (by omega), hm]
      by_cases hu : z.natAbs < 18446744073709551616
      · rw [if_pos hu]
        simp only
        by_cases h2 : 9223372036854775808 ≤ z.natAbs
        · rw [if_pos ⟨by omega, h2⟩, if_neg (by omega)]
        · rw [if_neg (fun h => h2 h.2), if_neg (by omega), if_neg (by omega), if_pos (by omega)]
          congr 1
          omega
      · rw [if_neg hu, if_neg (by omega)]

theorem atoi_digits {l : List UInt8} (hn : l ≠ []) (h : l.all isD = true) (hl : l.length ≤ 18) : atoiAll l = .ok (dval l : Int) := by
  have hv := dval_lt l h
  have h18 : 10 ^ l.length ≤ 10 ^ 18 := Nat.pow_le_pow_right (by omega) hl
  have hb : dval l < 1000000000000000000 := Nat.lt_of_lt_of_le hv h18
  cases l with
  | nil => exact absurd rfl hn
  | cons c r =>
    have hc : 48 ≤ c.toNat ∧ c.toNat ≤ 57 := by
      rw [List.all_cons, Bool.and_eq_true] at h
      simpa [isD] using h.1
    unfold atoiAll
    simp only
    rw [if_neg (by omega)]
    unfold parseMag
    rw [if_neg (by simp), parse10 _ 0 h (by omega)]
    simp only [Nat.zero_mul, Nat.zero_add]
    rw [if_neg (by omega), if_neg (by omega), if_neg (by omega)]

/-! ### Pieces of four digits, from the end -/
structure PI (l : List UInt8) (m : Nat) (g : List Int) : Prop where
  dig : Dig 10000 g
  len : g.length + m ≤ l.length
  val : (dval l : Int) = (dval (l.take m) : Int) * (10000 : Int) ^ g.length + nv 10000 g
theorem PI.start (l : List UInt8) : PI l l.length [] := ⟨Dig.nil _, by simp, by simp [nv]⟩
theorem piece_val (l : List UInt8) (m : Nat) : dval (l.take m) = dval (l.take (m - 4)) * 10 ^ ((l.take m).drop (m - 4)).length + dval ((l.take m).drop (m - 4)) := by
  have h := List.take_append_drop (m - 4) (l.take m)
  rw [List.take_take, Nat.min_eq_left (by omega)] at h
  rw [← dval_append, h]
theorem piece_len {l : List UInt8} {m : Nat} (hm : m ≤ l.length) : ((l.take m).drop (m - 4)).length = m - (m - 4) := by
  rw [List.length_drop, List.length_take, Nat.min_eq_left hm]
theorem piece_all {l : List UInt8} (h : l.all isD = true) (m : Nat) : ((l.take m).drop (m - 4)).all isD = true := by
  rw [List.all_eq_true] at h ⊢
  exact fun x hx => h x (List.mem_of_mem_take (List.mem_of_mem_drop hx))
theorem PI.step {l : List UInt8} {m : Nat} {g : List Int} (h : PI l m g) (ha : l.all isD = true) (hm : 0 < m) : PI l (m - 4) (g ++ [(dval ((l.take m).drop (m - 4)) : Int)]) := by
  have hml : m ≤ l.length := by have := h.len; omega
  have hpl := piece_len hml
  have hlt := dval_lt _ (piece_all ha m)
  have h4 : 10 ^ ((l.take m).drop (m - 4)).length ≤ 10 ^ 4 := Nat.pow_le_pow_right (by omega) (by omega)
  refine ⟨h.dig.append (Dig.one (by omega) (by omega)), by rw [List.length_append, List.length_singleton]; have := h.len; omega, ?_⟩
  rw [nv_snoc, h.val, List.length_append, List.length_singleton, Int.pow_succ]
  have hv : (dval (l.take m) : Int) = (dval (l.take (m - 4)) : Int) * 10000 + (dval ((l.take m).drop (m - 4)) : Int) := by
    have := piece_val l m
    rcases Nat.lt_or_ge m 4 with h1 | h1
    · have e : m - 4 = 0 := by omega
      rw [e] at this ⊢
      simp only [List.take_zero, dval_nil, Nat.zero_mul, Nat.zero_add] at this ⊢
      omega
    · rw [hpl, show m - (m - 4) = 4 by omega] at this
      omega
  rw [hv]
  generalize (dval (l.take (m - 4)) : Int) = A
  generalize (dval ((l.take m).drop (m - 4)) : Int) = B
  generalize nv 10000 g = C
  show (A * 10000 + B) * 10000 ^ g.length + C = A * (10000 ^ g.length * 10000) + (C + 10000 ^ g.length * B)
  generalize (10000 : Int) ^ g.length = P
  rw [Int.add_mul, Int.mul_assoc, Int.mul_comm 10000 P, Int.mul_comm B P]
  omega
theorem PI.done {l : List UInt8} {g : List Int} (h : PI l 0 g) : nv 10000 g = dval l := by
  have := h.val
  simp only [List.take_zero, dval_nil] at this
  omega

end Go.Proofs.YtcpkejpdpohfeaaGreatDoor.Num
