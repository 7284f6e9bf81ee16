/- Plain facts of operations that may fail. No conditions. -/
import Derived.Test.YtnioinccflmdjaaGreatDoorQ6
namespace Go.Proofs.YtnioinccflmdjaaGreatDoor
open Go.RowKit Num
open Go.Shelf

theorem is_some {o : Option Rat} (h : (errT o == 0) = true) : ∃ q, o = some q := by
  cases o with
  | none => exact absurd h (by decide)
  | some q => exact ⟨q, rfl⟩
theorem op_add {a b : Option Rat} {x : Rat} (h : op2Q addQ a b = some x) : ∃ p q, a = some p ∧ b = some q ∧ x = p + q := by
  cases a with
  | none => cases h
  | some p => cases b with
    | none => cases h
    | some q => exact ⟨p, q, rfl, rfl, addQ_some h⟩
theorem op_sub {a b : Option Rat} {x : Rat} (h : op2Q subQ a b = some x) : ∃ p q, a = some p ∧ b = some q ∧ x = p - q := by
  cases a with
  | none => cases h
  | some p => cases b with
    | none => cases h
    | some q => exact ⟨p, q, rfl, rfl, subQ_some h⟩
theorem op_mul {a b : Option Rat} {x : Rat} (h : op2Q mulQ a b = some x) : ∃ p q, a = some p ∧ b = some q ∧ x = p * q := by
  cases a with
  | none => cases h
  | some p => cases b with
    | none => cases h
    | some q => exact ⟨p, q, rfl, rfl, mulQ_some h⟩
theorem op_div {a b : Option Rat} {x : Rat} (h : op2Q divQ a b = some x) : ∃ p q, a = some p ∧ b = some q ∧ x = p / q ∧ q ≠ 0 := by
  cases a with
  | none => cases h
  | some p => cases b with
    | none => cases h
    | some q => exact ⟨p, q, rfl, rfl, divQ_some h⟩
theorem op_add_comm (a b : Option Rat) : op2Q addQ a b = op2Q addQ b a := by
  cases a <;> cases b
  · rfl
  · rfl
  · rfl
  · exact addQ_comm _ _
theorem op_mul_comm (a b : Option Rat) : op2Q mulQ a b = op2Q mulQ b a := by
  cases a <;> cases b
  · rfl
  · rfl
  · rfl
  · exact mulQ_comm _ _
/-- The laws of a field, of results that are there. -/
theorem law_assoc_add {p q r : Rat} {oA oE oI oN : Option Rat} (hA : op2Q addQ (some p) (some q) = oA) (hE : op2Q addQ (some q) (some r) = oE) (hI : op2Q addQ oA (some r) = oI) (hN : op2Q addQ (some p) oE = oN)
    (_ : (errT oA == 0) = true) (_ : (errT oE == 0) = true) (h3 : (errT oI == 0) = true) (h4 : (errT oN == 0) = true) : oI = oN := by
  obtain ⟨x, rfl⟩ := is_some h3
  obtain ⟨y, rfl⟩ := is_some h4
  obtain ⟨a, b, rfl, hb, rfl⟩ := op_add hI
  obtain ⟨c, d, hc, rfl, rfl⟩ := op_add hN
  cases hb; cases hc
  rw [addQ_some hA, addQ_some hE, Rat.add_assoc]
theorem law_assoc_mul {p q r : Rat} {oM oG oO oP : Option Rat} (hM : op2Q mulQ (some p) (some q) = oM) (hG : op2Q mulQ (some q) (some r) = oG) (hO : op2Q mulQ (some p) oG = oO) (hP : op2Q mulQ oM (some r) = oP)
    (_ : (errT oM == 0) = true) (_ : (errT oG == 0) = true) (h3 : (errT oO == 0) = true) (h4 : (errT oP == 0) = true) : oO = oP := by
  obtain ⟨x, rfl⟩ := is_some h3
  obtain ⟨y, rfl⟩ := is_some h4
  obtain ⟨a, b, ha, rfl, rfl⟩ := op_mul hO
  obtain ⟨c, d, rfl, hd, rfl⟩ := op_mul hP
  cases ha; cases hd
  rw [mulQ_some hG, mulQ_some hM, Rat.mul_assoc]
theorem law_dist {p q r : Rat} {oA oQ oG oR oT : Option Rat} (hA : op2Q addQ (some p) (some q) = oA) (hQ : op2Q mulQ (some p) (some r) = oQ) (hG : op2Q mulQ (some q) (some r) = oG) (hR : op2Q addQ oQ oG = oR) (hT : op2Q mulQ oA (some r) = oT)
    (_ : (errT oA == 0) = true) (_ : (errT oQ == 0) = true) (_ : (errT oG == 0) = true) (h4 : (errT oR == 0) = true) (h5 : (errT oT == 0) = true) : oR = oT := by
  obtain ⟨x, rfl⟩ := is_some h4
  obtain ⟨y, rfl⟩ := is_some h5
  obtain ⟨a, b, rfl, rfl, rfl⟩ := op_add hR
  obtain ⟨c, d, rfl, hd, rfl⟩ := op_mul hT
  cases hd
  rw [mulQ_some hQ, mulQ_some hG, addQ_some hA, Rat.add_mul]
theorem law_back {p q : Rat} {oA oU : Option Rat} (hA : op2Q addQ (some p) (some q) = oA) (hU : op2Q subQ oA (some q) = oU) (h2 : (errT oU == 0) = true) : oU = some p := by
  obtain ⟨x, rfl⟩ := is_some h2
  obtain ⟨a, b, rfl, hb, rfl⟩ := op_sub hU
  cases hb
  rw [addQ_some hA]
  congr 1
  grind
theorem law_again {p q : Rat} {oD oV : Option Rat} (hD : op2Q divQ (some p) (some q) = oD) (hV : op2Q mulQ oD (some q) = oV) (h2 : (errT oV == 0) = true) : oV = some p := by
  obtain ⟨x, rfl⟩ := is_some h2
  obtain ⟨a, b, rfl, hb, rfl⟩ := op_mul hV
  cases hb
  obtain ⟨e, h0⟩ := divQ_some hD
  rw [e, Rat.div_mul_cancel h0]

end Go.Proofs.YtnioinccflmdjaaGreatDoor
