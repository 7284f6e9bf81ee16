/- Fractions whose numerators and denominators are written out. Plain facts. Two fractions compared by whole parts and rests. Plain facts. What the functions of package rational answer, on Lean's rationals. Plain. Package rational: Valid, and the calculation that stops at an error: do, mul, quotient. Conditions: sizes; the tables of strconv. Package rational: the calculation that stops at an error: do, mul, quotient. Conditions: sizes; the tables of strconv. Package rational: check. Conditions: sizes; the tables of strconv. Boxes of fractions, and what a function that returns a fraction answers. Package rational: reduced. Conditions: sizes; the tables of strconv. Package rational: Make. Conditions: sizes; the tables of strconv. -/
import Derived.Test.YtffndcjmabjhiaaGreatDoorK6
namespace Go.Proofs.YtffndcjmabjhiaaGreatDoor
open Num

/-- The two texts are numerator and denominator of the fraction. -/
def Fr (x y : ByteArray) (q : Rat) : Prop := Is x q.num ∧ Is y (q.den : Int)
theorem Fr.uniq {x y : ByteArray} {p q : Rat} (h : Fr x y p) (k : Fr x y q) : p = q :=
  Rat.ext (h.1.inj k.1) (by have := h.2.inj k.2; omega)
theorem Fr.same {x y x' y' : ByteArray} {q : Rat} (h : Fr x y q) (k : Fr x' y' q) : x = x' ∧ y = y' := ⟨h.1.uniq k.1, h.2.uniq k.2⟩
theorem Fr.ex {q : Rat} (h : sm q.num) (k : sm (q.den : Int)) : ∃ x y, Fr x y q := ⟨tx q.num, tx (q.den : Int), is_tx h, is_tx k⟩
theorem Fr.eq {x y : ByteArray} {q : Rat} (h : Fr x y q) : x = tx q.num ∧ y = tx (q.den : Int) := ⟨h.1.eq, h.2.eq⟩
/-- Whether two texts are a fraction in lowest terms. -/
def okR (x y : ByteArray) : Bool :=
  match rdI x, rdI y with
  | some n, some d => decide (0 < d) && decide (Int.gcd n d = 1)
  | _, _ => false
theorem Fr.ok {x y : ByteArray} {q : Rat} (h : Fr x y q) : okR x y = true := by
  unfold okR
  rw [show rdI x = some q.num from h.1, show rdI y = some (q.den : Int) from h.2]
  have h1 := q.den_pos
  have h2 : Int.gcd q.num (q.den : Int) = 1 := q.reduced
  simp only [h2]
  simp
  omega
theorem okR_ex {x y : ByteArray} (h : okR x y = true) : ∃ q, Fr x y q := by
  unfold okR at h
  cases hx : rdI x with
  | none => rw [hx] at h; cases h
  | some n =>
    cases hy : rdI y with
    | none => rw [hx, hy] at h; cases h
    | some d =>
      rw [hx, hy] at h
      simp only [Bool.and_eq_true, decide_eq_true_eq] at h
      obtain ⟨h1, h2⟩ := h
      refine ⟨⟨n, d.toNat, by omega, ?_⟩, hx, ?_⟩
      · have e : d.natAbs = d.toNat := by omega
        show Nat.gcd n.natAbs d.toNat = 1
        rw [← e]; exact h2
      · show rdI y = some ((d.toNat : Nat) : Int)
        rw [hy, Int.toNat_of_nonneg (by omega)]

/-- What 'reduced' computes. -/
theorem red_pos {n d : Int} (hd : 0 < d) : n / ((Int.gcd n d : Nat) : Int) = (Rat.divInt n d).num ∧ d / ((Int.gcd n d : Nat) : Int) = ((Rat.divInt n d).den : Int) := by
  constructor
  · rw [Rat.num_divInt, Int.sign_eq_one_of_pos hd, Int.one_mul, Int.gcd_comm]
  · rw [Rat.den_divInt, if_neg (by omega), Int.natCast_ediv, Int.gcd_comm d n]
    congr 1
    omega
theorem divInt_flip (n : Int) {d : Int} (hd : d ≠ 0) : Rat.divInt (0 - n) (0 - d) = Rat.divInt n d := by
  rw [Rat.divInt_eq_divInt_iff (by omega) hd, Int.zero_sub, Int.zero_sub, Int.neg_mul, Int.mul_neg]
theorem divInt_small {n d : Int} (hn : sm n) (hd : sm d) (h0 : d ≠ 0) : sm (Rat.divInt n d).num ∧ sm ((Rat.divInt n d).den : Int) := by
  have key : ∀ {n d : Int}, sm n → sm d → 0 < d → sm (Rat.divInt n d).num ∧ sm ((Rat.divInt n d).den : Int) := fun {n d} hn hd h => by
    obtain ⟨h1, h2⟩ := red_pos (n := n) h
    rw [← h1, ← h2]
    exact ⟨Nat.lt_of_le_of_lt (Int.natAbs_ediv_le_natAbs _ _) hn, Nat.lt_of_le_of_lt (Int.natAbs_ediv_le_natAbs _ _) hd⟩
  by_cases h : 0 < d
  · exact key hn hd h
  · rw [← divInt_flip n h0]
    unfold sm at hn hd
    exact key (by unfold sm; omega) (by unfold sm; omega) (by omega)
theorem add_divInt (p q : Rat) : p + q = Rat.divInt (p.num * q.den + q.num * p.den) (p.den * q.den) := by
  conv => lhs; rw [← Rat.num_divInt_den p, ← Rat.num_divInt_den q]
  exact Rat.divInt_add_divInt _ _ (by have := p.den_pos; omega) (by have := q.den_pos; omega)
theorem sub_divInt (p q : Rat) : p - q = Rat.divInt (p.num * q.den - q.num * p.den) (p.den * q.den) := by
  conv => lhs; rw [← Rat.num_divInt_den p, ← Rat.num_divInt_den q]
  exact Rat.divInt_sub_divInt _ _ (by have := p.den_pos; omega) (by have := q.den_pos; omega)
theorem mul_divInt (p q : Rat) : p * q = Rat.divInt (p.num * q.num) (p.den * q.den) := by
  conv => lhs; rw [← Rat.num_divInt_den p, ← Rat.num_divInt_den q]
  exact Rat.divInt_mul_divInt _ _
theorem quo_divInt (p q : Rat) : p / q = Rat.divInt (p.num * q.den) (p.den * q.num) := by
  rw [Rat.div_def, Rat.inv_def]
  conv => lhs; rw [← Rat.num_divInt_den p]
  exact Rat.divInt_mul_divInt _ _

end Go.Proofs.YtffndcjmabjhiaaGreatDoor

namespace Go.Proofs.YtffndcjmabjhiaaGreatDoor
open Num

/-- The order of n/d and m/c, for positive d, c. -/
def cmpQ (n d m c : Int) : Int := Lib.compareInt (n * c) (m * d)
theorem cmp_neg (x y : Int) : Lib.compareInt y x = - Lib.compareInt x y := by unfold Lib.compareInt; repeat' split; all_goals omega
theorem cmp_add (x y z : Int) : Lib.compareInt (z + x) (z + y) = Lib.compareInt x y := by unfold Lib.compareInt; repeat' split; all_goals omega
theorem cmpQ_parts {n d m c : Int} (hd : 0 < d) (hc : 0 < c) : ∃ P, 0 < P ∧ n * c = n / d * P + n % d * c ∧ m * d = m / c * P + m % c * d ∧ 0 ≤ n % d * c ∧ n % d * c < P ∧ 0 ≤ m % c * d ∧ m % c * d < P := by
  have r0 := Int.emod_nonneg n (show d ≠ 0 by omega)
  have r1 := Int.emod_lt_of_pos n hd
  have s0 := Int.emod_nonneg m (show c ≠ 0 by omega)
  have s1 := Int.emod_lt_of_pos m hc
  have en := Int.ediv_mul_add_emod n d
  have em := Int.ediv_mul_add_emod m c
  refine ⟨d * c, Int.mul_pos hd hc, ?_, ?_, Int.mul_nonneg r0 (by omega), Int.mul_lt_mul_of_pos_right r1 hc, Int.mul_nonneg s0 (by omega), ?_⟩
  · conv => lhs; rw [← en]
    rw [Int.add_mul, Int.mul_assoc]
  · conv => lhs; rw [← em]
    rw [Int.add_mul, Int.mul_assoc, Int.mul_comm c d]
  · rw [Int.mul_comm d c]
    exact Int.mul_lt_mul_of_pos_right s1 hd
theorem cmpQ_whole {n d m c : Int} (hd : 0 < d) (hc : 0 < c) (h : n / d ≠ m / c) : cmpQ n d m c = Lib.compareInt (n / d) (m / c) := by
  obtain ⟨P, hP, h1, h2, h3, h4, h5, h6⟩ := cmpQ_parts (n := n) (m := m) hd hc
  unfold cmpQ
  rw [h1, h2]
  rcases Int.lt_or_gt_of_ne h with k | k
  · rw [cmp_lt k]
    have : (n / d + 1) * P ≤ m / c * P := Int.mul_le_mul_of_nonneg_right (by omega) (by omega)
    rw [Int.add_mul, Int.one_mul] at this
    exact cmp_lt (by omega)
  · rw [cmp_gt k]
    have : (m / c + 1) * P ≤ n / d * P := Int.mul_le_mul_of_nonneg_right (by omega) (by omega)
    rw [Int.add_mul, Int.one_mul] at this
    exact cmp_gt (by omega)
theorem cmpQ_rest {n d m c : Int} (hd : 0 < d) (hc : 0 < c) (h : n / d = m / c) : cmpQ n d m c = Lib.compareInt (n % d * c) (m % c * d) := by
  obtain ⟨P, hP, h1, h2, h3, h4, h5, h6⟩ := cmpQ_parts (n := n) (m := m) hd hc
  unfold cmpQ
  rw [h1, h2, h, cmp_add]
/-- The rests, upside down. -/
theorem cmpQ_turn {n d m c : Int} (hd : 0 < d) (hc : 0 < c) (h : n / d = m / c) : cmpQ n d m c = - cmpQ d (n % d) c (m % c) := by
  rw [cmpQ_rest hd hc h]
  unfold cmpQ
  rw [← cmp_neg, Int.mul_comm c, Int.mul_comm d]
theorem cmpQ_rest0 {n d m c : Int} (hd : 0 < d) (hc : 0 < c) (h : n / d = m / c) (hr : n % d = 0) (hs : m % c = 0) : cmpQ n d m c = 0 := by
  rw [cmpQ_rest hd hc h, hr, hs, Int.zero_mul, Int.zero_mul]
  exact cmp_eq rfl
theorem cmpQ_rest1 {n d m c : Int} (hd : 0 < d) (hc : 0 < c) (h : n / d = m / c) (hr : n % d = 0) (hs : m % c ≠ 0) : cmpQ n d m c = -1 := by
  rw [cmpQ_rest hd hc h, hr, Int.zero_mul]
  have := Int.emod_nonneg m (show c ≠ 0 by omega)
  exact cmp_lt (Int.mul_pos (by omega) hd)
theorem cmpQ_rest2 {n d m c : Int} (hd : 0 < d) (hc : 0 < c) (h : n / d = m / c) (hr : n % d ≠ 0) (hs : m % c = 0) : cmpQ n d m c = 1 := by
  rw [cmpQ_rest hd hc h, hs, Int.zero_mul]
  have := Int.emod_nonneg n (show d ≠ 0 by omega)
  exact cmp_gt (Int.mul_pos (by omega) hc)
/-- The order of two fractions. -/
def cmpR (p q : Rat) : Int := cmpQ p.num p.den q.num q.den
theorem cmpR_lt {p q : Rat} : cmpR p q = -1 ↔ p < q := by
  unfold cmpR cmpQ
  rw [Rat.lt_iff]
  unfold Lib.compareInt
  repeat' split
  all_goals omega
theorem cmpR_gt {p q : Rat} : cmpR p q = 1 ↔ q < p := by
  unfold cmpR cmpQ
  rw [Rat.lt_iff]
  unfold Lib.compareInt
  repeat' split
  all_goals omega
theorem cmpR_eq {p q : Rat} : cmpR p q = 0 ↔ p = q := by
  constructor
  · intro h
    have h1 : ¬ p < q := fun k => by rw [cmpR_lt.2 k] at h; omega
    have h2 : ¬ q < p := fun k => by rw [cmpR_gt.2 k] at h; omega
    exact Rat.le_antisymm (Rat.not_lt.1 h2) (Rat.not_lt.1 h1)
  · rintro rfl
    exact cmp_eq rfl

end Go.Proofs.YtffndcjmabjhiaaGreatDoor

namespace Go.Proofs.YtffndcjmabjhiaaGreatDoor
open Num

/-- The fraction that two texts are, if they are one. -/
def ratO (x y : ByteArray) : Option Rat :=
  match rdI x, rdI y with
  | some n, some d => if h : 0 < d ∧ Int.gcd n d = 1 then some ⟨n, d.toNat, by omega, by
      have e : d.natAbs = d.toNat := by omega
      show Nat.gcd n.natAbs d.toNat = 1
      rw [← e]; exact h.2⟩ else none
  | _, _ => none
theorem ratO_some {x y : ByteArray} {q : Rat} : ratO x y = some q ↔ Fr x y q := by
  constructor
  · intro h
    unfold ratO at h
    split at h
    · rename_i n d hx hy
      split at h
      · rename_i hd
        obtain rfl := Option.some.inj h
        refine ⟨hx, ?_⟩
        show rdI y = some ((d.toNat : Nat) : Int)
        rw [hy, Int.toNat_of_nonneg (by omega)]
      · cases h
    · cases h
  · intro h
    unfold ratO
    rw [show rdI x = some q.num from h.1, show rdI y = some (q.den : Int) from h.2]
    have h1 := q.den_pos
    have h2 : Int.gcd q.num (q.den : Int) = 1 := q.reduced
    simp only
    rw [dif_pos ⟨by omega, h2⟩]
    congr 1
theorem ratO_none {x y : ByteArray} : ratO x y = none ↔ okR x y = false := by
  cases h : ratO x y with
  | some q => simp [(ratO_some.1 h).ok]
  | none =>
    simp only [true_iff]
    cases k : okR x y with
    | false => rfl
    | true =>
      obtain ⟨q, hq⟩ := okR_ex k
      rw [ratO_some.2 hq] at h; cases h
theorem okR_eq (x y : ByteArray) : okR x y = (ratO x y).isSome := by
  cases h : ratO x y with
  | some q => exact (ratO_some.1 h).ok
  | none => exact ratO_none.1 h
/-- The texts and the error of an answer. -/
def numT : Option Rat → ByteArray
  | some q => tx q.num
  | none => ⟨#[]⟩
def denT : Option Rat → ByteArray
  | some q => tx (q.den : Int)
  | none => ⟨#[]⟩
def errT : Option Rat → Int
  | some _ => 0
  | none => 40
/-- A fraction that fits. -/
def fitQ (q : Rat) : Prop := sm q.num ∧ sm (q.den : Int)
theorem fr_fit {q : Rat} (h : fitQ q) : Fr (tx q.num) (tx (q.den : Int)) q := ⟨is_tx h.1, is_tx h.2⟩
theorem Fr.fit {x y : ByteArray} {q : Rat} (h : Fr x y q) : fitQ q := ⟨h.1.small, h.2.small⟩
instance (z : Int) : Decidable (sm z) := inferInstanceAs (Decidable (_ < _))
/-- A quotient of two integers, if there is one. -/
def makeQ (n d : Int) : Option Rat := if d = 0 then none else some (Rat.divInt n d)
def addQ (p q : Rat) : Option Rat := if sm (p.num * q.den) ∧ sm (q.num * p.den) ∧ sm (p.num * q.den + q.num * p.den) ∧ sm ((p.den : Int) * q.den) then some (p + q) else none
def subQ (p q : Rat) : Option Rat := if sm (p.num * q.den) ∧ sm (q.num * p.den) ∧ sm (p.num * q.den - q.num * p.den) ∧ sm ((p.den : Int) * q.den) then some (p - q) else none
def mulQ (p q : Rat) : Option Rat := if sm (p.num * q.num) ∧ sm ((p.den : Int) * q.den) then some (p * q) else none
def divQ (p q : Rat) : Option Rat := if sm (p.num * q.den) ∧ sm ((p.den : Int) * q.num) ∧ q ≠ 0 then some (p / q) else none
def op2Q (f : Rat → Rat → Option Rat) (a b : Option Rat) : Option Rat := a.bind fun p => b.bind fun q => f p q

end Go.Proofs.YtffndcjmabjhiaaGreatDoor

namespace Go.Proofs.YtffndcjmabjhiaaGreatDoor
open Go.RowKit Num
open Go.Shelf

/-- Answers of package integer, as the walks of other packages take them. -/
def RetOne (w : World) (b : Bool) (e : Ending) (w' : World) : Prop := e = .returned (.bool b) ∧ Below w.heap.size w w'
theorem rbox_x (w : World) (x y : ByteArray) : (w.alloc (.cells #[.string x, .string y] 29)).cell? ⟨w.heap.size, 0, none⟩ = some (.string x) := by simp
theorem rbox_y (w : World) (x y : ByteArray) : (w.alloc (.cells #[.string x, .string y] 29)).cell? ⟨w.heap.size, 1, none⟩ = some (.string y) := by simp

theorem valid_isSome (x : ByteArray) (w : World) : Calls Tryz.prog 151 #[.string x] w (RetB w (rdI x).isSome) := valid_api x w

set_option maxHeartbeats 2000000 in
set_option maxRecDepth 100000 in
theorem qvalid_any (x y : ByteArray) (w : World) (hL : Laid w) : Calls Tryz.prog 63 #[.agg #[.string x, .string y]] w (RetB w (okR x y)) := by
  cases hx : rdI x with
  | none =>
    rw [show okR x y = false by unfold okR; rw [hx]]
    have V1 := Lib.hid (fun w => valid_bad hx w)
    clear hx hL
    go_enter Tryz.func63, Tryz.ntmps63
    go_wp2_with (go_at_call 151; (with_reducible refine (V1.out _).mono ?_); rintro e w1 ⟨rfl, hb1⟩)
    go_ret
    exact ⟨rfl, below_up (below1 _ _) hb1⟩
  | some n =>
    have V1 := Lib.hid (fun w => valid_is (s := x) hx w)
    cases hy : rdI y with
    | none =>
      rw [show okR x y = false by unfold okR; rw [hx, hy]]
      have V2 := Lib.hid (fun w => valid_bad hy w)
      clear hx hy hL
      go_enter Tryz.func63, Tryz.ntmps63
      go_wp2_with (first
        | (go_at_call 151; (with_reducible refine (V1.out _).mono ?_); rintro e w1 ⟨rfl, hb1⟩; have cx := (hb1.cell (by simp)).trans (rbox_x w x y); have cy := (hb1.cell (by simp)).trans (rbox_y w x y))
        | (go_at_call 151; (with_reducible refine (V2.out _).mono ?_); rintro e w2 ⟨rfl, hb2⟩))
      go_ret
      exact ⟨rfl, below_up (below1 _ _) (below_up hb1 hb2)⟩
    | some d =>
      have V2 := Lib.hid (fun w => valid_is (s := y) hy w)
      by_cases hd : 0 < d
      · have C := Lib.hid (fun w => cmp_is (s := y) hy lit_0 (cmp_gt hd) w)
        have hgs : sm ((Int.gcd n d : Nat) : Int) := by
          have h1 : Int.gcd n d ≤ d.natAbs := by rw [Int.gcd_comm]; exact Int.gcd_le_natAbs_left _ (by omega)
          have h2 := rd_small hy
          unfold sm; rw [Int.natAbs_natCast]; omega
        obtain ⟨g, hg⟩ := Is.ex hgs
        have G := Lib.hid (fun w hL => gcd_is (s := x) (t := y) hx hy hg rfl w hL)
        have hok : Hid (okR x y = (g.toList == [49])) := Lib.hid (by
          unfold okR; rw [hx, hy]
          simp only [decide_eq_true hd, Bool.true_and]
          by_cases k : Int.gcd n d = 1
          · rw [k]
            have : g = ⟨#[49]⟩ := hg.uniq (lit_1.cast (by omega))
            rw [this, ByteArray.toList_eq]; rfl
          · rw [decide_eq_false k]
            have := hg.differ lit_1 (by omega)
            rw [ByteArray.toList_eq (⟨#[49]⟩ : ByteArray)] at this
            exact this.symm)
        clear hx hy hd hgs hg
        go_enter Tryz.func63, Tryz.ntmps63
        go_wp2_with (first
          | (go_at_call 151; (with_reducible refine (V1.out _).mono ?_); rintro e w1 ⟨rfl, hb1⟩; have hL := hL.below (below_up (below1 w _) hb1); have cx := (hb1.cell (by simp)).trans (rbox_x w x y); have cy := (hb1.cell (by simp)).trans (rbox_y w x y))
          | (go_at_call 151; (with_reducible refine (V2.out _).mono ?_); rintro e w2 ⟨rfl, hb2⟩; have hL := hL.below hb2; have cx := (hb2.cell (cell_lt cx)).trans cx; have cy := (hb2.cell (cell_lt cy)).trans cy)
          | (go_at_call 65; (with_reducible refine (C.out _).mono ?_); rintro e w3 ⟨rfl, hb3⟩; have hL := hL.below hb3; have cx := (hb3.cell (cell_lt cx)).trans cx; have cy := (hb3.cell (cell_lt cy)).trans cy)
          | (go_at_call 159; (with_reducible refine (G.out _ hL).mono ?_); rintro e w4 ⟨rfl, hb4⟩))
        go_ret
        exact ⟨by rw [hok.out]; rfl, below_up (below1 _ _) (below_up hb1 (below_up hb2 (below_up hb3 hb4)))⟩
      · have hc : ∃ c, c ≤ 0 ∧ Hid (Lib.compareInt d 0 = c) := ⟨_, by unfold Lib.compareInt; split <;> (try split) <;> omega, Lib.hid rfl⟩
        obtain ⟨c, hc, hce⟩ := hc
        have C := Lib.hid (fun w => cmp_is (s := y) hy lit_0 hce.out w)
        rw [show okR x y = false by unfold okR; rw [hx, hy]; simp only [decide_eq_false hd, Bool.false_and]]
        clear hx hy hd hce hL
        go_enter Tryz.func63, Tryz.ntmps63
        go_wp2_with (first
          | (go_at_call 151; (with_reducible refine (V1.out _).mono ?_); rintro e w1 ⟨rfl, hb1⟩; have cx := (hb1.cell (by simp)).trans (rbox_x w x y); have cy := (hb1.cell (by simp)).trans (rbox_y w x y))
          | (go_at_call 151; (with_reducible refine (V2.out _).mono ?_); rintro e w2 ⟨rfl, hb2⟩; have cx := (hb2.cell (cell_lt cx)).trans cx; have cy := (hb2.cell (cell_lt cy)).trans cy)
          | (go_at_call 65; (with_reducible refine (C.out _).mono ?_); rintro e w3 ⟨rfl, hb3⟩))
        go_ret
        exact ⟨rfl, below_up (below1 _ _) (below_up hb1 (below_up hb2 hb3))⟩

end Go.Proofs.YtffndcjmabjhiaaGreatDoor

namespace Go.Proofs.YtffndcjmabjhiaaGreatDoor
open Go.RowKit Num
open Go.Shelf

/-- The cell of a calculation: whether it failed. -/
def WB (w : World) (p : Nat) (b : Bool) : Prop := w.cell? ⟨p, 0, none⟩ = some (.bool b) ∧ w.frozen? ⟨p, 0, none⟩ = false
theorem WB.below {w w' : World} {p : Nat} {b : Bool} (h : WB w p b) (hb : Below w.heap.size w w') : WB w' p b :=
  ⟨(hb.cell (cell_lt h.1)).trans h.1, (hb.frozen (cell_lt h.1)).trans h.2⟩
theorem WB.set {w : World} {p : Nat} {b : Bool} (h : WB w p b) (c : Bool) : WB (w.setCell ⟨p, 0, none⟩ (.bool c)) p c :=
  ⟨World.cell?_setCell_same' _ _ _ (by rw [h.1]; rfl), by rw [World.frozen?_setCell]; exact h.2⟩
theorem WB.lt {w : World} {p : Nat} {b : Bool} (h : WB w p b) : p < w.heap.size := cell_lt h.1
/-- A string, and how the calculation stands. -/
def RetWk (w : World) (p : Nat) (s : ByteArray) (b : Bool) (e : Ending) (w' : World) : Prop := e = .returned (.string s) ∧ Turn [p] w w' ∧ WB w' p b

set_option maxHeartbeats 1000000 in
theorem do_bad (f : Value) (p : Nat) (a b : ByteArray) (w : World) (h : WB w p true) :
    Calls Tryz.prog 175 #[.pointer (some ⟨p, 0, none⟩), f, .string a, .string b] w (RetWk w p ⟨#[]⟩ true) := by
  have hc := h.1
  have H := Lib.hid h
  clear h
  go_enter Tryz.func175, Tryz.ntmps175
  go_wp2
  go_ret
  exact ⟨rfl, Turn.refl _ _, H.out⟩

set_option maxHeartbeats 1000000 in
theorem do_ok (k : Nat) (ek : ∀ args w, (callFunc k args).run Tryz.prog w = .ok (.enter k args) w) (p : Nat) (a b s : ByteArray) (w : World) (h : WB w p false)
    (hf : Calls Tryz.prog k #[.string a, .string b] w (RetSt w s)) :
    Calls Tryz.prog 175 #[.pointer (some ⟨p, 0, none⟩), .func (.func k) #[] #[], .string a, .string b] w (RetWk w p s false) := by
  have hc := h.1
  have H := Lib.hid h
  have HF := Lib.hid hf
  clear h hf
  go_enter Tryz.func175, Tryz.ntmps175
  go_wp2_with (go_at_fn k; (with_reducible refine HF.out.mono ?_); rintro e w1 ⟨rfl, hb⟩; have c1 := (H.out.below hb).1; have f1 := (H.out.below hb).2)
  go_ret
  exact ⟨rfl, (Turn.of_below hb).trans (Turn.setCell _ _ _ _ (by simp)), (H.out.below hb).set false⟩

set_option maxHeartbeats 1000000 in
theorem do_fail (k : Nat) (ek : ∀ args w, (callFunc k args).run Tryz.prog w = .ok (.enter k args) w) (p : Nat) (a b : ByteArray) (w : World) (h : WB w p false)
    (hf : Calls Tryz.prog k #[.string a, .string b] w (RetE w)) :
    Calls Tryz.prog 175 #[.pointer (some ⟨p, 0, none⟩), .func (.func k) #[] #[], .string a, .string b] w (RetWk w p ⟨#[]⟩ true) := by
  have hc := h.1
  have H := Lib.hid h
  have HF := Lib.hid hf
  clear h hf
  go_enter Tryz.func175, Tryz.ntmps175
  go_wp2_with (go_at_fn k; (with_reducible refine HF.out.mono ?_); rintro e w1 ⟨rfl, hb⟩; have c1 := (H.out.below hb).1; have f1 := (H.out.below hb).2)
  go_ret
  exact ⟨rfl, (Turn.of_below hb).trans (Turn.setCell _ _ _ _ (by simp)), (H.out.below hb).set true⟩

theorem enter_mul : ∀ args w, (callFunc 252 args).run Tryz.prog w = .ok (.enter 252 args) w := fun _ _ => by kernel_rfl
theorem enter_sub : ∀ args w, (callFunc 81 args).run Tryz.prog w = .ok (.enter 81 args) w := fun _ _ => by kernel_rfl
theorem enter_add : ∀ args w, (callFunc 196 args).run Tryz.prog w = .ok (.enter 196 args) w := fun _ _ => by kernel_rfl
theorem enter_gcd : ∀ args w, (callFunc 159 args).run Tryz.prog w = .ok (.enter 159 args) w := fun _ _ => by kernel_rfl
theorem enter_quo : ∀ args w, (callFunc 296 args).run Tryz.prog w = .ok (.enter 296 args) w := fun _ _ => by kernel_rfl

set_option maxHeartbeats 1000000 in
/-- 'mul', whatever 'do' does. -/
theorem mul_of {p : Nat} {a b s : ByteArray} {c : Bool} {w : World} (h : Calls Tryz.prog 175 #[.pointer (some ⟨p, 0, none⟩), .func (.func 252) #[] #[], .string a, .string b] w (RetWk w p s c)) :
    Calls Tryz.prog 176 #[.pointer (some ⟨p, 0, none⟩), .string a, .string b] w (RetWk w p s c) := by
  have H := Lib.hid h
  clear h
  go_enter Tryz.func176, Tryz.ntmps176
  go_wp2_with (go_at_call 175; (with_reducible refine H.out.mono ?_); rintro e w1 ⟨rfl, ht, hw⟩)
  go_ret
  exact ⟨rfl, ht, hw⟩
set_option maxHeartbeats 1000000 in
theorem quo_of {p : Nat} {a b s : ByteArray} {c : Bool} {w : World} (h : Calls Tryz.prog 175 #[.pointer (some ⟨p, 0, none⟩), .func (.func 296) #[] #[], .string a, .string b] w (RetWk w p s c)) :
    Calls Tryz.prog 233 #[.pointer (some ⟨p, 0, none⟩), .string a, .string b] w (RetWk w p s c) := by
  have H := Lib.hid h
  clear h
  go_enter Tryz.func233, Tryz.ntmps233
  go_wp2_with (go_at_call 175; (with_reducible refine H.out.mono ?_); rintro e w1 ⟨rfl, ht, hw⟩)
  go_ret
  exact ⟨rfl, ht, hw⟩
set_option maxHeartbeats 1000000 in
theorem quo1_is {s t q : ByteArray} {a b c : Int} (hs : Is s a) (ht : Is t b) (h0 : b ≠ 0) (hq : Is q c) (h : a / b = c) (hr : sm (a % b)) (w : World) (hL : Laid w) :
    Calls Tryz.prog 296 #[.string s, .string t] w (RetSt w q) := by
  obtain ⟨r, hrr⟩ := Is.ex hr
  have H := Lib.hid (div_is hs ht h0 hq hrr h rfl w hL)
  clear hs ht h0 hq h hr hrr hL
  go_enter Tryz.func296, Tryz.ntmps296
  go_wp2_with (go_at_call 64; (with_reducible refine H.out.mono ?_); rintro e w1 ⟨rfl, hb⟩)
  go_ret2
  exact ⟨rfl, hb⟩

end Go.Proofs.YtffndcjmabjhiaaGreatDoor

namespace Go.Proofs.YtffndcjmabjhiaaGreatDoor
open Go.RowKit Num
open Go.Shelf

/-- How a calculation stands behind i fractions. -/
def stB (bad : Bool) (L : List (ByteArray × ByteArray)) (i : Nat) : Bool := bad || !((L.take i).all fun x => okR x.1 x.2)
theorem stB_succ {bad : Bool} {L : List (ByteArray × ByteArray)} {i : Nat} (h : i < L.length) : stB bad L (i + 1) = (stB bad L i || !okR L[i].1 L[i].2) := by
  unfold stB
  rw [List.take_succ_eq_append_getElem h, List.all_append]
  cases bad <;> cases ((L.take i).all fun x => okR x.1 x.2) <;> simp
/-- The fractions lie in a row of memory. -/
def RowQ (w : World) (Q : Nat) (L : List (ByteArray × ByteArray)) : Prop := ∀ i (h : i < L.length), w.cell? ⟨Q, i * 2, none⟩ = some (.string L[i].1) ∧ w.cell? ⟨Q, i * 2 + 1, none⟩ = some (.string L[i].2)

set_option maxHeartbeats 4000000 in
set_option maxRecDepth 100000 in
theorem check_any (w0 : World) (L : List (ByteArray × ByteArray)) (hl : L.length ≤ 1000) (Q p c : Nat) (bad : Bool) (w : World) (hc : L.length ≤ c) (hR : RowQ w Q L) (hw : WB w p bad) (hpQ : Q ≠ p) (hL0 : Laid w0) (hB0 : Below w0.heap.size w0 w) (hp0 : w0.heap.size ≤ p) :
    Calls Tryz.prog 174 #[.pointer (some ⟨p, 0, none⟩), .slice (some ⟨Q, 0, none⟩) L.length c] w fun e w' => e = .returned (.tuple #[]) ∧ Turn [p] w w' ∧ WB w' p (stB bad L L.length) := by
  have HR := Lib.hid hR
  have HW := Lib.hid hw
  have HL := Lib.hid hL0
  have hplt := hw.lt
  clear hR hw hL0
  generalize hm : L.length = m at *
  have HM := Lib.hid hm
  clear hm
  go_enter Tryz.func174, Tryz.ntmps174
  go_wp2
  go_loopg [8] m (fun kx s8 wr => ∃ i : Nat, s8 = .int .i64 i ∧ i ≤ m ∧ m ≤ kx + i ∧ Turn [p] w wr ∧ Hid (WB wr p (stB bad L i)))
  case atStart => exact ⟨0, rfl, by omega, by omega, Turn.refl _ _, Lib.hid (by unfold stB; simpa using HW.out)⟩
  case round =>
    obtain ⟨i, rfl, hi, hkx, hT, hwb⟩ := hrel
    have hw1 : IntKind.i64.wrap ((i : Int) + 1) = (i : Int) + 1 := IntWalk.i64_in _ (by omega)
    by_cases hg : i < m
    · have hg' : (i : Int) < (m : Int) := by omega
      have hiL : i < L.length := by rw [HM.out]; exact hg
      have hcx := hT.cell (HR.out i hiL).1 (by simpa using hpQ)
      have hcy := hT.cell (HR.out i hiL).2 (by simpa using hpQ)
      have hbl := hT.below hB0 (by have := hB0.size; omega) (by simpa using hp0)
      have hst := Lib.hid (stB_succ (bad := bad) hiL)
      have hpl := hwb.out.lt
      have hpf := hwb.out.2
      have hpc := hwb.out.1
      generalize L[i].1 = x at *
      generalize L[i].2 = y at *
      have hpc' : (wr.alloc (.cells #[.string x, .string y] 29)).cell? ⟨p, 0, none⟩ = some (.bool (stB bad L i)) := cell_up _ hpc
      have hpf' : (wr.alloc (.cells #[.string x, .string y] 29)).frozen? ⟨p, 0, none⟩ = false := ((below1 wr _).frozen hpl).trans hpf
      have HWB' := Lib.hid (show WB (wr.alloc (.cells #[.string x, .string y] 29)) p (stB bad L i) from ⟨hpc', hpf'⟩)
      have hbl' := below_up hbl (below1 wr (.cells #[.string x, .string y] 29))
      have QV := Lib.hid (qvalid_any x y _ (HL.out.below hbl'))
      have hT' := hT.trans (Turn.of_below (X := [p]) (below1 wr (.cells #[.string x, .string y] 29)))
      have hwb' := hwb
      generalize stB bad L i = s1 at *
      clear hpc hpf hbl hbl'
      cases s1 with
      | true =>
        have hs2 : Hid (stB bad L (i + 1) = true) := Lib.hid (by rw [hst.out]; rfl)
        go_wp2
        go_roundg (m - (i + 1))
        case measure => omega
        case rel => exact ⟨i + 1, by go_num, by omega, by omega, (hT.trans (Turn.setCell _ _ _ _ (by simp))).trans (Turn.of_below (below1 _ _)), Lib.hid (by rw [hs2.out]; exact (hwb'.out.set true).below (below1 _ _))⟩
      | false =>
        have hs2 : Hid (stB bad L (i + 1) = !okR x y) := Lib.hid (by rw [hst.out]; rfl)
        generalize okR x y = b at *
        go_wp2_with (go_at_call 63; (with_reducible refine QV.out.mono ?_); rintro e w2 ⟨rfl, hb2⟩; have c2 := (HWB'.out.below hb2).1; have f2 := (HWB'.out.below hb2).2)
        go_roundg (m - (i + 1))
        case measure => omega
        case rel => exact ⟨i + 1, by go_num, by omega, by omega, (hT'.trans (Turn.of_below hb2)).trans (Turn.setCell _ _ _ _ (by simp)), Lib.hid (by rw [hs2.out]; exact (HWB'.out.below hb2).set (!b))⟩
    · obtain rfl : i = m := by omega
      have hg' : ¬ (i : Int) < (i : Int) := by omega
      go_wp2
      exact bodyPost_end (results_none rfl _ _ _) rfl ⟨rfl, hT, hwb.out⟩

end Go.Proofs.YtffndcjmabjhiaaGreatDoor

namespace Go.Proofs.YtffndcjmabjhiaaGreatDoor
open Go.RowKit Num
open Go.Shelf

/-- A box that holds a fraction's two texts. -/
structure RB (W : World) (B : Nat) (x y : ByteArray) : Prop where
  c0 : W.cell? ⟨B, 0, none⟩ = some (.string x)
  c1 : W.cell? ⟨B, 1, none⟩ = some (.string y)
  f0 : W.frozen? ⟨B, 0, none⟩ = false
  f1 : W.frozen? ⟨B, 1, none⟩ = false
theorem RB.new (w : World) (x y : ByteArray) : RB (w.alloc (.cells #[.string x, .string y] 29)) w.heap.size x y :=
  ⟨by simp, by simp, by simp, by simp⟩
theorem RB.below {W W' : World} {B : Nat} {x y : ByteArray} (h : RB W B x y) (hb : Below W.heap.size W W') : RB W' B x y :=
  ⟨(hb.cell (cell_lt h.c0)).trans h.c0, (hb.cell (cell_lt h.c1)).trans h.c1, (hb.frozen (cell_lt h.c0)).trans h.f0, (hb.frozen (cell_lt h.c1)).trans h.f1⟩
theorem frozen_of_block {W W' : World} {b o : Nat} (h : W'.heap[b]? = W.heap[b]?) : W'.frozen? ⟨b, o, none⟩ = W.frozen? ⟨b, o, none⟩ := World.frozen?_of_block (w := W) h
theorem RB.turn {X : List Nat} {W W' : World} {B : Nat} {x y : ByteArray} (h : RB W B x y) (ht : Turn X W W') (hB : B ∉ X) : RB W' B x y :=
  have hh := ht.block B (cell_lt h.c0) hB
  ⟨ht.cell h.c0 hB, ht.cell h.c1 hB, (frozen_of_block hh).trans h.f0, (frozen_of_block hh).trans h.f1⟩
theorem RB.lt {W : World} {B : Nat} {x y : ByteArray} (h : RB W B x y) : B < W.heap.size := cell_lt h.c0
theorem RB.set {W : World} {B : Nat} {x y : ByteArray} (h : RB W B x y) (x' y' : ByteArray) : RB ((W.setCell ⟨B, 0, none⟩ (.string x')).setCell ⟨B, 1, none⟩ (.string y')) B x' y' := by
  have h0 : (W.setCell ⟨B, 0, none⟩ (.string x')).cell? ⟨B, 0, none⟩ = some (.string x') := World.cell?_setCell_same' _ _ _ (by rw [h.c0]; rfl)
  have h1 : (W.setCell ⟨B, 0, none⟩ (.string x')).cell? ⟨B, 1, none⟩ = some (.string y) := by
    exact (World.cell?_setCell_other _ (⟨B, 0, none⟩ : Addr) ⟨B, 1, none⟩ _ (by simp)).trans h.c1
  refine ⟨?_, World.cell?_setCell_same' _ _ _ (by rw [h1]; rfl), ?_, ?_⟩
  · exact (World.cell?_setCell_other _ (⟨B, 1, none⟩ : Addr) ⟨B, 0, none⟩ _ (by simp)).trans h0
  · rw [World.frozen?_setCell, World.frozen?_setCell]; exact h.f0
  · rw [World.frozen?_setCell, World.frozen?_setCell]; exact h.f1

/-- The call returns a fraction, or the error of package rational. -/
def RetQ (w : World) (o : Option Rat) (e : Ending) (w' : World) : Prop := e = .returned (.tuple #[.agg #[.string (numT o), .string (denT o)], .int .i64 (errT o)]) ∧ Below w.heap.size w w'

end Go.Proofs.YtffndcjmabjhiaaGreatDoor

namespace Go.Proofs.YtffndcjmabjhiaaGreatDoor
open Go.RowKit Num
open Go.Shelf

def RetQW (w : World) (p : Nat) (o : Option Rat) (e : Ending) (w' : World) : Prop := e = .returned (.tuple #[.agg #[.string (numT o), .string (denT o)], .int .i64 (errT o)]) ∧ Turn [p] w w'

set_option maxHeartbeats 2000000 in
set_option maxRecDepth 100000 in
theorem reduced_bad (p : Nat) (n d : ByteArray) (w : World) (hw : WB w p true) :
    Calls Tryz.prog 152 #[.pointer (some ⟨p, 0, none⟩), .string n, .string d] w (RetQW w p none) := by
  have hc := hw.1
  have hplt := hw.lt
  have hne : ¬ p = w.heap.size := by omega
  clear hw
  go_enter Tryz.func152, Tryz.ntmps152
  go_wp2
  refine bodyPost_ret (v := .tuple #[.agg #[.string ⟨#[]⟩, .string ⟨#[]⟩], .int .i64 40]) (by simp [results, Tryz.results152, go_sem]) rfl ⟨rfl, Turn.of_below (below1 _ _)⟩

/-- A store into a block that is new. -/
theorem turn_new2 {X : List Nat} {w W : World} (h : Turn X w W) {B : Nat} {u v : Value} (hB : w.heap.size ≤ B) : Turn X w ((W.setCell ⟨B, 0, none⟩ u).setCell ⟨B, 1, none⟩ v) := by
  have h1 := (Turn.setCell (X := [B]) W B 0 u (by simp)).trans (Turn.setCell (X := [B]) (W.setCell ⟨B, 0, none⟩ u) B 1 v (by simp))
  exact ⟨h1.os.trans h.os, h1.tape.trans h.tape, h1.output.trans h.output, Nat.le_trans h.size h1.size, fun k hk hX => (h1.block k (Nat.lt_of_lt_of_le hk h.size) (by simp; omega)).trans (h.block k hk hX)⟩

set_option maxHeartbeats 4000000 in
set_option maxRecDepth 100000 in
theorem reduced_ok (w0 : World) (p : Nat) (n d : ByteArray) (x y : Int) (hn : Is n x) (hd : Is d y) (w : World) (hw : WB w p false) (hL0 : Laid w0) (hB0 : Below w0.heap.size w0 w) (hp0 : w0.heap.size ≤ p) :
    Calls Tryz.prog 152 #[.pointer (some ⟨p, 0, none⟩), .string n, .string d] w (RetQW w p (makeQ x y)) := by
  have hc := hw.1
  have hplt := hw.lt
  have hne : ¬ p = w.heap.size := by omega
  have HL := Lib.hid hL0
  have HN : Hid (w.heap.size ∉ [p]) := Lib.hid (by rw [List.mem_singleton]; omega)
  have HP := Lib.hid (show ∀ k ∈ [p], w0.heap.size ≤ k by simpa using hp0)
  clear hL0 hp0
  by_cases hy : y = 0
  · subst hy
    obtain rfl : d = ⟨#[48]⟩ := hd.uniq lit_0
    rw [show makeQ x 0 = none from rfl]
    clear hn hd hw
    go_enter Tryz.func152, Tryz.ntmps152
    go_wp2
    refine bodyPost_ret (v := .tuple #[.agg #[.string ⟨#[]⟩, .string ⟨#[]⟩], .int .i64 40]) (by simp [results, Tryz.results152, go_sem]) rfl ⟨rfl, Turn.of_below (below1 _ _)⟩
  · have hd0 : (d.toList == [48]) = false := hd.differ0 hy
    rw [show makeQ x y = some (Rat.divInt x y) by unfold makeQ; rw [if_neg hy]]
    obtain ⟨hs1, hs2⟩ := divInt_small hn.small hd.small hy
    obtain ⟨X, hX⟩ := Is.ex hs1
    obtain ⟨Y, hY⟩ := Is.ex hs2
    have hXe : Hid (numT (some (Rat.divInt x y)) = X) := Lib.hid hX.eq.symm
    have hYe : Hid (denT (some (Rat.divInt x y)) = Y) := Lib.hid hY.eq.symm
    have key : ∀ (n d : ByteArray) (a b : Int), Is n a → Is d b → 0 < b → Rat.divInt a b = Rat.divInt x y → ∃ g, Hid (∀ W, WB W p false → Laid W → Calls Tryz.prog 175 #[.pointer (some ⟨p, 0, none⟩), .func (.func 159) #[] #[], .string n, .string d] W (RetWk W p g false)) ∧
        Hid (∀ W, WB W p false → Laid W → Calls Tryz.prog 233 #[.pointer (some ⟨p, 0, none⟩), .string n, .string g] W (RetWk W p X false)) ∧
        Hid (∀ W, WB W p false → Laid W → Calls Tryz.prog 233 #[.pointer (some ⟨p, 0, none⟩), .string d, .string g] W (RetWk W p Y false)) := by
      intro n d a b hn hd hb he
      have hgp : 0 < Int.gcd a b := Nat.pos_of_ne_zero fun e => by have := (Int.gcd_eq_zero_iff.1 e).2; omega
      have hgs : sm ((Int.gcd a b : Nat) : Int) := by
        have h1 : Int.gcd a b ≤ b.natAbs := by rw [Int.gcd_comm]; exact Int.gcd_le_natAbs_left _ (by omega)
        have h2 := hd.small
        unfold sm at h2 ⊢; rw [Int.natAbs_natCast]; omega
      obtain ⟨g, hg⟩ := Is.ex hgs
      obtain ⟨e1, e2⟩ := red_pos (n := a) hb
      rw [he] at e1 e2
      have z1 : a % ((Int.gcd a b : Nat) : Int) = 0 := Int.emod_eq_zero_of_dvd (Int.gcd_dvd_left _ _)
      have z2 : b % ((Int.gcd a b : Nat) : Int) = 0 := Int.emod_eq_zero_of_dvd (Int.gcd_dvd_right _ _)
      refine ⟨g, Lib.hid (fun W hw hL => do_ok _ enter_gcd p n d g W hw (gcd_is hn hd hg rfl W hL)), Lib.hid (fun W hw hL => quo_of (do_ok _ enter_quo p n g X W hw (quo1_is hn hg (by omega) hX e1 (by rw [z1]; decide) W hL))), Lib.hid (fun W hw hL => quo_of (do_ok _ enter_quo p d g Y W hw (quo1_is hd hg (by omega) hY e2 (by rw [z2]; decide) W hL)))⟩
    by_cases hpos : 0 < y
    · obtain ⟨g, D1, D2, D3⟩ := key n d x y hn hd hpos rfl
      have C := Lib.hid (fun w => cmp_is hd lit_0 (cmp_gt hpos) w)
      have HW := Lib.hid hw
      clear key hn hd hX hY hs1 hs2 hpos hy hw
      go_enter Tryz.func152, Tryz.ntmps152
      go_wp2_with (first
        | (go_at_call 65; (with_reducible refine (C.out _).mono ?_); rintro e w1 ⟨rfl, hb1⟩; have hb1' := below_up (below1 w _) hb1; have hW := HW.out.below hb1'; have hT := Turn.of_below (X := [p]) hb1'; have rb := (RB.new w ⟨#[]⟩ ⟨#[]⟩).below hb1; have hB := hT.below hB0 (Nat.le_refl _) HP.out; have hL := HL.out.below hB)
        | (go_at_call 175; (with_reducible refine (D1.out _ hW hL).mono ?_); rintro e w2 ⟨rfl, ht, hw2⟩; replace hT := hT.trans ht; replace hB := ht.below hB (Nat.le_refl _) HP.out; replace hL := HL.out.below hB; replace hW := hw2; replace rb := rb.turn ht HN.out)
        | (go_at_call 233; (with_reducible refine (D2.out _ hW hL).mono ?_); rintro e w3 ⟨rfl, ht, hw2⟩; replace hT := hT.trans ht; replace hB := ht.below hB (Nat.le_refl _) HP.out; replace hL := HL.out.below hB; replace hW := hw2; replace rb := rb.turn ht HN.out)
        | (go_at_call 233; (with_reducible refine (D3.out _ hW hL).mono ?_); rintro e w4 ⟨rfl, ht, hw2⟩; replace hT := hT.trans ht; replace hB := ht.below hB (Nat.le_refl _) HP.out; replace hL := HL.out.below hB; replace hW := hw2; replace rb := rb.turn ht HN.out; have hc4 := hW.1; have r0 := rb.c0; have r1 := rb.c1; have f0 := rb.f0; have f1 := rb.f1; have hpl4 := hW.lt; have hbl4 := rb.lt; have hn4 : ¬ w.heap.size = w4.heap.size := (by omega); have hn5 : ¬ p = w4.heap.size := (by omega)))
      have RBF := (rb.set X Y).below (below1 _ (.cells #[.string X, .string Y] 29))
      have e0 := RBF.c0
      have e1 := RBF.c1
      refine bodyPost_ret (v := .tuple #[.agg #[.string X, .string Y], .int .i64 0]) (by simp [results, Tryz.results152, go_sem, e0, e1]) rfl ⟨by rw [hXe.out, hYe.out]; rfl, ?_⟩
      exact (turn_new2 hT (Nat.le_refl _)).trans (Turn.of_below (below1 _ _))
    · have hneg : y < 0 := by omega
      have hns := hn.small
      have hds := hd.small
      obtain ⟨N', hN'⟩ := Is.ex (z := 0 - x) (by unfold sm at hns ⊢; omega)
      obtain ⟨D', hD'⟩ := Is.ex (z := 0 - y) (by unfold sm at hds ⊢; omega)
      have S1 : Hid (∀ W, WB W p false → Laid W → Calls Tryz.prog 175 #[.pointer (some ⟨p, 0, none⟩), .func (.func 81) #[] #[], .string ⟨#[48]⟩, .string n] W (RetWk W p N' false)) := Lib.hid (fun W hw hL => do_ok _ enter_sub p _ _ _ W hw (sub_is lit_0 hn hN' rfl W hL))
      have S2 : Hid (∀ W, WB W p false → Laid W → Calls Tryz.prog 175 #[.pointer (some ⟨p, 0, none⟩), .func (.func 81) #[] #[], .string ⟨#[48]⟩, .string d] W (RetWk W p D' false)) := Lib.hid (fun W hw hL => do_ok _ enter_sub p _ _ _ W hw (sub_is lit_0 hd hD' rfl W hL))
      obtain ⟨g, D1, D2, D3⟩ := key N' D' (0 - x) (0 - y) hN' hD' (by omega) (divInt_flip x hy)
      have C := Lib.hid (fun w => cmp_is hd lit_0 (cmp_lt hneg) w)
      have HW := Lib.hid hw
      clear key hn hd hX hY hs1 hs2 hpos hy hw hneg hns hds hN' hD'
      go_enter Tryz.func152, Tryz.ntmps152
      go_wp2_with (first
        | (go_at_call 65; (with_reducible refine (C.out _).mono ?_); rintro e w1 ⟨rfl, hb1⟩; have hb1' := below_up (below1 w _) hb1; have hW := HW.out.below hb1'; have hT := Turn.of_below (X := [p]) hb1'; have rb := (RB.new w ⟨#[]⟩ ⟨#[]⟩).below hb1; have hB := hT.below hB0 (Nat.le_refl _) HP.out; have hL := HL.out.below hB)
        | (go_at_call 175; (with_reducible refine (S1.out _ hW hL).mono ?_); rintro e w2 ⟨rfl, ht, hw2⟩; replace hT := hT.trans ht; replace hB := ht.below hB (Nat.le_refl _) HP.out; replace hL := HL.out.below hB; replace hW := hw2; replace rb := rb.turn ht HN.out)
        | (go_at_call 175; (with_reducible refine (S2.out _ hW hL).mono ?_); rintro e w2 ⟨rfl, ht, hw2⟩; replace hT := hT.trans ht; replace hB := ht.below hB (Nat.le_refl _) HP.out; replace hL := HL.out.below hB; replace hW := hw2; replace rb := rb.turn ht HN.out)
        | (go_at_call 175; (with_reducible refine (D1.out _ hW hL).mono ?_); rintro e w2 ⟨rfl, ht, hw2⟩; replace hT := hT.trans ht; replace hB := ht.below hB (Nat.le_refl _) HP.out; replace hL := HL.out.below hB; replace hW := hw2; replace rb := rb.turn ht HN.out)
        | (go_at_call 233; (with_reducible refine (D2.out _ hW hL).mono ?_); rintro e w3 ⟨rfl, ht, hw2⟩; replace hT := hT.trans ht; replace hB := ht.below hB (Nat.le_refl _) HP.out; replace hL := HL.out.below hB; replace hW := hw2; replace rb := rb.turn ht HN.out)
        | (go_at_call 233; (with_reducible refine (D3.out _ hW hL).mono ?_); rintro e w4 ⟨rfl, ht, hw2⟩; replace hT := hT.trans ht; replace hB := ht.below hB (Nat.le_refl _) HP.out; replace hL := HL.out.below hB; replace hW := hw2; replace rb := rb.turn ht HN.out; have hc4 := hW.1; have r0 := rb.c0; have r1 := rb.c1; have f0 := rb.f0; have f1 := rb.f1; have hpl4 := hW.lt; have hbl4 := rb.lt; have hn4 : ¬ w.heap.size = w4.heap.size := (by omega); have hn5 : ¬ p = w4.heap.size := (by omega)))
      have RBF := (rb.set X Y).below (below1 _ (.cells #[.string X, .string Y] 29))
      have e0 := RBF.c0
      have e1 := RBF.c1
      refine bodyPost_ret (v := .tuple #[.agg #[.string X, .string Y], .int .i64 0]) (by simp [results, Tryz.results152, go_sem, e0, e1]) rfl ⟨by rw [hXe.out, hYe.out]; rfl, ?_⟩
      exact (turn_new2 hT (Nat.le_refl _)).trans (Turn.of_below (below1 _ _))

end Go.Proofs.YtffndcjmabjhiaaGreatDoor

namespace Go.Proofs.YtffndcjmabjhiaaGreatDoor
open Go.RowKit Num
open Go.Shelf

def makeT (x y : ByteArray) : Option Rat :=
  match rdI x, rdI y with
  | some n, some d => makeQ n d
  | _, _ => none
theorem WB.new (w : World) (b : Bool) : WB (w.alloc (.cells #[.bool b] 201)) w.heap.size b := ⟨by simp, by simp⟩
theorem below_new2 {w W : World} (h : Below w.heap.size w W) {B : Nat} {u v : Value} (hB : w.heap.size ≤ B) : Below w.heap.size w ((W.setCell ⟨B, 0, none⟩ u).setCell ⟨B, 1, none⟩ v) :=
  (h.setCell (p := ⟨B, 0, none⟩) hB u).setCell (p := ⟨B, 1, none⟩) hB v
theorem below_turn {w W W' : World} {p : Nat} (h : Below w.heap.size w W) (ht : Turn [p] W W') (hp : w.heap.size ≤ p) : Below w.heap.size w W' :=
  ht.below h (Nat.le_refl _) (by simpa using hp)

set_option maxHeartbeats 4000000 in
set_option maxRecDepth 100000 in
theorem qmake_any (x y : ByteArray) (w : World) (hL : Laid w) : Calls Tryz.prog 55 #[.string x, .string y] w (RetQ w (makeT x y)) := by
  have HL := Lib.hid hL
  have V1 := Lib.hid (fun w => valid_api x w)
  have V2 := Lib.hid (fun w => valid_api y w)
  cases hx : rdI x with
  | none =>
    rw [show makeT x y = none by unfold makeT; rw [hx]]
    rw [hx] at V1
    simp only [Option.isSome_none] at V1
    clear hL hx V2
    go_enter Tryz.func55, Tryz.ntmps55
    go_wp2_with (first
      | (go_at_call 151; (with_reducible refine (V1.out _).mono ?_); rintro e w1 ⟨rfl, hb1⟩; have rb := (RB.new w ⟨#[]⟩ ⟨#[]⟩).below hb1; have hB := below_up (below1 w _) hb1)
      | (go_at_call 152; (with_reducible refine (reduced_bad _ _ _ _ (WB.new _ true)).mono ?_); rintro e w3 ⟨rfl, ht⟩; replace rb := (rb.below (below1 _ _)).turn ht (by rw [List.mem_singleton]; have := rb.lt; omega); replace hB := below_turn (below_up hB (below1 _ _)) ht hB.size; have r0 := rb.c0; have r1 := rb.c1; have f0 := rb.f0; have f1 := rb.f1))
    have RBF := rb.set (numT none) (denT none)
    have e0 := RBF.c0
    have e1 := RBF.c1
    refine bodyPost_ret (v := .tuple #[.agg #[.string (numT none), .string (denT none)], .int .i64 (errT none)]) (by simp [results, Tryz.results55, go_sem, e0, e1]) rfl ⟨rfl, below_new2 hB (Nat.le_refl _)⟩
  | some n =>
    rw [hx] at V1
    simp only [Option.isSome_some] at V1
    cases hy : rdI y with
    | none =>
      rw [show makeT x y = none by unfold makeT; rw [hx, hy]]
      rw [hy] at V2
      simp only [Option.isSome_none] at V2
      clear hL hx hy
      go_enter Tryz.func55, Tryz.ntmps55
      go_wp2_with (first
        | (go_at_call 151; (with_reducible refine (V1.out _).mono ?_); rintro e w1 ⟨rfl, hb1⟩; have rb := (RB.new w ⟨#[]⟩ ⟨#[]⟩).below hb1; have hB := below_up (below1 w _) hb1)
        | (go_at_call 151; (with_reducible refine (V2.out _).mono ?_); rintro e w2 ⟨rfl, hb2⟩; replace rb := rb.below hb2; replace hB := below_up hB hb2)
        | (go_at_call 152; (with_reducible refine (reduced_bad _ _ _ _ (WB.new _ true)).mono ?_); rintro e w3 ⟨rfl, ht⟩; replace rb := (rb.below (below1 _ _)).turn ht (by rw [List.mem_singleton]; have := rb.lt; omega); replace hB := below_turn (below_up hB (below1 _ _)) ht hB.size; have r0 := rb.c0; have r1 := rb.c1; have f0 := rb.f0; have f1 := rb.f1))
      have RBF := rb.set (numT none) (denT none)
      have e0 := RBF.c0
      have e1 := RBF.c1
      refine bodyPost_ret (v := .tuple #[.agg #[.string (numT none), .string (denT none)], .int .i64 (errT none)]) (by simp [results, Tryz.results55, go_sem, e0, e1]) rfl ⟨rfl, below_new2 hB (Nat.le_refl _)⟩
    | some d =>
      rw [show makeT x y = makeQ n d by unfold makeT; rw [hx, hy]]
      rw [hy] at V2
      simp only [Option.isSome_some] at V2
      have RO := Lib.hid (fun p W hw hB0 hp0 => reduced_ok w p x y n d hx hy W hw hL hB0 hp0)
      generalize makeQ n d = o at *
      clear hL hx hy
      go_enter Tryz.func55, Tryz.ntmps55
      go_wp2_with (first
        | (go_at_call 151; (with_reducible refine (V1.out _).mono ?_); rintro e w1 ⟨rfl, hb1⟩; have rb := (RB.new w ⟨#[]⟩ ⟨#[]⟩).below hb1; have hB := below_up (below1 w _) hb1)
        | (go_at_call 151; (with_reducible refine (V2.out _).mono ?_); rintro e w2 ⟨rfl, hb2⟩; replace rb := rb.below hb2; replace hB := below_up hB hb2)
        | (go_at_call 152; (with_reducible refine (RO.out _ _ (WB.new _ false) (below_up hB (below1 _ _)) hB.size).mono ?_); rintro e w3 ⟨rfl, ht⟩; replace rb := (rb.below (below1 _ _)).turn ht (by rw [List.mem_singleton]; have := rb.lt; omega); replace hB := below_turn (below_up hB (below1 _ _)) ht hB.size; have r0 := rb.c0; have r1 := rb.c1; have f0 := rb.f0; have f1 := rb.f1))
      have RBF := rb.set (numT o) (denT o)
      have e0 := RBF.c0
      have e1 := RBF.c1
      refine bodyPost_ret (v := .tuple #[.agg #[.string (numT o), .string (denT o)], .int .i64 (errT o)]) (by simp [results, Tryz.results55, go_sem, e0, e1]) rfl ⟨rfl, below_new2 hB (Nat.le_refl _)⟩

end Go.Proofs.YtffndcjmabjhiaaGreatDoor
