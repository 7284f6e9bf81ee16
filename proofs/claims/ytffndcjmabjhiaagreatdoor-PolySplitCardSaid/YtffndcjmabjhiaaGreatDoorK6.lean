/- (for a program without integer.ToInt) The walks of package integer's Gcd and ToInt. Conditions: the tables and the errors that package strconv reads. The walk of package integer's Div. Conditions: the tables that strconv.Itoa reads. (for a program without integer.Root) The walk of package integer's Root: Newton's steps. Conditions: the tables that strconv.Itoa reads. The walk of the reference implementation's 'text'. Conditions: sizes. (for a program without Made) The walk of the reference implementation's 'Made'. Conditions: sizes. Contracts of package integer at written integers. Conditions: sizes. -/
import Derived.Test.YtffndcjmabjhiaaGreatDoorK5
import Derived.Test.YtffndcjmabjhiaaGreatDoorK1
import Derived.Laws.BytesString
import Derived.Laws.IdiomStrings
namespace Go.Proofs.YtffndcjmabjhiaaGreatDoor
open Go.RowKit Num
open Go.Shelf

theorem len_pos_iff (n : Nat) : (0 : Int) < ((dg 10000 n).length : Int) ↔ 0 < n := by
  have h := dg_eq_nil (B := 10000) (n := n) (by omega)
  rcases Nat.eq_zero_or_pos n with h0 | h0
  · rw [h.2 h0]; simp; omega
  · have : dg 10000 n ≠ [] := fun e => by have := h.1 e; omega
    have := List.length_pos_iff.2 this
    omega
theorem lim199 : (10 : Nat) ^ 200 ≤ 10000 ^ 199 := by decide
theorem limbig : (10 : Nat) ^ 200 ≤ big := by unfold big; decide

set_option maxHeartbeats 1000000 in
theorem gcd_any (a b : ByteArray) (w : World) (hL : Laid w) : Calls Tryz.prog 159 #[.string a, .string b] w (RetP w (op2 (fun x y => outI (Int.gcd x y : Nat)) a b)) := by
  have HL := Lib.hid hL
  clear hL
  rcases cases2 a b with ⟨x, y, ha, hb⟩ | h
  · have BO := Lib.hid (both_ok ha hb)
    have hx := rd_small ha
    have hy := rd_small hb
    have EQ := Lib.hid (op2_ok (f := fun x y => outI (Int.gcd x y : Nat)) ha hb)
    have HG : Hid (Nat.gcd x.natAbs y.natAbs = Int.gcd x y) := Lib.hid rfl
    rw [EQ.out, ← HG.out]
    clear ha hb EQ HG
    go_enter Tryz.func159, Tryz.ntmps159
    generalize decide (x < 0) = n1 at *
    generalize decide (y < 0) = n2 at *
    generalize x.natAbs = m1 at *
    generalize y.natAbs = m2 at *
    have hmixed : Tryz.prog.follows .mixedOrders = true := by kernel_rfl
    have HG := Lib.hid (rfl : Nat.gcd m1 m2 = Nat.gcd m1 m2)
    generalize hG : Nat.gcd m1 m2 = G at *
    have HGG := Lib.hid hG
    clear hG HG
    go_wp2_with (go_at_call 160; (with_reducible refine (BO.out _).mono ?_); rintro e W1 ⟨A1, A2, c1, c2, rfl, hr1, hr2, hb1⟩)
    have hB2 : Below w.heap.size w ((W1.alloc (.cells #[.bool n1, .slice A1 (dg 10000 m1).length c1] 215)).alloc (.cells #[.bool n2, .slice A2 (dg 10000 m2).length c2] 215)) := below_up hb1 (below2 W1 _ _)
    obtain ⟨s1, s2⟩ := boxes2 W1 n1 n2 (.slice A1 (dg 10000 m1).length c1) (.slice A2 (dg 10000 m2).length c2)
    have HR1 := Lib.hid (hr1.below (below2 W1 (.cells #[.bool n1, .slice A1 (dg 10000 m1).length c1] 215) (.cells #[.bool n2, .slice A2 (dg 10000 m2).length c2] 215)))
    have HR2 := Lib.hid (hr2.below (below2 W1 (.cells #[.bool n1, .slice A1 (dg 10000 m1).length c1] 215) (.cells #[.bool n2, .slice A2 (dg 10000 m2).length c2] 215)))
    clear hr1 hr2
    generalize (W1.alloc (.cells #[.bool n1, .slice A1 (dg 10000 m1).length c1] 215)).alloc (.cells #[.bool n2, .slice A2 (dg 10000 m2).length c2] 215) = W2 at *
    have x1 := s1.cell1
    have y1 := s2.cell1
    go_region_held3 (fun w' => w'.cell? ⟨W1.heap.size, 1, none⟩ = some (.slice A1 (dg 10000 m1).length c1) ∧ w'.cell? ⟨W1.heap.size + 1, 1, none⟩ = some (.slice A2 (dg 10000 m2).length c2)) (go_keep) (fail)
    all_goals go_wp2
    clear x1 y1 s1 s2
    go_loopg [9, 10] m2 (fun kx s9 s10 wr => ∃ (p q : Nat) (A B : Option Addr) (c d : Nat), s9 = .slice A (dg 10000 p).length c ∧ s10 = .slice B (dg 10000 q).length d ∧ Hid (Rd wr (.slice A (dg 10000 p).length c) (dg 10000 p)) ∧ Hid (Rd wr (.slice B (dg 10000 q).length d) (dg 10000 q)) ∧
      p < 10 ^ 200 ∧ q < 10 ^ 200 ∧ Hid (Nat.gcd p q = G) ∧ q ≤ kx ∧ Below w.heap.size w wr)
    case atStart => exact ⟨m1, m2, A1, A2, c1, c2, rfl, rfl, HR1.out.below (Below.refl _ _).drew, HR2.out.below (Below.refl _ _).drew, hx, hy, HGG.out, Nat.le_refl _, hB2.drew⟩
    case round =>
      obtain ⟨p, q, A, B, c, d, rfl, rfl, hp, hq, hp2, hq2, hg, hk, hnx⟩ := hrel
      rcases Nat.eq_zero_or_pos q with h0 | h0
      · have hc : ¬ (0 : Int) < ((dg 10000 q).length : Int) := by rw [len_pos_iff]; omega
        have hpG : Hid (p = G) := Lib.hid (by have := hg.out; rw [h0, Nat.gcd_zero_right] at this; exact this)
        clear h0
        go_wp2_with (go_at_call 165; (with_reducible refine (text_any false p _ wr hp.out (HL.out.below hnx)).mono ?_); rintro e W4 ⟨rfl, hb4⟩)
        go_ret2
        exact ⟨by rw [← hpG.out]; rfl, below_up hnx hb4⟩
      · have hc : (0 : Int) < ((dg 10000 q).length : Int) := by rw [len_pos_iff]; exact h0
        have hgm : Hid (Nat.gcd q (p % q) = G) := Lib.hid (by rw [← hg.out, Nat.gcd_comm p q, Nat.gcd_rec q p, Nat.gcd_comm])
        have hlt := Nat.mod_lt p h0
        have OV := Lib.hid (over_any p q _ _ wr hp.out hq.out h0 (Nat.lt_of_lt_of_le hp2 limbig) (Nat.lt_of_lt_of_le hq2 lim199))
        generalize p / q = t at *
        generalize p % q = r at *
        clear h0
        go_wp2_with (go_at_call 161; (with_reducible refine OV.out.mono ?_); rintro e W3 ⟨v, u, rfl, hr3, hr4, hb3⟩; obtain ⟨A3, c3, rfl, -⟩ := id hr3; obtain ⟨A4, c4, rfl, -⟩ := id hr4)
        go_roundg r
        case measure => omega
        case rel => exact ⟨q, r, B, A4, d, c4, rfl, rfl, hq.out.below hb3, hr4, hq2, by omega, hgm, Nat.le_refl _, below_up hnx hb3⟩
  · have BO := Lib.hid (both_no h)
    have EQ := Lib.hid (op2_no (f := fun x y => outI (Int.gcd x y : Nat)) h)
    rw [EQ.out]
    clear EQ h
    go_enter Tryz.func159, Tryz.ntmps159
    go_wp2_with (go_at_call 160; (with_reducible refine (BO.out _).mono ?_); rintro e W1 ⟨rfl, hb1⟩)
    go_ret2
    exact ⟨rfl, below_up hb1 (below2 W1 _ _)⟩

/-- An int that a text spells, as 'ToInt' answers. -/
def toI (s : ByteArray) : Int × Int :=
  match rdI s with
  | some z => if -9223372036854775808 ≤ z ∧ z ≤ 9223372036854775807 then (z, 0) else (0, 30)
  | none => (0, 30)

end Go.Proofs.YtffndcjmabjhiaaGreatDoor

namespace Go.Proofs.YtffndcjmabjhiaaGreatDoor
open Go.RowKit Num
open Go.Shelf

theorem dg_one : dg 10000 1 = [1] := by rw [dg_pos (by omega) (by omega)]; simp [dg_zero]
theorem one_any (w : World) : Calls Tryz.prog 163 #[] w (RetN w 1) := by
  go_enter Tryz.func163, Tryz.ntmps163
  go_wp2
  go_ret
  refine ⟨_, rfl, ?_, below1 _ _⟩
  rw [dg_one]
  refine ⟨some ⟨w.heap.size, 0, none⟩, 1, rfl, ⟨Nat.le_refl _, fun e => by cases e⟩, by simp, fun _ => ⟨_, 0, rfl, fun j hj => ?_⟩⟩
  have : j = 0 := by simpa using hj
  subst this
  exact cell_new1 _ _ _

theorem div_pos (x : Int) (Y : Nat) (hY : 0 < Y) :
    (x < 0 ∧ 0 < x.natAbs % Y → x / (Y : Int) = -((x.natAbs / Y + 1 : Nat) : Int) ∧ x % (Y : Int) = ((Y - x.natAbs % Y : Nat) : Int)) ∧
    (¬ (x < 0 ∧ 0 < x.natAbs % Y) → x / (Y : Int) = sgn (decide (x < 0)) (x.natAbs / Y) ∧ x % (Y : Int) = ((x.natAbs % Y : Nat) : Int)) := by
  have hm := Nat.div_add_mod x.natAbs Y
  have hlt := Nat.mod_lt x.natAbs hY
  have hm' : (Y : Int) * ((x.natAbs / Y : Nat) : Int) + ((x.natAbs % Y : Nat) : Int) = (x.natAbs : Int) := by rw [← Int.natCast_mul, ← Int.natCast_add, hm]
  generalize x.natAbs / Y = q at *
  generalize x.natAbs % Y = r at *
  constructor
  · rintro ⟨h1, h2⟩
    refine (Int.ediv_emod_unique (by omega)).2 ⟨?_, by omega, by omega⟩
    have e : (Y : Int) * -((q + 1 : Nat) : Int) = -((Y : Int) * (q : Int)) - Y := by
      rw [Int.mul_neg, Int.natCast_add, Int.mul_add]; simp; omega
    rw [e]
    generalize (Y : Int) * (q : Int) = P at *
    omega
  · intro h
    refine (Int.ediv_emod_unique (by omega)).2 ⟨?_, by omega, by omega⟩
    unfold sgn
    rcases Int.lt_or_le x 0 with h0 | h0
    · have hr : r = 0 := by omega
      rw [if_pos (by simpa using h0), Int.mul_neg]
      generalize (Y : Int) * (q : Int) = P at *
      omega
    · rw [if_neg (by simp; omega)]
      generalize (Y : Int) * (q : Int) = P at *
      omega
theorem div_fact (x y : Int) (hy : y ≠ 0) :
    (x < 0 ∧ 0 < x.natAbs % y.natAbs → sgn (decide (x < 0) != decide (y < 0)) (x.natAbs / y.natAbs + 1) = x / y ∧ sgn false (y.natAbs - x.natAbs % y.natAbs) = x % y) ∧
    (¬ (x < 0 ∧ 0 < x.natAbs % y.natAbs) → sgn (decide (x < 0) != decide (y < 0)) (x.natAbs / y.natAbs) = x / y ∧ sgn false (x.natAbs % y.natAbs) = x % y) := by
  have h := div_pos x y.natAbs (by omega)
  have hf : ∀ k, sgn false k = (k : Int) := fun k => by unfold sgn; simp
  rcases Int.lt_or_le y 0 with h0 | h0
  · have e : y = -(y.natAbs : Int) := by omega
    have d : decide (y < 0) = true := by simpa using h0
    rw [d]
    generalize y.natAbs = Y at *
    subst e
    rw [Int.ediv_neg, Int.emod_neg]
    constructor
    · intro hc
      have := h.1 hc
      rw [this.1, this.2, hf, show decide (x < 0) = true by simpa using hc.1]
      exact ⟨by unfold sgn; simp, rfl⟩
    · intro hc
      have := h.2 hc
      rw [this.1, this.2, hf]
      exact ⟨by unfold sgn; cases decide (x < 0) <;> simp, rfl⟩
  · have e : y = (y.natAbs : Int) := by omega
    have d : decide (y < 0) = false := by simp; omega
    rw [d]
    generalize y.natAbs = Y at *
    subst e
    constructor
    · intro hc
      have := h.1 hc
      rw [this.1, this.2, hf, show decide (x < 0) = true by simpa using hc.1]
      exact ⟨by unfold sgn; simp, rfl⟩
    · intro hc
      have := h.2 hc
      rw [this.1, this.2, hf]
      exact ⟨by unfold sgn; cases decide (x < 0) <;> simp, rfl⟩

theorem div_fact' (x y : Int) (hy : y ≠ 0) :
    (decide (x < 0) = true ∧ 0 < x.natAbs % y.natAbs → sgn (decide (x < 0) != decide (y < 0)) (x.natAbs / y.natAbs + 1) = x / y ∧ sgn false (y.natAbs - x.natAbs % y.natAbs) = x % y) ∧
    (¬ (decide (x < 0) = true ∧ 0 < x.natAbs % y.natAbs) → sgn (decide (x < 0) != decide (y < 0)) (x.natAbs / y.natAbs) = x / y ∧ sgn false (x.natAbs % y.natAbs) = x % y) :=
  ⟨fun h => (div_fact x y hy).1 ⟨by simpa using h.1, h.2⟩, fun h => (div_fact x y hy).2 (fun h' => h ⟨by simpa using h'.1, h'.2⟩)⟩

/-- What 'Div' answers. -/
def divI (a b : ByteArray) : ByteArray × ByteArray × Int :=
  match rdI a, rdI b with
  | some x, some y => if y = 0 then (⟨#[]⟩, ⟨#[]⟩, 30) else (tx (x / y), tx (x % y), 0)
  | _, _ => (⟨#[]⟩, ⟨#[]⟩, 30)

def RetT (w : World) (p : ByteArray × ByteArray × Int) (e : Ending) (w' : World) : Prop := e = .returned (.tuple #[.string p.1, .string p.2.1, .int .i64 p.2.2]) ∧ Below w.heap.size w w'
theorem outTx {z : Int} (h : z.natAbs < 10 ^ 200) : (outI z).1 = tx z ∧ (outI z).2 = 0 := by rw [outI_ok h]; exact ⟨rfl, rfl⟩

/-- The texts of quotient and rest. -/
def RetTx (w : World) (s : ByteArray) (e : Ending) (w' : World) : Prop := e = .returned (.tuple #[.string s, .int .i64 0]) ∧ Below w.heap.size w w'
theorem text_tx {neg : Bool} {n : Nat} {z : Int} (hz : sgn neg n = z) (hs : z.natAbs < 10 ^ 200) {A : Option Addr} {c : Nat} (w : World) (hv : Rd w (.slice A (dg 10000 n).length c) (dg 10000 n)) (hL : Laid w) :
    Calls Tryz.prog 165 #[.agg #[.bool neg, .slice A (dg 10000 n).length c]] w (RetTx w (tx z)) := by
  refine (text_any neg n _ w hv hL).mono ?_
  rintro e w' ⟨rfl, hb⟩
  rw [hz, outI_ok hs]
  exact ⟨rfl, hb⟩

set_option maxHeartbeats 2000000 in
theorem div_any (a b : ByteArray) (w : World) (hL : Laid w) : Calls Tryz.prog 64 #[.string a, .string b] w (RetT w (divI a b)) := by
  have HL := Lib.hid hL
  clear hL
  rcases cases2 a b with ⟨x, y, ha, hb⟩ | h
  · have BO := Lib.hid (both_ok ha hb)
    have hx := rd_small ha
    have hy := rd_small hb
    by_cases hy0 : y = 0
    · subst hy0
      have EQ : divI a b = (⟨#[]⟩, ⟨#[]⟩, 30) := by unfold divI; rw [ha, hb]; rfl
      rw [EQ]
      have e0 : dg 10000 (0 : Int).natAbs = [] := dg_zero _
      clear ha hb EQ hx hy
      go_enter Tryz.func64, Tryz.ntmps64
      go_wp2_with (go_at_call 160; (with_reducible refine (BO.out _).mono ?_); rintro e W1 ⟨A1, A2, c1, c2, rfl, hr1, hr2, hb1⟩; rw [e0]; simp only [List.length_nil])
      go_ret3
      exact ⟨rfl, below_up hb1 (below2 W1 _ _)⟩
    · have EQ : divI a b = (tx (x / y), tx (x % y), 0) := by unfold divI; rw [ha, hb]; simp [hy0]
      rw [EQ]
      have hf := div_fact' x y hy0
      have hq1 : (x / y).natAbs < 10 ^ 200 := Nat.lt_of_le_of_lt (Int.natAbs_ediv_le_natAbs x y) hx
      have hq2 : (x % y).natAbs < 10 ^ 200 := by
        have h1 := Int.emod_nonneg x hy0
        have h2 := Int.emod_lt x hy0
        omega
      have hY : 0 < y.natAbs := by omega
      have hyb : y.natAbs < big := Nat.lt_of_lt_of_le hy limbig
      have hxb : x.natAbs / y.natAbs + 1 < big := by
        have h1 := Nat.div_le_self x.natAbs y.natAbs
        have h2 := big_gt
        omega
      have HY : Hid (decide ((0 : Int) < ((dg 10000 y.natAbs).length : Int)) = true) := Lib.hid (by rw [decide_eq_true_eq, len_pos_iff]; exact hY)
      have hyl : (((dg 10000 y.natAbs).length : Int) == 0) = false := by
        have := (len_pos_iff y.natAbs).2 hY
        simp; intro e; rw [e] at this; simp at this
      have hrl : x.natAbs % y.natAbs ≤ y.natAbs := Nat.le_of_lt (Nat.mod_lt _ hY)
      have hrp := len_pos_iff (x.natAbs % y.natAbs)
      have OV := fun A1 A2 c1 c2 w h1 h2 => Lib.hid (over_any x.natAbs y.natAbs (.slice A1 (dg 10000 x.natAbs).length c1) (.slice A2 (dg 10000 y.natAbs).length c2) w h1 h2 hY (Nat.lt_of_lt_of_le hx limbig) (Nat.lt_of_lt_of_le hy lim199))
      have OVH := Lib.hid OV
      have EX : Hid (∀ z, sgn (decide (z < 0)) z.natAbs = z) := Lib.hid sgn_self
      clear EQ OV HY ha hb hx hy
      have T1 := fun neg n => Lib.hid (fun hz A c w => text_tx (neg := neg) (n := n) (A := A) (c := c) hz hq1 w)
      have T2 := fun neg n => Lib.hid (fun hz A c w => text_tx (neg := neg) (n := n) (A := A) (c := c) hz hq2 w)
      have TH1 := Lib.hid T1
      have TH2 := Lib.hid T2
      clear T1 T2 EX hq1 hq2
      generalize x / y = Q at *
      generalize x % y = R at *
      generalize decide (x < 0) = n1 at *
      generalize decide (y < 0) = n2 at *
      generalize x.natAbs / y.natAbs = q at *
      generalize x.natAbs % y.natAbs = r at *
      generalize x.natAbs = m1 at *
      generalize y.natAbs = m2 at *
      have hmixed : Tryz.prog.follows .mixedOrders = true := by kernel_rfl
      go_enter Tryz.func64, Tryz.ntmps64
      by_cases hc : n1 = true ∧ 0 < r
      · obtain ⟨hz1, hz2⟩ := hf.1 hc
        obtain ⟨rfl, hr0⟩ := hc
        have hrp' := hrp.2 hr0
        simp only [Bool.true_bne] at hz1
        have HZ1 := Lib.hid hz1
        have HZ2 := Lib.hid hz2
        clear hz1 hz2 hf hrp hy0 hr0
        go_wp2_with (first
            | (go_at_call 160; (with_reducible refine (BO.out _).mono ?_); rintro e W1 ⟨A1, A2, c1, c2, rfl, hr1, hr2, hb1⟩)
            | (go_at_call 161; (with_reducible refine (OVH.out A1 A2 c1 c2 _ (hr1.below (below2 _ _ _)) (hr2.below (below2 _ _ _))).out.mono ?_); rintro e W3 ⟨v, u, rfl, hr3, hr4, hb3⟩; obtain ⟨A3, c3, rfl, -⟩ := id hr3; obtain ⟨A4, c4, rfl, -⟩ := id hr4; obtain ⟨s1, s2⟩ := boxes2 W1 _ _ _ _; have t1 := s1.below hb3 s1.lt; have t2 := s2.below hb3 s2.lt; have x0 := t1.cell0; have y0 := t2.cell0; have y1 := t2.cell1; have hry := (hr2.below (below2 W1 _ _)).below hb3))
        have hB3 := below_up (below_up hb1 (below2 W1 _ _)) hb3
        have hZ : Below W3.heap.size W3 W3.drew := (Below.refl _ _).drew
        have hr3 := hr3.below hZ
        have hr4 := hr4.below hZ
        have hry := hry.below hZ
        clear s1 s2 t1 t2 hr1 hr2 hb3
        go_region_held3 (fun w' => w'.cell? ⟨W1.heap.size + 1, 1, none⟩ = some (.slice A2 (dg 10000 m2).length c2)) (go_keep)
          (first
            | (go_at_call 163; (with_reducible refine (one_any _).mono ?_); rintro e wN ⟨vO, rfl, hrO, hb⟩; obtain ⟨AO, cO, rfl, -⟩ := id hrO; have hZ := below_up hZ hb; have hr3 := hr3.below hb; have hr4 := hr4.below hb; have hry := hry.below hb; have x0 := (hb.cell (cell_lt x0)).trans x0; have y0 := (hb.cell (cell_lt y0)).trans y0; have y1 := (hb.cell (cell_lt y1)).trans y1; (try (have hrO := hrO.below hb)); (try (have hrM := hrM.below hb)); (try (have hrP := hrP.below hb)))
            | (go_at_call 162; (with_reducible refine (plus_any q 1 _ _ _ hr3 hrO hxb).mono ?_); rintro e wN ⟨vP, rfl, hrP, hb⟩; obtain ⟨AP, cP, rfl, -⟩ := id hrP; have hZ := below_up hZ hb; have hr3 := hr3.below hb; have hr4 := hr4.below hb; have hry := hry.below hb; have x0 := (hb.cell (cell_lt x0)).trans x0; have y0 := (hb.cell (cell_lt y0)).trans y0; have y1 := (hb.cell (cell_lt y1)).trans y1; (try (have hrO := hrO.below hb)); (try (have hrM := hrM.below hb)); (try (have hrP := hrP.below hb)))
            | (go_at_call 164; (with_reducible refine (minus_any m2 r _ _ _ hry hr4 hyb hrl).mono ?_); rintro e wN ⟨vM, rfl, hrM, hb⟩; obtain ⟨AM, cM, rfl, -⟩ := id hrM; have hZ := below_up hZ hb; have hr3 := hr3.below hb; have hr4 := hr4.below hb; have hry := hry.below hb; have x0 := (hb.cell (cell_lt x0)).trans x0; have y0 := (hb.cell (cell_lt y0)).trans y0; have y1 := (hb.cell (cell_lt y1)).trans y1; (try (have hrO := hrO.below hb)); (try (have hrM := hrM.below hb)); (try (have hrP := hrP.below hb))))
        all_goals
          go_wp2_with (first
            | (go_at_call 165; (with_reducible refine ((TH1.out _ (q + 1)).out HZ1.out AP cP _ hrP (HL.out.below (below_up hB3 hZ))).mono ?_); rintro e W4 ⟨rfl, hb4⟩)
            | (go_at_call 165; (with_reducible refine ((TH2.out _ (m2 - r)).out HZ2.out AM cM W4 (hrM.below hb4) (HL.out.below (below_up (below_up hB3 hZ) hb4))).mono ?_); rintro e W5 ⟨rfl, hb5⟩))
          go_ret3
          exact ⟨rfl, below_up (below_up (below_up hB3 hZ) hb4) hb5⟩
      · obtain ⟨hz1, hz2⟩ := hf.2 hc
        have hp : n1 = false ∨ (n1 = true ∧ ¬ (0 : Int) < ((dg 10000 r).length : Int)) := by
          rw [hrp]
          cases n1
          · exact .inl rfl
          · exact .inr ⟨rfl, fun h => hc ⟨rfl, h⟩⟩
        have HZ2 := Lib.hid hz2
        clear hz2 hf hc hrp hy0
        rcases hp with rfl | ⟨rfl, hp⟩
        all_goals
          simp only [Bool.false_bne, Bool.true_bne] at hz1
          have HZ1 := Lib.hid hz1
          clear hz1
          go_wp2_with (first
            | (go_at_call 160; (with_reducible refine (BO.out _).mono ?_); rintro e W1 ⟨A1, A2, c1, c2, rfl, hr1, hr2, hb1⟩)
            | (go_at_call 161; (with_reducible refine (OVH.out A1 A2 c1 c2 _ (hr1.below (below2 _ _ _)) (hr2.below (below2 _ _ _))).out.mono ?_); rintro e W3 ⟨v, u, rfl, hr3, hr4, hb3⟩; obtain ⟨A3, c3, rfl, -⟩ := id hr3; obtain ⟨A4, c4, rfl, -⟩ := id hr4; obtain ⟨s1, s2⟩ := boxes2 W1 _ _ _ _; have t1 := s1.below hb3 s1.lt; have t2 := s2.below hb3 s2.lt; have x0 := t1.cell0; have y0 := t2.cell0; have y1 := t2.cell1)
            | (go_at_call 165; go_loud ((with_reducible refine ((TH1.out _ q).out HZ1.out A3 c3 W3 hr3 (HL.out.below (below_up (below_up hb1 (below2 W1 _ _)) hb3))).mono ?_); rintro e W4 ⟨rfl, hb4⟩))
            | (go_at_call 165; (with_reducible refine ((TH2.out _ r).out HZ2.out A4 c4 W4 (hr4.below hb4) (HL.out.below (below_up (below_up (below_up hb1 (below2 W1 _ _)) hb3) hb4))).mono ?_); rintro e W5 ⟨rfl, hb5⟩))
          go_ret3
          exact ⟨rfl, below_up (below_up (below_up (below_up hb1 (below2 W1 _ _)) hb3) hb4) hb5⟩
  · have BO := Lib.hid (both_no h)
    have EQ : divI a b = (⟨#[]⟩, ⟨#[]⟩, 30) := by
      unfold divI
      rcases h with h | h
      · rw [h]
      · rw [h]; cases rdI a <;> rfl
    rw [EQ]
    clear EQ h
    go_enter Tryz.func64, Tryz.ntmps64
    go_wp2_with (go_at_call 160; (with_reducible refine (BO.out _).mono ?_); rintro e W1 ⟨rfl, hb1⟩)
    go_ret3
    exact ⟨rfl, below_up hb1 (below2 W1 _ _)⟩

end Go.Proofs.YtffndcjmabjhiaaGreatDoor

namespace Go.Proofs.YtffndcjmabjhiaaGreatDoor
open Go.RowKit Num
open Go.Shelf

def isq (n r : Nat) : Prop := r * r ≤ n ∧ n < (r + 1) * (r + 1)
theorem isq_unique {n r s : Nat} (h : isq n r) (k : isq n s) : r = s := by
  rcases Nat.lt_trichotomy r s with c | c | c
  · have := Nat.mul_le_mul c c
    have h1 := h.2
    have h2 := k.1
    exact absurd (Nat.lt_of_lt_of_le h1 (Nat.le_trans this h2)) (Nat.lt_irrefl _)
  · exact c
  · have := Nat.mul_le_mul c c
    have h1 := k.2
    have h2 := h.1
    exact absurd (Nat.lt_of_lt_of_le h1 (Nat.le_trans this h2)) (Nat.lt_irrefl _)
theorem sq_ge (r s : Nat) : 4 * (r * s) ≤ (r + s) * (r + s) := by
  rcases Nat.le_total r s with h | h
  · obtain ⟨d, rfl⟩ := Nat.exists_eq_add_of_le h
    have e : (r + (r + d)) * (r + (r + d)) = 4 * (r * (r + d)) + d * d := by
      simp only [Nat.mul_add, Nat.add_mul, Nat.mul_comm d r]
      omega
    omega
  · obtain ⟨d, rfl⟩ := Nat.exists_eq_add_of_le h
    have e : (s + d + s) * (s + d + s) = 4 * ((s + d) * s) + d * d := by
      simp only [Nat.mul_add, Nat.add_mul, Nat.mul_comm d s]
      omega
    omega
theorem newton_above (n r : Nat) (hr : 0 < r) : n < ((r + n / r) / 2 + 1) * ((r + n / r) / 2 + 1) := by
  have h1 : n < r * (n / r + 1) := Nat.lt_mul_div_succ n hr
  have h2 := sq_ge r (n / r + 1)
  have h3 : r + (n / r + 1) ≤ 2 * ((r + n / r) / 2 + 1) := by omega
  have h4 := Nat.mul_le_mul h3 h3
  generalize (r + n / r) / 2 + 1 = t at *
  have h5 : 2 * t * (2 * t) = 4 * (t * t) := by
    rw [Nat.mul_assoc, Nat.mul_left_comm t 2 t, ← Nat.mul_assoc]
  omega
theorem newton_stop {n r : Nat} (h : r ≤ (r + n / r) / 2) : r * r ≤ n := by
  have h1 : r ≤ n / r := by omega
  have h2 := Nat.mul_le_mul_right r h1
  exact Nat.le_trans h2 (Nat.div_mul_le_self n r)
theorem newton_pos {n t : Nat} (hn : 0 < n) (h : n < (t + 1) * (t + 1)) : 0 < t := by
  rcases Nat.eq_zero_or_pos t with h0 | h0
  · subst h0; omega
  · exact h0

theorem dg_pow : ∀ k, dg 10000 (10000 ^ k) = List.replicate k 0 ++ [1]
  | 0 => dg_one
  | k + 1 => by
    rw [Nat.pow_succ, dg_shift (Nat.pow_pos (by omega)), dg_pow k]
    rfl
theorem root_start (n : Nat) : n < (10000 ^ (((dg 10000 n).length + 1) / 2) + 1) * (10000 ^ (((dg 10000 n).length + 1) / 2) + 1) := by
  have h := dg_len_lt (B := 10000) (by omega) n
  have h2 : 10000 ^ (dg 10000 n).length ≤ 10000 ^ (((dg 10000 n).length + 1) / 2 + ((dg 10000 n).length + 1) / 2) := Nat.pow_le_pow_right (by omega) (by omega)
  rw [Nat.pow_add] at h2
  have h3 := Nat.mul_le_mul (Nat.le_succ (10000 ^ (((dg 10000 n).length + 1) / 2))) (Nat.le_succ (10000 ^ (((dg 10000 n).length + 1) / 2)))
  exact Nat.lt_of_lt_of_le h (Nat.le_trans h2 h3)

/-- 'make([]int, n)'. -/
theorem make_ints {w : World} {ops : Array Oper} {rest : List Oper} {o : Oper} {a : Act} {Q : Exit → Act → World → Prop} (hg : o.guard = none) (l c : Operand)
    (hop : o.op = Op.makeSlice 213 l c) (L : Nat) (hl : a.eval l = .int .i64 L) (hc : a.eval c = .int .i64 L) (hL : L ≤ 900000)
    (hK : ∀ w', w'.ownsRow w.heap.size 3 1 (.slice (some ⟨w.heap.size, 0, none⟩) L L) (List.replicate L (0 : Int)).length ((List.replicate L (0 : Int)).map (Value.int .i64)) → Below w.heap.size w w' → wpList Tryz.prog ops Q rest (a.put o.dst (.slice (some ⟨w.heap.size, 0, none⟩) L L)) w') :
    wpList Tryz.prog ops Q (o :: rest) a w := by
  obtain ⟨i0, hi, hz0, hz1, hz2⟩ := info_parts Tryz.info3
  refine wpList_plain hg fun K hK' => ?_
  obtain ⟨w', hrun, r1, r2⟩ := run_make_full (P := Tryz.prog) w w.heap.size 213 3 i0 (.int .i64 0) 1 Tryz.underlying213 hi hz0 hz1 .i64 .i64 L (by rw [hz2]; omega) (by unfold maxLen; omega) (Nat.le_refl _)
  unfold Oper.wp
  simp [execOp, hop, hl, hc, hrun, Result.andThen]
  refine hK' _ _ (hK w' ?_ ((Below.refl _ _).grown r2 (Nat.le_refl _) (fun k e => by cases e)))
  have e : (madeCells (Value.int .i64 0).cells (L * 1)).toList = (List.replicate L (0 : Int)).map (Value.int .i64) := by
    rw [Nat.mul_one, List.map_replicate]
    exact toList_madeCells_one _ _
  rw [List.length_replicate, ← e]; exact r1

theorem lit_rd (w : World) (d : Nat) (hd : 0 < d) (h9 : d ≤ 9999) : Rd (w.alloc (.cells #[.int .i64 d] 3)) (.slice (some ⟨w.heap.size, 0, none⟩) 1 1) (dg 10000 d) := by
  have e : dg 10000 d = [(d : Int)] := by rw [dg_pos (by omega) hd, Nat.div_eq_of_lt (by omega), Nat.mod_eq_of_lt (by omega), dg_zero]
  rw [e]
  refine ⟨some ⟨w.heap.size, 0, none⟩, 1, rfl, ⟨Nat.le_refl _, fun e => by cases e⟩, by simp, fun _ => ⟨_, 0, rfl, fun j hj => ?_⟩⟩
  have : j = 0 := by simpa using hj
  subst this
  exact cell_new1 _ _ _
theorem lit_two (w : World) : Rd (w.alloc (.cells #[.int .i64 2] 3)) (.slice (some ⟨w.heap.size, 0, none⟩) 1 1) (dg 10000 2) := lit_rd w 2 (by omega) (by omega)
def RetRoot (w : World) (n : Nat) (e : Ending) (w' : World) : Prop := ∃ r : Nat, isq n r ∧ e = .returned (.tuple #[.string (tx r), .int .i64 0]) ∧ Below w.heap.size w w'

theorem rd_zero : rdI ⟨#[48]⟩ = some 0 := by
  have e : (⟨#[48]⟩ : ByteArray) = tx 0 := by
    unfold tx
    rw [show (0 : Int) = ((0 : Nat) : Int) from rfl, itoa_pos, dec_small (by omega)]
    rfl
  rw [e]
  exact rdI_tx (by decide)

end Go.Proofs.YtffndcjmabjhiaaGreatDoor

namespace Go.Proofs.YtffndcjmabjhiaaGreatDoor
open Go.RowKit Num
open Go.Shelf

theorem Tryz.infoU8 : (Tryz.prog.info? 5).map (fun i => (i.zero, i.size, i.bytes)) = some (some (.int .u8 0), 1, 1) := by kernel_rfl
/-- 'append(out, b)' of bytes. -/
theorem app_byte {w : World} {ops : Array Oper} {rest : List Oper} {o : Oper} {a : Act} {Q : Exit → Act → World → Prop} (hgd : o.guard = none) (s x : Operand)
    (ho : o.op = .call { callee := .builtin .append, args := #[s, x], argTypes := #[66, 66] }) (B : Nat) (v : Value) (ys : List UInt8) (b : UInt8) (c : Int) (hbc : c = b.toNat) (hs : a.eval s = v)
    (hown : w.ownsRow B 5 1 v ys.length (Lib.byteCells ys)) (hx : a.eval x = .slice (some ⟨w.heap.size, 0, none⟩) 1 1) (hl : ys.length ≤ 2000000) (hB : B ≤ w.heap.size)
    (h : ∀ v' w', w'.ownsRow B 5 1 v' (ys ++ [b]).length (Lib.byteCells (ys ++ [b])) → (∀ b W, Below b W w → b ≤ B → Below b W w') → wpList Tryz.prog ops Q rest (a.put o.dst v') w') :
    wpList Tryz.prog ops Q (o :: rest) a (w.alloc (.cells #[.int .u8 c] 5)) := by
  subst hbc
  obtain ⟨i0, hi, hz0, hz1, hz2⟩ := info_parts Tryz.infoU8
  refine wpList_append_own _ hgd s x 66 ho B 5 i0 (.int .u8 0) 1 1 Tryz.underlying66 hi hz0 hz1 hz2 rfl (by decide) v ys.length _ hs (hown.alloc _) ⟨w.heap.size, 0, none⟩ 1 1 [.int .u8 b.toNat] hx rfl (cell_one_new _ _ _) ?_ ?_ ?_ ?_ ?_
  · intro u hu; simp at hu; subst hu; rfl
  · unfold maxLen; omega
  · omega
  · simp; omega
  · intro v' w' hown' hg _
    refine h v' w' (by rw [List.length_append, List.length_singleton, Lib.byteCells_append]; exact hown') (fun b W hb hbB => ?_)
    exact (hb.alloc (by omega) _).grown hg (by simp; omega) (fun k hk => by have := (hown.lt k hk).1; omega)

/-! ### The text of decimal digits -/
def chr (d : Int) : UInt8 := UInt8.ofNat (48 + d.toNat)
theorem dec_dg : ∀ (u : Nat), 0 < u → Lib.decDigits u = (dg 10 u).reverse.map chr := by
  intro u
  induction u using Nat.strongRecOn with
  | ind u ih =>
    intro hu
    rw [dg_pos (by omega) hu, List.reverse_cons, List.map_append]
    by_cases h : u < 10
    · rw [dec_small h, Nat.div_eq_of_lt h, dg_zero, Nat.mod_eq_of_lt h]
      simp [chr]
    · rw [dec_big h, ih (u / 10) (by omega) (by omega)]
      show _ = _ ++ [chr ((u % 10 : Nat) : Int)]
      unfold chr
      rw [Int.toNat_natCast]
def sg0 (neg : Bool) : List UInt8 := if neg then [45] else []
def rt (neg : Bool) (n k : Nat) : List UInt8 := sg0 neg ++ ((dg 10 n).drop k).reverse.map chr
theorem rt_step {neg : Bool} {n k : Nat} (hk : k < (dg 10 n).length) : rt neg n (k + 1) ++ [chr (nth (dg 10 n) k)] = rt neg n k := by
  unfold rt
  rw [List.drop_eq_getElem_cons hk, List.reverse_cons, List.map_append, List.append_assoc]
  unfold nth
  rw [List.getElem?_eq_getElem hk]
  rfl
theorem rt_done {neg : Bool} {n : Nat} (h : 0 < n) : (⟨(rt neg n 0).toArray⟩ : ByteArray) = tx (sgn neg n) := by
  unfold rt tx
  rw [List.drop_zero, ← dec_dg n h]
  unfold sg0 sgn
  cases neg
  · simp [itoa_pos]
  · rw [if_pos rfl, if_pos rfl, itoa_neg (by omega)]
    simp
theorem rt_len {neg : Bool} {n k : Nat} : (rt neg n k).length ≤ 1 + (dg 10 n).length := by
  unfold rt sg0
  rw [List.length_append, List.length_map, List.length_reverse, List.length_drop]
  cases neg <;> simp <;> omega
theorem len200 (n : Nat) : decide ((dg 10 n).length ≤ 200) = decide (n < 10 ^ 200) := by
  rw [decide_eq_decide]
  constructor
  · intro h
    exact Nat.lt_of_lt_of_le (dg_len_lt (by omega) n) (Nat.pow_le_pow_right (by omega) h)
  · exact dg_len (by omega) 200 n

set_option maxHeartbeats 2000000 in
set_option maxRecDepth 100000 in
theorem rtext_any (neg : Bool) (n : Nat) (v : Value) (w : World) (hv : Rd w v (dg 10 n)) :
    Calls Tryz.prog 228 #[.bool neg, v] w fun e w' => e = .returned (.tuple #[.string (tx (sgn neg n)), .bool (decide (n < 10 ^ 200))]) ∧ Below w.heap.size w w' := by
  have HV := Lib.hid hv
  obtain ⟨A, c, rfl, -, hm, -⟩ := hv
  have h200 := len200 n
  rcases Nat.eq_zero_or_pos n with rfl | h0
  · have e0 : dg 10 0 = [] := dg_zero _
    have et : tx (sgn neg ((0 : Nat))) = ⟨#[48]⟩ := by
      have e : sgn neg 0 = ((0 : Nat) : Int) := by unfold sgn; cases neg <;> rfl
      rw [e]; unfold tx
      rw [itoa_pos, dec_small (by omega)]
      rfl
    rw [et, show decide (0 < 10 ^ 200) = true by decide]
    clear et h200 HV hm
    rw [e0]
    simp only [List.length_nil]
    go_enter Tryz.func228, Tryz.ntmps228
    go_wp2
    go_ret2
    exact ⟨rfl, Below.refl _ _⟩
  · have hlp : 0 < (dg 10 n).length := by
      have : dg 10 n ≠ [] := fun e => by rw [dg_eq_nil (by omega)] at e; omega
      exact List.length_pos_iff.2 this
    have hli : (((dg 10 n).length : Int) == 0) = false := by
      rw [beq_eq_false_iff_ne]; omega
    have hd : ∀ (i : Decidable (((dg 10 n).length : Int) ≤ 200)), @decide _ i = decide ((dg 10 n).length ≤ 200) := fun i => by rw [decide_eq_decide]; omega
    have HDD := Lib.hid hd
    clear hd
    have hwl : IntKind.i64.wrap (((dg 10 n).length : Int) - 1) = ((dg 10 n).length : Int) - 1 := IntWalk.i64_in _ (by omega)
    have HD := Lib.hid (rt_done (neg := neg) h0)
    have HN := Lib.hid (len200 n)
    have HST : Hid (rt neg n (dg 10 n).length = sg0 neg) := Lib.hid (by unfold rt; rw [List.drop_length]; simp)
    rw [← h200]
    clear h200 h0
    go_enter Tryz.func228, Tryz.ntmps228
    have key : ∀ (W : World) (v6 : Value) (hown : W.ownsRow w.heap.size 5 1 v6 (sg0 neg).length (Lib.byteCells (sg0 neg))) (hb : Below w.heap.size w W), True := fun _ _ _ _ => trivial
    cases neg with
    | false =>
      go_wp2
      go_loopg [6, 7] (dg 10 n).length (fun kx s6 s7 wr => ∃ k : Nat, s7 = .int .i64 ((k : Int) - 1) ∧ k ≤ (dg 10 n).length ∧ k ≤ kx ∧ wr.ownsRow w.heap.size 5 1 s6 (rt false n k).length (Lib.byteCells (rt false n k)) ∧ Below w.heap.size w wr)
      case atStart => exact ⟨(dg 10 n).length, rfl, Nat.le_refl _, Nat.le_refl _, by rw [HST.out]; exact World.ownsRow_nil _ _ _ _, Below.refl _ _⟩
      case round =>
        obtain ⟨k, rfl, hk, hkx, hown, hnx⟩ := hrel
        have hrl := rt_len (neg := false) (n := n) (k := k)
        rcases Nat.eq_zero_or_pos k with rfl | hk0
        · have hpos : 0 < (rt false n 0).length := by
            have h1 : (rt false n 0).length = (sg0 false).length + (dg 10 n).length := by unfold rt; simp
            omega
          rcases id hown.2 with ⟨_, h2⟩ | ⟨g, cap, cur, rfl, -⟩
          · omega
          have hconv : (convert 66 9 (.slice (some ⟨g, 0, none⟩) (rt false n 0).length cap)).run Tryz.prog wr = .ok (.string (tx (sgn false n))) wr := by
            rw [run_convert_bytes_back wr 66 9 5 ⟨g, 0, none⟩ cap (rt false n 0) Tryz.underlying66 Tryz.underlying5 Tryz.underlying9 (fun j hj => by
              rw [addr_add, hown.cellAt (0 + j) (by omega), Nat.zero_add]
              simp [Lib.byteCells, List.getElem?_eq_getElem hj]), HD.out]
          have hneg : ¬ (0 : Int) ≤ ((0 : Nat) : Int) - 1 := by omega
          clear hown hpos hrl
          generalize (rt false n 0).length = L at *
          go_wp2
          go_ret2
          refine ⟨?_, hnx⟩
          show Ending.returned (.tuple #[.string (tx (sgn false n)), .bool (@decide (((dg 10 n).length : Int) ≤ 200) _)]) = _
          rw [HDD.out]
        · obtain ⟨m, rfl⟩ : ∃ m, k = m + 1 := ⟨k - 1, by omega⟩
          obtain ⟨A', c', hAe, _, _, hx⟩ := HV.out.below hnx
          cases hAe
          obtain ⟨b, o, rfl, hy⟩ := hx hlp
          have hcell : wr.cell? ⟨b, o + m, none⟩ = some (.int .i64 (nth (dg 10 n) m)) := hy m (by omega)
          have hdd : 0 ≤ nth (dg 10 n) m ∧ nth (dg 10 n) m < 10 := by
            have h := (dig_dg (B := 10) (by omega) n).getD (by omega) m
            unfold nth
            simpa [List.getD_eq_getElem?_getD] using h
          have HRS := Lib.hid (rt_step (neg := false) (n := n) (k := m) (by omega))
          have HOWN := Lib.hid hown
          clear hown hx hy
          generalize nth (dg 10 n) m = d at *
          obtain ⟨hd0, hd1⟩ := hdd
          have hbc : Hid (48 + d = ((chr d).toNat : Int)) := Lib.hid (by unfold chr; rw [toNat_ch (by omega)]; omega)
          have hw48 : IntKind.i64.wrap (48 + d) = 48 + d := IntWalk.i64_in _ (by omega)
          have hu48 : IntKind.u8.wrap (48 + d) = 48 + d := IntWalk.u8_in _ (by omega)
          have hwm : IntKind.i64.wrap ((m : Int) - 1) = (m : Int) - 1 := IntWalk.i64_in _ (by omega)
          have hml : (m : Int) < ((dg 10 n).length : Int) := by omega
          rw [show (((m + 1 : Nat) : Int) - 1) = (m : Int) by omega]
          go_wp2_with (at_builtin; go_loud (refine app_byte rfl (.tmp 22) (.tmp 29) rfl w.heap.size _ (rt false n (m + 1)) (chr d) (48 + d) hbc.out rfl HOWN.out rfl (by omega) hnx.size ?_; intro v' w3 hown3 hb3))
          go_roundg m
          case measure => omega
          case rel => exact ⟨m, rfl, by omega, Nat.le_refl _, by rw [← HRS.out]; exact hown3, hb3 w.heap.size w hnx (Nat.le_refl _)⟩
    | true =>
      go_wp2_with (at_builtin; refine app_byte rfl (.tmp 12) (.tmp 13) rfl w.heap.size _ [] 45 45 rfl rfl (World.ownsRow_nil w _ _ _) rfl (by simp) (Nat.le_refl _) ?_; intro v6 w2 hown2 hb2)
      have hB2 := hb2 w.heap.size w (Below.refl _ _) (Nat.le_refl _)
      have HOWN2 := Lib.hid hown2
      clear hown2 hb2
      go_loopg [6, 7] (dg 10 n).length (fun kx s6 s7 wr => ∃ k : Nat, s7 = .int .i64 ((k : Int) - 1) ∧ k ≤ (dg 10 n).length ∧ k ≤ kx ∧ wr.ownsRow w.heap.size 5 1 s6 (rt true n k).length (Lib.byteCells (rt true n k)) ∧ Below w.heap.size w wr)
      case atStart => exact ⟨(dg 10 n).length, rfl, Nat.le_refl _, Nat.le_refl _, by rw [HST.out]; exact HOWN2.out, hB2⟩
      case round =>
        obtain ⟨k, rfl, hk, hkx, hown, hnx⟩ := hrel
        have hrl := rt_len (neg := true) (n := n) (k := k)
        rcases Nat.eq_zero_or_pos k with rfl | hk0
        · have hpos : 0 < (rt true n 0).length := by
            have h1 : (rt true n 0).length = (sg0 true).length + (dg 10 n).length := by unfold rt; simp
            omega
          rcases id hown.2 with ⟨_, h2⟩ | ⟨g, cap, cur, rfl, -⟩
          · omega
          have hconv : (convert 66 9 (.slice (some ⟨g, 0, none⟩) (rt true n 0).length cap)).run Tryz.prog wr = .ok (.string (tx (sgn true n))) wr := by
            rw [run_convert_bytes_back wr 66 9 5 ⟨g, 0, none⟩ cap (rt true n 0) Tryz.underlying66 Tryz.underlying5 Tryz.underlying9 (fun j hj => by
              rw [addr_add, hown.cellAt (0 + j) (by omega), Nat.zero_add]
              simp [Lib.byteCells, List.getElem?_eq_getElem hj]), HD.out]
          have hneg : ¬ (0 : Int) ≤ ((0 : Nat) : Int) - 1 := by omega
          clear hown hpos hrl
          generalize (rt true n 0).length = L at *
          go_wp2
          go_ret2
          refine ⟨?_, hnx⟩
          show Ending.returned (.tuple #[.string (tx (sgn true n)), .bool (@decide (((dg 10 n).length : Int) ≤ 200) _)]) = _
          rw [HDD.out]
        · obtain ⟨m, rfl⟩ : ∃ m, k = m + 1 := ⟨k - 1, by omega⟩
          obtain ⟨A', c', hAe, _, _, hx⟩ := HV.out.below hnx
          cases hAe
          obtain ⟨b, o, rfl, hy⟩ := hx hlp
          have hcell : wr.cell? ⟨b, o + m, none⟩ = some (.int .i64 (nth (dg 10 n) m)) := hy m (by omega)
          have hdd : 0 ≤ nth (dg 10 n) m ∧ nth (dg 10 n) m < 10 := by
            have h := (dig_dg (B := 10) (by omega) n).getD (by omega) m
            unfold nth
            simpa [List.getD_eq_getElem?_getD] using h
          have HRS := Lib.hid (rt_step (neg := true) (n := n) (k := m) (by omega))
          have HOWN := Lib.hid hown
          clear hown hx hy
          generalize nth (dg 10 n) m = d at *
          obtain ⟨hd0, hd1⟩ := hdd
          have hbc : Hid (48 + d = ((chr d).toNat : Int)) := Lib.hid (by unfold chr; rw [toNat_ch (by omega)]; omega)
          have hw48 : IntKind.i64.wrap (48 + d) = 48 + d := IntWalk.i64_in _ (by omega)
          have hu48 : IntKind.u8.wrap (48 + d) = 48 + d := IntWalk.u8_in _ (by omega)
          have hwm : IntKind.i64.wrap ((m : Int) - 1) = (m : Int) - 1 := IntWalk.i64_in _ (by omega)
          have hml : (m : Int) < ((dg 10 n).length : Int) := by omega
          rw [show (((m + 1 : Nat) : Int) - 1) = (m : Int) by omega]
          go_wp2_with (at_builtin; go_loud (refine app_byte rfl (.tmp 22) (.tmp 29) rfl w.heap.size _ (rt true n (m + 1)) (chr d) (48 + d) hbc.out rfl HOWN.out rfl (by omega) hnx.size ?_; intro v' w3 hown3 hb3))
          go_roundg m
          case measure => omega
          case rel => exact ⟨m, rfl, by omega, Nat.le_refl _, by rw [← HRS.out]; exact hown3, hb3 w.heap.size w hnx (Nat.le_refl _)⟩

end Go.Proofs.YtffndcjmabjhiaaGreatDoor

namespace Go.Proofs.YtffndcjmabjhiaaGreatDoor
open Go.RowKit Num
open Go.Shelf

/-- 'append(l, r)' of a []int. -/
theorem app_int {w : World} {ops : Array Oper} {rest : List Oper} {o : Oper} {a : Act} {Q : Exit → Act → World → Prop} (hgd : o.guard = none) (s x : Operand)
    (ho : o.op = .call { callee := .builtin .append, args := #[s, x], argTypes := #[41, 41] }) (B : Nat) (v : Value) (ys : List Int) (r : Int) (hs : a.eval s = v)
    (hown : w.ownsRow B 3 1 v ys.length (ys.map (Value.int .i64))) (hx : a.eval x = .slice (some ⟨w.heap.size, 0, none⟩) 1 1) (hl : ys.length ≤ 1000000) (hB : B ≤ w.heap.size)
    (h : ∀ v' w', w'.ownsRow B 3 1 v' (ys ++ [r]).length ((ys ++ [r]).map (Value.int .i64)) → (∀ b W, Below b W w → b ≤ B → Below b W w') → wpList Tryz.prog ops Q rest (a.put o.dst v') w') :
    wpList Tryz.prog ops Q (o :: rest) a (w.alloc (.cells #[.int .i64 r] 3)) := by
  obtain ⟨i0, hi, hz0, hz1, hz2⟩ := info_parts Tryz.info3
  refine wpList_append_own _ hgd s x 41 ho B 3 i0 (.int .i64 0) 1 8 Tryz.underlying41 hi hz0 hz1 hz2 rfl (by decide) v ys.length _ hs (hown.alloc _) ⟨w.heap.size, 0, none⟩ 1 1 [.int .i64 r] hx rfl (cell_one_new _ _ _) ?_ ?_ ?_ ?_ ?_
  · intro u hu; simp at hu; subst hu; rfl
  · unfold maxLen; omega
  · omega
  · simp; omega
  · intro v' w' hown' hg _
    refine h v' w' (by simpa using hown') (fun b W hb hbB => ?_)
    exact (hb.alloc (by omega) _).grown hg (by simp; omega) (fun k hk => by have := (hown.lt k hk).1; omega)

end Go.Proofs.YtffndcjmabjhiaaGreatDoor

namespace Go.Proofs.YtffndcjmabjhiaaGreatDoor
open Go.RowKit Num
open Go.Shelf

/-! ### Strings that are texts of integers -/
/-- The string is the text of the integer, which has at most 200 digits. -/
def Is (s : ByteArray) (z : Int) : Prop := rdI s = some z
def sm (z : Int) : Prop := z.natAbs < 10 ^ 200
theorem is_tx {z : Int} (h : sm z) : Is (tx z) z := rdI_tx h
theorem Is.ex {z : Int} (h : sm z) : ∃ s, Is s z := ⟨_, is_tx h⟩
theorem Is.eq {s : ByteArray} {z : Int} (h : Is s z) : s = tx z := (rdI_some h).1
theorem Is.small {s : ByteArray} {z : Int} (h : Is s z) : sm z := (rdI_some h).2
theorem Is.uniq {s t : ByteArray} {z : Int} (h : Is s z) (k : Is t z) : s = t := h.eq.trans k.eq.symm
theorem Is.inj {s : ByteArray} {x y : Int} (h : Is s x) (k : Is s y) : x = y := Option.some.inj (h.symm.trans k)
theorem Is.differ {s t : ByteArray} {x y : Int} (h : Is s x) (k : Is t y) (hn : x ≠ y) : (s.toList == t.toList) = false := by
  rw [beq_eq_false_iff_ne]
  intro e
  have e2 : s = t := by
    rw [ByteArray.toList_eq] at e
    rw [ByteArray.toList_eq] at e
    exact ByteArray.ext (Array.toList_inj.1 e)
  subst e2
  exact hn (h.inj k)
theorem Is.cast {s : ByteArray} {x y : Int} (h : Is s x) (e : x = y) : Is s y := e ▸ h
theorem nabs_mul {a b : Int} {m n : Nat} (ha : a.natAbs < m) (hb : b.natAbs < n) : (a * b).natAbs < m * n := by
  rw [Int.natAbs_mul]
  exact Nat.mul_lt_mul'' ha hb
theorem nabs_add {a b : Int} {m n : Nat} (ha : a.natAbs < m) (hb : b.natAbs < n) : (a + b).natAbs < m + n := by omega
theorem nabs_sub {a b : Int} {m n : Nat} (ha : a.natAbs < m) (hb : b.natAbs < n) : (a - b).natAbs < m + n := by omega
theorem sm_of {z : Int} {m : Nat} (h : z.natAbs < m) (hm : m ≤ 10 ^ 200) : sm z := Nat.lt_of_lt_of_le h hm

/-! ### What a call answers -/
/-- A string, and no error. -/
def RetSt (w : World) (s : ByteArray) (e : Ending) (w' : World) : Prop := e = .returned (.tuple #[.string s, .int .i64 0]) ∧ Below w.heap.size w w'
/-- ErrInteger. -/
def RetE (w : World) (e : Ending) (w' : World) : Prop := e = .returned (.tuple #[.string ⟨#[]⟩, .int .i64 30]) ∧ Below w.heap.size w w'
def RetI (w : World) (n : Int) (e : Ending) (w' : World) : Prop := e = .returned (.int .i64 n) ∧ Below w.heap.size w w'
def RetB (w : World) (b : Bool) (e : Ending) (w' : World) : Prop := e = .returned (.bool b) ∧ Below w.heap.size w w'
def RetD (w : World) (q r : ByteArray) (e : Ending) (w' : World) : Prop := e = .returned (.tuple #[.string q, .string r, .int .i64 0]) ∧ Below w.heap.size w w'
def RetDE (w : World) (e : Ending) (w' : World) : Prop := e = .returned (.tuple #[.string ⟨#[]⟩, .string ⟨#[]⟩, .int .i64 30]) ∧ Below w.heap.size w w'
def RetZ (w : World) (s : ByteArray) (e : Ending) (w' : World) : Prop := e = .returned (.string s) ∧ Below w.heap.size w w'
def RetMadeNo (w : World) (k : Nat) (e : Ending) (w' : World) : Prop := ∃ s z, Is s z ∧ Hid (z.natAbs < 10 ^ k) ∧ e = .returned (.string s) ∧ Below w.heap.size w w'

theorem add_is {s t r : ByteArray} {a b c : Int} (hs : Is s a) (ht : Is t b) (hr : Is r c) (h : a + b = c) (w : World) (hL : Laid w) :
    Calls Tryz.prog 196 #[.string s, .string t] w (RetSt w r) := by
  refine (add_any s t w hL).mono fun e w' k => ?_
  rw [op2_ok hs ht] at k
  simp only [h] at k
  rw [outI_ok hr.small, ← hr.eq] at k
  exact k
theorem sub_is {s t r : ByteArray} {a b c : Int} (hs : Is s a) (ht : Is t b) (hr : Is r c) (h : a - b = c) (w : World) (hL : Laid w) :
    Calls Tryz.prog 81 #[.string s, .string t] w (RetSt w r) := by
  refine (sub_any s t w hL).mono fun e w' k => ?_
  rw [op2_ok hs ht] at k
  simp only [h] at k
  rw [outI_ok hr.small, ← hr.eq] at k
  exact k
theorem mul_is {s t r : ByteArray} {a b c : Int} (hs : Is s a) (ht : Is t b) (hr : Is r c) (h : a * b = c) (w : World) (hL : Laid w) :
    Calls Tryz.prog 252 #[.string s, .string t] w (RetSt w r) := by
  refine (mul_any s t w hL).mono fun e w' k => ?_
  rw [op2_ok hs ht] at k
  simp only [h] at k
  rw [outI_ok hr.small, ← hr.eq] at k
  exact k
theorem gcd_is {s t r : ByteArray} {a b c : Int} (hs : Is s a) (ht : Is t b) (hr : Is r c) (h : ((Int.gcd a b : Nat) : Int) = c) (w : World) (hL : Laid w) :
    Calls Tryz.prog 159 #[.string s, .string t] w (RetSt w r) := by
  refine (gcd_any s t w hL).mono fun e w' k => ?_
  rw [op2_ok hs ht] at k
  simp only [h] at k
  rw [outI_ok hr.small, ← hr.eq] at k
  exact k
/-- Too great a result. -/
theorem add_over {s t : ByteArray} {a b : Int} (hs : Is s a) (ht : Is t b) (h : ¬ sm (a + b)) (w : World) (hL : Laid w) :
    Calls Tryz.prog 196 #[.string s, .string t] w (RetE w) := by
  refine (add_any s t w hL).mono fun e w' k => ?_
  rw [op2_ok hs ht] at k
  simp only [outI_no h] at k
  exact k
theorem sub_over {s t : ByteArray} {a b : Int} (hs : Is s a) (ht : Is t b) (h : ¬ sm (a - b)) (w : World) (hL : Laid w) :
    Calls Tryz.prog 81 #[.string s, .string t] w (RetE w) := by
  refine (sub_any s t w hL).mono fun e w' k => ?_
  rw [op2_ok hs ht] at k
  simp only [outI_no h] at k
  exact k
theorem mul_over {s t : ByteArray} {a b : Int} (hs : Is s a) (ht : Is t b) (h : ¬ sm (a * b)) (w : World) (hL : Laid w) :
    Calls Tryz.prog 252 #[.string s, .string t] w (RetE w) := by
  refine (mul_any s t w hL).mono fun e w' k => ?_
  rw [op2_ok hs ht] at k
  simp only [outI_no h] at k
  exact k
theorem add_bad {s t : ByteArray} (h : rdI s = none ∨ rdI t = none) (w : World) (hL : Laid w) :
    Calls Tryz.prog 196 #[.string s, .string t] w (RetE w) := by
  refine (add_any s t w hL).mono fun e w' k => ?_
  rw [op2_no h] at k
  exact k
theorem div_is {s t q r : ByteArray} {a b c d : Int} (hs : Is s a) (ht : Is t b) (h0 : b ≠ 0) (hq : Is q c) (hr : Is r d) (h : a / b = c) (k : a % b = d) (w : World) (hL : Laid w) :
    Calls Tryz.prog 64 #[.string s, .string t] w (RetD w q r) := by
  refine (div_any s t w hL).mono fun e w' m => ?_
  have e1 : divI s t = (q, r, 0) := by
    unfold divI
    rw [show rdI s = some a from hs, show rdI t = some b from ht]
    simp only
    rw [if_neg h0, h, k, ← hq.eq, ← hr.eq]
  rw [e1] at m
  exact m
theorem div_zero {s t : ByteArray} {a : Int} (hs : Is s a) (ht : Is t 0) (w : World) (hL : Laid w) :
    Calls Tryz.prog 64 #[.string s, .string t] w (RetDE w) := by
  refine (div_any s t w hL).mono fun e w' m => ?_
  have e1 : divI s t = (⟨#[]⟩, ⟨#[]⟩, 30) := by
    unfold divI
    rw [show rdI s = some a from hs, show rdI t = some 0 from ht]
    simp
  rw [e1] at m
  exact m
theorem cmp_is {s t : ByteArray} {a b c : Int} (hs : Is s a) (ht : Is t b) (h : Lib.compareInt a b = c) (w : World) :
    Calls Tryz.prog 65 #[.string s, .string t] w (RetI w c) := by
  refine (compare_api s t w).mono fun e w' k => ?_
  unfold cmpI at k
  rw [show rdI s = some a from hs, show rdI t = some b from ht] at k
  simp only [h] at k
  exact k
theorem cmp_lt {a b : Int} (h : a < b) : Lib.compareInt a b = -1 := by unfold Lib.compareInt; rw [if_pos h]
theorem cmp_gt {a b : Int} (h : b < a) : Lib.compareInt a b = 1 := by unfold Lib.compareInt; rw [if_neg (by omega), if_pos h]
theorem cmp_eq {a b : Int} (h : a = b) : Lib.compareInt a b = 0 := by unfold Lib.compareInt; rw [if_neg (by omega), if_neg (by omega)]
theorem valid_is {s : ByteArray} {a : Int} (hs : Is s a) (w : World) : Calls Tryz.prog 151 #[.string s] w (RetB w true) := by
  refine (valid_api s w).mono fun e w' k => ?_
  rw [show rdI s = some a from hs] at k
  exact k
theorem valid_bad {s : ByteArray} (hs : rdI s = none) (w : World) : Calls Tryz.prog 151 #[.string s] w (RetB w false) := by
  refine (valid_api s w).mono fun e w' k => ?_
  rw [hs] at k
  exact k
theorem from_is {s : ByteArray} {n : Int} (hs : Is s n) (h0 : -9223372036854775808 ≤ n) (h1 : n ≤ 9223372036854775807) (w : World) (hL : Laid w) :
    Calls Tryz.prog 216 #[.int .i64 n] w (RetZ w s) := by
  refine (fromInt_any n h0 h1 w hL).mono fun e w' k => ?_
  rw [← hs.eq] at k
  exact k
/-- What a machine's number and its error are, as a tuple. -/
def RetN2 (w : World) (n e0 : Int) (e : Ending) (w' : World) : Prop := e = .returned (.tuple #[.int .i64 n, .int .i64 e0]) ∧ Below w.heap.size w w'
theorem Is.size {s : ByteArray} {n : Int} (h : Is s n) : s.size ≤ 201 := by
  have h1 : validL s.data.toList = true := (rd_valid h).1
  unfold validL at h1
  simp only [Bool.and_eq_true, decide_eq_true_eq] at h1
  have h2 := h1.1.1.2
  unfold body at h2
  rw [← ByteArray.size_data, ← Array.length_toList]
  split at h2
  · rw [List.length_tail] at h2; omega
  · omega
/-! ### Literals -/
theorem lit_0 : Is ⟨#[48]⟩ 0 := rd_zero
theorem lit_1 : Is ⟨#[49]⟩ 1 := by unfold Is; decide

theorem lit_999 : Is ⟨#[57, 57, 57]⟩ 999 := by unfold Is; kernel_rfl
theorem lit_1000 : Is ⟨#[49, 48, 48, 48]⟩ 1000 := by unfold Is; kernel_rfl
theorem lit_m999 : Is ⟨#[45, 57, 57, 57]⟩ (-999) := by unfold Is; kernel_rfl
theorem lit_m12 : Is ⟨#[45, 49, 50]⟩ (-12) := by unfold Is; kernel_rfl
theorem lit_12 : Is ⟨#[49, 50]⟩ 12 := by unfold Is; kernel_rfl
theorem lit_m144 : Is ⟨#[45, 49, 52, 52]⟩ (-144) := by unfold Is; kernel_rfl
theorem lit_m7 : Is ⟨#[45, 55]⟩ (-7) := by unfold Is; kernel_rfl
theorem lit_m8 : Is ⟨#[45, 56]⟩ (-8) := by unfold Is; kernel_rfl
theorem lit_2 : Is ⟨#[50]⟩ 2 := by unfold Is; kernel_rfl
theorem lit_m2 : Is ⟨#[45, 50]⟩ (-2) := by unfold Is; kernel_rfl
theorem lit_4 : Is ⟨#[52]⟩ 4 := by unfold Is; kernel_rfl
theorem lit_m4 : Is ⟨#[45, 52]⟩ (-4) := by unfold Is; kernel_rfl
theorem lit_m18 : Is ⟨#[45, 49, 56]⟩ (-18) := by unfold Is; kernel_rfl
theorem lit_6 : Is ⟨#[54]⟩ 6 := by unfold Is; kernel_rfl
theorem lit_99 : Is ⟨#[57, 57]⟩ 99 := by unfold Is; kernel_rfl
theorem lit_9 : Is ⟨#[57]⟩ 9 := by unfold Is; kernel_rfl
theorem lit_9n : Is ⟨#[57]⟩ ((9 : Nat) : Int) := lit_9
theorem lit_m1 : Is ⟨#[45, 49]⟩ (-1) := by unfold Is; kernel_rfl
theorem bad_007 : rdI ⟨#[48, 48, 55]⟩ = none := by kernel_rfl
theorem bad_m0 : rdI ⟨#[45, 48]⟩ = none := by kernel_rfl
theorem bad_nil : rdI ⟨#[]⟩ = none := by kernel_rfl

theorem list_0 : (⟨#[48]⟩ : ByteArray).toList = [48] := by rw [ByteArray.toList_eq]
theorem Is.differ0 {s : ByteArray} {x : Int} (h : Is s x) (hn : x ≠ 0) : (s.toList == [48]) = false := by
  have := h.differ lit_0 hn
  rwa [list_0] at this
theorem cmp_nonneg {a : Int} (h : 0 ≤ a) : ∃ c, 0 ≤ c ∧ Hid (Lib.compareInt a 0 = c) := by
  refine ⟨_, ?_, Lib.hid rfl⟩
  unfold Lib.compareInt
  rw [if_neg (by omega)]
  split <;> omega


end Go.Proofs.YtffndcjmabjhiaaGreatDoor
