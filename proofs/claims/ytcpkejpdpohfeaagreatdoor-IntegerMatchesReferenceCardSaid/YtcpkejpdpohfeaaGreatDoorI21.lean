/- The walk of package integer's Div. Conditions: the tables that strconv.Itoa reads. -/
import Derived.Test.YtcpkejpdpohfeaaGreatDoorI20
namespace Go.Proofs.YtcpkejpdpohfeaaGreatDoor
open Go.RowKit Num
open Go.Shelf

theorem dg_one : dg 10000 1 = [1] := by rw [dg_pos (by omega) (by omega)]; simp [dg_zero]
theorem one_any (w : World) : Calls Tryz.prog 44 #[] w (RetN w 1) := by
  go_enter Tryz.func44, Tryz.ntmps44
  go_wp2
  go_ret
  refine ⟨_, rfl, ?_, below1 _ _⟩
  rw [dg_one]
  refine ⟨some ⟨w.heap.size, 0, none⟩, 1, rfl, ⟨Nat.le_refl _, fun e => by cases e⟩, by simp, fun _ => ⟨_, 0, rfl, fun j hj => ?_⟩⟩
  have : j = 0 := by simpa using hj
  subst this
  exact cell_new1 _ _ _

theorem div_pos (x : Int) (Y : Nat) (hY : 0 < Y) :
    (x < 0 ∧ 0 < x.natAbs % Y → x / (Y : Int) = -((x.natAbs / Y + 1 : Nat) : Int) ∧ x % (Y : Int) = ((Y - x.natAbs % Y : Nat) : Int)) ∧
    (¬ (x < 0 ∧ 0 < x.natAbs % Y) → x / (Y : Int) = sgn (decide (x < 0)) (x.natAbs / Y) ∧ x % (Y : Int) = ((x.natAbs % Y : Nat) : Int)) := by
  have hm := Nat.div_add_mod x.natAbs Y
  have hlt := Nat.mod_lt x.natAbs hY
  have hm' : (Y : Int) * ((x.natAbs / Y : Nat) : Int) + ((x.natAbs % Y : Nat) : Int) = (x.natAbs : Int) := by rw [← Int.natCast_mul, ← Int.natCast_add, hm]
  generalize x.natAbs / Y = q at *
  generalize x.natAbs % Y = r at *
  constructor
  · rintro ⟨h1, h2⟩
    refine (Int.ediv_emod_unique (by omega)).2 ⟨?_, by omega, by omega⟩
    have e : (Y : Int) * -((q + 1 : Nat) : Int) = -((Y : Int) * (q : Int)) - Y := by
      rw [Int.mul_neg, Int.natCast_add, Int.mul_add]; simp; omega
    rw [e]
    generalize (Y : Int) * (q : Int) = P at *
    omega
  · intro h
    refine (Int.ediv_emod_unique (by omega)).2 ⟨?_, by omega, by omega⟩
    unfold sgn
    rcases Int.lt_or_le x 0 with h0 | h0
    · have hr : r = 0 := by omega
      rw [if_pos (by simpa using h0), Int.mul_neg]
      generalize (Y : Int) * (q : Int) = P at *
      omega
    · rw [if_neg (by simp; omega)]
      generalize (Y : Int) * (q : Int) = P at *
      omega
theorem div_fact (x y : Int) (hy : y ≠ 0) :
    (x < 0 ∧ 0 < x.natAbs % y.natAbs → sgn (decide (x < 0) != decide (y < 0)) (x.natAbs / y.natAbs + 1) = x / y ∧ sgn false (y.natAbs - x.natAbs % y.natAbs) = x % y) ∧
    (¬ (x < 0 ∧ 0 < x.natAbs % y.natAbs) → sgn (decide (x < 0) != decide (y < 0)) (x.natAbs / y.natAbs) = x / y ∧ sgn false (x.natAbs % y.natAbs) = x % y) := by
  have h := div_pos x y.natAbs (by omega)
  have hf : ∀ k, sgn false k = (k : Int) := fun k => by unfold sgn; simp
  rcases Int.lt_or_le y 0 with h0 | h0
  · have e : y = -(y.natAbs : Int) := by omega
    have d : decide (y < 0) = true := by simpa using h0
    rw [d]
    generalize y.natAbs = Y at *
    subst e
    rw [Int.ediv_neg, Int.emod_neg]
    constructor
    · intro hc
      have := h.1 hc
      rw [this.1, this.2, hf, show decide (x < 0) = true by simpa using hc.1]
      exact ⟨by unfold sgn; simp, rfl⟩
    · intro hc
      have := h.2 hc
      rw [this.1, this.2, hf]
      exact ⟨by unfold sgn; cases decide (x < 0) <;> simp, rfl⟩
  · have e : y = (y.natAbs : Int) := by omega
    have d : decide (y < 0) = false := by simp; omega
    rw [d]
    generalize y.natAbs = Y at *
    subst e
    constructor
    · intro hc
      have := h.1 hc
      rw [this.1, this.2, hf, show decide (x < 0) = true by simpa using hc.1]
      exact ⟨by unfold sgn; simp, rfl⟩
    · intro hc
      have := h.2 hc
      rw [this.1, this.2, hf]
      exact ⟨by unfold sgn; cases decide (x < 0) <;> simp, rfl⟩

theorem div_fact' (x y : Int) (hy : y ≠ 0) :
    (decide (x < 0) = true ∧ 0 < x.natAbs % y.natAbs → sgn (decide (x < 0) != decide (y < 0)) (x.natAbs / y.natAbs + 1) = x / y ∧ sgn false (y.natAbs - x.natAbs % y.natAbs) = x % y) ∧
    (¬ (decide (x < 0) = true ∧ 0 < x.natAbs % y.natAbs) → sgn (decide (x < 0) != decide (y < 0)) (x.natAbs / y.natAbs) = x / y ∧ sgn false (x.natAbs % y.natAbs) = x % y) :=
  ⟨fun h => (div_fact x y hy).1 ⟨by simpa using h.1, h.2⟩, fun h => (div_fact x y hy).2 (fun h' => h ⟨by simpa using h'.1, h'.2⟩)⟩

/-- What 'Div' answers. -/
def divI (a b : ByteArray) : ByteArray × ByteArray × Int :=
  match rdI a, rdI b with
  | some x, some y => if y = 0 then (⟨#[]⟩, ⟨#[]⟩, 30) else (tx (x / y), tx (x % y), 0)
  | _, _ => (⟨#[]⟩, ⟨#[]⟩, 30)

def RetT (w : World) (p : ByteArray × ByteArray × Int) (e : Ending) (w' : World) : Prop := e = .returned (.tuple #[.string p.1, .string p.2.1, .int .i64 p.2.2]) ∧ Below w.heap.size w w'
theorem outTx {z : Int} (h : z.natAbs < 10 ^ 200) : (outI z).1 = tx z ∧ (outI z).2 = 0 := by rw [outI_ok h]; exact ⟨rfl, rfl⟩

/-- The texts of quotient and rest. -/
def RetTx (w : World) (s : ByteArray) (e : Ending) (w' : World) : Prop := e = .returned (.tuple #[.string s, .int .i64 0]) ∧ Below w.heap.size w w'
theorem text_tx {neg : Bool} {n : Nat} {z : Int} (hz : sgn neg n = z) (hs : z.natAbs < 10 ^ 200) {A : Option Addr} {c : Nat} (w : World) (hv : Rd w (.slice A (dg 10000 n).length c) (dg 10000 n)) (hL : Laid w) :
    Calls Tryz.prog 40 #[.agg #[.bool neg, .slice A (dg 10000 n).length c]] w (RetTx w (tx z)) := by
  refine (text_any neg n _ w hv hL).mono ?_
  rintro e w' ⟨rfl, hb⟩
  rw [hz, outI_ok hs]
  exact ⟨rfl, hb⟩

set_option maxHeartbeats 2000000 in
theorem div_any (a b : ByteArray) (w : World) (hL : Laid w) : Calls Tryz.prog 17 #[.string a, .string b] w (RetT w (divI a b)) := by
  have HL := Lib.hid hL
  clear hL
  rcases cases2 a b with ⟨x, y, ha, hb⟩ | h
  · have BO := Lib.hid (both_ok ha hb)
    have hx := rd_small ha
    have hy := rd_small hb
    by_cases hy0 : y = 0
    · subst hy0
      have EQ : divI a b = (⟨#[]⟩, ⟨#[]⟩, 30) := by unfold divI; rw [ha, hb]; rfl
      rw [EQ]
      have e0 : dg 10000 (0 : Int).natAbs = [] := dg_zero _
      clear ha hb EQ hx hy
      go_enter Tryz.func17, Tryz.ntmps17
      go_wp2_with (go_at_call 38; (with_reducible refine (BO.out _).mono ?_); rintro e W1 ⟨A1, A2, c1, c2, rfl, hr1, hr2, hb1⟩; rw [e0]; simp only [List.length_nil])
      go_ret3
      exact ⟨rfl, below_up hb1 (below2 W1 _ _)⟩
    · have EQ : divI a b = (tx (x / y), tx (x % y), 0) := by unfold divI; rw [ha, hb]; simp [hy0]
      rw [EQ]
      have hf := div_fact' x y hy0
      have hq1 : (x / y).natAbs < 10 ^ 200 := Nat.lt_of_le_of_lt (Int.natAbs_ediv_le_natAbs x y) hx
      have hq2 : (x % y).natAbs < 10 ^ 200 := by
        have h1 := Int.emod_nonneg x hy0
        have h2 := Int.emod_lt x hy0
        omega
      have hY : 0 < y.natAbs := by omega
      have hyb : y.natAbs < big := Nat.lt_of_lt_of_le hy limbig
      have hxb : x.natAbs / y.natAbs + 1 < big := by
        have h1 := Nat.div_le_self x.natAbs y.natAbs
        have h2 := big_gt
        omega
      have HY : Hid (decide ((0 : Int) < ((dg 10000 y.natAbs).length : Int)) = true) := Lib.hid (by rw [decide_eq_true_eq, len_pos_iff]; exact hY)
      have hyl : (((dg 10000 y.natAbs).length : Int) == 0) = false := by
        have := (len_pos_iff y.natAbs).2 hY
        simp; intro e; rw [e] at this; simp at this
      have hrl : x.natAbs % y.natAbs ≤ y.natAbs := Nat.le_of_lt (Nat.mod_lt _ hY)
      have hrp := len_pos_iff (x.natAbs % y.natAbs)
      have OV := fun A1 A2 c1 c2 w h1 h2 => Lib.hid (over_any x.natAbs y.natAbs (.slice A1 (dg 10000 x.natAbs).length c1) (.slice A2 (dg 10000 y.natAbs).length c2) w h1 h2 hY (Nat.lt_of_lt_of_le hx limbig) (Nat.lt_of_lt_of_le hy lim199))
      have OVH := Lib.hid OV
      have EX : Hid (∀ z, sgn (decide (z < 0)) z.natAbs = z) := Lib.hid sgn_self
      clear EQ OV HY ha hb hx hy
      have T1 := fun neg n => Lib.hid (fun hz A c w => text_tx (neg := neg) (n := n) (A := A) (c := c) hz hq1 w)
      have T2 := fun neg n => Lib.hid (fun hz A c w => text_tx (neg := neg) (n := n) (A := A) (c := c) hz hq2 w)
      have TH1 := Lib.hid T1
      have TH2 := Lib.hid T2
      clear T1 T2 EX hq1 hq2
      generalize x / y = Q at *
      generalize x % y = R at *
      generalize decide (x < 0) = n1 at *
      generalize decide (y < 0) = n2 at *
      generalize x.natAbs / y.natAbs = q at *
      generalize x.natAbs % y.natAbs = r at *
      generalize x.natAbs = m1 at *
      generalize y.natAbs = m2 at *
      have hmixed : Tryz.prog.follows .mixedOrders = true := by kernel_rfl
      go_enter Tryz.func17, Tryz.ntmps17
      by_cases hc : n1 = true ∧ 0 < r
      · obtain ⟨hz1, hz2⟩ := hf.1 hc
        obtain ⟨rfl, hr0⟩ := hc
        have hrp' := hrp.2 hr0
        simp only [Bool.true_bne] at hz1
        have HZ1 := Lib.hid hz1
        have HZ2 := Lib.hid hz2
        clear hz1 hz2 hf hrp hy0 hr0
        go_wp2_with (first
            | (go_at_call 38; (with_reducible refine (BO.out _).mono ?_); rintro e W1 ⟨A1, A2, c1, c2, rfl, hr1, hr2, hb1⟩)
            | (go_at_call 42; (with_reducible refine (OVH.out A1 A2 c1 c2 _ (hr1.below (below2 _ _ _)) (hr2.below (below2 _ _ _))).out.mono ?_); rintro e W3 ⟨v, u, rfl, hr3, hr4, hb3⟩; obtain ⟨A3, c3, rfl, -⟩ := id hr3; obtain ⟨A4, c4, rfl, -⟩ := id hr4; obtain ⟨s1, s2⟩ := boxes2 W1 _ _ _ _; have t1 := s1.below hb3 s1.lt; have t2 := s2.below hb3 s2.lt; have x0 := t1.cell0; have y0 := t2.cell0; have y1 := t2.cell1; have hry := (hr2.below (below2 W1 _ _)).below hb3))
        have hB3 := below_up (below_up hb1 (below2 W1 _ _)) hb3
        have hZ : Below W3.heap.size W3 W3.drew := (Below.refl _ _).drew
        have hr3 := hr3.below hZ
        have hr4 := hr4.below hZ
        have hry := hry.below hZ
        clear s1 s2 t1 t2 hr1 hr2 hb3
        go_region_held3 (fun w' => w'.cell? ⟨W1.heap.size + 1, 1, none⟩ = some (.slice A2 (dg 10000 m2).length c2)) (go_keep)
          (first
            | (go_at_call 44; (with_reducible refine (one_any _).mono ?_); rintro e wN ⟨vO, rfl, hrO, hb⟩; obtain ⟨AO, cO, rfl, -⟩ := id hrO; have hZ := below_up hZ hb; have hr3 := hr3.below hb; have hr4 := hr4.below hb; have hry := hry.below hb; have x0 := (hb.cell (cell_lt x0)).trans x0; have y0 := (hb.cell (cell_lt y0)).trans y0; have y1 := (hb.cell (cell_lt y1)).trans y1; (try (have hrO := hrO.below hb)); (try (have hrM := hrM.below hb)); (try (have hrP := hrP.below hb)))
            | (go_at_call 43; (with_reducible refine (plus_any q 1 _ _ _ hr3 hrO hxb).mono ?_); rintro e wN ⟨vP, rfl, hrP, hb⟩; obtain ⟨AP, cP, rfl, -⟩ := id hrP; have hZ := below_up hZ hb; have hr3 := hr3.below hb; have hr4 := hr4.below hb; have hry := hry.below hb; have x0 := (hb.cell (cell_lt x0)).trans x0; have y0 := (hb.cell (cell_lt y0)).trans y0; have y1 := (hb.cell (cell_lt y1)).trans y1; (try (have hrO := hrO.below hb)); (try (have hrM := hrM.below hb)); (try (have hrP := hrP.below hb)))
            | (go_at_call 45; (with_reducible refine (minus_any m2 r _ _ _ hry hr4 hyb hrl).mono ?_); rintro e wN ⟨vM, rfl, hrM, hb⟩; obtain ⟨AM, cM, rfl, -⟩ := id hrM; have hZ := below_up hZ hb; have hr3 := hr3.below hb; have hr4 := hr4.below hb; have hry := hry.below hb; have x0 := (hb.cell (cell_lt x0)).trans x0; have y0 := (hb.cell (cell_lt y0)).trans y0; have y1 := (hb.cell (cell_lt y1)).trans y1; (try (have hrO := hrO.below hb)); (try (have hrM := hrM.below hb)); (try (have hrP := hrP.below hb))))
        all_goals
          go_wp2_with (first
            | (go_at_call 40; (with_reducible refine ((TH1.out _ (q + 1)).out HZ1.out AP cP _ hrP (HL.out.below (below_up hB3 hZ))).mono ?_); rintro e W4 ⟨rfl, hb4⟩)
            | (go_at_call 40; (with_reducible refine ((TH2.out _ (m2 - r)).out HZ2.out AM cM W4 (hrM.below hb4) (HL.out.below (below_up (below_up hB3 hZ) hb4))).mono ?_); rintro e W5 ⟨rfl, hb5⟩))
          go_ret3
          exact ⟨rfl, below_up (below_up (below_up hB3 hZ) hb4) hb5⟩
      · obtain ⟨hz1, hz2⟩ := hf.2 hc
        have hp : n1 = false ∨ (n1 = true ∧ ¬ (0 : Int) < ((dg 10000 r).length : Int)) := by
          rw [hrp]
          cases n1
          · exact .inl rfl
          · exact .inr ⟨rfl, fun h => hc ⟨rfl, h⟩⟩
        have HZ2 := Lib.hid hz2
        clear hz2 hf hc hrp hy0
        rcases hp with rfl | ⟨rfl, hp⟩
        all_goals
          simp only [Bool.false_bne, Bool.true_bne] at hz1
          have HZ1 := Lib.hid hz1
          clear hz1
          go_wp2_with (first
            | (go_at_call 38; (with_reducible refine (BO.out _).mono ?_); rintro e W1 ⟨A1, A2, c1, c2, rfl, hr1, hr2, hb1⟩)
            | (go_at_call 42; (with_reducible refine (OVH.out A1 A2 c1 c2 _ (hr1.below (below2 _ _ _)) (hr2.below (below2 _ _ _))).out.mono ?_); rintro e W3 ⟨v, u, rfl, hr3, hr4, hb3⟩; obtain ⟨A3, c3, rfl, -⟩ := id hr3; obtain ⟨A4, c4, rfl, -⟩ := id hr4; obtain ⟨s1, s2⟩ := boxes2 W1 _ _ _ _; have t1 := s1.below hb3 s1.lt; have t2 := s2.below hb3 s2.lt; have x0 := t1.cell0; have y0 := t2.cell0; have y1 := t2.cell1)
            | (go_at_call 40; go_loud ((with_reducible refine ((TH1.out _ q).out HZ1.out A3 c3 W3 hr3 (HL.out.below (below_up (below_up hb1 (below2 W1 _ _)) hb3))).mono ?_); rintro e W4 ⟨rfl, hb4⟩))
            | (go_at_call 40; (with_reducible refine ((TH2.out _ r).out HZ2.out A4 c4 W4 (hr4.below hb4) (HL.out.below (below_up (below_up (below_up hb1 (below2 W1 _ _)) hb3) hb4))).mono ?_); rintro e W5 ⟨rfl, hb5⟩))
          go_ret3
          exact ⟨rfl, below_up (below_up (below_up (below_up hb1 (below2 W1 _ _)) hb3) hb4) hb5⟩
  · have BO := Lib.hid (both_no h)
    have EQ : divI a b = (⟨#[]⟩, ⟨#[]⟩, 30) := by
      unfold divI
      rcases h with h | h
      · rw [h]
      · rw [h]; cases rdI a <;> rfl
    rw [EQ]
    clear EQ h
    go_enter Tryz.func17, Tryz.ntmps17
    go_wp2_with (go_at_call 38; (with_reducible refine (BO.out _).mono ?_); rintro e W1 ⟨rfl, hb1⟩)
    go_ret3
    exact ⟨rfl, below_up hb1 (below2 W1 _ _)⟩

end Go.Proofs.YtcpkejpdpohfeaaGreatDoor
