/- The walk of package integer's 'plus' of signed numbers. Conditions: sizes. The walks of package integer's Add and Sub. Conditions: the tables that strconv.Itoa reads. The walks of package integer's Sub, Mul, Compare, Valid, FromInt. Conditions: the tables that strconv.Itoa reads. The walks of package integer's Compare and Mul. Conditions: the tables that strconv.Itoa reads. The walk of package integer's Mul. Conditions: the tables that strconv.Itoa reads. -/
import Derived.Test.YtffndcjmabjhiaaGreatDoorK4
import Derived.Deep.RegionHeld3
namespace Go.Proofs.YtffndcjmabjhiaaGreatDoor
open Go.RowKit Num
open Go.Shelf

def RetSg (w : World) (z : Int) (e : Ending) (w' : World) : Prop := ∃ n A m c k, e = .returned (.agg #[.bool n, .slice A m c]) ∧ Rd w' (.slice A m c) (dg 10000 k) ∧ sgn n k = z ∧ Below w.heap.size w w'

/-- What the three boxes of the call read. -/
structure Boxes3 (w W : World) (n1 n2 : Bool) (v1 v2 : Value) : Prop where
  x : SBox W w.heap.size n1 v1
  y : SBox W (w.heap.size + 1) n2 v2
  r : SBox W (w.heap.size + 1 + 1) false (.slice none 0 0)
  b : Below w.heap.size w W
theorem Boxes3.start (w : World) (n1 n2 : Bool) (v1 v2 : Value) : Boxes3 w (((w.alloc (.cells #[.bool n1, v1] 215)).alloc (.cells #[.bool n2, v2] 215)).alloc (.cells #[.bool false, .slice none 0 0] 215)) n1 n2 v1 v2 := by
  refine ⟨?_, ?_, ?_, below3 _ _ _ _⟩
  · exact ((below2 _ _ _).block _ (by simp)).trans (World.alloc_heap_new w _)
  · have := World.alloc_heap_new (w.alloc (.cells #[.bool n1, v1] 215)) (.cells #[.bool n2, v2] 215)
    refine ((below1 _ _).block _ (by simp)).trans ?_
    simpa using this
  · have := World.alloc_heap_new ((w.alloc (.cells #[.bool n1, v1] 215)).alloc (.cells #[.bool n2, v2] 215)) (.cells #[.bool false, .slice none 0 0] 215)
    unfold SBox
    simpa using this
theorem Boxes3.below {w W W' : World} {n1 n2 : Bool} {v1 v2 : Value} (h : Boxes3 w W n1 n2 v1 v2) (hb : Below W.heap.size W W') : Boxes3 w W' n1 n2 v1 v2 :=
  ⟨h.x.below hb h.x.lt, h.y.below hb h.y.lt, h.r.below hb h.r.lt, h.b.trans (hb.mono h.b.size)⟩
theorem Boxes3.drew {w W : World} {n1 n2 : Bool} {v1 v2 : Value} (h : Boxes3 w W n1 n2 v1 v2) : Boxes3 w W.drew n1 n2 v1 v2 := ⟨h.x, h.y, h.r, h.b.drew⟩
/-- The result is stored. -/
theorem Boxes3.done {w W : World} {n1 n2 : Bool} {v1 v2 : Value} (h : Boxes3 w W n1 n2 v1 v2) (n : Bool) (A : Option Addr) (m c k : Nat) (hr : Rd W (.slice A m c) (dg 10000 k)) :
    ∀ W5, W5 = (W.setCell ⟨w.heap.size + 1 + 1, 0, none⟩ (.bool n)).setCell ⟨w.heap.size + 1 + 1, 1, none⟩ (.slice A m c) →
      W5.cell? ⟨w.heap.size + 1 + 1, 0, none⟩ = some (.bool n) ∧ W5.cell? ⟨w.heap.size + 1 + 1, 1, none⟩ = some (.slice A m c) ∧ Rd W5 (.slice A m c) (dg 10000 k) ∧ Below w.heap.size w W5 := by
  rintro W5 rfl
  have h1 := h.r.set0 n
  have h2 := h1.set (.slice A m c)
  have hT := (Turn.setCell (X := [w.heap.size + 1 + 1]) W (w.heap.size + 1 + 1) 0 (.bool n) (by simp)).trans (Turn.setCell _ (w.heap.size + 1 + 1) 1 (.slice A m c) (by simp))
  exact ⟨h2.cell0, h2.cell1, Rd.set_sbox h1 (Rd.set_sbox h.r hr _ _) _ _, hT.below h.b (Nat.le_refl _) (by simp; omega)⟩

set_option maxHeartbeats 2000000 in
theorem plusS_any (n1 n2 : Bool) (a b : Nat) (A1 A2 : Option Addr) (m1 m2 c1 c2 : Nat) (w : World) (h1 : Rd w (.slice A1 m1 c1) (dg 10000 a)) (h2 : Rd w (.slice A2 m2 c2) (dg 10000 b)) (hs : a + b < big) :
    Calls Tryz.prog 177 #[.agg #[.bool n1, .slice A1 m1 c1], .agg #[.bool n2, .slice A2 m2 c2]] w (RetSg w (sgn n1 a + sgn n2 b)) := by
  have hmixed : Tryz.prog.follows .mixedOrders = true := by kernel_rfl
  have BX := Lib.hid (Boxes3.start w n1 n2 (.slice A1 m1 c1) (.slice A2 m2 c2))
  have H1 := Lib.hid h1
  have H2 := Lib.hid h2
  clear h1 h2
  go_enter Tryz.func177, Tryz.ntmps177
  by_cases hn : n1 = n2
  · subst hn
    have HS : Hid (sgn n1 (a + b) = sgn n1 a + sgn n1 b) := by
      refine Lib.hid ?_
      unfold sgn
      cases n1
      · simp
      · simp; omega
    clear hmixed
    have hmixed : Tryz.prog.follows .mixedOrders = true := by kernel_rfl
    go_wp2
    generalize ((w.alloc (.cells #[.bool n1, .slice A1 m1 c1] 215)).alloc (.cells #[.bool n1, .slice A2 m2 c2] 215)).alloc (.cells #[.bool false, .slice none 0 0] 215) = W at *
    have PL := Lib.hid (plus_any a b _ _ W.drew (H1.out.below BX.out.b.drew) (H2.out.below BX.out.b.drew) hs)
    have x0 := BX.out.x.cell0
    have x1 := BX.out.x.cell1
    have y0 := BX.out.y.cell0
    have y1 := BX.out.y.cell1
    generalize sgn n1 a + sgn n1 b = Z at *
    have hne1 : ¬ (w.heap.size = w.heap.size + 1 + 1) := by omega
    have hne2 : ¬ (w.heap.size + 1 + 1 = w.heap.size) := by omega
    go_region_held3 (fun w' => w'.cell? ⟨w.heap.size, 0, none⟩ = some (.bool n1) ∧ w'.cell? ⟨w.heap.size, 1, none⟩ = some (.slice A1 m1 c1) ∧ w'.cell? ⟨w.heap.size + 1, 0, none⟩ = some (.bool n1) ∧ w'.cell? ⟨w.heap.size + 1, 1, none⟩ = some (.slice A2 m2 c2)) (go_keep)
      (first
        | (go_at_call 162; (with_reducible refine PL.out.mono ?_); rintro e w2 ⟨v, rfl, hr, hb⟩; obtain ⟨A, c, rfl, -⟩ := id hr; have BX2 := Lib.hid (BX.out.drew.below hb); have xx0 := BX2.out.x.cell0; have xx1 := BX2.out.x.cell1; have yy0 := BX2.out.y.cell0; have yy1 := BX2.out.y.cell1; have rr0 := BX2.out.r.frozen 0; have rr1 := BX2.out.r.frozen 1; have rc0 := BX2.out.r.cell0; have rc1 := BX2.out.r.cell1))
    all_goals obtain ⟨e0, e1, e2, e3⟩ := BX2.out.done n1 A _ c (a + b) hr _ rfl
    all_goals go_wp2
    all_goals refine bodyPost_ret (v := .agg #[.bool n1, .slice A (dg 10000 (a + b)).length c]) (by simp [results, Tryz.results177, go_sem, e0, e1]) rfl ⟨_, _, _, _, _, rfl, e2, HS.out, e3⟩
  · have hnf : (n1 == n2) = false := by simpa using hn
    by_cases hab : b ≤ a
    · have hge : (0 : Int) ≤ Lib.compareInt a b := by unfold Lib.compareInt; split <;> (try split) <;> omega
      have HS : Hid (sgn n1 (a - b) = sgn n1 a + sgn n2 b) := by
        refine Lib.hid ?_
        unfold sgn
        cases n1 <;> cases n2 <;> simp at hn ⊢ <;> omega
      have CM := fun W hb => Lib.hid (compare_any a b _ _ W (H1.out.below hb) (H2.out.below hb))
      have CMH := Lib.hid CM
      clear CM hn
      go_wp2_with (go_at_call 166; (with_reducible refine (CMH.out _ BX.out.b).out.mono ?_); rintro e w1 ⟨rfl, hb1⟩; have BX1 := Lib.hid (BX.out.below hb1))
      have PL := Lib.hid (minus_any a b _ _ w1.drew (H1.out.below BX1.out.b.drew) (H2.out.below BX1.out.b.drew) (by omega) hab)
      have x0 := BX1.out.x.cell0
      have x1 := BX1.out.x.cell1
      have y0 := BX1.out.y.cell0
      have y1 := BX1.out.y.cell1
      generalize sgn n1 a + sgn n2 b = Z at *
      have hne1 : ¬ (w.heap.size = w.heap.size + 1 + 1) := by omega
      have hne2 : ¬ (w.heap.size + 1 + 1 = w.heap.size) := by omega
      go_region_held3 (fun w' => w'.cell? ⟨w.heap.size, 0, none⟩ = some (.bool n1) ∧ w'.cell? ⟨w.heap.size, 1, none⟩ = some (.slice A1 m1 c1) ∧ w'.cell? ⟨w.heap.size + 1, 0, none⟩ = some (.bool n2) ∧ w'.cell? ⟨w.heap.size + 1, 1, none⟩ = some (.slice A2 m2 c2)) (go_keep)
      (first
        | (go_at_call 164; (with_reducible refine PL.out.mono ?_); rintro e w2 ⟨v, rfl, hr, hb⟩; obtain ⟨A, c, rfl, -⟩ := id hr; have BX2 := Lib.hid (BX1.out.drew.below hb); have xx0 := BX2.out.x.cell0; have xx1 := BX2.out.x.cell1; have yy0 := BX2.out.y.cell0; have yy1 := BX2.out.y.cell1; have rr0 := BX2.out.r.frozen 0; have rr1 := BX2.out.r.frozen 1; have rc0 := BX2.out.r.cell0; have rc1 := BX2.out.r.cell1))
      all_goals obtain ⟨e0, e1, e2, e3⟩ := BX2.out.done n1 A _ c (a - b) hr _ rfl
      all_goals go_wp2
      all_goals refine bodyPost_ret (v := .agg #[.bool n1, .slice A (dg 10000 (a - b)).length c]) (by simp [results, Tryz.results177, go_sem, e0, e1]) rfl ⟨_, _, _, _, _, rfl, e2, HS.out, e3⟩
    · have hge : ¬ (0 : Int) ≤ Lib.compareInt a b := by unfold Lib.compareInt; rw [if_pos (by omega)]; omega
      have HS : Hid (sgn n2 (b - a) = sgn n1 a + sgn n2 b) := by
        refine Lib.hid ?_
        unfold sgn
        cases n1 <;> cases n2 <;> simp at hn ⊢ <;> omega
      have CM := fun W hb => Lib.hid (compare_any a b _ _ W (H1.out.below hb) (H2.out.below hb))
      have CMH := Lib.hid CM
      clear CM hn
      go_wp2_with (go_at_call 166; (with_reducible refine (CMH.out _ BX.out.b).out.mono ?_); rintro e w1 ⟨rfl, hb1⟩; have BX1 := Lib.hid (BX.out.below hb1))
      have PL := Lib.hid (minus_any b a _ _ w1.drew (H2.out.below BX1.out.b.drew) (H1.out.below BX1.out.b.drew) (by omega) (by omega))
      have x0 := BX1.out.x.cell0
      have x1 := BX1.out.x.cell1
      have y0 := BX1.out.y.cell0
      have y1 := BX1.out.y.cell1
      generalize sgn n1 a + sgn n2 b = Z at *
      have hne1 : ¬ (w.heap.size = w.heap.size + 1 + 1) := by omega
      have hne2 : ¬ (w.heap.size + 1 + 1 = w.heap.size) := by omega
      go_region_held3 (fun w' => w'.cell? ⟨w.heap.size, 0, none⟩ = some (.bool n1) ∧ w'.cell? ⟨w.heap.size, 1, none⟩ = some (.slice A1 m1 c1) ∧ w'.cell? ⟨w.heap.size + 1, 0, none⟩ = some (.bool n2) ∧ w'.cell? ⟨w.heap.size + 1, 1, none⟩ = some (.slice A2 m2 c2)) (go_keep)
      (first
        | (go_at_call 164; (with_reducible refine PL.out.mono ?_); rintro e w2 ⟨v, rfl, hr, hb⟩; obtain ⟨A, c, rfl, -⟩ := id hr; have BX2 := Lib.hid (BX1.out.drew.below hb); have xx0 := BX2.out.x.cell0; have xx1 := BX2.out.x.cell1; have yy0 := BX2.out.y.cell0; have yy1 := BX2.out.y.cell1; have rr0 := BX2.out.r.frozen 0; have rr1 := BX2.out.r.frozen 1; have rc0 := BX2.out.r.cell0; have rc1 := BX2.out.r.cell1))
      all_goals obtain ⟨e0, e1, e2, e3⟩ := BX2.out.done n2 A _ c (b - a) hr _ rfl
      all_goals go_wp2
      all_goals refine bodyPost_ret (v := .agg #[.bool n2, .slice A (dg 10000 (b - a)).length c]) (by simp [results, Tryz.results177, go_sem, e0, e1]) rfl ⟨_, _, _, _, _, rfl, e2, HS.out, e3⟩

end Go.Proofs.YtffndcjmabjhiaaGreatDoor

namespace Go.Proofs.YtffndcjmabjhiaaGreatDoor
open Go.RowKit Num
open Go.Shelf

/-- What a function of two integers answers. -/
def op2 (f : Int → Int → ByteArray × Int) (a b : ByteArray) : ByteArray × Int :=
  match rdI a, rdI b with
  | some x, some y => f x y
  | _, _ => (⟨#[]⟩, 30)
theorem op2_ok {f : Int → Int → ByteArray × Int} {a b : ByteArray} {x y : Int} (ha : rdI a = some x) (hb : rdI b = some y) : op2 f a b = f x y := by unfold op2; rw [ha, hb]
theorem op2_no {f : Int → Int → ByteArray × Int} {a b : ByteArray} (h : rdI a = none ∨ rdI b = none) : op2 f a b = (⟨#[]⟩, 30) := by
  unfold op2
  rcases h with h | h
  · rw [h]
  · rw [h]; cases rdI a <;> rfl
def RetP (w : World) (p : ByteArray × Int) (e : Ending) (w' : World) : Prop := e = .returned (.tuple #[.string p.1, .int .i64 p.2]) ∧ Below w.heap.size w w'

def RetBoth1 (w : World) (n1 n2 : Bool) (m1 m2 : Nat) (e : Ending) (w' : World) : Prop := ∃ A1 A2 c1 c2, e = .returned (.tuple #[.agg #[.bool n1, .slice A1 (dg 10000 m1).length c1], .agg #[.bool n2, .slice A2 (dg 10000 m2).length c2], .bool true]) ∧
  Rd w' (.slice A1 (dg 10000 m1).length c1) (dg 10000 m1) ∧ Rd w' (.slice A2 (dg 10000 m2).length c2) (dg 10000 m2) ∧ Below w.heap.size w w'
theorem both_ok {a b : ByteArray} {x y : Int} (ha : rdI a = some x) (hb : rdI b = some y) (w : World) : Calls Tryz.prog 160 #[.string a, .string b] w (RetBoth1 w (decide (x < 0)) (decide (y < 0)) x.natAbs y.natAbs) := by
  refine (both_any a b w).mono ?_
  rintro e w' ⟨hbl, ⟨x', y', u, v, hx, hy, rfl, ⟨A1, c1, rfl, h1⟩, ⟨A2, c2, rfl, h2⟩⟩ | ⟨h, _⟩⟩
  · rw [ha] at hx; cases hx
    rw [hb] at hy; cases hy
    exact ⟨A1, A2, c1, c2, rfl, h1, h2, hbl⟩
  · rw [ha, hb] at h; rcases h with h | h <;> cases h
theorem both_no {a b : ByteArray} (h : rdI a = none ∨ rdI b = none) (w : World) : Calls Tryz.prog 160 #[.string a, .string b] w fun e w' => e = .returned (.tuple #[.agg #[.bool false, .slice none 0 0], .agg #[.bool false, .slice none 0 0], .bool false]) ∧ Below w.heap.size w w' := by
  refine (both_any a b w).mono ?_
  rintro e w' ⟨hbl, ⟨x', y', u, v, hx, hy, _⟩ | ⟨_, rfl⟩⟩
  · rw [hx, hy] at h; rcases h with h | h <;> cases h
  · exact ⟨rfl, hbl⟩
theorem rd_small {s : ByteArray} {z : Int} (h : rdI s = some z) : z.natAbs < 10 ^ 200 := (rdI_some h).2
theorem big_gt : 4 * 10 ^ 200 < big := by unfold big; decide
theorem sgn_self (z : Int) : sgn (decide (z < 0)) z.natAbs = z := by
  unfold sgn
  rcases Int.lt_or_le z 0 with h | h
  · simp [h]; omega
  · have : ¬ z < 0 := by omega
    simp [this]; omega
theorem cases2 (a b : ByteArray) : (∃ x y, rdI a = some x ∧ rdI b = some y) ∨ (rdI a = none ∨ rdI b = none) := by
  cases ha : rdI a with
  | none => exact .inr (.inl rfl)
  | some x =>
    cases hb : rdI b with
    | none => exact .inr (.inr rfl)
    | some y => exact .inl ⟨x, y, rfl, rfl⟩

set_option maxHeartbeats 1000000 in
theorem add_any (a b : ByteArray) (w : World) (hL : Laid w) : Calls Tryz.prog 196 #[.string a, .string b] w (RetP w (op2 (fun x y => outI (x + y)) a b)) := by
  have HL := Lib.hid hL
  clear hL
  rcases cases2 a b with ⟨x, y, ha, hb⟩ | h
  · have BO := Lib.hid (both_ok ha hb)
    have hx := rd_small ha
    have hy := rd_small hb
    have hbg := big_gt
    have EQ := Lib.hid (op2_ok (f := fun x y => outI (x + y)) ha hb)
    have HS : Hid (sgn (decide (x < 0)) x.natAbs + sgn (decide (y < 0)) y.natAbs = x + y) := Lib.hid (by rw [sgn_self, sgn_self])
    have hsum : x.natAbs + y.natAbs < big := by omega
    rw [EQ.out]
    clear ha hb hx hy hbg EQ
    go_enter Tryz.func196, Tryz.ntmps196
    generalize decide (x < 0) = n1 at *
    generalize decide (y < 0) = n2 at *
    generalize x.natAbs = m1 at *
    generalize y.natAbs = m2 at *
    go_wp2_with (first
      | (go_at_call 160; (with_reducible refine (BO.out _).mono ?_); rintro e W1 ⟨A1, A2, c1, c2, rfl, hr1, hr2, hb1⟩)
      | (go_at_call 177; (with_reducible refine (plusS_any n1 n2 m1 m2 A1 A2 _ _ c1 c2 _ (hr1.below (below2 _ _ _)) (hr2.below (below2 _ _ _)) hsum).mono ?_); rintro e W2 ⟨n, A, m, c, k, rfl, hr3, hz, hb2⟩; have HZ := Lib.hid hz; clear hz; have hbl := below_up (below_up hb1 (below2 W1 _ _)) hb2)
      | (go_at_call 165; (with_reducible refine (text_any n k _ _ hr3 (HL.out.below hbl)).mono ?_); rintro e W3 ⟨rfl, hb3⟩))
    go_ret2
    exact ⟨by rw [← HS.out, ← HZ.out]; rfl, below_up hbl hb3⟩
  · have BO := Lib.hid (both_no h)
    have EQ := Lib.hid (op2_no (f := fun x y => outI (x + y)) h)
    rw [EQ.out]
    clear EQ h
    go_enter Tryz.func196, Tryz.ntmps196
    go_wp2_with (go_at_call 160; (with_reducible refine (BO.out _).mono ?_); rintro e W1 ⟨rfl, hb1⟩)
    go_ret2
    exact ⟨rfl, below_up hb1 (below2 W1 _ _)⟩

end Go.Proofs.YtffndcjmabjhiaaGreatDoor

namespace Go.Proofs.YtffndcjmabjhiaaGreatDoor
open Go.RowKit Num
open Go.Shelf

theorem sgn_not (n : Bool) (m : Nat) : sgn (!n) m = - sgn n m := by unfold sgn; cases n <;> simp

set_option maxHeartbeats 1000000 in
theorem sub_any (a b : ByteArray) (w : World) (hL : Laid w) : Calls Tryz.prog 81 #[.string a, .string b] w (RetP w (op2 (fun x y => outI (x - y)) a b)) := by
  have HL := Lib.hid hL
  clear hL
  rcases cases2 a b with ⟨x, y, ha, hb⟩ | h
  · have BO := Lib.hid (both_ok ha hb)
    have hx := rd_small ha
    have hy := rd_small hb
    have hbg := big_gt
    have EQ := Lib.hid (op2_ok (f := fun x y => outI (x - y)) ha hb)
    have HS : Hid (sgn (decide (x < 0)) x.natAbs + sgn (!decide (y < 0)) y.natAbs = x - y) := Lib.hid (by rw [sgn_not, sgn_self, sgn_self]; rfl)
    have hsum : x.natAbs + y.natAbs < big := by omega
    rw [EQ.out]
    clear ha hb hx hy hbg EQ
    go_enter Tryz.func81, Tryz.ntmps81
    generalize decide (x < 0) = n1 at *
    generalize decide (y < 0) = n2 at *
    generalize x.natAbs = m1 at *
    generalize y.natAbs = m2 at *
    go_wp2_with (first
      | (go_at_call 160; (with_reducible refine (BO.out _).mono ?_); rintro e W1 ⟨A1, A2, c1, c2, rfl, hr1, hr2, hb1⟩)
      | (go_at_call 177; (with_reducible refine (plusS_any n1 (!n2) m1 m2 A1 A2 _ _ c1 c2 _ (hr1.below (below2 _ _ _)) (hr2.below (below2 _ _ _)) hsum).mono ?_); rintro e W2 ⟨n, A, m, c, k, rfl, hr3, hz, hb2⟩; have HZ := Lib.hid hz; clear hz; have hbl := below_up (below_up hb1 (below2 W1 _ _)) hb2)
      | (go_at_call 165; (with_reducible refine (text_any n k _ _ hr3 (HL.out.below hbl)).mono ?_); rintro e W3 ⟨rfl, hb3⟩))
    go_ret2
    exact ⟨by rw [← HS.out, ← HZ.out]; rfl, below_up hbl hb3⟩
  · have BO := Lib.hid (both_no h)
    have EQ := Lib.hid (op2_no (f := fun x y => outI (x - y)) h)
    rw [EQ.out]
    clear EQ h
    go_enter Tryz.func81, Tryz.ntmps81
    go_wp2_with (go_at_call 160; (with_reducible refine (BO.out _).mono ?_); rintro e W1 ⟨rfl, hb1⟩)
    go_ret2
    exact ⟨rfl, below_up hb1 (below2 W1 _ _)⟩

theorem valid_api (a : ByteArray) (w : World) : Calls Tryz.prog 151 #[.string a] w fun e w' => e = .returned (.bool (rdI a).isSome) ∧ Below w.heap.size w w' := by
  have h : (rdI a).isSome = validL a.data.toList := by unfold rdI; cases validL a.data.toList <;> rfl
  rw [h]
  have VA := Lib.hid (valid_any a)
  clear h
  generalize validL a.data.toList = v at *
  go_enter Tryz.func151, Tryz.ntmps151
  go_wp2_with (go_at_call 232; (with_reducible refine (VA.out _).mono ?_); rintro e W1 ⟨rfl, hb1⟩)
  go_ret
  exact ⟨rfl, hb1⟩

theorem fromInt_any (n : Int) (h0 : -9223372036854775808 ≤ n) (h1 : n ≤ 9223372036854775807) (w : World) (hL : Laid w) : Calls Tryz.prog 216 #[.int .i64 n] w fun e w' => e = .returned (.string (tx n)) ∧ Below w.heap.size w w' := by
  have IT := Lib.hid (Tryz.strconv_Itoa n h0 h1 w hL.1)
  clear hL
  go_enter Tryz.func216, Tryz.ntmps216
  go_wp2_with (go_at_call 249; (with_reducible refine IT.out.mono ?_); rintro e W1 ⟨rfl, k, os, rfl⟩; have hb1 := Lib.below_grow _ w (Nat.le_refl _) k os)
  go_ret
  exact ⟨rfl, hb1⟩

end Go.Proofs.YtffndcjmabjhiaaGreatDoor

namespace Go.Proofs.YtffndcjmabjhiaaGreatDoor
open Go.RowKit Num
open Go.Shelf

def cmpI (a b : ByteArray) : Int :=
  match rdI a, rdI b with
  | some x, some y => Lib.compareInt x y
  | _, _ => 0
theorem cmp_cases (x y : Int) : Lib.compareInt x y = if x < 0 then (if y < 0 then Lib.compareInt y.natAbs x.natAbs else -1) else (if y < 0 then 1 else Lib.compareInt x.natAbs y.natAbs) := by
  unfold Lib.compareInt
  repeat' split
  all_goals omega

set_option maxHeartbeats 1000000 in
theorem compare_api (a b : ByteArray) (w : World) : Calls Tryz.prog 65 #[.string a, .string b] w fun e w' => e = .returned (.int .i64 (cmpI a b)) ∧ Below w.heap.size w w' := by
  rcases cases2 a b with ⟨x, y, ha, hb⟩ | h
  · have BO := Lib.hid (both_ok ha hb)
    have EQ : cmpI a b = Lib.compareInt x y := by unfold cmpI; rw [ha, hb]
    rw [EQ, cmp_cases]
    clear ha hb EQ
    go_enter Tryz.func65, Tryz.ntmps65
    have CM := fun a b v u w h1 h2 => Lib.hid (compare_any a b v u w h1 h2)
    have CMH := Lib.hid CM
    clear CM
    by_cases h1 : x < 0
    · rw [if_pos h1]
      rw [show decide (x < 0) = true by simpa using h1] at BO
      by_cases h2 : y < 0
      · rw [if_pos h2]
        rw [show decide (y < 0) = true by simpa using h2] at BO
        clear h1 h2
        generalize x.natAbs = m1 at *
        generalize y.natAbs = m2 at *
        go_wp2_with (first
          | (go_at_call 160; (with_reducible refine (BO.out _).mono ?_); rintro e W1 ⟨A1, A2, c1, c2, rfl, hr1, hr2, hb1⟩)
          | (go_at_call 166; (with_reducible refine (CMH.out m2 m1 _ _ _ (hr2.below (below2 _ _ _)) (hr1.below (below2 _ _ _))).out.mono ?_); rintro e W2 ⟨rfl, hb2⟩))
        go_ret
        exact ⟨rfl, below_up (below_up hb1 (below2 W1 _ _)) hb2⟩
      · rw [if_neg h2]
        rw [show decide (y < 0) = false by simpa using h2] at BO
        clear h1 h2
        go_wp2_with (go_at_call 160; (with_reducible refine (BO.out _).mono ?_); rintro e W1 ⟨A1, A2, c1, c2, rfl, hr1, hr2, hb1⟩)
        go_ret
        exact ⟨rfl, below_up hb1 (below2 W1 _ _)⟩
    · rw [if_neg h1]
      rw [show decide (x < 0) = false by simpa using h1] at BO
      by_cases h2 : y < 0
      · rw [if_pos h2]
        rw [show decide (y < 0) = true by simpa using h2] at BO
        clear h1 h2
        go_wp2_with (go_at_call 160; (with_reducible refine (BO.out _).mono ?_); rintro e W1 ⟨A1, A2, c1, c2, rfl, hr1, hr2, hb1⟩)
        go_ret
        exact ⟨rfl, below_up hb1 (below2 W1 _ _)⟩
      · rw [if_neg h2]
        rw [show decide (y < 0) = false by simpa using h2] at BO
        clear h1 h2
        generalize x.natAbs = m1 at *
        generalize y.natAbs = m2 at *
        go_wp2_with (first
          | (go_at_call 160; (with_reducible refine (BO.out _).mono ?_); rintro e W1 ⟨A1, A2, c1, c2, rfl, hr1, hr2, hb1⟩)
          | (go_at_call 166; (with_reducible refine (CMH.out m1 m2 _ _ _ (hr1.below (below2 _ _ _)) (hr2.below (below2 _ _ _))).out.mono ?_); rintro e W2 ⟨rfl, hb2⟩))
        go_ret
        exact ⟨rfl, below_up (below_up hb1 (below2 W1 _ _)) hb2⟩
  · have BO := Lib.hid (both_no h)
    have EQ : cmpI a b = 0 := by
      unfold cmpI
      rcases h with h | h
      · rw [h]
      · rw [h]; cases rdI a <;> rfl
    rw [EQ]
    clear EQ h
    go_enter Tryz.func65, Tryz.ntmps65
    go_wp2_with (go_at_call 160; (with_reducible refine (BO.out _).mono ?_); rintro e W1 ⟨rfl, hb1⟩)
    go_ret
    exact ⟨rfl, below_up hb1 (below2 W1 _ _)⟩

end Go.Proofs.YtffndcjmabjhiaaGreatDoor

namespace Go.Proofs.YtffndcjmabjhiaaGreatDoor
open Go.RowKit Num
open Go.Shelf

theorem sgn_mul (x y : Int) : sgn (decide (x < 0) != decide (y < 0)) (x.natAbs * y.natAbs) = x * y := by
  have h1 := sgn_self x
  have h2 := sgn_self y
  unfold sgn at *
  generalize decide (x < 0) = n1 at *
  generalize decide (y < 0) = n2 at *
  rw [← h1, ← h2]
  cases n1 <;> cases n2 <;> simp [Int.natCast_mul, Int.neg_mul, Int.mul_neg]
theorem mul_fits {m1 m2 : Nat} (h1 : m1 < 10 ^ 200) (h2 : m2 < 10 ^ 200) : m1 * 10000 ^ (dg 10000 m2).length < big := by
  have h3 : (dg 10000 m2).length ≤ 50 := dg_len (by omega) 50 m2 (Nat.lt_of_lt_of_le h2 (by decide))
  have h4 : 10000 ^ (dg 10000 m2).length ≤ 10000 ^ 50 := Nat.pow_le_pow_right (by omega) h3
  have h5 := Nat.mul_le_mul (Nat.le_of_lt h1) h4
  exact Nat.lt_of_le_of_lt h5 (by unfold big; decide)

/-- Two boxes of a call of its own. -/
theorem boxes2 (w : World) (n1 n2 : Bool) (v1 v2 : Value) : SBox ((w.alloc (.cells #[.bool n1, v1] 215)).alloc (.cells #[.bool n2, v2] 215)) w.heap.size n1 v1 ∧ SBox ((w.alloc (.cells #[.bool n1, v1] 215)).alloc (.cells #[.bool n2, v2] 215)) (w.heap.size + 1) n2 v2 := by
  refine ⟨((below1 _ _).block _ (by simp)).trans (World.alloc_heap_new w _), ?_⟩
  have := World.alloc_heap_new (w.alloc (.cells #[.bool n1, v1] 215)) (.cells #[.bool n2, v2] 215)
  unfold SBox
  simpa using this

set_option maxHeartbeats 1000000 in
theorem mul_any (a b : ByteArray) (w : World) (hL : Laid w) : Calls Tryz.prog 252 #[.string a, .string b] w (RetP w (op2 (fun x y => outI (x * y)) a b)) := by
  have HL := Lib.hid hL
  clear hL
  rcases cases2 a b with ⟨x, y, ha, hb⟩ | h
  · have BO := Lib.hid (both_ok ha hb)
    have hfit := mul_fits (rd_small ha) (rd_small hb)
    have EQ := Lib.hid (op2_ok (f := fun x y => outI (x * y)) ha hb)
    have HS := Lib.hid (sgn_mul x y)
    rw [EQ.out]
    clear ha hb EQ
    go_enter Tryz.func252, Tryz.ntmps252
    generalize decide (x < 0) = n1 at *
    generalize decide (y < 0) = n2 at *
    generalize x.natAbs = m1 at *
    generalize y.natAbs = m2 at *
    go_wp2_with (go_at_call 160; (with_reducible refine (BO.out _).mono ?_); rintro e W1 ⟨A1, A2, c1, c2, rfl, hr1, hr2, hb1⟩)
    have hmixed : Tryz.prog.follows .mixedOrders = true := by kernel_rfl
    have hB2 : Below w.heap.size w ((W1.alloc (.cells #[.bool n1, .slice A1 (dg 10000 m1).length c1] 215)).alloc (.cells #[.bool n2, .slice A2 (dg 10000 m2).length c2] 215)) := below_up hb1 (below2 W1 _ _)
    obtain ⟨s1, s2⟩ := boxes2 W1 n1 n2 (.slice A1 (dg 10000 m1).length c1) (.slice A2 (dg 10000 m2).length c2)
    have TI := Lib.hid (times_any m1 m2 _ _ ((W1.alloc (.cells #[.bool n1, .slice A1 (dg 10000 m1).length c1] 215)).alloc (.cells #[.bool n2, .slice A2 (dg 10000 m2).length c2] 215)).drew (hr1.below (below2 W1 _ _).drew) (hr2.below (below2 W1 _ _).drew) hfit)
    generalize (W1.alloc (.cells #[.bool n1, .slice A1 (dg 10000 m1).length c1] 215)).alloc (.cells #[.bool n2, .slice A2 (dg 10000 m2).length c2] 215) = W2 at *
    have x0 := s1.cell0
    have x1 := s1.cell1
    have y0 := s2.cell0
    have y1 := s2.cell1
    generalize m1 * m2 = m at *
    go_region_held3 (fun w' => w'.cell? ⟨W1.heap.size, 0, none⟩ = some (.bool n1) ∧ w'.cell? ⟨W1.heap.size, 1, none⟩ = some (.slice A1 (dg 10000 m1).length c1) ∧ w'.cell? ⟨W1.heap.size + 1, 0, none⟩ = some (.bool n2) ∧ w'.cell? ⟨W1.heap.size + 1, 1, none⟩ = some (.slice A2 (dg 10000 m2).length c2)) (go_keep)
      (first
        | (go_at_call 304; (with_reducible refine TI.out.mono ?_); rintro e W3 ⟨v3, rfl, hr3, hb3⟩; obtain ⟨A3, c3, rfl, -⟩ := id hr3; have hbl3 := below_drewL hb3; have xx0 := (hbl3.cell (cell_lt x0)).trans x0; have xx1 := (hbl3.cell (cell_lt x1)).trans x1; have yy0 := (hbl3.cell (cell_lt y0)).trans y0; have yy1 := (hbl3.cell (cell_lt y1)).trans y1)
        | (go_at_call 165; (with_reducible refine (text_any _ m _ W3 hr3 (HL.out.below (below_up hB2 hbl3))).mono ?_); rintro e W4 ⟨rfl, hb4⟩; have xy0 := (hb4.cell (cell_lt xx0)).trans xx0; have xy1 := (hb4.cell (cell_lt xx1)).trans xx1; have yz0 := (hb4.cell (cell_lt yy0)).trans yy0; have yz1 := (hb4.cell (cell_lt yy1)).trans yy1))
    all_goals go_wp2
    all_goals go_ret2
    all_goals exact ⟨by rw [← HS.out]; rfl, below_up (below_up hB2 hbl3) hb4⟩
  · have BO := Lib.hid (both_no h)
    have EQ := Lib.hid (op2_no (f := fun x y => outI (x * y)) h)
    rw [EQ.out]
    clear EQ h
    go_enter Tryz.func252, Tryz.ntmps252
    go_wp2_with (go_at_call 160; (with_reducible refine (BO.out _).mono ?_); rintro e W1 ⟨rfl, hb1⟩)
    go_ret2
    exact ⟨rfl, below_up hb1 (below2 W1 _ _)⟩

end Go.Proofs.YtffndcjmabjhiaaGreatDoor
