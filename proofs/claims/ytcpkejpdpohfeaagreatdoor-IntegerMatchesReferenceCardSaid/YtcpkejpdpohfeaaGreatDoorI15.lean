/- The walk of package integer's 'plus' of signed numbers. Conditions: sizes. -/
import Derived.Test.YtcpkejpdpohfeaaGreatDoorI14
import Derived.Deep.RegionHeld3
namespace Go.Proofs.YtcpkejpdpohfeaaGreatDoor
open Go.RowKit Num
open Go.Shelf

def RetSg (w : World) (z : Int) (e : Ending) (w' : World) : Prop := ∃ n A m c k, e = .returned (.agg #[.bool n, .slice A m c]) ∧ Rd w' (.slice A m c) (dg 10000 k) ∧ sgn n k = z ∧ Below w.heap.size w w'

/-- What the three boxes of the call read. -/
structure Boxes3 (w W : World) (n1 n2 : Bool) (v1 v2 : Value) : Prop where
  x : SBox W w.heap.size n1 v1
  y : SBox W (w.heap.size + 1) n2 v2
  r : SBox W (w.heap.size + 1 + 1) false (.slice none 0 0)
  b : Below w.heap.size w W
theorem Boxes3.start (w : World) (n1 n2 : Bool) (v1 v2 : Value) : Boxes3 w (((w.alloc (.cells #[.bool n1, v1] 50)).alloc (.cells #[.bool n2, v2] 50)).alloc (.cells #[.bool false, .slice none 0 0] 50)) n1 n2 v1 v2 := by
  refine ⟨?_, ?_, ?_, below3 _ _ _ _⟩
  · exact ((below2 _ _ _).block _ (by simp)).trans (World.alloc_heap_new w _)
  · have := World.alloc_heap_new (w.alloc (.cells #[.bool n1, v1] 50)) (.cells #[.bool n2, v2] 50)
    refine ((below1 _ _).block _ (by simp)).trans ?_
    simpa using this
  · have := World.alloc_heap_new ((w.alloc (.cells #[.bool n1, v1] 50)).alloc (.cells #[.bool n2, v2] 50)) (.cells #[.bool false, .slice none 0 0] 50)
    unfold SBox
    simpa using this
theorem Boxes3.below {w W W' : World} {n1 n2 : Bool} {v1 v2 : Value} (h : Boxes3 w W n1 n2 v1 v2) (hb : Below W.heap.size W W') : Boxes3 w W' n1 n2 v1 v2 :=
  ⟨h.x.below hb h.x.lt, h.y.below hb h.y.lt, h.r.below hb h.r.lt, h.b.trans (hb.mono h.b.size)⟩
theorem Boxes3.drew {w W : World} {n1 n2 : Bool} {v1 v2 : Value} (h : Boxes3 w W n1 n2 v1 v2) : Boxes3 w W.drew n1 n2 v1 v2 := ⟨h.x, h.y, h.r, h.b.drew⟩
/-- The result is stored. -/
theorem Boxes3.done {w W : World} {n1 n2 : Bool} {v1 v2 : Value} (h : Boxes3 w W n1 n2 v1 v2) (n : Bool) (A : Option Addr) (m c k : Nat) (hr : Rd W (.slice A m c) (dg 10000 k)) :
    ∀ W5, W5 = (W.setCell ⟨w.heap.size + 1 + 1, 0, none⟩ (.bool n)).setCell ⟨w.heap.size + 1 + 1, 1, none⟩ (.slice A m c) →
      W5.cell? ⟨w.heap.size + 1 + 1, 0, none⟩ = some (.bool n) ∧ W5.cell? ⟨w.heap.size + 1 + 1, 1, none⟩ = some (.slice A m c) ∧ Rd W5 (.slice A m c) (dg 10000 k) ∧ Below w.heap.size w W5 := by
  rintro W5 rfl
  have h1 := h.r.set0 n
  have h2 := h1.set (.slice A m c)
  have hT := (Turn.setCell (X := [w.heap.size + 1 + 1]) W (w.heap.size + 1 + 1) 0 (.bool n) (by simp)).trans (Turn.setCell _ (w.heap.size + 1 + 1) 1 (.slice A m c) (by simp))
  exact ⟨h2.cell0, h2.cell1, Rd.set_sbox h1 (Rd.set_sbox h.r hr _ _) _ _, hT.below h.b (Nat.le_refl _) (by simp; omega)⟩

set_option maxHeartbeats 2000000 in
theorem plusS_any (n1 n2 : Bool) (a b : Nat) (A1 A2 : Option Addr) (m1 m2 c1 c2 : Nat) (w : World) (h1 : Rd w (.slice A1 m1 c1) (dg 10000 a)) (h2 : Rd w (.slice A2 m2 c2) (dg 10000 b)) (hs : a + b < big) :
    Calls Tryz.prog 39 #[.agg #[.bool n1, .slice A1 m1 c1], .agg #[.bool n2, .slice A2 m2 c2]] w (RetSg w (sgn n1 a + sgn n2 b)) := by
  have hmixed : Tryz.prog.follows .mixedOrders = true := by kernel_rfl
  have BX := Lib.hid (Boxes3.start w n1 n2 (.slice A1 m1 c1) (.slice A2 m2 c2))
  have H1 := Lib.hid h1
  have H2 := Lib.hid h2
  clear h1 h2
  go_enter Tryz.func39, Tryz.ntmps39
  by_cases hn : n1 = n2
  · subst hn
    have HS : Hid (sgn n1 (a + b) = sgn n1 a + sgn n1 b) := by
      refine Lib.hid ?_
      unfold sgn
      cases n1
      · simp
      · simp; omega
    clear hmixed
    have hmixed : Tryz.prog.follows .mixedOrders = true := by kernel_rfl
    go_wp2
    generalize ((w.alloc (.cells #[.bool n1, .slice A1 m1 c1] 50)).alloc (.cells #[.bool n1, .slice A2 m2 c2] 50)).alloc (.cells #[.bool false, .slice none 0 0] 50) = W at *
    have PL := Lib.hid (plus_any a b _ _ W.drew (H1.out.below BX.out.b.drew) (H2.out.below BX.out.b.drew) hs)
    have x0 := BX.out.x.cell0
    have x1 := BX.out.x.cell1
    have y0 := BX.out.y.cell0
    have y1 := BX.out.y.cell1
    generalize sgn n1 a + sgn n1 b = Z at *
    have hne1 : ¬ (w.heap.size = w.heap.size + 1 + 1) := by omega
    have hne2 : ¬ (w.heap.size + 1 + 1 = w.heap.size) := by omega
    go_region_held3 (fun w' => w'.cell? ⟨w.heap.size, 0, none⟩ = some (.bool n1) ∧ w'.cell? ⟨w.heap.size, 1, none⟩ = some (.slice A1 m1 c1) ∧ w'.cell? ⟨w.heap.size + 1, 0, none⟩ = some (.bool n1) ∧ w'.cell? ⟨w.heap.size + 1, 1, none⟩ = some (.slice A2 m2 c2)) (go_keep)
      (first
        | (go_at_call 43; (with_reducible refine PL.out.mono ?_); rintro e w2 ⟨v, rfl, hr, hb⟩; obtain ⟨A, c, rfl, -⟩ := id hr; have BX2 := Lib.hid (BX.out.drew.below hb); have xx0 := BX2.out.x.cell0; have xx1 := BX2.out.x.cell1; have yy0 := BX2.out.y.cell0; have yy1 := BX2.out.y.cell1; have rr0 := BX2.out.r.frozen 0; have rr1 := BX2.out.r.frozen 1; have rc0 := BX2.out.r.cell0; have rc1 := BX2.out.r.cell1))
    all_goals obtain ⟨e0, e1, e2, e3⟩ := BX2.out.done n1 A _ c (a + b) hr _ rfl
    all_goals go_wp2
    all_goals refine bodyPost_ret (v := .agg #[.bool n1, .slice A (dg 10000 (a + b)).length c]) (by simp [results, Tryz.results39, go_sem, e0, e1]) rfl ⟨_, _, _, _, _, rfl, e2, HS.out, e3⟩
  · have hnf : (n1 == n2) = false := by simpa using hn
    by_cases hab : b ≤ a
    · have hge : (0 : Int) ≤ Lib.compareInt a b := by unfold Lib.compareInt; split <;> (try split) <;> omega
      have HS : Hid (sgn n1 (a - b) = sgn n1 a + sgn n2 b) := by
        refine Lib.hid ?_
        unfold sgn
        cases n1 <;> cases n2 <;> simp at hn ⊢ <;> omega
      have CM := fun W hb => Lib.hid (compare_any a b _ _ W (H1.out.below hb) (H2.out.below hb))
      have CMH := Lib.hid CM
      clear CM hn
      go_wp2_with (go_at_call 46; (with_reducible refine (CMH.out _ BX.out.b).out.mono ?_); rintro e w1 ⟨rfl, hb1⟩; have BX1 := Lib.hid (BX.out.below hb1))
      have PL := Lib.hid (minus_any a b _ _ w1.drew (H1.out.below BX1.out.b.drew) (H2.out.below BX1.out.b.drew) (by omega) hab)
      have x0 := BX1.out.x.cell0
      have x1 := BX1.out.x.cell1
      have y0 := BX1.out.y.cell0
      have y1 := BX1.out.y.cell1
      generalize sgn n1 a + sgn n2 b = Z at *
      have hne1 : ¬ (w.heap.size = w.heap.size + 1 + 1) := by omega
      have hne2 : ¬ (w.heap.size + 1 + 1 = w.heap.size) := by omega
      go_region_held3 (fun w' => w'.cell? ⟨w.heap.size, 0, none⟩ = some (.bool n1) ∧ w'.cell? ⟨w.heap.size, 1, none⟩ = some (.slice A1 m1 c1) ∧ w'.cell? ⟨w.heap.size + 1, 0, none⟩ = some (.bool n2) ∧ w'.cell? ⟨w.heap.size + 1, 1, none⟩ = some (.slice A2 m2 c2)) (go_keep)
      (first
        | (go_at_call 45; (with_reducible refine PL.out.mono ?_); rintro e w2 ⟨v, rfl, hr, hb⟩; obtain ⟨A, c, rfl, -⟩ := id hr; have BX2 := Lib.hid (BX1.out.drew.below hb); have xx0 := BX2.out.x.cell0; have xx1 := BX2.out.x.cell1; have yy0 := BX2.out.y.cell0; have yy1 := BX2.out.y.cell1; have rr0 := BX2.out.r.frozen 0; have rr1 := BX2.out.r.frozen 1; have rc0 := BX2.out.r.cell0; have rc1 := BX2.out.r.cell1))
      all_goals obtain ⟨e0, e1, e2, e3⟩ := BX2.out.done n1 A _ c (a - b) hr _ rfl
      all_goals go_wp2
      all_goals refine bodyPost_ret (v := .agg #[.bool n1, .slice A (dg 10000 (a - b)).length c]) (by simp [results, Tryz.results39, go_sem, e0, e1]) rfl ⟨_, _, _, _, _, rfl, e2, HS.out, e3⟩
    · have hge : ¬ (0 : Int) ≤ Lib.compareInt a b := by unfold Lib.compareInt; rw [if_pos (by omega)]; omega
      have HS : Hid (sgn n2 (b - a) = sgn n1 a + sgn n2 b) := by
        refine Lib.hid ?_
        unfold sgn
        cases n1 <;> cases n2 <;> simp at hn ⊢ <;> omega
      have CM := fun W hb => Lib.hid (compare_any a b _ _ W (H1.out.below hb) (H2.out.below hb))
      have CMH := Lib.hid CM
      clear CM hn
      go_wp2_with (go_at_call 46; (with_reducible refine (CMH.out _ BX.out.b).out.mono ?_); rintro e w1 ⟨rfl, hb1⟩; have BX1 := Lib.hid (BX.out.below hb1))
      have PL := Lib.hid (minus_any b a _ _ w1.drew (H2.out.below BX1.out.b.drew) (H1.out.below BX1.out.b.drew) (by omega) (by omega))
      have x0 := BX1.out.x.cell0
      have x1 := BX1.out.x.cell1
      have y0 := BX1.out.y.cell0
      have y1 := BX1.out.y.cell1
      generalize sgn n1 a + sgn n2 b = Z at *
      have hne1 : ¬ (w.heap.size = w.heap.size + 1 + 1) := by omega
      have hne2 : ¬ (w.heap.size + 1 + 1 = w.heap.size) := by omega
      go_region_held3 (fun w' => w'.cell? ⟨w.heap.size, 0, none⟩ = some (.bool n1) ∧ w'.cell? ⟨w.heap.size, 1, none⟩ = some (.slice A1 m1 c1) ∧ w'.cell? ⟨w.heap.size + 1, 0, none⟩ = some (.bool n2) ∧ w'.cell? ⟨w.heap.size + 1, 1, none⟩ = some (.slice A2 m2 c2)) (go_keep)
      (first
        | (go_at_call 45; (with_reducible refine PL.out.mono ?_); rintro e w2 ⟨v, rfl, hr, hb⟩; obtain ⟨A, c, rfl, -⟩ := id hr; have BX2 := Lib.hid (BX1.out.drew.below hb); have xx0 := BX2.out.x.cell0; have xx1 := BX2.out.x.cell1; have yy0 := BX2.out.y.cell0; have yy1 := BX2.out.y.cell1; have rr0 := BX2.out.r.frozen 0; have rr1 := BX2.out.r.frozen 1; have rc0 := BX2.out.r.cell0; have rc1 := BX2.out.r.cell1))
      all_goals obtain ⟨e0, e1, e2, e3⟩ := BX2.out.done n2 A _ c (b - a) hr _ rfl
      all_goals go_wp2
      all_goals refine bodyPost_ret (v := .agg #[.bool n2, .slice A (dg 10000 (b - a)).length c]) (by simp [results, Tryz.results39, go_sem, e0, e1]) rfl ⟨_, _, _, _, _, rfl, e2, HS.out, e3⟩

end Go.Proofs.YtcpkejpdpohfeaaGreatDoor
