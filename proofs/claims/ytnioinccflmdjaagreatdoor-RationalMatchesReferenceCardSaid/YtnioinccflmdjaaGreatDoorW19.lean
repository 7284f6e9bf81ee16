/- RationalMatchesReference: its walk. Condition: the tables of strconv; the numbers are ints. -/
import Derived.Test.YtnioinccflmdjaaGreatDoorT7
import Derived.Test.YtnioinccflmdjaaGreatDoorW3
import Derived.Test.YtnioinccflmdjaaGreatDoorW16
import Derived.Test.YtnioinccflmdjaaGreatDoorQ8
namespace Go.Proofs.YtnioinccflmdjaaGreatDoor
open Go.RowKit Num
open Go.Shelf

theorem Blk.new5 (w : World) (o o' o'' o3 : Obj) (T : TypeId) (vs : List Value) : Blk (((((w.alloc o).alloc o').alloc o'').alloc o3).alloc (.cells vs.toArray T)) (w.heap.size + 1 + 1 + 1 + 1) T vs := by
  have h := Blk.new4 (w.alloc o) o' o'' o3 T vs
  rwa [show (w.alloc o).heap.size = w.heap.size + 1 by simp] at h

/-- A slot that holds a new slice of two elements; nothing else in memory has changed. -/
def Slice2 (W : World) (g : Nat) (T : TypeId) (vs : List Value) (s n i : Value) (wx : World) : Prop := s = .slice (some ⟨g, 0, none⟩) 2 2 ∧ n = .int .i64 2 ∧ i = .int .i64 0 ∧ Blk wx g T vs ∧ Below W.heap.size W wx

set_option maxHeartbeats 8000000 in
set_option maxRecDepth 100000 in
theorem qmatches_any (x0 x1 y0 y1 : ByteArray) (hx0 : x0.size ≤ 9223372036854775807) (hx1 : x1.size ≤ 9223372036854775807) (hy0 : y0.size ≤ 9223372036854775807) (hy1 : y1.size ≤ 9223372036854775807)
    (l0 l1 l2 l3 m0 m1 m2 m3 s0 s1 n d places : Int) (hl0 : I64 l0) (hl1 : I64 l1) (hl2 : I64 l2) (hl3 : I64 l3) (hm0 : I64 m0) (hm1 : I64 m1) (hm2 : I64 m2) (hm3 : I64 m3) (hs0 : I64 s0) (hs1 : I64 s1) (hn : I64 n) (hd : I64 d) (hpl : I64 places) (w : World) (hL : Laid w) :
    Calls Tryz.prog 6 #[.agg #[.string x0, .string x1], .agg #[.string y0, .string y1], .agg #[.int .i64 l0, .int .i64 l1, .int .i64 l2, .int .i64 l3], .agg #[.int .i64 m0, .int .i64 m1, .int .i64 m2, .int .i64 m3], .agg #[.int .i64 s0, .int .i64 s1], .int .i64 n, .int .i64 d, .int .i64 places] w (RetB w true) := by
  have CLL := Lib.hid (fun w => long_any l0 l1 l2 l3 hl0.1 hl0.2 hl1.1 hl1.2 hl2.1 hl2.2 hl3.1 hl3.2 w)
  have CLM := Lib.hid (fun w => long_any m0 m1 m2 m3 hm0.1 hm0.2 hm1.1 hm1.2 hm2.1 hm2.2 hm3.1 hm3.2 w)
  have CSS := Lib.hid (fun w => small_any s0 s1 hs0.1 hs0.2 hs1.1 hs1.2 w)
  have CCX := Lib.hid (fun w => cut_any x0 x1 hx0 hx1 w)
  have CCY := Lib.hid (fun w => cut_any y0 y1 hy0 hy1 w)
  have zx0 := cutB_size x0
  have zx1 := cutB_size x1
  have zy0 := cutB_size y0
  have zy1 := cutB_size y1
  have COQ := Lib.hid (fun w hL => qof_any n d hn.1 hn.2 hd.1 hd.2 w hL)
  have COT := Lib.hid (fun w => tof_any n d hn.1 hn.2 hd.1 hd.2 w)
  have CPI := Lib.hid (fun w => pick_any places 32 hpl.1 hpl.2 (by decide) (by decide) w)
  clear hl0 hl1 hl2 hl3 hm0 hm1 hm2 hm3 hs0 hs1 hn hd hpl hx0 hx1 hy0 hy1
  have hB : Below w.heap.size w w := Below.refl _ _
  have HL0 := Lib.hid hL
  have hmixed : Tryz.prog.follows .mixedOrders = true := by kernel_rfl
  go_enter Tryz.func6, Tryz.ntmps6
  go_upto_region 3 with (first
      | (go_at_call 11; (with_reducible refine (sane_any _ (hL.below (below_up (below_up (below_up (below_up (below1 w (.cells #[.string x0, .string x1] 23)) (below1 ((w.alloc (.cells #[.string x0, .string x1] 23))) (.cells #[.string y0, .string y1] 23))) (below1 (((w.alloc (.cells #[.string x0, .string x1] 23)).alloc (.cells #[.string y0, .string y1] 23))) (.cells #[.int .i64 l0, .int .i64 l1, .int .i64 l2, .int .i64 l3] 24))) (below1 ((((w.alloc (.cells #[.string x0, .string x1] 23)).alloc (.cells #[.string y0, .string y1] 23)).alloc (.cells #[.int .i64 l0, .int .i64 l1, .int .i64 l2, .int .i64 l3] 24))) (.cells #[.int .i64 m0, .int .i64 m1, .int .i64 m2, .int .i64 m3] 24))) (below1 (((((w.alloc (.cells #[.string x0, .string x1] 23)).alloc (.cells #[.string y0, .string y1] 23)).alloc (.cells #[.int .i64 l0, .int .i64 l1, .int .i64 l2, .int .i64 l3] 24)).alloc (.cells #[.int .i64 m0, .int .i64 m1, .int .i64 m2, .int .i64 m3] 24))) (.cells #[.int .i64 s0, .int .i64 s1] 47))))).mono ?_); rintro e w1 ⟨rfl, hb⟩; have hp := below_up (below_up (below_up (below_up (below_up (below1 w (.cells #[.string x0, .string x1] 23)) (below1 ((w.alloc (.cells #[.string x0, .string x1] 23))) (.cells #[.string y0, .string y1] 23))) (below1 (((w.alloc (.cells #[.string x0, .string x1] 23)).alloc (.cells #[.string y0, .string y1] 23))) (.cells #[.int .i64 l0, .int .i64 l1, .int .i64 l2, .int .i64 l3] 24))) (below1 ((((w.alloc (.cells #[.string x0, .string x1] 23)).alloc (.cells #[.string y0, .string y1] 23)).alloc (.cells #[.int .i64 l0, .int .i64 l1, .int .i64 l2, .int .i64 l3] 24))) (.cells #[.int .i64 m0, .int .i64 m1, .int .i64 m2, .int .i64 m3] 24))) (below1 (((((w.alloc (.cells #[.string x0, .string x1] 23)).alloc (.cells #[.string y0, .string y1] 23)).alloc (.cells #[.int .i64 l0, .int .i64 l1, .int .i64 l2, .int .i64 l3] 24)).alloc (.cells #[.int .i64 m0, .int .i64 m1, .int .i64 m2, .int .i64 m3] 24))) (.cells #[.int .i64 s0, .int .i64 s1] 47))) hb; have Bx := (((((Blk.new w 23 [.string x0, .string x1]).alloc _).alloc _).alloc _).alloc _).below hb; have By := ((((Blk.new2 w (.cells #[.string x0, .string x1] 23) 23 [.string y0, .string y1]).alloc _).alloc _).alloc _).below hb; have Bl := (((Blk.new3 w (.cells #[.string x0, .string x1] 23) (.cells #[.string y0, .string y1] 23) 24 [.int .i64 l0, .int .i64 l1, .int .i64 l2, .int .i64 l3]).alloc _).alloc _).below hb; have Bm := ((Blk.new4 w (.cells #[.string x0, .string x1] 23) (.cells #[.string y0, .string y1] 23) (.cells #[.int .i64 l0, .int .i64 l1, .int .i64 l2, .int .i64 l3] 24) 24 [.int .i64 m0, .int .i64 m1, .int .i64 m2, .int .i64 m3]).alloc _).below hb; have Bs := (Blk.new5 w (.cells #[.string x0, .string x1] 23) (.cells #[.string y0, .string y1] 23) (.cells #[.int .i64 l0, .int .i64 l1, .int .i64 l2, .int .i64 l3] 24) (.cells #[.int .i64 m0, .int .i64 m1, .int .i64 m2, .int .i64 m3] 24) 47 [.int .i64 s0, .int .i64 s1]).below hb; replace hL := hL.below hp; replace hB := below_up hB hp; clear hb hp; have cx_0 := Bx.cell 0 (v := .string x0) rfl; have cx_1 := Bx.cell 1 (v := .string x1) rfl)
      | (go_at_call 13; (with_reducible refine (CCX.out _).mono ?_); rintro e w2 ⟨rfl, hb⟩; have hp := hb; replace Bx := Bx.below hp; replace By := By.below hp; replace Bl := Bl.below hp; replace Bm := Bm.below hp; replace Bs := Bs.below hp; clear cx_0 cx_1; replace hL := hL.below hp; replace hB := below_up hB hp; clear hb hp; have u0 := Bx.cell 0 (v := .string x0) rfl; have u1 := Bx.cell 1 (v := .string x1) rfl; have v0 := Bx.frozen 0; have v1 := Bx.frozen 1))
  replace Bx := ((Bx.set 0 (.string (cutB x0))).set 1 (.string (cutB x1)))
  replace By := ((By.other (B := w.heap.size) (by omega) 0 (.string (cutB x0))).other (B := w.heap.size) (by omega) 1 (.string (cutB x1)))
  replace Bl := ((Bl.other (B := w.heap.size) (by omega) 0 (.string (cutB x0))).other (B := w.heap.size) (by omega) 1 (.string (cutB x1)))
  replace Bm := ((Bm.other (B := w.heap.size) (by omega) 0 (.string (cutB x0))).other (B := w.heap.size) (by omega) 1 (.string (cutB x1)))
  replace Bs := ((Bs.other (B := w.heap.size) (by omega) 0 (.string (cutB x0))).other (B := w.heap.size) (by omega) 1 (.string (cutB x1)))
  replace hB := ((hB.setCell (p := ⟨w.heap.size, 0, none⟩) (by dsimp; omega) (.string (cutB x0))).setCell (p := ⟨w.heap.size, 1, none⟩) (by dsimp; omega) (.string (cutB x1)))
  generalize ((w2.setCell ⟨w.heap.size, 0, none⟩ (.string (cutB x0))).setCell ⟨w.heap.size, 1, none⟩ (.string (cutB x1))) = w3 at *
  clear hL u0 u1 v0 v1
  have hL := HL0.out.below hB
  have cy_0 := By.cell 0 (v := .string y0) rfl
  have cy_1 := By.cell 1 (v := .string y1) rfl
  go_upto_region 4 with (first
      | (go_at_call 13; (with_reducible refine (CCY.out _).mono ?_); rintro e w4 ⟨rfl, hb⟩; have hp := hb; replace Bx := Bx.below hp; replace By := By.below hp; replace Bl := Bl.below hp; replace Bm := Bm.below hp; replace Bs := Bs.below hp; clear cy_0 cy_1; replace hL := hL.below hp; replace hB := below_up hB hp; clear hb hp; have u0 := By.cell 0 (v := .string y0) rfl; have u1 := By.cell 1 (v := .string y1) rfl; have v0 := By.frozen 0; have v1 := By.frozen 1))
  replace Bx := ((Bx.other (B := w.heap.size + 1) (by omega) 0 (.string (cutB y0))).other (B := w.heap.size + 1) (by omega) 1 (.string (cutB y1)))
  replace By := ((By.set 0 (.string (cutB y0))).set 1 (.string (cutB y1)))
  replace Bl := ((Bl.other (B := w.heap.size + 1) (by omega) 0 (.string (cutB y0))).other (B := w.heap.size + 1) (by omega) 1 (.string (cutB y1)))
  replace Bm := ((Bm.other (B := w.heap.size + 1) (by omega) 0 (.string (cutB y0))).other (B := w.heap.size + 1) (by omega) 1 (.string (cutB y1)))
  replace Bs := ((Bs.other (B := w.heap.size + 1) (by omega) 0 (.string (cutB y0))).other (B := w.heap.size + 1) (by omega) 1 (.string (cutB y1)))
  replace hB := ((hB.setCell (p := ⟨w.heap.size + 1, 0, none⟩) (by dsimp; omega) (.string (cutB y0))).setCell (p := ⟨w.heap.size + 1, 1, none⟩) (by dsimp; omega) (.string (cutB y1)))
  generalize ((w4.setCell ⟨w.heap.size + 1, 0, none⟩ (.string (cutB y0))).setCell ⟨w.heap.size + 1, 1, none⟩ (.string (cutB y1))) = w5 at *
  clear hL u0 u1 v0 v1
  have hL := HL0.out.below hB
  generalize cutB x0 = ax at *
  generalize cutB x1 = bx at *
  generalize cutB y0 = ay at *
  generalize cutB y1 = by_ at *
  clear CCX CCY
  go_cut [18] (fun s18 wx => ∃ (g : Nat) (q1 q2 q3 : Rat), lim 100 q1 ∧ lim 100 q2 ∧ lim 3 q3 ∧ s18 = .slice (some ⟨g, 0, none⟩) 5 5 ∧ Blk wx g 23 [.string ax, .string bx, .string ay, .string by_, .string (numT (some q1)), .string (denT (some q1)), .string (numT (some q2)), .string (denT (some q2)), .string (numT (some q3)), .string (denT (some q3))] ∧ Below w5.heap.size w5 wx)
  case first =>
    have hZ : Below w5.heap.size w5 w5.drew := (Below.refl _ _).drew
    have zx_0 := (Bx.below hZ).cell 0 (v := .string ax) rfl
    have zx_1 := (Bx.below hZ).cell 1 (v := .string bx) rfl
    have zy_0 := (By.below hZ).cell 0 (v := .string ay) rfl
    have zy_1 := (By.below hZ).cell 1 (v := .string by_) rfl
    have zl_0 := (Bl.below hZ).cell 0 (v := .int .i64 l0) rfl
    have zl_1 := (Bl.below hZ).cell 1 (v := .int .i64 l1) rfl
    have zl_2 := (Bl.below hZ).cell 2 (v := .int .i64 l2) rfl
    have zl_3 := (Bl.below hZ).cell 3 (v := .int .i64 l3) rfl
    have zm_0 := (Bm.below hZ).cell 0 (v := .int .i64 m0) rfl
    have zm_1 := (Bm.below hZ).cell 1 (v := .int .i64 m1) rfl
    have zm_2 := (Bm.below hZ).cell 2 (v := .int .i64 m2) rfl
    have zm_3 := (Bm.below hZ).cell 3 (v := .int .i64 m3) rfl
    have zs_0 := (Bs.below hZ).cell 0 (v := .int .i64 s0) rfl
    have zs_1 := (Bs.below hZ).cell 1 (v := .int .i64 s1) rfl
    go_region_held3 (fun w' => w'.cell? ⟨w.heap.size, 0, none⟩ = some (.string ax) ∧ w'.cell? ⟨w.heap.size, 1, none⟩ = some (.string bx) ∧ w'.cell? ⟨w.heap.size + 1, 0, none⟩ = some (.string ay) ∧ w'.cell? ⟨w.heap.size + 1, 1, none⟩ = some (.string by_) ∧ w'.cell? ⟨w.heap.size + 1 + 1, 0, none⟩ = some (.int .i64 l0) ∧ w'.cell? ⟨w.heap.size + 1 + 1, 1, none⟩ = some (.int .i64 l1) ∧ w'.cell? ⟨w.heap.size + 1 + 1, 2, none⟩ = some (.int .i64 l2) ∧ w'.cell? ⟨w.heap.size + 1 + 1, 3, none⟩ = some (.int .i64 l3) ∧ w'.cell? ⟨w.heap.size + 1 + 1 + 1, 0, none⟩ = some (.int .i64 m0) ∧ w'.cell? ⟨w.heap.size + 1 + 1 + 1, 1, none⟩ = some (.int .i64 m1) ∧ w'.cell? ⟨w.heap.size + 1 + 1 + 1, 2, none⟩ = some (.int .i64 m2) ∧ w'.cell? ⟨w.heap.size + 1 + 1 + 1, 3, none⟩ = some (.int .i64 m3) ∧ w'.cell? ⟨w.heap.size + 1 + 1 + 1 + 1, 0, none⟩ = some (.int .i64 s0) ∧ w'.cell? ⟨w.heap.size + 1 + 1 + 1 + 1, 1, none⟩ = some (.int .i64 s1)) (go_keep) (first
      | (go_at_call 12; (with_reducible refine (CLL.out _).mono ?_); rintro e wN ⟨q1, h1, rfl, hb⟩; have hZ := below_up hZ hb; have zx_0 := (hb.cell (cell_lt zx_0)).trans zx_0; have zx_1 := (hb.cell (cell_lt zx_1)).trans zx_1; have zy_0 := (hb.cell (cell_lt zy_0)).trans zy_0; have zy_1 := (hb.cell (cell_lt zy_1)).trans zy_1; have zl_0 := (hb.cell (cell_lt zl_0)).trans zl_0; have zl_1 := (hb.cell (cell_lt zl_1)).trans zl_1; have zl_2 := (hb.cell (cell_lt zl_2)).trans zl_2; have zl_3 := (hb.cell (cell_lt zl_3)).trans zl_3; have zm_0 := (hb.cell (cell_lt zm_0)).trans zm_0; have zm_1 := (hb.cell (cell_lt zm_1)).trans zm_1; have zm_2 := (hb.cell (cell_lt zm_2)).trans zm_2; have zm_3 := (hb.cell (cell_lt zm_3)).trans zm_3; have zs_0 := (hb.cell (cell_lt zs_0)).trans zs_0; have zs_1 := (hb.cell (cell_lt zs_1)).trans zs_1)
      | (go_at_call 12; (with_reducible refine (CLM.out _).mono ?_); rintro e wN ⟨q2, h2, rfl, hb⟩; have hZ := below_up hZ hb; have zx_0 := (hb.cell (cell_lt zx_0)).trans zx_0; have zx_1 := (hb.cell (cell_lt zx_1)).trans zx_1; have zy_0 := (hb.cell (cell_lt zy_0)).trans zy_0; have zy_1 := (hb.cell (cell_lt zy_1)).trans zy_1; have zl_0 := (hb.cell (cell_lt zl_0)).trans zl_0; have zl_1 := (hb.cell (cell_lt zl_1)).trans zl_1; have zl_2 := (hb.cell (cell_lt zl_2)).trans zl_2; have zl_3 := (hb.cell (cell_lt zl_3)).trans zl_3; have zm_0 := (hb.cell (cell_lt zm_0)).trans zm_0; have zm_1 := (hb.cell (cell_lt zm_1)).trans zm_1; have zm_2 := (hb.cell (cell_lt zm_2)).trans zm_2; have zm_3 := (hb.cell (cell_lt zm_3)).trans zm_3; have zs_0 := (hb.cell (cell_lt zs_0)).trans zs_0; have zs_1 := (hb.cell (cell_lt zs_1)).trans zs_1)
      | (go_at_call 28; (with_reducible refine (CSS.out _).mono ?_); rintro e wN ⟨q3, h3, rfl, hb⟩; have hZ := below_up hZ hb; have zx_0 := (hb.cell (cell_lt zx_0)).trans zx_0; have zx_1 := (hb.cell (cell_lt zx_1)).trans zx_1; have zy_0 := (hb.cell (cell_lt zy_0)).trans zy_0; have zy_1 := (hb.cell (cell_lt zy_1)).trans zy_1; have zl_0 := (hb.cell (cell_lt zl_0)).trans zl_0; have zl_1 := (hb.cell (cell_lt zl_1)).trans zl_1; have zl_2 := (hb.cell (cell_lt zl_2)).trans zl_2; have zl_3 := (hb.cell (cell_lt zl_3)).trans zl_3; have zm_0 := (hb.cell (cell_lt zm_0)).trans zm_0; have zm_1 := (hb.cell (cell_lt zm_1)).trans zm_1; have zm_2 := (hb.cell (cell_lt zm_2)).trans zm_2; have zm_3 := (hb.cell (cell_lt zm_3)).trans zm_3; have zs_0 := (hb.cell (cell_lt zs_0)).trans zs_0; have zs_1 := (hb.cell (cell_lt zs_1)).trans zs_1))
    all_goals go_wp2_with fail
    all_goals go_meet
    all_goals exact ⟨_, _, _, _, h1, h2, h3, rfl, Blk.new _ _ _, below_up hZ (below1 _ _)⟩
  case rest =>
    obtain ⟨w6, hnw⟩ : ∃ x, x = wc := ⟨_, rfl⟩
    subst hnw
    obtain ⟨gs, q1, q2, q3, h1, h2, h3, rfl, BS, hp⟩ := hcut
    replace hB := below_up hB hp
    replace hL := hL.below hp
    clear hp Bx By Bl Bm Bs CLL CLM CSS
    have f1 := fr_fit (h1.fit (by omega))
    have za1 : (numT (some q1)).size ≤ 1000 := Nat.le_trans f1.1.size (by omega)
    have zb1 : (denT (some q1)).size ≤ 1000 := Nat.le_trans f1.2.size (by omega)
    have f2 := fr_fit (h2.fit (by omega))
    have za2 : (numT (some q2)).size ≤ 1000 := Nat.le_trans f2.1.size (by omega)
    have zb2 : (denT (some q2)).size ≤ 1000 := Nat.le_trans f2.2.size (by omega)
    have f3 := fr_fit (h3.fit (by omega))
    have za3 : (numT (some q3)).size ≤ 1000 := Nat.le_trans f3.1.size (by omega)
    have zb3 : (denT (some q3)).size ≤ 1000 := Nat.le_trans f3.2.size (by omega)
    have HV : Hid (∀ j, j < 5 → ∃ a b : ByteArray, a.size ≤ 1000 ∧ b.size ≤ 1000 ∧ ([.string ax, .string bx, .string ay, .string by_, .string (numT (some q1)), .string (denT (some q1)), .string (numT (some q2)), .string (denT (some q2)), .string (numT (some q3)), .string (denT (some q3))] : List Value)[j * 2]? = some (Value.string a) ∧ ([.string ax, .string bx, .string ay, .string by_, .string (numT (some q1)), .string (denT (some q1)), .string (numT (some q2)), .string (denT (some q2)), .string (numT (some q3)), .string (denT (some q3))] : List Value)[j * 2 + 1]? = some (Value.string b)) := Lib.hid (fun j hj => by
      obtain rfl | rfl | rfl | rfl | rfl : j = 0 ∨ j = 1 ∨ j = 2 ∨ j = 3 ∨ j = 4 := by omega
      · exact ⟨_, _, by omega, by omega, rfl, rfl⟩
      · exact ⟨_, _, by omega, by omega, rfl, rfl⟩
      · exact ⟨_, _, za1, zb1, rfl, rfl⟩
      · exact ⟨_, _, za2, zb2, rfl, rfl⟩
      · exact ⟨_, _, za3, zb3, rfl, rfl⟩)
    generalize ([.string ax, .string bx, .string ay, .string by_, .string (numT (some q1)), .string (denT (some q1)), .string (numT (some q2)), .string (denT (some q2)), .string (numT (some q3)), .string (denT (some q3))] : List Value) = vs at *
    clear f1 f2 f3 za1 za2 za3 zb1 zb2 zb3 h1 h2 h3 zx0 zx1 zy0 zy1
    go_wp2_with fail
    go_loopg [19] 5 (fun kx s19 wr => ∃ i : Nat, s19 = .int .i64 i ∧ i ≤ 5 ∧ 5 ≤ kx + i ∧ Laid wr ∧ Below w.heap.size w wr ∧ Blk wr gs 23 vs)
    case atStart => exact ⟨0, rfl, by omega, by omega, hL, hB, BS⟩
    case round =>
      clear hL hB BS
      obtain ⟨i, rfl, hi, hkx, hL, hB, BS⟩ := hrel
      by_cases hg : i < 5
      · have hgi : (i : Int) < 5 := by omega
        obtain ⟨a, b, hza, hzb, hva, hvb⟩ := HV.out i hg
        obtain ⟨wo, hwo⟩ : ∃ x, x = wr := ⟨_, rfl⟩
        subst hwo
        go_wp2_with fail
        go_loopg [20] 5 (fun ky s20 wr => ∃ k : Nat, s20 = .int .i64 k ∧ k ≤ 5 ∧ 5 ≤ ky + k ∧ Laid wr ∧ Below w.heap.size w wr ∧ Blk wr gs 23 vs)
        case atStart => exact ⟨0, rfl, by omega, by omega, hL, hB, BS⟩
        case round =>
          clear hL hB BS
          obtain ⟨k, rfl, hk, hky, hL, hB, BS⟩ := hrel
          by_cases hgk : k < 5
          · have hgki : (k : Int) < 5 := by omega
            obtain ⟨cx, cy, hzc, hze, hvc, hve⟩ := HV.out k hgk
            have ca := BS.cell _ hva
            have cb := BS.cell _ hvb
            have cc := (BS.alloc (.cells #[.string a, .string b] 23)).cell _ hvc
            have ce := (BS.alloc (.cells #[.string a, .string b] 23)).cell _ hve
            obtain ⟨oA, hA⟩ : ∃ o, op2Q addQ (ratO a b) (ratO cx cy) = o := ⟨_, rfl⟩
            have TA := Lib.hid (fun w => tadd_any a b cx cy (by omega) (by omega) (by omega) (by omega) w)
            rw [hA] at TA
            obtain ⟨oS, hS⟩ : ∃ o, op2Q subQ (ratO a b) (ratO cx cy) = o := ⟨_, rfl⟩
            have TS := Lib.hid (fun w => tsub_any a b cx cy (by omega) (by omega) (by omega) (by omega) w)
            rw [hS] at TS
            obtain ⟨oM, hM⟩ : ∃ o, op2Q mulQ (ratO a b) (ratO cx cy) = o := ⟨_, rfl⟩
            have TM := Lib.hid (fun w => tmul_any a b cx cy (by omega) (by omega) (by omega) (by omega) w)
            rw [hM] at TM
            obtain ⟨oD, hD⟩ : ∃ o, op2Q divQ (ratO a b) (ratO cx cy) = o := ⟨_, rfl⟩
            have TD := Lib.hid (fun w => tdiv_any a b cx cy (by omega) (by omega) (by omega) (by omega) w)
            rw [hD] at TD
            have CF := Lib.hid (fun w hL => four_any (x := a) (y := b) (u := cx) (v := cy) rfl rfl hA hS hM hD w hL)
            have CQ := Lib.hid (fun w hL => qcompare_any a b cx cy w hL)
            have CT := Lib.hid (fun w => tcompare_any a b cx cy (by omega) (by omega) (by omega) (by omega) w)
            generalize cmpO (ratO a b) (ratO cx cy) = cmp at *
            clear hA hS hM hD
            go_upto_region 17 with (first
                | (go_at_call 29; (with_reducible refine (CF.out _ (hL.below (below_up (below1 wr (.cells #[.string a, .string b] 23)) (below1 ((wr.alloc (.cells #[.string a, .string b] 23))) (.cells #[.string cx, .string cy] 23))))).mono ?_); rintro e w21 ⟨rfl, hb⟩; have hp := below_up (below_up (below1 wr (.cells #[.string a, .string b] 23)) (below1 ((wr.alloc (.cells #[.string a, .string b] 23))) (.cells #[.string cx, .string cy] 23))) hb; replace BS := BS.below hp; have Ba := ((Blk.new wr 23 [.string a, .string b]).alloc _).below hb; have Bb := (Blk.new2 wr (.cells #[.string a, .string b] 23) 23 [.string cx, .string cy]).below hb; clear ca cb cc ce; replace hL := hL.below hp; replace hB := below_up hB hp; clear hb hp; have lts := BS.lt; have lta := Ba.lt; have ltb := Bb.lt; have leW := hB.size; have ca_0 := (Ba.below (below_up (below_up (below_up (below1 w21 (.cells #[.string (numT oA), .string (denT oA), .string (numT oS), .string (denT oS), .string (numT oM), .string (denT oM), .string (numT oD), .string (denT oD)] 49)) (below1 ((w21.alloc (.cells #[.string (numT oA), .string (denT oA), .string (numT oS), .string (denT oS), .string (numT oM), .string (denT oM), .string (numT oD), .string (denT oD)] 49))) (.cells #[.int .i64 (errT oA), .int .i64 (errT oS), .int .i64 (errT oM), .int .i64 (errT oD)] 50))) (below1 (((w21.alloc (.cells #[.string (numT oA), .string (denT oA), .string (numT oS), .string (denT oS), .string (numT oM), .string (denT oM), .string (numT oD), .string (denT oD)] 49)).alloc (.cells #[.int .i64 (errT oA), .int .i64 (errT oS), .int .i64 (errT oM), .int .i64 (errT oD)] 50))) (.cells #[.string ⟨#[]⟩, .string ⟨#[]⟩, .string ⟨#[]⟩, .string ⟨#[]⟩, .string ⟨#[]⟩, .string ⟨#[]⟩, .string ⟨#[]⟩, .string ⟨#[]⟩] 49))) (below1 ((((w21.alloc (.cells #[.string (numT oA), .string (denT oA), .string (numT oS), .string (denT oS), .string (numT oM), .string (denT oM), .string (numT oD), .string (denT oD)] 49)).alloc (.cells #[.int .i64 (errT oA), .int .i64 (errT oS), .int .i64 (errT oM), .int .i64 (errT oD)] 50)).alloc (.cells #[.string ⟨#[]⟩, .string ⟨#[]⟩, .string ⟨#[]⟩, .string ⟨#[]⟩, .string ⟨#[]⟩, .string ⟨#[]⟩, .string ⟨#[]⟩, .string ⟨#[]⟩] 49))) (.cells #[.int .i64 0, .int .i64 0, .int .i64 0, .int .i64 0] 50)))).cell 0 (v := .string a) rfl; have ca_1 := (Ba.below (below_up (below_up (below_up (below1 w21 (.cells #[.string (numT oA), .string (denT oA), .string (numT oS), .string (denT oS), .string (numT oM), .string (denT oM), .string (numT oD), .string (denT oD)] 49)) (below1 ((w21.alloc (.cells #[.string (numT oA), .string (denT oA), .string (numT oS), .string (denT oS), .string (numT oM), .string (denT oM), .string (numT oD), .string (denT oD)] 49))) (.cells #[.int .i64 (errT oA), .int .i64 (errT oS), .int .i64 (errT oM), .int .i64 (errT oD)] 50))) (below1 (((w21.alloc (.cells #[.string (numT oA), .string (denT oA), .string (numT oS), .string (denT oS), .string (numT oM), .string (denT oM), .string (numT oD), .string (denT oD)] 49)).alloc (.cells #[.int .i64 (errT oA), .int .i64 (errT oS), .int .i64 (errT oM), .int .i64 (errT oD)] 50))) (.cells #[.string ⟨#[]⟩, .string ⟨#[]⟩, .string ⟨#[]⟩, .string ⟨#[]⟩, .string ⟨#[]⟩, .string ⟨#[]⟩, .string ⟨#[]⟩, .string ⟨#[]⟩] 49))) (below1 ((((w21.alloc (.cells #[.string (numT oA), .string (denT oA), .string (numT oS), .string (denT oS), .string (numT oM), .string (denT oM), .string (numT oD), .string (denT oD)] 49)).alloc (.cells #[.int .i64 (errT oA), .int .i64 (errT oS), .int .i64 (errT oM), .int .i64 (errT oD)] 50)).alloc (.cells #[.string ⟨#[]⟩, .string ⟨#[]⟩, .string ⟨#[]⟩, .string ⟨#[]⟩, .string ⟨#[]⟩, .string ⟨#[]⟩, .string ⟨#[]⟩, .string ⟨#[]⟩] 49))) (.cells #[.int .i64 0, .int .i64 0, .int .i64 0, .int .i64 0] 50)))).cell 1 (v := .string b) rfl; have cb_0 := (Bb.below (below_up (below_up (below_up (below1 w21 (.cells #[.string (numT oA), .string (denT oA), .string (numT oS), .string (denT oS), .string (numT oM), .string (denT oM), .string (numT oD), .string (denT oD)] 49)) (below1 ((w21.alloc (.cells #[.string (numT oA), .string (denT oA), .string (numT oS), .string (denT oS), .string (numT oM), .string (denT oM), .string (numT oD), .string (denT oD)] 49))) (.cells #[.int .i64 (errT oA), .int .i64 (errT oS), .int .i64 (errT oM), .int .i64 (errT oD)] 50))) (below1 (((w21.alloc (.cells #[.string (numT oA), .string (denT oA), .string (numT oS), .string (denT oS), .string (numT oM), .string (denT oM), .string (numT oD), .string (denT oD)] 49)).alloc (.cells #[.int .i64 (errT oA), .int .i64 (errT oS), .int .i64 (errT oM), .int .i64 (errT oD)] 50))) (.cells #[.string ⟨#[]⟩, .string ⟨#[]⟩, .string ⟨#[]⟩, .string ⟨#[]⟩, .string ⟨#[]⟩, .string ⟨#[]⟩, .string ⟨#[]⟩, .string ⟨#[]⟩] 49))) (below1 ((((w21.alloc (.cells #[.string (numT oA), .string (denT oA), .string (numT oS), .string (denT oS), .string (numT oM), .string (denT oM), .string (numT oD), .string (denT oD)] 49)).alloc (.cells #[.int .i64 (errT oA), .int .i64 (errT oS), .int .i64 (errT oM), .int .i64 (errT oD)] 50)).alloc (.cells #[.string ⟨#[]⟩, .string ⟨#[]⟩, .string ⟨#[]⟩, .string ⟨#[]⟩, .string ⟨#[]⟩, .string ⟨#[]⟩, .string ⟨#[]⟩, .string ⟨#[]⟩] 49))) (.cells #[.int .i64 0, .int .i64 0, .int .i64 0, .int .i64 0] 50)))).cell 0 (v := .string cx) rfl; have cb_1 := (Bb.below (below_up (below_up (below_up (below1 w21 (.cells #[.string (numT oA), .string (denT oA), .string (numT oS), .string (denT oS), .string (numT oM), .string (denT oM), .string (numT oD), .string (denT oD)] 49)) (below1 ((w21.alloc (.cells #[.string (numT oA), .string (denT oA), .string (numT oS), .string (denT oS), .string (numT oM), .string (denT oM), .string (numT oD), .string (denT oD)] 49))) (.cells #[.int .i64 (errT oA), .int .i64 (errT oS), .int .i64 (errT oM), .int .i64 (errT oD)] 50))) (below1 (((w21.alloc (.cells #[.string (numT oA), .string (denT oA), .string (numT oS), .string (denT oS), .string (numT oM), .string (denT oM), .string (numT oD), .string (denT oD)] 49)).alloc (.cells #[.int .i64 (errT oA), .int .i64 (errT oS), .int .i64 (errT oM), .int .i64 (errT oD)] 50))) (.cells #[.string ⟨#[]⟩, .string ⟨#[]⟩, .string ⟨#[]⟩, .string ⟨#[]⟩, .string ⟨#[]⟩, .string ⟨#[]⟩, .string ⟨#[]⟩, .string ⟨#[]⟩] 49))) (below1 ((((w21.alloc (.cells #[.string (numT oA), .string (denT oA), .string (numT oS), .string (denT oS), .string (numT oM), .string (denT oM), .string (numT oD), .string (denT oD)] 49)).alloc (.cells #[.int .i64 (errT oA), .int .i64 (errT oS), .int .i64 (errT oM), .int .i64 (errT oD)] 50)).alloc (.cells #[.string ⟨#[]⟩, .string ⟨#[]⟩, .string ⟨#[]⟩, .string ⟨#[]⟩, .string ⟨#[]⟩, .string ⟨#[]⟩, .string ⟨#[]⟩, .string ⟨#[]⟩] 49))) (.cells #[.int .i64 0, .int .i64 0, .int .i64 0, .int .i64 0] 50)))).cell 1 (v := .string cy) rfl)
                | (go_at_call 30; (with_reducible refine (TA.out _).mono ?_); rintro e w22 ⟨rfl, hb⟩; have hp := below_up (below_up (below_up (below_up (below1 w21 (.cells #[.string (numT oA), .string (denT oA), .string (numT oS), .string (denT oS), .string (numT oM), .string (denT oM), .string (numT oD), .string (denT oD)] 49)) (below1 ((w21.alloc (.cells #[.string (numT oA), .string (denT oA), .string (numT oS), .string (denT oS), .string (numT oM), .string (denT oM), .string (numT oD), .string (denT oD)] 49))) (.cells #[.int .i64 (errT oA), .int .i64 (errT oS), .int .i64 (errT oM), .int .i64 (errT oD)] 50))) (below1 (((w21.alloc (.cells #[.string (numT oA), .string (denT oA), .string (numT oS), .string (denT oS), .string (numT oM), .string (denT oM), .string (numT oD), .string (denT oD)] 49)).alloc (.cells #[.int .i64 (errT oA), .int .i64 (errT oS), .int .i64 (errT oM), .int .i64 (errT oD)] 50))) (.cells #[.string ⟨#[]⟩, .string ⟨#[]⟩, .string ⟨#[]⟩, .string ⟨#[]⟩, .string ⟨#[]⟩, .string ⟨#[]⟩, .string ⟨#[]⟩, .string ⟨#[]⟩] 49))) (below1 ((((w21.alloc (.cells #[.string (numT oA), .string (denT oA), .string (numT oS), .string (denT oS), .string (numT oM), .string (denT oM), .string (numT oD), .string (denT oD)] 49)).alloc (.cells #[.int .i64 (errT oA), .int .i64 (errT oS), .int .i64 (errT oM), .int .i64 (errT oD)] 50)).alloc (.cells #[.string ⟨#[]⟩, .string ⟨#[]⟩, .string ⟨#[]⟩, .string ⟨#[]⟩, .string ⟨#[]⟩, .string ⟨#[]⟩, .string ⟨#[]⟩, .string ⟨#[]⟩] 49))) (.cells #[.int .i64 0, .int .i64 0, .int .i64 0, .int .i64 0] 50))) hb; replace BS := BS.below hp; replace Ba := Ba.below hp; replace Bb := Bb.below hp; have Br := ((((Blk.new w21 49 [.string (numT oA), .string (denT oA), .string (numT oS), .string (denT oS), .string (numT oM), .string (denT oM), .string (numT oD), .string (denT oD)]).alloc _).alloc _).alloc _).below hb; have Be := (((Blk.new2 w21 (.cells #[.string (numT oA), .string (denT oA), .string (numT oS), .string (denT oS), .string (numT oM), .string (denT oM), .string (numT oD), .string (denT oD)] 49) 50 [.int .i64 (errT oA), .int .i64 (errT oS), .int .i64 (errT oM), .int .i64 (errT oD)]).alloc _).alloc _).below hb; have Bt := ((Blk.new3 w21 (.cells #[.string (numT oA), .string (denT oA), .string (numT oS), .string (denT oS), .string (numT oM), .string (denT oM), .string (numT oD), .string (denT oD)] 49) (.cells #[.int .i64 (errT oA), .int .i64 (errT oS), .int .i64 (errT oM), .int .i64 (errT oD)] 50) 49 [.string ⟨#[]⟩, .string ⟨#[]⟩, .string ⟨#[]⟩, .string ⟨#[]⟩, .string ⟨#[]⟩, .string ⟨#[]⟩, .string ⟨#[]⟩, .string ⟨#[]⟩]).alloc _).below hb; have Bf := (Blk.new4 w21 (.cells #[.string (numT oA), .string (denT oA), .string (numT oS), .string (denT oS), .string (numT oM), .string (denT oM), .string (numT oD), .string (denT oD)] 49) (.cells #[.int .i64 (errT oA), .int .i64 (errT oS), .int .i64 (errT oM), .int .i64 (errT oD)] 50) (.cells #[.string ⟨#[]⟩, .string ⟨#[]⟩, .string ⟨#[]⟩, .string ⟨#[]⟩, .string ⟨#[]⟩, .string ⟨#[]⟩, .string ⟨#[]⟩, .string ⟨#[]⟩] 49) 50 [.int .i64 0, .int .i64 0, .int .i64 0, .int .i64 0]).below hb; clear ca_0 ca_1 cb_0 cb_1; replace hL := hL.below hp; replace hB := below_up hB hp; clear hb hp; have u0 := Bt.cell 0 (v := .string ⟨#[]⟩) rfl; have v0 := Bt.frozen 0; have u1 := Bt.cell 1 (v := .string ⟨#[]⟩) rfl; have v1 := Bt.frozen 1; have u2 := Bf.cell 0 (v := .int .i64 0) rfl; have v2 := Bf.frozen 0))
            replace BS := (((BS.other (B := w21.heap.size + 1 + 1) (by omega) 0 (.string (numT oA))).other (B := w21.heap.size + 1 + 1) (by omega) 1 (.string (denT oA))).other (B := w21.heap.size + 1 + 1 + 1) (by omega) 0 (.int .i64 (errT oA)))
            replace Ba := (((Ba.other (B := w21.heap.size + 1 + 1) (by omega) 0 (.string (numT oA))).other (B := w21.heap.size + 1 + 1) (by omega) 1 (.string (denT oA))).other (B := w21.heap.size + 1 + 1 + 1) (by omega) 0 (.int .i64 (errT oA)))
            replace Bb := (((Bb.other (B := w21.heap.size + 1 + 1) (by omega) 0 (.string (numT oA))).other (B := w21.heap.size + 1 + 1) (by omega) 1 (.string (denT oA))).other (B := w21.heap.size + 1 + 1 + 1) (by omega) 0 (.int .i64 (errT oA)))
            replace Br := (((Br.other (B := w21.heap.size + 1 + 1) (by omega) 0 (.string (numT oA))).other (B := w21.heap.size + 1 + 1) (by omega) 1 (.string (denT oA))).other (B := w21.heap.size + 1 + 1 + 1) (by omega) 0 (.int .i64 (errT oA)))
            replace Be := (((Be.other (B := w21.heap.size + 1 + 1) (by omega) 0 (.string (numT oA))).other (B := w21.heap.size + 1 + 1) (by omega) 1 (.string (denT oA))).other (B := w21.heap.size + 1 + 1 + 1) (by omega) 0 (.int .i64 (errT oA)))
            replace Bt := (((Bt.set 0 (.string (numT oA))).set 1 (.string (denT oA))).other (B := w21.heap.size + 1 + 1 + 1) (by omega) 0 (.int .i64 (errT oA)))
            replace Bf := (((Bf.other (B := w21.heap.size + 1 + 1) (by omega) 0 (.string (numT oA))).other (B := w21.heap.size + 1 + 1) (by omega) 1 (.string (denT oA))).set 0 (.int .i64 (errT oA)))
            replace hB := (((hB.setCell (p := ⟨w21.heap.size + 1 + 1, 0, none⟩) (by dsimp; omega) (.string (numT oA))).setCell (p := ⟨w21.heap.size + 1 + 1, 1, none⟩) (by dsimp; omega) (.string (denT oA))).setCell (p := ⟨w21.heap.size + 1 + 1 + 1, 0, none⟩) (by dsimp; omega) (.int .i64 (errT oA)))
            generalize (((w22.setCell ⟨w21.heap.size + 1 + 1, 0, none⟩ (.string (numT oA))).setCell ⟨w21.heap.size + 1 + 1, 1, none⟩ (.string (denT oA))).setCell ⟨w21.heap.size + 1 + 1 + 1, 0, none⟩ (.int .i64 (errT oA))) = w23 at *
            clear hL u0 u1 u2 v0 v1 v2
            have hL := HL0.out.below hB
            have ca_0 := Ba.cell 0 (v := .string a) rfl
            have ca_1 := Ba.cell 1 (v := .string b) rfl
            have cb_0 := Bb.cell 0 (v := .string cx) rfl
            have cb_1 := Bb.cell 1 (v := .string cy) rfl
            go_upto_region 18 with (first
                | (go_at_call 31; (with_reducible refine (TS.out _).mono ?_); rintro e w24 ⟨rfl, hb⟩; have hp := hb; replace BS := BS.below hp; replace Ba := Ba.below hp; replace Bb := Bb.below hp; replace Br := Br.below hp; replace Be := Be.below hp; replace Bt := Bt.below hp; replace Bf := Bf.below hp; clear ca_0 ca_1 cb_0 cb_1; replace hL := hL.below hp; replace hB := below_up hB hp; clear hb hp; have u0 := Bt.cell 2 (v := .string ⟨#[]⟩) rfl; have v0 := Bt.frozen 2; have u1 := Bt.cell 3 (v := .string ⟨#[]⟩) rfl; have v1 := Bt.frozen 3; have u2 := Bf.cell 1 (v := .int .i64 0) rfl; have v2 := Bf.frozen 1))
            replace BS := (((BS.other (B := w21.heap.size + 1 + 1) (by omega) 2 (.string (numT oS))).other (B := w21.heap.size + 1 + 1) (by omega) 3 (.string (denT oS))).other (B := w21.heap.size + 1 + 1 + 1) (by omega) 1 (.int .i64 (errT oS)))
            replace Ba := (((Ba.other (B := w21.heap.size + 1 + 1) (by omega) 2 (.string (numT oS))).other (B := w21.heap.size + 1 + 1) (by omega) 3 (.string (denT oS))).other (B := w21.heap.size + 1 + 1 + 1) (by omega) 1 (.int .i64 (errT oS)))
            replace Bb := (((Bb.other (B := w21.heap.size + 1 + 1) (by omega) 2 (.string (numT oS))).other (B := w21.heap.size + 1 + 1) (by omega) 3 (.string (denT oS))).other (B := w21.heap.size + 1 + 1 + 1) (by omega) 1 (.int .i64 (errT oS)))
            replace Br := (((Br.other (B := w21.heap.size + 1 + 1) (by omega) 2 (.string (numT oS))).other (B := w21.heap.size + 1 + 1) (by omega) 3 (.string (denT oS))).other (B := w21.heap.size + 1 + 1 + 1) (by omega) 1 (.int .i64 (errT oS)))
            replace Be := (((Be.other (B := w21.heap.size + 1 + 1) (by omega) 2 (.string (numT oS))).other (B := w21.heap.size + 1 + 1) (by omega) 3 (.string (denT oS))).other (B := w21.heap.size + 1 + 1 + 1) (by omega) 1 (.int .i64 (errT oS)))
            replace Bt := (((Bt.set 2 (.string (numT oS))).set 3 (.string (denT oS))).other (B := w21.heap.size + 1 + 1 + 1) (by omega) 1 (.int .i64 (errT oS)))
            replace Bf := (((Bf.other (B := w21.heap.size + 1 + 1) (by omega) 2 (.string (numT oS))).other (B := w21.heap.size + 1 + 1) (by omega) 3 (.string (denT oS))).set 1 (.int .i64 (errT oS)))
            replace hB := (((hB.setCell (p := ⟨w21.heap.size + 1 + 1, 2, none⟩) (by dsimp; omega) (.string (numT oS))).setCell (p := ⟨w21.heap.size + 1 + 1, 3, none⟩) (by dsimp; omega) (.string (denT oS))).setCell (p := ⟨w21.heap.size + 1 + 1 + 1, 1, none⟩) (by dsimp; omega) (.int .i64 (errT oS)))
            generalize (((w24.setCell ⟨w21.heap.size + 1 + 1, 2, none⟩ (.string (numT oS))).setCell ⟨w21.heap.size + 1 + 1, 3, none⟩ (.string (denT oS))).setCell ⟨w21.heap.size + 1 + 1 + 1, 1, none⟩ (.int .i64 (errT oS))) = w25 at *
            clear hL u0 u1 u2 v0 v1 v2
            have hL := HL0.out.below hB
            have ca_0 := Ba.cell 0 (v := .string a) rfl
            have ca_1 := Ba.cell 1 (v := .string b) rfl
            have cb_0 := Bb.cell 0 (v := .string cx) rfl
            have cb_1 := Bb.cell 1 (v := .string cy) rfl
            go_upto_region 19 with (first
                | (go_at_call 32; (with_reducible refine (TM.out _).mono ?_); rintro e w26 ⟨rfl, hb⟩; have hp := hb; replace BS := BS.below hp; replace Ba := Ba.below hp; replace Bb := Bb.below hp; replace Br := Br.below hp; replace Be := Be.below hp; replace Bt := Bt.below hp; replace Bf := Bf.below hp; clear ca_0 ca_1 cb_0 cb_1; replace hL := hL.below hp; replace hB := below_up hB hp; clear hb hp; have u0 := Bt.cell 4 (v := .string ⟨#[]⟩) rfl; have v0 := Bt.frozen 4; have u1 := Bt.cell 5 (v := .string ⟨#[]⟩) rfl; have v1 := Bt.frozen 5; have u2 := Bf.cell 2 (v := .int .i64 0) rfl; have v2 := Bf.frozen 2))
            replace BS := (((BS.other (B := w21.heap.size + 1 + 1) (by omega) 4 (.string (numT oM))).other (B := w21.heap.size + 1 + 1) (by omega) 5 (.string (denT oM))).other (B := w21.heap.size + 1 + 1 + 1) (by omega) 2 (.int .i64 (errT oM)))
            replace Ba := (((Ba.other (B := w21.heap.size + 1 + 1) (by omega) 4 (.string (numT oM))).other (B := w21.heap.size + 1 + 1) (by omega) 5 (.string (denT oM))).other (B := w21.heap.size + 1 + 1 + 1) (by omega) 2 (.int .i64 (errT oM)))
            replace Bb := (((Bb.other (B := w21.heap.size + 1 + 1) (by omega) 4 (.string (numT oM))).other (B := w21.heap.size + 1 + 1) (by omega) 5 (.string (denT oM))).other (B := w21.heap.size + 1 + 1 + 1) (by omega) 2 (.int .i64 (errT oM)))
            replace Br := (((Br.other (B := w21.heap.size + 1 + 1) (by omega) 4 (.string (numT oM))).other (B := w21.heap.size + 1 + 1) (by omega) 5 (.string (denT oM))).other (B := w21.heap.size + 1 + 1 + 1) (by omega) 2 (.int .i64 (errT oM)))
            replace Be := (((Be.other (B := w21.heap.size + 1 + 1) (by omega) 4 (.string (numT oM))).other (B := w21.heap.size + 1 + 1) (by omega) 5 (.string (denT oM))).other (B := w21.heap.size + 1 + 1 + 1) (by omega) 2 (.int .i64 (errT oM)))
            replace Bt := (((Bt.set 4 (.string (numT oM))).set 5 (.string (denT oM))).other (B := w21.heap.size + 1 + 1 + 1) (by omega) 2 (.int .i64 (errT oM)))
            replace Bf := (((Bf.other (B := w21.heap.size + 1 + 1) (by omega) 4 (.string (numT oM))).other (B := w21.heap.size + 1 + 1) (by omega) 5 (.string (denT oM))).set 2 (.int .i64 (errT oM)))
            replace hB := (((hB.setCell (p := ⟨w21.heap.size + 1 + 1, 4, none⟩) (by dsimp; omega) (.string (numT oM))).setCell (p := ⟨w21.heap.size + 1 + 1, 5, none⟩) (by dsimp; omega) (.string (denT oM))).setCell (p := ⟨w21.heap.size + 1 + 1 + 1, 2, none⟩) (by dsimp; omega) (.int .i64 (errT oM)))
            generalize (((w26.setCell ⟨w21.heap.size + 1 + 1, 4, none⟩ (.string (numT oM))).setCell ⟨w21.heap.size + 1 + 1, 5, none⟩ (.string (denT oM))).setCell ⟨w21.heap.size + 1 + 1 + 1, 2, none⟩ (.int .i64 (errT oM))) = w27 at *
            clear hL u0 u1 u2 v0 v1 v2
            have hL := HL0.out.below hB
            have ca_0 := Ba.cell 0 (v := .string a) rfl
            have ca_1 := Ba.cell 1 (v := .string b) rfl
            have cb_0 := Bb.cell 0 (v := .string cx) rfl
            have cb_1 := Bb.cell 1 (v := .string cy) rfl
            go_upto_region 20 with (first
                | (go_at_call 33; (with_reducible refine (TD.out _).mono ?_); rintro e w28 ⟨rfl, hb⟩; have hp := hb; replace BS := BS.below hp; replace Ba := Ba.below hp; replace Bb := Bb.below hp; replace Br := Br.below hp; replace Be := Be.below hp; replace Bt := Bt.below hp; replace Bf := Bf.below hp; clear ca_0 ca_1 cb_0 cb_1; replace hL := hL.below hp; replace hB := below_up hB hp; clear hb hp; have u0 := Bt.cell 6 (v := .string ⟨#[]⟩) rfl; have v0 := Bt.frozen 6; have u1 := Bt.cell 7 (v := .string ⟨#[]⟩) rfl; have v1 := Bt.frozen 7; have u2 := Bf.cell 3 (v := .int .i64 0) rfl; have v2 := Bf.frozen 3))
            replace BS := (((BS.other (B := w21.heap.size + 1 + 1) (by omega) 6 (.string (numT oD))).other (B := w21.heap.size + 1 + 1) (by omega) 7 (.string (denT oD))).other (B := w21.heap.size + 1 + 1 + 1) (by omega) 3 (.int .i64 (errT oD)))
            replace Ba := (((Ba.other (B := w21.heap.size + 1 + 1) (by omega) 6 (.string (numT oD))).other (B := w21.heap.size + 1 + 1) (by omega) 7 (.string (denT oD))).other (B := w21.heap.size + 1 + 1 + 1) (by omega) 3 (.int .i64 (errT oD)))
            replace Bb := (((Bb.other (B := w21.heap.size + 1 + 1) (by omega) 6 (.string (numT oD))).other (B := w21.heap.size + 1 + 1) (by omega) 7 (.string (denT oD))).other (B := w21.heap.size + 1 + 1 + 1) (by omega) 3 (.int .i64 (errT oD)))
            replace Br := (((Br.other (B := w21.heap.size + 1 + 1) (by omega) 6 (.string (numT oD))).other (B := w21.heap.size + 1 + 1) (by omega) 7 (.string (denT oD))).other (B := w21.heap.size + 1 + 1 + 1) (by omega) 3 (.int .i64 (errT oD)))
            replace Be := (((Be.other (B := w21.heap.size + 1 + 1) (by omega) 6 (.string (numT oD))).other (B := w21.heap.size + 1 + 1) (by omega) 7 (.string (denT oD))).other (B := w21.heap.size + 1 + 1 + 1) (by omega) 3 (.int .i64 (errT oD)))
            replace Bt := (((Bt.set 6 (.string (numT oD))).set 7 (.string (denT oD))).other (B := w21.heap.size + 1 + 1 + 1) (by omega) 3 (.int .i64 (errT oD)))
            replace Bf := (((Bf.other (B := w21.heap.size + 1 + 1) (by omega) 6 (.string (numT oD))).other (B := w21.heap.size + 1 + 1) (by omega) 7 (.string (denT oD))).set 3 (.int .i64 (errT oD)))
            replace hB := (((hB.setCell (p := ⟨w21.heap.size + 1 + 1, 6, none⟩) (by dsimp; omega) (.string (numT oD))).setCell (p := ⟨w21.heap.size + 1 + 1, 7, none⟩) (by dsimp; omega) (.string (denT oD))).setCell (p := ⟨w21.heap.size + 1 + 1 + 1, 3, none⟩) (by dsimp; omega) (.int .i64 (errT oD)))
            generalize (((w28.setCell ⟨w21.heap.size + 1 + 1, 6, none⟩ (.string (numT oD))).setCell ⟨w21.heap.size + 1 + 1, 7, none⟩ (.string (denT oD))).setCell ⟨w21.heap.size + 1 + 1 + 1, 3, none⟩ (.int .i64 (errT oD))) = w29 at *
            clear hL u0 u1 u2 v0 v1 v2
            have hL := HL0.out.below hB
            have EQR := fun w => eq_ratios (numT oA) (denT oA) (numT oS) (denT oS) (numT oM) (denT oM) (numT oD) (denT oD) w
            have EQE := fun w => eq_errs (errT oA) (errT oS) (errT oM) (errT oD) w
            have hZ := (Below.refl w29.heap.size w29).drew
            replace BS := BS.below hZ
            replace Ba := Ba.below hZ
            replace Bb := Bb.below hZ
            replace Br := Br.below hZ
            replace Be := Be.below hZ
            replace Bt := Bt.below hZ
            replace Bf := Bf.below hZ
            have cr_0 := Br.cell 0 (v := .string (numT oA)) rfl
            have cr_1 := Br.cell 1 (v := .string (denT oA)) rfl
            have cr_2 := Br.cell 2 (v := .string (numT oS)) rfl
            have cr_3 := Br.cell 3 (v := .string (denT oS)) rfl
            have cr_4 := Br.cell 4 (v := .string (numT oM)) rfl
            have cr_5 := Br.cell 5 (v := .string (denT oM)) rfl
            have cr_6 := Br.cell 6 (v := .string (numT oD)) rfl
            have cr_7 := Br.cell 7 (v := .string (denT oD)) rfl
            have ct_0 := Bt.cell 0 (v := .string (numT oA)) rfl
            have ct_1 := Bt.cell 1 (v := .string (denT oA)) rfl
            have ct_2 := Bt.cell 2 (v := .string (numT oS)) rfl
            have ct_3 := Bt.cell 3 (v := .string (denT oS)) rfl
            have ct_4 := Bt.cell 4 (v := .string (numT oM)) rfl
            have ct_5 := Bt.cell 5 (v := .string (denT oM)) rfl
            have ct_6 := Bt.cell 6 (v := .string (numT oD)) rfl
            have ct_7 := Bt.cell 7 (v := .string (denT oD)) rfl
            have ce_0 := Be.cell 0 (v := .int .i64 (errT oA)) rfl
            have ce_1 := Be.cell 1 (v := .int .i64 (errT oS)) rfl
            have ce_2 := Be.cell 2 (v := .int .i64 (errT oM)) rfl
            have ce_3 := Be.cell 3 (v := .int .i64 (errT oD)) rfl
            have cf_0 := Bf.cell 0 (v := .int .i64 (errT oA)) rfl
            have cf_1 := Bf.cell 1 (v := .int .i64 (errT oS)) rfl
            have cf_2 := Bf.cell 2 (v := .int .i64 (errT oM)) rfl
            have cf_3 := Bf.cell 3 (v := .int .i64 (errT oD)) rfl
            have ca_0 := Ba.cell 0 (v := .string a) rfl
            have ca_1 := Ba.cell 1 (v := .string b) rfl
            have cb_0 := Bb.cell 0 (v := .string cx) rfl
            have cb_1 := Bb.cell 1 (v := .string cy) rfl
            go_region_held3 (fun w' => w'.cell? ⟨w21.heap.size, 0, none⟩ = some (.string (numT oA)) ∧ w'.cell? ⟨w21.heap.size, 1, none⟩ = some (.string (denT oA)) ∧ w'.cell? ⟨w21.heap.size, 2, none⟩ = some (.string (numT oS)) ∧ w'.cell? ⟨w21.heap.size, 3, none⟩ = some (.string (denT oS)) ∧ w'.cell? ⟨w21.heap.size, 4, none⟩ = some (.string (numT oM)) ∧ w'.cell? ⟨w21.heap.size, 5, none⟩ = some (.string (denT oM)) ∧ w'.cell? ⟨w21.heap.size, 6, none⟩ = some (.string (numT oD)) ∧ w'.cell? ⟨w21.heap.size, 7, none⟩ = some (.string (denT oD)) ∧ w'.cell? ⟨w21.heap.size + 1 + 1, 0, none⟩ = some (.string (numT oA)) ∧ w'.cell? ⟨w21.heap.size + 1 + 1, 1, none⟩ = some (.string (denT oA)) ∧ w'.cell? ⟨w21.heap.size + 1 + 1, 2, none⟩ = some (.string (numT oS)) ∧ w'.cell? ⟨w21.heap.size + 1 + 1, 3, none⟩ = some (.string (denT oS)) ∧ w'.cell? ⟨w21.heap.size + 1 + 1, 4, none⟩ = some (.string (numT oM)) ∧ w'.cell? ⟨w21.heap.size + 1 + 1, 5, none⟩ = some (.string (denT oM)) ∧ w'.cell? ⟨w21.heap.size + 1 + 1, 6, none⟩ = some (.string (numT oD)) ∧ w'.cell? ⟨w21.heap.size + 1 + 1, 7, none⟩ = some (.string (denT oD)) ∧ w'.cell? ⟨w21.heap.size + 1, 0, none⟩ = some (.int .i64 (errT oA)) ∧ w'.cell? ⟨w21.heap.size + 1, 1, none⟩ = some (.int .i64 (errT oS)) ∧ w'.cell? ⟨w21.heap.size + 1, 2, none⟩ = some (.int .i64 (errT oM)) ∧ w'.cell? ⟨w21.heap.size + 1, 3, none⟩ = some (.int .i64 (errT oD)) ∧ w'.cell? ⟨w21.heap.size + 1 + 1 + 1, 0, none⟩ = some (.int .i64 (errT oA)) ∧ w'.cell? ⟨w21.heap.size + 1 + 1 + 1, 1, none⟩ = some (.int .i64 (errT oS)) ∧ w'.cell? ⟨w21.heap.size + 1 + 1 + 1, 2, none⟩ = some (.int .i64 (errT oM)) ∧ w'.cell? ⟨w21.heap.size + 1 + 1 + 1, 3, none⟩ = some (.int .i64 (errT oD)) ∧ w'.cell? ⟨wr.heap.size, 0, none⟩ = some (.string a) ∧ w'.cell? ⟨wr.heap.size, 1, none⟩ = some (.string b) ∧ w'.cell? ⟨wr.heap.size + 1, 0, none⟩ = some (.string cx) ∧ w'.cell? ⟨wr.heap.size + 1, 1, none⟩ = some (.string cy)) (go_keep) (first
                | (go_at_call 23; (with_reducible refine (CQ.out _ (hL.below hZ)).mono ?_); rintro e wN ⟨rfl, hb⟩; have hZ := below_up hZ hb; have BS := BS.below hb; have Ba := Ba.below hb; have Bb := Bb.below hb; have Br := Br.below hb; have Be := Be.below hb; have Bt := Bt.below hb; have Bf := Bf.below hb; have cr_0 := Br.cell 0 (v := .string (numT oA)) rfl; have cr_1 := Br.cell 1 (v := .string (denT oA)) rfl; have cr_2 := Br.cell 2 (v := .string (numT oS)) rfl; have cr_3 := Br.cell 3 (v := .string (denT oS)) rfl; have cr_4 := Br.cell 4 (v := .string (numT oM)) rfl; have cr_5 := Br.cell 5 (v := .string (denT oM)) rfl; have cr_6 := Br.cell 6 (v := .string (numT oD)) rfl; have cr_7 := Br.cell 7 (v := .string (denT oD)) rfl; have ct_0 := Bt.cell 0 (v := .string (numT oA)) rfl; have ct_1 := Bt.cell 1 (v := .string (denT oA)) rfl; have ct_2 := Bt.cell 2 (v := .string (numT oS)) rfl; have ct_3 := Bt.cell 3 (v := .string (denT oS)) rfl; have ct_4 := Bt.cell 4 (v := .string (numT oM)) rfl; have ct_5 := Bt.cell 5 (v := .string (denT oM)) rfl; have ct_6 := Bt.cell 6 (v := .string (numT oD)) rfl; have ct_7 := Bt.cell 7 (v := .string (denT oD)) rfl; have ce_0 := Be.cell 0 (v := .int .i64 (errT oA)) rfl; have ce_1 := Be.cell 1 (v := .int .i64 (errT oS)) rfl; have ce_2 := Be.cell 2 (v := .int .i64 (errT oM)) rfl; have ce_3 := Be.cell 3 (v := .int .i64 (errT oD)) rfl; have cf_0 := Bf.cell 0 (v := .int .i64 (errT oA)) rfl; have cf_1 := Bf.cell 1 (v := .int .i64 (errT oS)) rfl; have cf_2 := Bf.cell 2 (v := .int .i64 (errT oM)) rfl; have cf_3 := Bf.cell 3 (v := .int .i64 (errT oD)) rfl; have ca_0 := Ba.cell 0 (v := .string a) rfl; have ca_1 := Ba.cell 1 (v := .string b) rfl; have cb_0 := Bb.cell 0 (v := .string cx) rfl; have cb_1 := Bb.cell 1 (v := .string cy) rfl)
                | (go_at_call 34; (with_reducible refine (CT.out _).mono ?_); rintro e wN ⟨rfl, hb⟩; have hZ := below_up hZ hb; have BS := BS.below hb; have Ba := Ba.below hb; have Bb := Bb.below hb; have Br := Br.below hb; have Be := Be.below hb; have Bt := Bt.below hb; have Bf := Bf.below hb; have cr_0 := Br.cell 0 (v := .string (numT oA)) rfl; have cr_1 := Br.cell 1 (v := .string (denT oA)) rfl; have cr_2 := Br.cell 2 (v := .string (numT oS)) rfl; have cr_3 := Br.cell 3 (v := .string (denT oS)) rfl; have cr_4 := Br.cell 4 (v := .string (numT oM)) rfl; have cr_5 := Br.cell 5 (v := .string (denT oM)) rfl; have cr_6 := Br.cell 6 (v := .string (numT oD)) rfl; have cr_7 := Br.cell 7 (v := .string (denT oD)) rfl; have ct_0 := Bt.cell 0 (v := .string (numT oA)) rfl; have ct_1 := Bt.cell 1 (v := .string (denT oA)) rfl; have ct_2 := Bt.cell 2 (v := .string (numT oS)) rfl; have ct_3 := Bt.cell 3 (v := .string (denT oS)) rfl; have ct_4 := Bt.cell 4 (v := .string (numT oM)) rfl; have ct_5 := Bt.cell 5 (v := .string (denT oM)) rfl; have ct_6 := Bt.cell 6 (v := .string (numT oD)) rfl; have ct_7 := Bt.cell 7 (v := .string (denT oD)) rfl; have ce_0 := Be.cell 0 (v := .int .i64 (errT oA)) rfl; have ce_1 := Be.cell 1 (v := .int .i64 (errT oS)) rfl; have ce_2 := Be.cell 2 (v := .int .i64 (errT oM)) rfl; have ce_3 := Be.cell 3 (v := .int .i64 (errT oD)) rfl; have cf_0 := Bf.cell 0 (v := .int .i64 (errT oA)) rfl; have cf_1 := Bf.cell 1 (v := .int .i64 (errT oS)) rfl; have cf_2 := Bf.cell 2 (v := .int .i64 (errT oM)) rfl; have cf_3 := Bf.cell 3 (v := .int .i64 (errT oD)) rfl; have ca_0 := Ba.cell 0 (v := .string a) rfl; have ca_1 := Ba.cell 1 (v := .string b) rfl; have cb_0 := Bb.cell 0 (v := .string cx) rfl; have cb_1 := Bb.cell 1 (v := .string cy) rfl))
            all_goals (replace hL := hL.below hZ; replace hB := below_up hB hZ; clear hZ)
            all_goals go_wp2
            all_goals go_roundg (5 - (k + 1))
            all_goals first | omega | exact ⟨k + 1, by go_num, by omega, by omega, hL, hB, BS⟩
          · obtain rfl : k = 5 := by omega
            clear hky hk hgk
            obtain ⟨wz, hwz⟩ : ∃ x, x = wr := ⟨_, rfl⟩
            subst hwz
            go_upto_region 22 with fail
            go_cut [137, 138, 139] (fun s137 s138 s139 wx => ∃ (gp : Nat) (p1 : Int), Slice2 wz gp 3 [.int .i64 places, .int .i64 p1] s137 s138 s139 wx)
            case first => as_aux_lemma =>
              go_wp2_with (go_at_call 18; (with_reducible refine (CPI.out _).mono ?_); rintro e v' ⟨p1, hp0, hp1, rfl, rfl⟩)
              go_meet
              exact ⟨_, p1, rfl, rfl, rfl, Blk.new _ _ _, below1 _ _⟩
            case rest => as_aux_lemma =>
              obtain ⟨wp, hwp⟩ : ∃ x, x = wc := ⟨_, rfl⟩
              subst hwp
              obtain ⟨gp, p1, rfl, rfl, rfl, BP, hp⟩ := hcut
              replace BS := BS.below hp
              replace hL := hL.below hp
              replace hB := below_up hB hp
              clear hp
              have HP : Hid (∀ j, j < 2 → ∃ p : Int, ([.int .i64 places, .int .i64 p1] : List Value)[j]? = some (Value.int .i64 p)) := Lib.hid (fun j hj => by
                obtain rfl | rfl : j = 0 ∨ j = 1 := by omega
                · exact ⟨_, rfl⟩
                · exact ⟨_, rfl⟩)
              generalize ([.int .i64 places, .int .i64 p1] : List Value) = ps at *
              go_wp2_with fail
              go_loopg [139] 2 (fun kz s139 wr => ∃ j : Nat, s139 = .int .i64 j ∧ j ≤ 2 ∧ 2 ≤ kz + j ∧ Laid wr ∧ Below w.heap.size w wr ∧ Blk wr gs 23 vs ∧ Blk wr gp 3 ps)
              case atStart => exact ⟨0, rfl, by omega, by omega, hL, hB, BS, BP⟩
              case round =>
                clear hL hB BS BP
                obtain ⟨j, rfl, hj, hkz, hL, hB, BS, BP⟩ := hrel
                by_cases hgj : j < 2
                · have hgji : (j : Int) < 2 := by omega
                  obtain ⟨p, hvp⟩ := HP.out j hgj
                  have ca := BS.cell _ hva
                  have cb := BS.cell _ hvb
                  have cd := BP.cell _ hvp
                  obtain ⟨oD, hD⟩ : ∃ o, (ratO a b).bind (roundQ false p) = o := ⟨_, rfl⟩
                  have QD := Lib.hid (fun w hL => down_r (x := a) (y := b) rfl hD w hL)
                  have TD := Lib.hid (fun w => tdown_any a b (by omega) (by omega) p w)
                  rw [hD] at TD
                  obtain ⟨oU, hU⟩ : ∃ o, (ratO a b).bind (roundQ true p) = o := ⟨_, rfl⟩
                  have QU := Lib.hid (fun w hL => up_r (x := a) (y := b) rfl hU w hL)
                  have TU := Lib.hid (fun w => tup_any a b (by omega) (by omega) p w)
                  rw [hU] at TU
                  clear hD hU
                  go_wp2_with (first
                      | (go_at_call 35; (with_reducible refine (QD.out _ hL).mono ?_); rintro e w41 ⟨rfl, hb⟩; have hp := hb; replace BS := BS.below hp; replace BP := BP.below hp; clear ca cb cd; replace hL := hL.below hp; replace hB := below_up hB hp; clear hb hp; have ca := (BS.below (below1 w41 (.cells #[.string (numT oD), .string (denT oD)] 23))).cell _ hva; have cb := (BS.below (below1 w41 (.cells #[.string (numT oD), .string (denT oD)] 23))).cell _ hvb)
                      | (go_at_call 36; (with_reducible refine (TD.out _).mono ?_); rintro e w42 ⟨rfl, hb⟩; have hp := below_up (below1 w41 (.cells #[.string (numT oD), .string (denT oD)] 23)) hb; replace BS := BS.below hp; replace BP := BP.below hp; have Bd := (Blk.new w41 23 [.string (numT oD), .string (denT oD)]).below hb; clear ca cb; replace hL := hL.below hp; replace hB := below_up hB hp; clear hb hp; have ca := (BS.below (below1 w42 (.cells #[.string (numT oD), .string (denT oD)] 23))).cell _ hva; have cb := (BS.below (below1 w42 (.cells #[.string (numT oD), .string (denT oD)] 23))).cell _ hvb)
                      | (go_at_call 37; (with_reducible refine (QU.out _ (hL.below (below1 w42 (.cells #[.string (numT oD), .string (denT oD)] 23)))).mono ?_); rintro e w43 ⟨rfl, hb⟩; have hp := below_up (below1 w42 (.cells #[.string (numT oD), .string (denT oD)] 23)) hb; replace BS := BS.below hp; replace BP := BP.below hp; replace Bd := Bd.below hp; have Be := (Blk.new w42 23 [.string (numT oD), .string (denT oD)]).below hb; clear ca cb; replace hL := hL.below hp; replace hB := below_up hB hp; clear hb hp; have ca := (BS.below (below1 w43 (.cells #[.string (numT oU), .string (denT oU)] 23))).cell _ hva; have cb := (BS.below (below1 w43 (.cells #[.string (numT oU), .string (denT oU)] 23))).cell _ hvb)
                      | (go_at_call 38; (with_reducible refine (TU.out _).mono ?_); rintro e w44 ⟨rfl, hb⟩; have hp := below_up (below1 w43 (.cells #[.string (numT oU), .string (denT oU)] 23)) hb; replace BS := BS.below hp; replace BP := BP.below hp; replace Bd := Bd.below hp; replace Be := Be.below hp; have Bu := (Blk.new w43 23 [.string (numT oU), .string (denT oU)]).below hb; clear ca cb; replace hL := hL.below hp; replace hB := below_up hB hp; clear hb hp; have cd_0 := (Bd.below (below1 w44 (.cells #[.string (numT oU), .string (denT oU)] 23))).cell 0 (v := .string (numT oD)) rfl; have cd_1 := (Bd.below (below1 w44 (.cells #[.string (numT oU), .string (denT oU)] 23))).cell 1 (v := .string (denT oD)) rfl; have ce_0 := (Be.below (below1 w44 (.cells #[.string (numT oU), .string (denT oU)] 23))).cell 0 (v := .string (numT oD)) rfl; have ce_1 := (Be.below (below1 w44 (.cells #[.string (numT oU), .string (denT oU)] 23))).cell 1 (v := .string (denT oD)) rfl; have cu_0 := (Bu.below (below1 w44 (.cells #[.string (numT oU), .string (denT oU)] 23))).cell 0 (v := .string (numT oU)) rfl; have cu_1 := (Bu.below (below1 w44 (.cells #[.string (numT oU), .string (denT oU)] 23))).cell 1 (v := .string (denT oU)) rfl))
                  all_goals go_roundg (2 - (j + 1))
                  all_goals first | omega | exact ⟨j + 1, by go_num, by omega, by omega, hL.below (below1 _ _), below_up hB (below1 _ _), BS.alloc _, BP.alloc _⟩
                · obtain rfl : j = 2 := by omega
                  clear HP BP CPI
                  obtain ⟨a0, b0, hza0, hzb0, hva0, hvb0⟩ := HV.out 0 (by omega)
                  have QM0 := fun w hL => qmake_any a b0 w hL
                  have TM0 := fun w => tmake_any a b0 (by omega) (by omega) w
                  generalize makeT a b0 = oM at *
                  have QM := Lib.hid QM0
                  have TM := Lib.hid TM0
                  clear QM0 TM0
                  have QV0 := fun w hL => qvalid_any a b w hL
                  have TV0 := fun w => tvalid_any a b (by omega) (by omega) w
                  generalize okR a b = okv at *
                  have QV := Lib.hid QV0
                  have TV := Lib.hid TV0
                  clear QV0 TV0
                  have hz0 : gs ≤ wr.heap.size := Nat.le_of_lt BS.lt
                  go_upto_region 32 with fail
                  go_cut [37, 38] (fun s37 s38 wx => ∃ g : Nat, BoxOut wr g 23 [.string (numT oM), .string (denT oM)] s37 wx ∧ s38 = .int .i64 (errT oM))
                  case first => as_aux_lemma =>
                    have qca := BS.cell _ hva
                    have qcb := BS.cell _ hvb0
                    have eS : wr.heap.size ≠ gs := by have := BS.lt; omega
                    have hZ : Below wr.heap.size wr wr.drew := (Below.refl _ _).drew
                    have hLd := hL.below hZ
                    replace BS := BS.below hZ
                    have ca := BS.cell _ hva
                    have cb := BS.cell _ hvb0
                    go_region_held3 (fun w' => w'.cell? ⟨gs, i * 2, none⟩ = some (.string a) ∧ w'.cell? ⟨gs, 1, none⟩ = some (.string b0)) (go_keep) (first
                        | (go_at_call 22; (refine (QM.out _ (by first | exact hLd | exact hLd.below (below1 _ _))).mono ?_); rintro e wN ⟨rfl, hb⟩; (try (replace BN := BN.below hb)); (try first | (have BN := Blk.below ((Blk.new wr 23 [.string ⟨#[]⟩, .string ⟨#[]⟩]).below (Below.refl _ _).drew) hb; have hg : wr.heap.size ≤ wr.heap.size := (by simp)) | (have BN := Blk.below (Blk.new _ 23 [.string ⟨#[]⟩, .string ⟨#[]⟩]) hb; have hg := hZ.size; have dS := Nat.ne_of_gt BS.lt)); have hZ := (by first | exact below_up hZ hb | exact below_up (below_up hZ (below1 _ _)) hb : Below wr.heap.size wr wN); have hLd := (by first | exact hLd.below hb | exact (hLd.below (below1 _ _)).below hb : Laid wN); have BS := (by first | exact BS.below hb | exact (BS.alloc _).below hb : Blk wN gs 23 vs); have ca := BS.cell _ hva; have cb := BS.cell _ hvb0; (try (have n0 := BN.cell 0 (v := .string ⟨#[]⟩) rfl; have m0 := BN.frozen 0; have n1 := BN.cell 1 (v := .string ⟨#[]⟩) rfl; have m1 := BN.frozen 1))))
                    all_goals go_wp2_with fail
                    all_goals go_meet
                    all_goals first
                        | exact ⟨_, ⟨rfl, ((BN.set 0 (.string (numT oM))).set 1 (.string (denT oM))), ((hZ.setCell hg (.string (numT oM))).setCell hg (.string (denT oM)))⟩, rfl⟩
                        | exact ⟨_, ⟨rfl, Blk.new _ 23 [.string (numT oM), .string (denT oM)], below_up hZ (below1 _ _)⟩, rfl⟩
                  case rest => as_aux_lemma =>
                    obtain ⟨w61, hnw⟩ : ∃ x, x = wc := ⟨_, rfl⟩
                    subst hnw
                    obtain ⟨gm, ⟨rfl, Bm, hp⟩, rfl⟩ := hcut
                    have hq := hp
                    replace BS := BS.below hq
                    replace hL := hL.below hq; replace hB := below_up hB hq; clear hp hq
                    go_upto_region 33 with fail
                    go_cut [39, 40] (fun s39 s40 wx => ∃ g : Nat, BoxOut w61 g 23 [.string (numT oM), .string (denT oM)] s39 wx ∧ s40 = .int .i64 (errT oM))
                    case first => as_aux_lemma =>
                      have qca := BS.cell _ hva
                      have qcb := BS.cell _ hvb0
                      have eS : w61.heap.size ≠ gs := by have := BS.lt; omega
                      have hZ : Below w61.heap.size w61 w61.drew := (Below.refl _ _).drew
                      have hLd := hL.below hZ
                      replace BS := BS.below hZ
                      replace Bm := Bm.below hZ
                      have ca := BS.cell _ hva
                      have cb := BS.cell _ hvb0
                      go_region_held3 (fun w' => w'.cell? ⟨gs, i * 2, none⟩ = some (.string a) ∧ w'.cell? ⟨gs, 1, none⟩ = some (.string b0)) (go_keep) (first
                          | (go_at_call 39; (refine (TM.out _).mono ?_); rintro e wN ⟨rfl, hb⟩; (try (replace BN := BN.below hb)); (try first | (have BN := Blk.below ((Blk.new w61 23 [.string ⟨#[]⟩, .string ⟨#[]⟩]).below (Below.refl _ _).drew) hb; have hg : w61.heap.size ≤ w61.heap.size := (by simp)) | (have BN := Blk.below (Blk.new _ 23 [.string ⟨#[]⟩, .string ⟨#[]⟩]) hb; have hg := hZ.size; have dS := Nat.ne_of_gt BS.lt)); have hZ := (by first | exact below_up hZ hb | exact below_up (below_up hZ (below1 _ _)) hb : Below w61.heap.size w61 wN); have hLd := (by first | exact hLd.below hb | exact (hLd.below (below1 _ _)).below hb : Laid wN); have BS := (by first | exact BS.below hb | exact (BS.alloc _).below hb : Blk wN gs 23 vs); have ca := BS.cell _ hva; have cb := BS.cell _ hvb0; (try (have n0 := BN.cell 0 (v := .string ⟨#[]⟩) rfl; have m0 := BN.frozen 0; have n1 := BN.cell 1 (v := .string ⟨#[]⟩) rfl; have m1 := BN.frozen 1))))
                      all_goals go_wp2_with fail
                      all_goals go_meet
                      all_goals first
                          | exact ⟨_, ⟨rfl, ((BN.set 0 (.string (numT oM))).set 1 (.string (denT oM))), ((hZ.setCell hg (.string (numT oM))).setCell hg (.string (denT oM)))⟩, rfl⟩
                          | exact ⟨_, ⟨rfl, Blk.new _ 23 [.string (numT oM), .string (denT oM)], below_up hZ (below1 _ _)⟩, rfl⟩
                    case rest => as_aux_lemma =>
                      obtain ⟨w62, hnw⟩ : ∃ x, x = wc := ⟨_, rfl⟩
                      subst hnw
                      obtain ⟨gn, ⟨rfl, Bn, hp⟩, rfl⟩ := hcut
                      have hq := hp
                      replace BS := BS.below hq
                      replace Bm := Bm.below hq
                      replace hL := hL.below hq; replace hB := below_up hB hq; clear hp hq
                      go_upto_region 34 with fail
                      have hZ := (Below.refl w62.heap.size w62).drew
                      replace BS := BS.below hZ
                      replace Bm := Bm.below hZ
                      replace Bn := Bn.below hZ
                      have cm_0 := Bm.cell 0 (v := .string (numT oM)) rfl
                      have cm_1 := Bm.cell 1 (v := .string (denT oM)) rfl
                      have cn_0 := Bn.cell 0 (v := .string (numT oM)) rfl
                      have cn_1 := Bn.cell 1 (v := .string (denT oM)) rfl
                      have ca := BS.cell _ hva
                      have cb := BS.cell _ hvb
                      go_region_held3 (fun w' => w'.cell? ⟨gs, i * 2, none⟩ = some (.string a) ∧ w'.cell? ⟨gs, i * 2 + 1, none⟩ = some (.string b) ∧ w'.cell? ⟨gm, 0, none⟩ = some (.string (numT oM)) ∧ w'.cell? ⟨gm, 1, none⟩ = some (.string (denT oM)) ∧ w'.cell? ⟨gn, 0, none⟩ = some (.string (numT oM)) ∧ w'.cell? ⟨gn, 1, none⟩ = some (.string (denT oM))) (go_keep) (first
                          | (go_at_call 17; (with_reducible refine (QV.out _ (hL.below hZ)).mono ?_); rintro e wN ⟨rfl, hb⟩; have hZ := below_up hZ hb; have BS := BS.below hb; have Bm := Bm.below hb; have Bn := Bn.below hb; have cm_0 := Bm.cell 0 (v := .string (numT oM)) rfl; have cm_1 := Bm.cell 1 (v := .string (denT oM)) rfl; have cn_0 := Bn.cell 0 (v := .string (numT oM)) rfl; have cn_1 := Bn.cell 1 (v := .string (denT oM)) rfl; have ca := BS.cell _ hva; have cb := BS.cell _ hvb)
                          | (go_at_call 40; (with_reducible refine (TV.out _).mono ?_); rintro e wN ⟨rfl, hb⟩; have hZ := below_up hZ hb; have BS := BS.below hb; have Bm := Bm.below hb; have Bn := Bn.below hb; have cm_0 := Bm.cell 0 (v := .string (numT oM)) rfl; have cm_1 := Bm.cell 1 (v := .string (denT oM)) rfl; have cn_0 := Bn.cell 0 (v := .string (numT oM)) rfl; have cn_1 := Bn.cell 1 (v := .string (denT oM)) rfl; have ca := BS.cell _ hva; have cb := BS.cell _ hvb))
                      all_goals (replace hL := hL.below hZ; replace hB := below_up hB hZ; clear hZ)
                      all_goals go_wp2
                      all_goals go_roundg (5 - (i + 1))
                      all_goals first | omega | exact ⟨i + 1, by go_num, by omega, by omega, hL, hB, BS⟩
      · obtain rfl : i = 5 := by omega
        generalize makeQ n d = oq at *
        go_wp2_with (first
            | (go_at_call 41; (with_reducible refine (COQ.out _ hL).mono ?_); rintro e w81 ⟨rfl, hb⟩; have hp := hb; replace hL := hL.below hp; replace hB := below_up hB hp; clear hb hp)
            | (go_at_call 42; (with_reducible refine (COT.out _).mono ?_); rintro e w82 ⟨rfl, hb⟩; have hp := below_up (below1 w81 (.cells #[.string (numT oq), .string (denT oq)] 23)) hb; have Bq := (Blk.new w81 23 [.string (numT oq), .string (denT oq)]).below hb; replace hL := hL.below hp; replace hB := below_up hB hp; clear hb hp; have cq_0 := (Bq.below (below1 w82 (.cells #[.string (numT oq), .string (denT oq)] 23))).cell 0 (v := .string (numT oq)) rfl; have cq_1 := (Bq.below (below1 w82 (.cells #[.string (numT oq), .string (denT oq)] 23))).cell 1 (v := .string (denT oq)) rfl))
        go_ret
        exact ⟨rfl, below_up hB (below1 _ _)⟩

end Go.Proofs.YtnioinccflmdjaaGreatDoor
