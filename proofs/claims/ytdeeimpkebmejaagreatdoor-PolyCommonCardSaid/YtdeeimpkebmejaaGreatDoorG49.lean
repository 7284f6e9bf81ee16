/- The walk of PolyCommon. Conditions: the tables of strconv. -/
import Derived.Test.YtdeeimpkebmejaaGreatDoorM19
import Derived.Test.YtdeeimpkebmejaaGreatDoorM22
import Derived.Test.YtdeeimpkebmejaaGreatDoorM9
namespace Go.Proofs.YtdeeimpkebmejaaGreatDoor
open Go.RowKit Num
open Go.Shelf

theorem one_lit (w : World) : Calls Tryz.prog 11 #[.slice (some ⟨w.heap.size, 0, none⟩) 1 1] (w.alloc (.cells #[.int .i64 1] 3)) (fun e w' => ∃ v, e = .returned v ∧ Pv w' v [1] ∧ Below w.heap.size w w') := by
  have h := ints_lit [1] (by decide) (by decide) w
  rw [show ratsL [1] = [1] by decide +kernel] at h
  exact h
set_option maxHeartbeats 8000000 in
set_option maxRecDepth 100000 in
theorem common_any {x y : Value} {A : Option Addr} {n k : Nat} (w : World) (hx : Rx w x) (hy : Rx w y) (hz : Rx w (.slice A n k)) (hnk : n ≤ k ∧ k ≤ 9223372036854775807) (hL : Laid w) :
    Calls Tryz.prog 3 #[x, y, .slice A n k] w (RetB w true) := by
  have m1 : min (n : Int) 3 ≤ n := by omega
  have m0 : 0 ≤ min (n : Int) 3 := by omega
  have m2 : min (n : Int) 3 ≤ k := by omega
  have CX : Hid (∀ w', Below w.heap.size w w' → Laid w' → Calls Tryz.prog 5 #[x] w' (fun e w2 => ∃ l, In l ∧ RetL7 w' l e w2)) := Lib.hid (fun w' hb hL => make_any w' (hx.below hb) hL)
  have CY : Hid (∀ w', Below w.heap.size w w' → Laid w' → Calls Tryz.prog 5 #[y] w' (fun e w2 => ∃ l, In l ∧ RetL7 w' l e w2)) := Lib.hid (fun w' hb hL => make_any w' (hy.below hb) hL)
  have CZ : Hid (∀ w', Below w.heap.size w w' → Laid w' → Calls Tryz.prog 5 #[.slice A (min (n : Int) 3).toNat k] w' (fun e w2 => ∃ l, (In l ∧ l.length ≤ 3) ∧ RetL7 w' l e w2)) := Lib.hid (fun w' hb hL => (make_len w' ((hz.take (min (n : Int) 3).toNat k (by omega)).below hb) hL).mono (fun e w2 ⟨l, h, r⟩ => ⟨l, ⟨h.1, by have := h.2; omega⟩, r⟩))
  have CO1 : Hid (∀ w : World, Calls Tryz.prog 8 #[.int .i64 1, .int .i64 1] w (RetR w 1)) := Lib.hid (fun w => of_any 1 1 (by decide) (by decide) (by decide) (by decide) (by decide) w)
  have CI : Hid (∀ w : World, Calls Tryz.prog 11 #[.slice (some ⟨w.heap.size, 0, none⟩) 1 1] (w.alloc (.cells #[.int .i64 1] 3)) (fun e w' => ∃ v, e = .returned v ∧ Pv w' v [1] ∧ Below w.heap.size w w')) := Lib.hid (fun w => one_lit w)
  have CS := Lib.hid (fun (w : World) (hL : Laid w) => sane_any w hL)
  have hB : Below w.heap.size w w := Below.refl _ _
  have hmixed : Tryz.prog.follows .mixedOrders = true := by kernel_rfl
  clear hnk
  go_enter Tryz.func3, Tryz.ntmps3
  go_upto_region 9 with (first
      | (go_at_call 4; (with_reducible refine (CS.out _ hL).mono ?_); rintro e w1 ⟨rfl, hb⟩; have hp := hb; replace hL := hL.below hp; replace hB := below_up hB hp; clear hb hp)
      | (go_at_call 5; (with_reducible refine (CZ.out _ hB hL).mono ?_); rintro e w2 ⟨c, ⟨ic, lc⟩, vc, rfl, hn, hb⟩; have hp := hb; replace hL := hL.below hp; replace hB := below_up hB hp; clear hb hp; have hc1 := hn; clear hn)
      | (go_at_call 5; (with_reducible refine (CX.out _ hB hL).mono ?_); rintro e w3 ⟨x, ix, vx, rfl, hn, hb⟩; have hp := hb; replace hL := hL.below hp; replace hB := below_up hB hp; replace hc1 := Pv.below hc1 hp; clear hb hp; have hx1 := hn; clear hn; obtain ⟨p, h0, C1⟩ := mul_con ix ic)
      | (go_at_call 6; (with_reducible refine (C1.out _ _ _ hx1 hc1 hL).mono ?_); rintro e w4 ⟨vp, rfl, hn, hb⟩; have hp := hb; replace hL := hL.below hp; replace hB := below_up hB hp; replace hc1 := Pv.below hc1 hp; replace hx1 := Pv.below hx1 hp; clear hb hp; have hp1 := hn; clear hn)
      | (go_at_call 5; (with_reducible refine (CY.out _ hB hL).mono ?_); rintro e w5 ⟨y, iy, vy, rfl, hn, hb⟩; have hp := hb; replace hL := hL.below hp; replace hB := below_up hB hp; replace hc1 := Pv.below hc1 hp; replace hx1 := Pv.below hx1 hp; replace hp1 := Pv.below hp1 hp; clear hb hp; have hy1 := hn; clear hn; obtain ⟨q, g, C2, C3, HH⟩ := common_con ix iy ic lc h0)
      | (go_at_call 6; (with_reducible refine (C2.out _ _ _ hy1 hc1 hL).mono ?_); rintro e w6 ⟨vq, rfl, hn, hb⟩; have hp := hb; replace hL := hL.below hp; replace hB := below_up hB hp; replace hc1 := Pv.below hc1 hp; replace hx1 := Pv.below hx1 hp; replace hp1 := Pv.below hp1 hp; replace hy1 := Pv.below hy1 hp; clear hb hp; have hq1 := hn; clear hn)
      | (go_at_call 7; (with_reducible refine (C3.out _ _ _ hp1 hq1 hL).mono ?_); rintro e w7 ⟨vg, rfl, hn, hb⟩; have hp := hb; replace hL := hL.below hp; replace hB := below_up hB hp; replace hc1 := Pv.below hc1 hp; replace hx1 := Pv.below hx1 hp; replace hp1 := Pv.below hp1 hp; replace hy1 := Pv.below hy1 hp; replace hq1 := Pv.below hq1 hp; clear hb hp; have hg1 := hn; clear hn))
  clear CX CY CZ CS C1 C2 C3 h0 ix iy ic lc hx hy hz m0 m1 m2
  obtain ⟨Ap, kp, ep, -, -, -⟩ := id hp1
  subst ep
  obtain ⟨Aq, kq, eq, -, -, -⟩ := id hq1
  subst eq
  obtain ⟨Ag, kg, eg, -, -, hcell⟩ := id hg1
  subst eg
  rcases HH with ⟨rfl, rfl, rfl⟩ | ⟨hpq, hg0, hg2, a, b, h, C4, C5, C6, C7⟩
  · go_wp2_with fail
    go_ret
    exact ⟨rfl, hB⟩
  · have gl := List.length_pos_iff.2 hg0
    have hg3 : ((g.length : Int) == 0) = false := beq_eq_false_iff_ne.2 (by omega)
    have hq3 : p = [] → ((q.length : Int) == 0) = false := fun e => beq_eq_false_iff_ne.2 (by have := List.length_pos_iff.2 (hpq.resolve_left (fun k => k e)); omega)
    have key : ((p.length : Int) == 0) = false ∨ (((p.length : Int) == 0) = true ∧ ((q.length : Int) == 0) = false) := by
      by_cases e : p = []
      · exact Or.inr ⟨by rw [e]; rfl, hq3 e⟩
      · exact Or.inl (beq_eq_false_iff_ne.2 (by have := List.length_pos_iff.2 e; omega))
    clear hpq hq3 hg0
    obtain ⟨bg, og, rfl, hy⟩ := hcell gl
    have k01 := hy (g.length - 1) (by omega)
    rw [hg2] at k01
    obtain ⟨k0, k1⟩ := k01
    clear hy hcell
    have hbg : bg < w7.heap.size := cell_lt k0
    generalize hlen : g.length = n at *
    obtain ⟨j, rfl⟩ : ∃ j, n = j + 1 := ⟨n - 1, by omega⟩
    have hj : j + 1 ≤ 1000 := by have := hg1.small; omega
    rw [show j + 1 - 1 = j from rfl] at k0 k1
    have hw : IntKind.i64.wrap ((j : Int) + 1 - 1) = j := by rw [IntWalk.i64_in _ (by omega)]; omega
    have hw2 : IntKind.i64.wrap (j : Int) = j := IntWalk.i64_in _ (by omega)
    have hlt : (j : Int) < (j : Int) + 1 := by omega
    rcases key with hk | ⟨hk, hk2⟩
    all_goals go_upto_region 11 with fail
    all_goals
      have hZ : Below w7.heap.size w7 w7.drew := (Below.refl _ _).drew
      replace k0 := (hZ.cell (cell_lt k0)).trans k0
      replace k1 := (hZ.cell (cell_lt k1)).trans k1
      go_region_held3 (fun w' => w'.cell? ⟨bg, og + j * 2, none⟩ = some (.string (numT (some 1))) ∧ w'.cell? ⟨bg, og + j * 2 + 1, none⟩ = some (.string (denT (some 1)))) (go_keep) (first
        | (go_at_call 8; (with_reducible refine (CO1.out _).mono ?_); rintro e wN ⟨rfl, hb⟩; have hZ := below_up hZ hb; have k0 := (hb.cell (cell_lt k0)).trans k0; have k1 := (hb.cell (cell_lt k1)).trans k1))
      all_goals (replace hL := hL.below hZ; replace hB := below_up hB hZ; replace hc1 := Pv.below hc1 hZ; replace hx1 := Pv.below hx1 hZ; replace hp1 := Pv.below hp1 hZ; replace hy1 := Pv.below hy1 hZ; replace hq1 := Pv.below hq1 hZ; replace hg1 := Pv.below hg1 hZ; clear hZ k0 k1)
      all_goals go_wp2_with (first
          | (go_at_call 9; (with_reducible refine (C4.out _ _ _ hp1 hg1 hL).mono ?_); rintro e w51 ⟨va, vr, rfl, hn, hn2, hb⟩; have hp := hb; replace hL := hL.below hp; replace hB := below_up hB hp; replace hc1 := Pv.below hc1 hp; replace hx1 := Pv.below hx1 hp; replace hp1 := Pv.below hp1 hp; replace hy1 := Pv.below hy1 hp; replace hq1 := Pv.below hq1 hp; replace hg1 := Pv.below hg1 hp; clear hb hp; have ha1 := hn; clear hn; obtain ⟨Ar, kr, er, -, -, -⟩ := hn2; subst er)
          | (go_at_call 9; (with_reducible refine (C5.out _ _ _ hq1 hg1 hL).mono ?_); rintro e w52 ⟨vb, vs, rfl, hn, hn2, hb⟩; have hp := hb; replace hL := hL.below hp; replace hB := below_up hB hp; replace hc1 := Pv.below hc1 hp; replace hx1 := Pv.below hx1 hp; replace hp1 := Pv.below hp1 hp; replace hy1 := Pv.below hy1 hp; replace hq1 := Pv.below hq1 hp; replace hg1 := Pv.below hg1 hp; replace ha1 := Pv.below ha1 hp; clear hb hp; have hb1 := hn; clear hn; obtain ⟨As, ks, es, -, -, -⟩ := hn2; subst es)
          | (go_at_call 9; (with_reducible refine (C6.out _ _ _ hg1 hc1 hL).mono ?_); rintro e w53 ⟨vh, vt, rfl, hn, hn2, hb⟩; have hp := hb; replace hL := hL.below hp; replace hB := below_up hB hp; replace hc1 := Pv.below hc1 hp; replace hx1 := Pv.below hx1 hp; replace hp1 := Pv.below hp1 hp; replace hy1 := Pv.below hy1 hp; replace hq1 := Pv.below hq1 hp; replace hg1 := Pv.below hg1 hp; replace ha1 := Pv.below ha1 hp; replace hb1 := Pv.below hb1 hp; clear hb hp; have hh1 := hn; clear hn; obtain ⟨At, kt, et, -, -, -⟩ := hn2; subst et)
          | (go_at_call 7; (with_reducible refine (C7.out _ _ _ ha1 hb1 hL).mono ?_); rintro e w54 ⟨vo, rfl, hn, hb⟩; have hp := hb; replace hL := hL.below hp; replace hB := below_up hB hp; replace hc1 := Pv.below hc1 hp; replace hx1 := Pv.below hx1 hp; replace hp1 := Pv.below hp1 hp; replace hy1 := Pv.below hy1 hp; replace hq1 := Pv.below hq1 hp; replace hg1 := Pv.below hg1 hp; replace ha1 := Pv.below ha1 hp; replace hb1 := Pv.below hb1 hp; replace hh1 := Pv.below hh1 hp; clear hb hp; have ho1 := hn; clear hn)
          | (go_at_call 11; (with_reducible refine (CI.out _).mono ?_); rintro e w55 ⟨vi, rfl, hn, hb⟩; have hp := hb; replace hL := hL.below hp; replace hB := below_up hB hp; replace hc1 := Pv.below hc1 hp; replace hx1 := Pv.below hx1 hp; replace hp1 := Pv.below hp1 hp; replace hy1 := Pv.below hy1 hp; replace hq1 := Pv.below hq1 hp; replace hg1 := Pv.below hg1 hp; replace ha1 := Pv.below ha1 hp; replace hb1 := Pv.below hb1 hp; replace hh1 := Pv.below hh1 hp; replace ho1 := Pv.below ho1 hp; clear hb hp; have hi1 := hn; clear hn)
          | (go_at_call 10; (with_reducible refine (lsame_any _ ho1 hi1).mono ?_); rintro e w56 ⟨rfl, hb⟩; have hp := hb; replace hL := hL.below hp; replace hB := below_up hB hp; replace hc1 := Pv.below hc1 hp; replace hx1 := Pv.below hx1 hp; replace hp1 := Pv.below hp1 hp; replace hy1 := Pv.below hy1 hp; replace hq1 := Pv.below hq1 hp; replace hg1 := Pv.below hg1 hp; replace ha1 := Pv.below ha1 hp; replace hb1 := Pv.below hb1 hp; replace hh1 := Pv.below hh1 hp; replace ho1 := Pv.below ho1 hp; replace hi1 := Pv.below hi1 hp; clear hb hp))
      all_goals go_ret
      all_goals exact ⟨rfl, hB⟩

end Go.Proofs.YtdeeimpkebmejaaGreatDoor
