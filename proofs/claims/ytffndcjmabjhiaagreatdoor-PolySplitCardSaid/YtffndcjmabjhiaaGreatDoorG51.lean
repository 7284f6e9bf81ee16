/- The walk of PolySplit. Conditions: the tables of strconv. -/
import Derived.Test.YtffndcjmabjhiaaGreatDoorM19
import Derived.Test.YtffndcjmabjhiaaGreatDoorG50
namespace Go.Proofs.YtffndcjmabjhiaaGreatDoor
open Go.RowKit Num
open Go.Shelf

theorem cmp_lez {a b : Rat} (h : a ≤ b) : cmpO (some a) (some b) = -1 ∨ cmpO (some a) (some b) = 0 := by
  rw [cmpO_some]
  by_cases c : a < b
  · exact .inl (if_pos c)
  · exact .inr (by rw [if_neg c, if_neg (by grind)])
set_option maxHeartbeats 8000000 in
set_option maxRecDepth 100000 in
theorem split_any {x : Value} {lo mi wd pc mo : Int} (w : World) (hx : Rx w x) (h1 : -9223372036854775808 ≤ lo ∧ lo ≤ 9223372036854775807) (h2 : -9223372036854775808 ≤ mi ∧ mi ≤ 9223372036854775807) (h3 : -9223372036854775808 ≤ wd ∧ wd ≤ 9223372036854775807) (h4 : -9223372036854775808 ≤ pc ∧ pc ≤ 9223372036854775807) (h5 : -9223372036854775808 ≤ mo ∧ mo ≤ 9223372036854775807) (hL : Laid w) :
    Calls Tryz.prog 5 #[x, .int .i64 lo, .int .i64 mi, .int .i64 wd, .int .i64 pc, .int .i64 mo] w (RetB w true) := by
  obtain ⟨z1, b1, b2, C1⟩ := lpick_det lo 41 h1 (by decide) (by decide)
  obtain ⟨z2, b3, b4, C2⟩ := lpick_det mi 20 h2 (by decide) (by decide)
  obtain ⟨z3, b5, b6, C3⟩ := lpick_det wd 20 h3 (by decide) (by decide)
  obtain ⟨z4, b7, b8, C4⟩ := lpick_det pc 4 h4 (by decide) (by decide)
  obtain ⟨z5, b9, b10, C5⟩ := lpick_det mo 3 h5 (by decide) (by decide)
  obtain ⟨k4, rfl⟩ := Int.eq_ofNat_of_zero_le b7
  obtain ⟨k5, rfl⟩ := Int.eq_ofNat_of_zero_le b9
  obtain ⟨qa, ha, CA⟩ := of3_any (z1 - 20) (by omega) (by omega)
  obtain ⟨qm, hm, CM⟩ := of3_any (z1 - 20 + z2) (by omega) (by omega)
  obtain ⟨qb, hb, CQ⟩ := of3_any (z1 - 20 + z2 + z3) (by omega) (by omega)
  have P1 := Lib.hid C1
  have P2 := Lib.hid C2
  have P3 := Lib.hid C3
  have P4 := Lib.hid C4
  have P5 := Lib.hid C5
  replace CA := Lib.hid CA
  replace CM := Lib.hid CM
  replace CQ := Lib.hid CQ
  have SC := Lib.hid (fun (p : List Rat) (hp : In p) (h0 : p ≠ []) => split_con hp h0 ha hm hb (by omega) (by omega) (by omega) (by omega) (by omega) (k := k4) (k2 := k4 + k5) (by omega) (by omega))
  have CX : Hid (∀ w', Below w.heap.size w w' → Laid w' → Calls Tryz.prog 18 #[x] w' (fun e w2 => ∃ l, In l ∧ RetL7 w' l e w2)) := Lib.hid (fun w' hb hL => make_any w' (hx.below hb) hL)
  have CS := Lib.hid (fun (w : World) (hL : Laid w) => sane_any w hL)
  have hB : Below w.heap.size w w := Below.refl _ _
  have hmixed : Tryz.prog.follows .mixedOrders = true := by kernel_rfl
  clear C1 C2 C3 C4 C5 ha hm hb h1 h2 h3 h4 h5
  go_enter Tryz.func5, Tryz.ntmps5
  go_upto_region 3 with (first
      | (go_at_call 11; (with_reducible refine (CS.out _ hL).mono ?_); rintro e w1 ⟨rfl, hb⟩; have hp := hb; replace hL := hL.below hp; replace hB := below_up hB hp; clear hb hp)
      | (go_at_call 18; (with_reducible refine (CX.out _ hB hL).mono ?_); rintro e w2 ⟨p, ip, vp, rfl, hn, hb⟩; have hp := hb; replace hL := hL.below hp; replace hB := below_up hB hp; clear hb hp; have hp1 := hn; clear hn))
  clear CX CS hx
  obtain ⟨Ap, kp, ep, -, -, -⟩ := id hp1
  subst ep
  by_cases hp0 : p = []
  · subst hp0
    go_wp2_with fail
    go_ret
    exact ⟨rfl, hB⟩
  · have hpl : ((p.length : Int) == 0) = false := beq_eq_false_iff_ne.2 (by have := List.length_pos_iff.2 hp0; omega)
    obtain ⟨v1, v2, v3, l1, l2, S⟩ := SC.out p ip hp0
    have K1 := Lib.hid S.c1
    have K2 := Lib.hid S.c2
    have K3 := Lib.hid S.c3
    have I1 : Hid (∀ (w : World) (v : Value), Pv w v p → Laid w → Calls Tryz.prog 16 #[v, .agg #[.string (numT (some qa)), .string (denT (some qa))], .agg #[.string (numT (some qb)), .string (denT (some qb))], .int .i64 (k4 : Int)] w (RetIvE w l1)) := Lib.hid S.i1
    have I2 : Hid (∀ (w : World) (v : Value), Pv w v p → Laid w → Calls Tryz.prog 16 #[v, .agg #[.string (numT (some qa)), .string (denT (some qa))], .agg #[.string (numT (some qb)), .string (denT (some qb))], .int .i64 (IntKind.i64.wrap ((k4 : Int) + (k5 : Int)))] w (RetIvE w l2)) := Lib.hid (by have := S.i2; unfold IsoC at this; rw [Int.natCast_add] at this; rw [IntWalk.i64_in _ (by omega)]; exact this)
    have s1 := S.sum
    have s2 := S.p1
    have s3 := S.p2
    have s4 := S.n1
    have s5 := S.n2
    have s6 := S.le
    have HN := Lib.hid S.nest
    have HF := Lib.hid S.fit
    clear S SC ip hp0
    have hvw : IntKind.i64.wrap (v1 + v2) = v3 := by rw [IntWalk.i64_in _ (by omega)]; exact s1
    go_upto_region 15 with (first
        | (go_at_call 13; (with_reducible refine (P1.out _).mono ?_); rintro e w3 ⟨rfl, hb⟩; have hp := hb; replace hL := hL.below hp; replace hB := below_up hB hp; replace hp1 := hp1.below hp; clear hb hp)
        | (go_at_call 13; (with_reducible refine (P2.out _).mono ?_); rintro e w4 ⟨rfl, hb⟩; have hp := hb; replace hL := hL.below hp; replace hB := below_up hB hp; replace hp1 := hp1.below hp; clear hb hp)
        | (go_at_call 14; (with_reducible refine (CA.out _).mono ?_); rintro e w5 ⟨rfl, hb⟩; have hp := hb; replace hL := hL.below hp; replace hB := below_up hB hp; replace hp1 := hp1.below hp; clear hb hp)
        | (go_at_call 14; (with_reducible refine (CM.out _).mono ?_); rintro e w6 ⟨rfl, hb⟩; have hp := below_up (below1 w5 (.cells #[.string (numT (some qa)), .string (denT (some qa))] 29)) hb; have Ba := (Blk.new w5 29 [.string (numT (some qa)), .string (denT (some qa))]).below hb; replace hL := hL.below hp; replace hB := below_up hB hp; replace hp1 := hp1.below hp; clear hb hp)
        | (go_at_call 13; (with_reducible refine (P3.out _).mono ?_); rintro e w7 ⟨rfl, hb⟩; have hp := below_up (below1 w6 (.cells #[.string (numT (some qm)), .string (denT (some qm))] 29)) hb; replace Ba := Ba.below hp; have Bm := (Blk.new w6 29 [.string (numT (some qm)), .string (denT (some qm))]).below hb; replace hL := hL.below hp; replace hB := below_up hB hp; replace hp1 := hp1.below hp; clear hb hp)
        | (go_at_call 14; (with_reducible refine (CQ.out _).mono ?_); rintro e w8 ⟨rfl, hb⟩; have hp := hb; replace Ba := Ba.below hp; replace Bm := Bm.below hp; replace hL := hL.below hp; replace hB := below_up hB hp; replace hp1 := hp1.below hp; clear hb hp; have ca_0 := (Ba.below (below1 w8 (.cells #[.string (numT (some qb)), .string (denT (some qb))] 29))).cell 0 (v := .string (numT (some qa))) rfl; have ca_1 := (Ba.below (below1 w8 (.cells #[.string (numT (some qb)), .string (denT (some qb))] 29))).cell 1 (v := .string (denT (some qa))) rfl; have cm_0 := (Bm.below (below1 w8 (.cells #[.string (numT (some qb)), .string (denT (some qb))] 29))).cell 0 (v := .string (numT (some qm))) rfl; have cm_1 := (Bm.below (below1 w8 (.cells #[.string (numT (some qb)), .string (denT (some qb))] 29))).cell 1 (v := .string (denT (some qm))) rfl)
        | (go_at_call 15; (with_reducible refine (K1.out _ _ (hp1.below (below1 w8 (.cells #[.string (numT (some qb)), .string (denT (some qb))] 29))) (hL.below (below1 w8 (.cells #[.string (numT (some qb)), .string (denT (some qb))] 29)))).mono ?_); rintro e w9 ⟨rfl, hb⟩; have hp := below_up (below1 w8 (.cells #[.string (numT (some qb)), .string (denT (some qb))] 29)) hb; replace Ba := Ba.below hp; replace Bm := Bm.below hp; have Bb := (Blk.new w8 29 [.string (numT (some qb)), .string (denT (some qb))]).below hb; clear ca_0 ca_1 cm_0 cm_1; replace hL := hL.below hp; replace hB := below_up hB hp; replace hp1 := hp1.below hp; clear hb hp; have cm_0 := Bm.cell 0 (v := .string (numT (some qm))) rfl; have cm_1 := Bm.cell 1 (v := .string (denT (some qm))) rfl; have cb_0 := Bb.cell 0 (v := .string (numT (some qb))) rfl; have cb_1 := Bb.cell 1 (v := .string (denT (some qb))) rfl)
        | (go_at_call 15; (with_reducible refine (K2.out _ _ hp1 hL).mono ?_); rintro e w10 ⟨rfl, hb⟩; have hp := hb; replace Ba := Ba.below hp; replace Bm := Bm.below hp; replace Bb := Bb.below hp; clear cm_0 cm_1 cb_0 cb_1; replace hL := hL.below hp; replace hB := below_up hB hp; replace hp1 := hp1.below hp; clear hb hp; have ca_0 := Ba.cell 0 (v := .string (numT (some qa))) rfl; have ca_1 := Ba.cell 1 (v := .string (denT (some qa))) rfl; have cb_0 := Bb.cell 0 (v := .string (numT (some qb))) rfl; have cb_1 := Bb.cell 1 (v := .string (denT (some qb))) rfl)
        | (go_at_call 15; (with_reducible refine (K3.out _ _ hp1 hL).mono ?_); rintro e w11 ⟨rfl, hb⟩; have hp := hb; replace Ba := Ba.below hp; replace Bm := Bm.below hp; replace Bb := Bb.below hp; clear ca_0 ca_1 cb_0 cb_1; replace hL := hL.below hp; replace hB := below_up hB hp; replace hp1 := hp1.below hp; clear hb hp)
        | (go_at_call 13; (with_reducible refine (P4.out _).mono ?_); rintro e w12 ⟨rfl, hb⟩; have hp := hb; replace Ba := Ba.below hp; replace Bm := Bm.below hp; replace Bb := Bb.below hp; replace hL := hL.below hp; replace hB := below_up hB hp; replace hp1 := hp1.below hp; clear hb hp; have ca_0 := Ba.cell 0 (v := .string (numT (some qa))) rfl; have ca_1 := Ba.cell 1 (v := .string (denT (some qa))) rfl; have cb_0 := Bb.cell 0 (v := .string (numT (some qb))) rfl; have cb_1 := Bb.cell 1 (v := .string (denT (some qb))) rfl)
        | (go_at_call 16; (with_reducible refine (I1.out _ _ hp1 hL).mono ?_); rintro e w13 ⟨u1, rfl, ⟨g1, hn⟩, hb⟩; have hp := hb; replace Ba := Ba.below hp; replace Bm := Bm.below hp; replace Bb := Bb.below hp; clear ca_0 ca_1 cb_0 cb_1; replace hL := hL.below hp; replace hB := below_up hB hp; replace hp1 := hp1.below hp; clear hb hp; have hr1 := hn; clear hn; obtain ⟨A1, c1, rfl⟩ := hr1.slv; have ca_0 := Ba.cell 0 (v := .string (numT (some qa))) rfl; have ca_1 := Ba.cell 1 (v := .string (denT (some qa))) rfl; have cb_0 := Bb.cell 0 (v := .string (numT (some qb))) rfl; have cb_1 := Bb.cell 1 (v := .string (denT (some qb))) rfl))
    clear P1 P2 P3 P4 CA CM CQ K1 K2 K3 I1
    have hZ := (Below.refl w13.heap.size w13).drew
    replace Ba := Ba.below hZ
    replace Bm := Bm.below hZ
    replace Bb := Bb.below hZ
    clear ca_0 ca_1 cb_0 cb_1
    have ca_0 := Ba.cell 0 (v := .string (numT (some qa))) rfl
    have ca_1 := Ba.cell 1 (v := .string (denT (some qa))) rfl
    have cb_0 := Bb.cell 0 (v := .string (numT (some qb))) rfl
    have cb_1 := Bb.cell 1 (v := .string (denT (some qb))) rfl
    go_region_held3 (fun w' => w'.cell? ⟨w5.heap.size, 0, none⟩ = some (.string (numT (some qa))) ∧ w'.cell? ⟨w5.heap.size, 1, none⟩ = some (.string (denT (some qa))) ∧ w'.cell? ⟨w8.heap.size, 0, none⟩ = some (.string (numT (some qb))) ∧ w'.cell? ⟨w8.heap.size, 1, none⟩ = some (.string (denT (some qb)))) (go_keep) (first
        | (go_at_call 13; (with_reducible refine (P5.out _).mono ?_); rintro e wN ⟨rfl, hb⟩; have hZ := below_up hZ hb; have Ba := Ba.below hb; have Bm := Bm.below hb; have Bb := Bb.below hb; have ca_0 := Ba.cell 0 (v := .string (numT (some qa))) rfl; have ca_1 := Ba.cell 1 (v := .string (denT (some qa))) rfl; have cb_0 := Bb.cell 0 (v := .string (numT (some qb))) rfl; have cb_1 := Bb.cell 1 (v := .string (denT (some qb))) rfl)
        | (go_at_call 16; (with_reducible refine (I2.out _ _ (hp1.below hZ) (hL.below hZ)).mono ?_); rintro e wN ⟨u2, rfl, ⟨g2, hr2⟩, hb⟩; have hZ := below_up hZ hb; have Ba := Ba.below hb; have Bm := Bm.below hb; have Bb := Bb.below hb; have ca_0 := Ba.cell 0 (v := .string (numT (some qa))) rfl; have ca_1 := Ba.cell 1 (v := .string (denT (some qa))) rfl; have cb_0 := Bb.cell 0 (v := .string (numT (some qb))) rfl; have cb_1 := Bb.cell 1 (v := .string (denT (some qb))) rfl))
    all_goals (replace hL := hL.below hZ; replace hB := below_up hB hZ; replace hp1 := hp1.below hZ; replace hr1 := hr1.below hZ; clear hZ)
    obtain ⟨A2, c2, rfl⟩ := hr2.slv
    go_wp2_with fail
    go_loopg [29] l1.length (fun k s29 wr => ∃ j : Nat, s29 = .int .i64 j ∧ j ≤ l1.length ∧ l1.length ≤ k + j ∧ RowI wr g1 (.slice A1 l1.length c1) l1 ∧ RowI wr g2 (.slice A2 l2.length c2) l2 ∧ Laid wr ∧ Below w.heap.size w wr)
    case atStart => exact ⟨0, rfl, by omega, by omega, hr1, hr2, hL, hB⟩
    case round =>
      clear hr1 hr2 hL hB Ba Bm Bb hp1
      obtain ⟨j, rfl, hj, hk, hr1, hr2, hL, hB⟩ := hrel
      by_cases hg : j < l1.length
      · have hgi : (j : Int) < l1.length := by omega
        have hg2 : j < l2.length := by omega
        have hgi2 : (j : Int) < l2.length := by omega
        obtain ⟨G1, d1, he1, x0, x1, x2, x3⟩ := hr1.get j hg
        obtain ⟨G2, d2, he2, y0, y1, y2, y3⟩ := hr2.get j hg2
        obtain ⟨rfl, -, rfl⟩ := Value.slice.inj he1
        obtain ⟨rfl, -, rfl⟩ := Value.slice.inj he2
        have N := HN.out.get j hg hg2
        have F1 := HF.out l1[j] (.inl (List.getElem_mem hg))
        have F2 := HF.out l2[j] (.inr (List.getElem_mem hg2))
        generalize l1[j] = i1 at *
        generalize l2[j] = i2 at *
        obtain ⟨m1, m2⟩ := i1
        obtain ⟨n1, n2⟩ := i2
        have D1 : ∀ c, cmpO (some m1) (some n1) = c → Hid (∀ W, Laid W → Calls Tryz.prog 17 #[.agg #[.string (numT (some m1)), .string (denT (some m1))], .agg #[.string (numT (some n1)), .string (denT (some n1))]] W (RetI W c)) := fun c h => Lib.hid (fun W hL => cmp_r (rat_tx F1.1) (rat_tx F2.1) h W hL)
        have D2 : ∀ c, cmpO (some n2) (some m2) = c → Hid (∀ W, Laid W → Calls Tryz.prog 17 #[.agg #[.string (numT (some n2)), .string (denT (some n2))], .agg #[.string (numT (some m2)), .string (denT (some m2))]] W (RetI W c)) := fun c h => Lib.hid (fun W hL => cmp_r (rat_tx F2.2) (rat_tx F1.2) h W hL)
        have N1 := cmp_lez N.1
        have N2 := cmp_lez N.2
        clear N F1 F2 he1 he2
        rcases N1 with e1 | e1 <;> rcases N2 with e2 | e2
        all_goals
          replace D1 := D1 _ e1
          replace D2 := D2 _ e2
          clear e1 e2
          go_upto_region 21 with fail
          have hZ : Below wr.heap.size wr wr.drew := (Below.refl _ _).drew
          have x0 := (hZ.cell (cell_lt x0)).trans x0; have x1 := (hZ.cell (cell_lt x1)).trans x1; have x2 := (hZ.cell (cell_lt x2)).trans x2; have x3 := (hZ.cell (cell_lt x3)).trans x3; have y0 := (hZ.cell (cell_lt y0)).trans y0; have y1 := (hZ.cell (cell_lt y1)).trans y1; have y2 := (hZ.cell (cell_lt y2)).trans y2; have y3 := (hZ.cell (cell_lt y3)).trans y3
          go_region_held3 (fun w' => w'.cell? ⟨G1, j * 4, none⟩ = some (.string (numT (some m1))) ∧ w'.cell? ⟨G1, j * 4 + 1, none⟩ = some (.string (denT (some m1))) ∧ w'.cell? ⟨G1, j * 4 + 2, none⟩ = some (.string (numT (some m2))) ∧ w'.cell? ⟨G1, j * 4 + 3, none⟩ = some (.string (denT (some m2))) ∧ w'.cell? ⟨G2, j * 4, none⟩ = some (.string (numT (some n1))) ∧ w'.cell? ⟨G2, j * 4 + 1, none⟩ = some (.string (denT (some n1))) ∧ w'.cell? ⟨G2, j * 4 + 2, none⟩ = some (.string (numT (some n2))) ∧ w'.cell? ⟨G2, j * 4 + 3, none⟩ = some (.string (denT (some n2)))) (go_keep) (first
            | (go_at_call 17; (with_reducible refine (D1.out _ (hL.below hZ)).mono ?_); rintro e wN ⟨rfl, hb⟩; have hZ := below_up hZ hb; have x0 := (hb.cell (cell_lt x0)).trans x0; have x1 := (hb.cell (cell_lt x1)).trans x1; have x2 := (hb.cell (cell_lt x2)).trans x2; have x3 := (hb.cell (cell_lt x3)).trans x3; have y0 := (hb.cell (cell_lt y0)).trans y0; have y1 := (hb.cell (cell_lt y1)).trans y1; have y2 := (hb.cell (cell_lt y2)).trans y2; have y3 := (hb.cell (cell_lt y3)).trans y3)
            | (go_at_call 17; (with_reducible refine (D2.out _ (hL.below hZ)).mono ?_); rintro e wN ⟨rfl, hb⟩; have hZ := below_up hZ hb; have x0 := (hb.cell (cell_lt x0)).trans x0; have x1 := (hb.cell (cell_lt x1)).trans x1; have x2 := (hb.cell (cell_lt x2)).trans x2; have x3 := (hb.cell (cell_lt x3)).trans x3; have y0 := (hb.cell (cell_lt y0)).trans y0; have y1 := (hb.cell (cell_lt y1)).trans y1; have y2 := (hb.cell (cell_lt y2)).trans y2; have y3 := (hb.cell (cell_lt y3)).trans y3))
          all_goals go_wp2_with fail
          all_goals go_roundg (l1.length - (j + 1))
          all_goals first | omega | exact ⟨j + 1, by go_num, by omega, by omega, hr1.below hZ, hr2.below hZ, hL.below hZ, below_up hB hZ⟩
      · obtain rfl : j = l1.length := by omega
        go_wp2_with fail
        go_ret
        exact ⟨rfl, hB⟩

end Go.Proofs.YtffndcjmabjhiaaGreatDoor
