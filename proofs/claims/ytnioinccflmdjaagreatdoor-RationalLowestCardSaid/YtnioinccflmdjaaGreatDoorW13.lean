/- RationalLowest: its walk. Condition: the tables of strconv; the numbers are ints. -/
import Derived.Test.YtnioinccflmdjaaGreatDoorQ7
import Derived.Test.YtnioinccflmdjaaGreatDoorW9
namespace Go.Proofs.YtnioinccflmdjaaGreatDoor
open Go.RowKit Num
open Go.Shelf

theorem make_lit {x y u v : ByteArray} {n d : Int} {q : Rat} (hx : Is x n) (hy : Is y d) (h0 : d ≠ 0) (h : Rat.divInt n d = q) (hu : Is u q.num) (hv : Is v (q.den : Int)) (w : World) (hL : Laid w) :
    Calls Tryz.prog 22 #[.string x, .string y] w (RetLit w u v 0) :=
  (make_r (o := some q) hx hy ((if_neg h0).trans (by rw [h])) w hL).mono fun _ _ k => ret_lit hu hv k
/-- A factor's text. -/
structure Fac (kk : Int) : Prop where
  lo : -1000000 ≤ kk
  hi : kk ≤ 1000000
  ne : kk ≠ 0

set_option maxHeartbeats 8000000 in
set_option maxRecDepth 100000 in
theorem lowest_pos (x0 x1 x2 x3 f : Int) (hx0 : I64 x0) (hx1 : I64 x1) (hx2 : I64 x2) (hx3 : I64 x3) (hf : I64 f) (w : World) (hL : Laid w) :
    Calls Tryz.prog 4 #[.agg #[.int .i64 x0, .int .i64 x1, .int .i64 x2, .int .i64 x3], .int .i64 f, .bool false] w (RetB w true) := by
  have CLX := Lib.hid (fun w => long_any x0 x1 x2 x3 hx0.1 hx0.2 hx1.1 hx1.2 hx2.1 hx2.2 hx3.1 hx3.2 w)
  have CP := Lib.hid (fun w => pick_any f 1000000 hf.1 hf.2 (by decide) (by decide) w)
  clear hx0 hx1 hx2 hx3 hf
  have hB : Below w.heap.size w w := Below.refl _ _
  have hmixed : Tryz.prog.follows .mixedOrders = true := by kernel_rfl
  go_enter Tryz.func4, Tryz.ntmps4
  go_upto_region 6 with (first
      | (go_at_call 11; (with_reducible refine (sane_any _ (hL.below (below1 w (.cells #[.int .i64 x0, .int .i64 x1, .int .i64 x2, .int .i64 x3] 24)))).mono ?_); rintro e w1 ⟨rfl, hb⟩; have hp := below_up (below1 w (.cells #[.int .i64 x0, .int .i64 x1, .int .i64 x2, .int .i64 x3] 24)) hb; have BX := (Blk.new w 24 [.int .i64 x0, .int .i64 x1, .int .i64 x2, .int .i64 x3]).below hb; replace hL := hL.below hp; replace hB := below_up hB hp; clear hb hp; have cX_0 := BX.cell 0 (v := .int .i64 x0) rfl; have cX_1 := BX.cell 1 (v := .int .i64 x1) rfl; have cX_2 := BX.cell 2 (v := .int .i64 x2) rfl; have cX_3 := BX.cell 3 (v := .int .i64 x3) rfl)
      | (go_at_call 12; (with_reducible refine (CLX.out _).mono ?_); rintro e w2 ⟨q, hq, rfl, hb⟩; have hp := hb; replace BX := BX.below hp; clear cX_0 cX_1 cX_2 cX_3; replace hL := hL.below hp; replace hB := below_up hB hp; clear hb hp)
      | (go_at_call 18; (with_reducible refine (CP.out _).mono ?_); rintro e v' ⟨j, hj0, hj1, rfl, rfl⟩))
  obtain ⟨kk, hkk⟩ : ∃ k : Int, k = 1 + j := ⟨_, rfl⟩
  have hfac : Fac kk := ⟨by omega, by omega, by omega⟩
  have hint : 1 + j = kk := hkk.symm
  simp only [hint]
  have hK : Is (tx kk) kk := is_tx (sm_of (m := 1000001) (by have := hfac.lo; have := hfac.hi; omega) (by decide))
  clear hint hkk hj0 hj1
  have hsn : sm (q.num * kk) := by
    have := nabs_mul (a := q.num) (b := kk) (m := 10 ^ 100) (n := 10 ^ 7) hq.1 (by have := hfac.lo; have := hfac.hi; omega)
    exact sm_of this (by decide)
  have hsd : sm ((q.den : Int) * kk) := by
    have := nabs_mul (a := (q.den : Int)) (b := kk) (m := 10 ^ 100) (n := 10 ^ 7) (by rw [Int.natAbs_natCast]; exact hq.2) (by have := hfac.lo; have := hfac.hi; omega)
    exact sm_of this (by decide)
  obtain ⟨N, hN⟩ := Is.ex hsn
  obtain ⟨D, hD⟩ := Is.ex hsd
  have hne : (q.den : Int) * kk ≠ 0 := Int.mul_ne_zero (den_ne q) hfac.ne
  have hdv : Rat.divInt (q.num * kk) ((q.den : Int) * kk) = q := by rw [Rat.divInt_mul_right hfac.ne, Rat.num_divInt_den]
  have CF : Hid (∀ w, Calls Tryz.prog 20 #[.int .i64 kk] w (RetZ w (tx kk))) := Lib.hid (fun w => rfrom_any kk (by have := hfac.lo; omega) (by have := hfac.hi; omega) w)
  have hval := fun w hL => qvalid_r (a := some q) (b := true) (rat_of (fit_some (hq.fit (by omega)))) rfl w hL
  have hcmp := fun w hL => cmp_r (a := some q) (b := some q) (c := 0) (rat_of (fit_some (hq.fit (by omega)))) (rat_of (fit_some (hq.fit (by omega)))) (by rw [cmpO_some, if_neg (by grind), if_neg (by grind)]) w hL
  have hXQ : Is (numT (some q)) q.num := (fr_fit (hq.fit (by omega))).1
  have hYQ : Is (denT (some q)) (q.den : Int) := (fr_fit (hq.fit (by omega))).2
  generalize numT (some q) = xq at *
  generalize denT (some q) = yq at *
  have hprt := fun w hL => qprint_any xq yq w hL
  generalize prT xq yq = pq at *
  generalize tx kk = kt at *
  have CN := Lib.hid (fun w => rmul_is hXQ hK hN rfl w)
  have CDn := Lib.hid (fun w => rmul_is hYQ hK hD rfl w)
  have CM1 := Lib.hid (fun w hL => make_lit hN hD hne hdv hXQ hYQ w hL)
  have CM2 := Lib.hid (fun w hL => make_lit hXQ hYQ (den_ne q) (Rat.num_divInt_den q) hXQ hYQ w hL)
  have CM3 := Lib.hid (fun w hL => make_lit lit_0 hK hfac.ne (Rat.zero_divInt kk) (q := 0) lit_0 lit_1 w hL)
  have CV := Lib.hid hval
  have CC := Lib.hid hcmp
  have CPr := Lib.hid hprt
  clear hsn hsd hN hD hne hdv hval hcmp hprt hXQ hYQ hK hfac hq CLX CP
  go_wp2_with (first
      | (go_at_call 20; (with_reducible refine (CF.out _).mono ?_); rintro e w3 ⟨rfl, hb⟩; have hp := below_up (below1 w2 (.cells #[.string xq, .string yq] 23)) hb; replace BX := BX.below hp; have Br := (Blk.new w2 23 [.string xq, .string yq]).below hb; replace hL := hL.below hp; replace hB := below_up hB hp; clear hb hp; have cr_0 := Br.cell 0 (v := .string xq) rfl)
      | (go_at_call 21; (with_reducible refine (CN.out _).mono ?_); rintro e w4 ⟨rfl, hb⟩; have hp := hb; replace BX := BX.below hp; replace Br := Br.below hp; clear cr_0; replace hL := hL.below hp; replace hB := below_up hB hp; clear hb hp; have cr_1 := Br.cell 1 (v := .string yq) rfl)
      | (go_at_call 21; (with_reducible refine (CDn.out _).mono ?_); rintro e w5 ⟨rfl, hb⟩; have hp := hb; replace BX := BX.below hp; replace Br := Br.below hp; clear cr_1; replace hL := hL.below hp; replace hB := below_up hB hp; clear hb hp)
      | (go_at_call 22; (with_reducible refine (CM1.out _ hL).mono ?_); rintro e w6 ⟨rfl, hb⟩; have hp := hb; replace BX := BX.below hp; replace Br := Br.below hp; replace hL := hL.below hp; replace hB := below_up hB hp; clear hb hp; have cr_0 := (Br.below (below1 w6 (.cells #[.string xq, .string yq] 23))).cell 0 (v := .string xq) rfl; have cr_1 := (Br.below (below1 w6 (.cells #[.string xq, .string yq] 23))).cell 1 (v := .string yq) rfl)
      | (go_at_call 22; (with_reducible refine (CM2.out _ (hL.below (below1 w6 (.cells #[.string xq, .string yq] 23)))).mono ?_); rintro e w7 ⟨rfl, hb⟩; have hp := below_up (below1 w6 (.cells #[.string xq, .string yq] 23)) hb; replace BX := BX.below hp; replace Br := Br.below hp; have Ba := (Blk.new w6 23 [.string xq, .string yq]).below hb; clear cr_0 cr_1; replace hL := hL.below hp; replace hB := below_up hB hp; clear hb hp)
      | (go_at_call 22; (with_reducible refine (CM3.out _ (hL.below (below1 w7 (.cells #[.string xq, .string yq] 23)))).mono ?_); rintro e w8 ⟨rfl, hb⟩; have hp := below_up (below1 w7 (.cells #[.string xq, .string yq] 23)) hb; replace BX := BX.below hp; replace Br := Br.below hp; replace Ba := Ba.below hp; have Bb := (Blk.new w7 23 [.string xq, .string yq]).below hb; replace hL := hL.below hp; replace hB := below_up hB hp; clear hb hp))
  have hZ := (below1 w8 (.cells #[.string ⟨#[48]⟩, .string ⟨#[49]⟩] 23)).drew
  replace BX := BX.below hZ
  replace Br := Br.below hZ
  replace Ba := Ba.below hZ
  replace Bb := Bb.below hZ
  have Bz := (Blk.new w8 23 [.string ⟨#[48]⟩, .string ⟨#[49]⟩]).below (Below.refl (w8.alloc (.cells #[.string ⟨#[48]⟩, .string ⟨#[49]⟩] 23)).heap.size (w8.alloc (.cells #[.string ⟨#[48]⟩, .string ⟨#[49]⟩] 23))).drew
  have cr_0 := Br.cell 0 (v := .string xq) rfl
  have cr_1 := Br.cell 1 (v := .string yq) rfl
  have ca_0 := Ba.cell 0 (v := .string xq) rfl
  have ca_1 := Ba.cell 1 (v := .string yq) rfl
  have cb_0 := Bb.cell 0 (v := .string xq) rfl
  have cb_1 := Bb.cell 1 (v := .string yq) rfl
  have cz_0 := Bz.cell 0 (v := .string ⟨#[48]⟩) rfl
  have cz_1 := Bz.cell 1 (v := .string ⟨#[49]⟩) rfl
  go_region_held3 (fun w' => w'.cell? ⟨w2.heap.size, 0, none⟩ = some (.string xq) ∧ w'.cell? ⟨w2.heap.size, 1, none⟩ = some (.string yq) ∧ w'.cell? ⟨w6.heap.size, 0, none⟩ = some (.string xq) ∧ w'.cell? ⟨w6.heap.size, 1, none⟩ = some (.string yq) ∧ w'.cell? ⟨w7.heap.size, 0, none⟩ = some (.string xq) ∧ w'.cell? ⟨w7.heap.size, 1, none⟩ = some (.string yq) ∧ w'.cell? ⟨w8.heap.size, 0, none⟩ = some (.string ⟨#[48]⟩) ∧ w'.cell? ⟨w8.heap.size, 1, none⟩ = some (.string ⟨#[49]⟩)) (go_keep) (first
      | (go_at_call 17; (with_reducible refine (CV.out _ (hL.below hZ)).mono ?_); rintro e wN ⟨rfl, hb⟩; have hZ := below_up hZ hb; have BX := BX.below hb; have Br := Br.below hb; have Ba := Ba.below hb; have Bb := Bb.below hb; have Bz := Bz.below hb; have cr_0 := Br.cell 0 (v := .string xq) rfl; have cr_1 := Br.cell 1 (v := .string yq) rfl; have ca_0 := Ba.cell 0 (v := .string xq) rfl; have ca_1 := Ba.cell 1 (v := .string yq) rfl; have cb_0 := Bb.cell 0 (v := .string xq) rfl; have cb_1 := Bb.cell 1 (v := .string yq) rfl; have cz_0 := Bz.cell 0 (v := .string ⟨#[48]⟩) rfl; have cz_1 := Bz.cell 1 (v := .string ⟨#[49]⟩) rfl)
      | (go_at_call 23; (with_reducible refine (CC.out _ (hL.below hZ)).mono ?_); rintro e wN ⟨rfl, hb⟩; have hZ := below_up hZ hb; have BX := BX.below hb; have Br := Br.below hb; have Ba := Ba.below hb; have Bb := Bb.below hb; have Bz := Bz.below hb; have cr_0 := Br.cell 0 (v := .string xq) rfl; have cr_1 := Br.cell 1 (v := .string yq) rfl; have ca_0 := Ba.cell 0 (v := .string xq) rfl; have ca_1 := Ba.cell 1 (v := .string yq) rfl; have cb_0 := Bb.cell 0 (v := .string xq) rfl; have cb_1 := Bb.cell 1 (v := .string yq) rfl; have cz_0 := Bz.cell 0 (v := .string ⟨#[48]⟩) rfl; have cz_1 := Bz.cell 1 (v := .string ⟨#[49]⟩) rfl)
      | (go_at_call 24; (with_reducible refine (is_any ⟨#[48]⟩ ⟨#[49]⟩ _).mono ?_); rintro e wN ⟨rfl, hb⟩; have hZ := below_up hZ hb; have BX := BX.below hb; have Br := Br.below hb; have Ba := Ba.below hb; have Bb := Bb.below hb; have Bz := Bz.below hb; have cr_0 := Br.cell 0 (v := .string xq) rfl; have cr_1 := Br.cell 1 (v := .string yq) rfl; have ca_0 := Ba.cell 0 (v := .string xq) rfl; have ca_1 := Ba.cell 1 (v := .string yq) rfl; have cb_0 := Bb.cell 0 (v := .string xq) rfl; have cb_1 := Bb.cell 1 (v := .string yq) rfl; have cz_0 := Bz.cell 0 (v := .string ⟨#[48]⟩) rfl; have cz_1 := Bz.cell 1 (v := .string ⟨#[49]⟩) rfl)
      | (go_at_call 14; (with_reducible refine (CPr.out _ (hL.below hZ)).mono ?_); rintro e wN ⟨rfl, hb⟩; have hZ := below_up hZ hb; have BX := BX.below hb; have Br := Br.below hb; have Ba := Ba.below hb; have Bb := Bb.below hb; have Bz := Bz.below hb; have cr_0 := Br.cell 0 (v := .string xq) rfl; have cr_1 := Br.cell 1 (v := .string yq) rfl; have ca_0 := Ba.cell 0 (v := .string xq) rfl; have ca_1 := Ba.cell 1 (v := .string yq) rfl; have cb_0 := Bb.cell 0 (v := .string xq) rfl; have cb_1 := Bb.cell 1 (v := .string yq) rfl; have cz_0 := Bz.cell 0 (v := .string ⟨#[48]⟩) rfl; have cz_1 := Bz.cell 1 (v := .string ⟨#[49]⟩) rfl))
  all_goals (replace hL := hL.below hZ; replace hB := below_up hB hZ; clear hZ)
  all_goals go_wp2
  all_goals go_ret
  all_goals exact ⟨rfl, hB⟩

set_option maxHeartbeats 8000000 in
set_option maxRecDepth 100000 in
theorem lowest_neg (x0 x1 x2 x3 f : Int) (hx0 : I64 x0) (hx1 : I64 x1) (hx2 : I64 x2) (hx3 : I64 x3) (hf : I64 f) (w : World) (hL : Laid w) :
    Calls Tryz.prog 4 #[.agg #[.int .i64 x0, .int .i64 x1, .int .i64 x2, .int .i64 x3], .int .i64 f, .bool true] w (RetB w true) := by
  have CLX := Lib.hid (fun w => long_any x0 x1 x2 x3 hx0.1 hx0.2 hx1.1 hx1.2 hx2.1 hx2.2 hx3.1 hx3.2 w)
  have CP := Lib.hid (fun w => pick_any f 1000000 hf.1 hf.2 (by decide) (by decide) w)
  clear hx0 hx1 hx2 hx3 hf
  have hB : Below w.heap.size w w := Below.refl _ _
  have hmixed : Tryz.prog.follows .mixedOrders = true := by kernel_rfl
  go_enter Tryz.func4, Tryz.ntmps4
  go_upto_region 6 with (first
      | (go_at_call 11; (with_reducible refine (sane_any _ (hL.below (below1 w (.cells #[.int .i64 x0, .int .i64 x1, .int .i64 x2, .int .i64 x3] 24)))).mono ?_); rintro e w1 ⟨rfl, hb⟩; have hp := below_up (below1 w (.cells #[.int .i64 x0, .int .i64 x1, .int .i64 x2, .int .i64 x3] 24)) hb; have BX := (Blk.new w 24 [.int .i64 x0, .int .i64 x1, .int .i64 x2, .int .i64 x3]).below hb; replace hL := hL.below hp; replace hB := below_up hB hp; clear hb hp; have cX_0 := BX.cell 0 (v := .int .i64 x0) rfl; have cX_1 := BX.cell 1 (v := .int .i64 x1) rfl; have cX_2 := BX.cell 2 (v := .int .i64 x2) rfl; have cX_3 := BX.cell 3 (v := .int .i64 x3) rfl)
      | (go_at_call 12; (with_reducible refine (CLX.out _).mono ?_); rintro e w2 ⟨q, hq, rfl, hb⟩; have hp := hb; replace BX := BX.below hp; clear cX_0 cX_1 cX_2 cX_3; replace hL := hL.below hp; replace hB := below_up hB hp; clear hb hp)
      | (go_at_call 18; (with_reducible refine (CP.out _).mono ?_); rintro e v' ⟨j, hj0, hj1, rfl, rfl⟩))
  obtain ⟨kk, hkk⟩ : ∃ k : Int, k = -(1 + j) := ⟨_, rfl⟩
  have hfac : Fac kk := ⟨by omega, by omega, by omega⟩
  have hint : -(1 + j) = kk := hkk.symm
  simp only [hint]
  have hK : Is (tx kk) kk := is_tx (sm_of (m := 1000001) (by have := hfac.lo; have := hfac.hi; omega) (by decide))
  clear hint hkk hj0 hj1
  have hsn : sm (q.num * kk) := by
    have := nabs_mul (a := q.num) (b := kk) (m := 10 ^ 100) (n := 10 ^ 7) hq.1 (by have := hfac.lo; have := hfac.hi; omega)
    exact sm_of this (by decide)
  have hsd : sm ((q.den : Int) * kk) := by
    have := nabs_mul (a := (q.den : Int)) (b := kk) (m := 10 ^ 100) (n := 10 ^ 7) (by rw [Int.natAbs_natCast]; exact hq.2) (by have := hfac.lo; have := hfac.hi; omega)
    exact sm_of this (by decide)
  obtain ⟨N, hN⟩ := Is.ex hsn
  obtain ⟨D, hD⟩ := Is.ex hsd
  have hne : (q.den : Int) * kk ≠ 0 := Int.mul_ne_zero (den_ne q) hfac.ne
  have hdv : Rat.divInt (q.num * kk) ((q.den : Int) * kk) = q := by rw [Rat.divInt_mul_right hfac.ne, Rat.num_divInt_den]
  have CF : Hid (∀ w, Calls Tryz.prog 20 #[.int .i64 kk] w (RetZ w (tx kk))) := Lib.hid (fun w => rfrom_any kk (by have := hfac.lo; omega) (by have := hfac.hi; omega) w)
  have hval := fun w hL => qvalid_r (a := some q) (b := true) (rat_of (fit_some (hq.fit (by omega)))) rfl w hL
  have hcmp := fun w hL => cmp_r (a := some q) (b := some q) (c := 0) (rat_of (fit_some (hq.fit (by omega)))) (rat_of (fit_some (hq.fit (by omega)))) (by rw [cmpO_some, if_neg (by grind), if_neg (by grind)]) w hL
  have hXQ : Is (numT (some q)) q.num := (fr_fit (hq.fit (by omega))).1
  have hYQ : Is (denT (some q)) (q.den : Int) := (fr_fit (hq.fit (by omega))).2
  generalize numT (some q) = xq at *
  generalize denT (some q) = yq at *
  have hprt := fun w hL => qprint_any xq yq w hL
  generalize prT xq yq = pq at *
  generalize tx kk = kt at *
  have CN := Lib.hid (fun w => rmul_is hXQ hK hN rfl w)
  have CDn := Lib.hid (fun w => rmul_is hYQ hK hD rfl w)
  have CM1 := Lib.hid (fun w hL => make_lit hN hD hne hdv hXQ hYQ w hL)
  have CM2 := Lib.hid (fun w hL => make_lit hXQ hYQ (den_ne q) (Rat.num_divInt_den q) hXQ hYQ w hL)
  have CM3 := Lib.hid (fun w hL => make_lit lit_0 hK hfac.ne (Rat.zero_divInt kk) (q := 0) lit_0 lit_1 w hL)
  have CV := Lib.hid hval
  have CC := Lib.hid hcmp
  have CPr := Lib.hid hprt
  clear hsn hsd hN hD hne hdv hval hcmp hprt hXQ hYQ hK hfac hq CLX CP
  go_wp2_with (first
      | (go_at_call 20; (with_reducible refine (CF.out _).mono ?_); rintro e w3 ⟨rfl, hb⟩; have hp := below_up (below1 w2 (.cells #[.string xq, .string yq] 23)) hb; replace BX := BX.below hp; have Br := (Blk.new w2 23 [.string xq, .string yq]).below hb; replace hL := hL.below hp; replace hB := below_up hB hp; clear hb hp; have cr_0 := Br.cell 0 (v := .string xq) rfl)
      | (go_at_call 21; (with_reducible refine (CN.out _).mono ?_); rintro e w4 ⟨rfl, hb⟩; have hp := hb; replace BX := BX.below hp; replace Br := Br.below hp; clear cr_0; replace hL := hL.below hp; replace hB := below_up hB hp; clear hb hp; have cr_1 := Br.cell 1 (v := .string yq) rfl)
      | (go_at_call 21; (with_reducible refine (CDn.out _).mono ?_); rintro e w5 ⟨rfl, hb⟩; have hp := hb; replace BX := BX.below hp; replace Br := Br.below hp; clear cr_1; replace hL := hL.below hp; replace hB := below_up hB hp; clear hb hp)
      | (go_at_call 22; (with_reducible refine (CM1.out _ hL).mono ?_); rintro e w6 ⟨rfl, hb⟩; have hp := hb; replace BX := BX.below hp; replace Br := Br.below hp; replace hL := hL.below hp; replace hB := below_up hB hp; clear hb hp; have cr_0 := (Br.below (below1 w6 (.cells #[.string xq, .string yq] 23))).cell 0 (v := .string xq) rfl; have cr_1 := (Br.below (below1 w6 (.cells #[.string xq, .string yq] 23))).cell 1 (v := .string yq) rfl)
      | (go_at_call 22; (with_reducible refine (CM2.out _ (hL.below (below1 w6 (.cells #[.string xq, .string yq] 23)))).mono ?_); rintro e w7 ⟨rfl, hb⟩; have hp := below_up (below1 w6 (.cells #[.string xq, .string yq] 23)) hb; replace BX := BX.below hp; replace Br := Br.below hp; have Ba := (Blk.new w6 23 [.string xq, .string yq]).below hb; clear cr_0 cr_1; replace hL := hL.below hp; replace hB := below_up hB hp; clear hb hp)
      | (go_at_call 22; (with_reducible refine (CM3.out _ (hL.below (below1 w7 (.cells #[.string xq, .string yq] 23)))).mono ?_); rintro e w8 ⟨rfl, hb⟩; have hp := below_up (below1 w7 (.cells #[.string xq, .string yq] 23)) hb; replace BX := BX.below hp; replace Br := Br.below hp; replace Ba := Ba.below hp; have Bb := (Blk.new w7 23 [.string xq, .string yq]).below hb; replace hL := hL.below hp; replace hB := below_up hB hp; clear hb hp))
  have hZ := (below1 w8 (.cells #[.string ⟨#[48]⟩, .string ⟨#[49]⟩] 23)).drew
  replace BX := BX.below hZ
  replace Br := Br.below hZ
  replace Ba := Ba.below hZ
  replace Bb := Bb.below hZ
  have Bz := (Blk.new w8 23 [.string ⟨#[48]⟩, .string ⟨#[49]⟩]).below (Below.refl (w8.alloc (.cells #[.string ⟨#[48]⟩, .string ⟨#[49]⟩] 23)).heap.size (w8.alloc (.cells #[.string ⟨#[48]⟩, .string ⟨#[49]⟩] 23))).drew
  have cr_0 := Br.cell 0 (v := .string xq) rfl
  have cr_1 := Br.cell 1 (v := .string yq) rfl
  have ca_0 := Ba.cell 0 (v := .string xq) rfl
  have ca_1 := Ba.cell 1 (v := .string yq) rfl
  have cb_0 := Bb.cell 0 (v := .string xq) rfl
  have cb_1 := Bb.cell 1 (v := .string yq) rfl
  have cz_0 := Bz.cell 0 (v := .string ⟨#[48]⟩) rfl
  have cz_1 := Bz.cell 1 (v := .string ⟨#[49]⟩) rfl
  go_region_held3 (fun w' => w'.cell? ⟨w2.heap.size, 0, none⟩ = some (.string xq) ∧ w'.cell? ⟨w2.heap.size, 1, none⟩ = some (.string yq) ∧ w'.cell? ⟨w6.heap.size, 0, none⟩ = some (.string xq) ∧ w'.cell? ⟨w6.heap.size, 1, none⟩ = some (.string yq) ∧ w'.cell? ⟨w7.heap.size, 0, none⟩ = some (.string xq) ∧ w'.cell? ⟨w7.heap.size, 1, none⟩ = some (.string yq) ∧ w'.cell? ⟨w8.heap.size, 0, none⟩ = some (.string ⟨#[48]⟩) ∧ w'.cell? ⟨w8.heap.size, 1, none⟩ = some (.string ⟨#[49]⟩)) (go_keep) (first
      | (go_at_call 17; (with_reducible refine (CV.out _ (hL.below hZ)).mono ?_); rintro e wN ⟨rfl, hb⟩; have hZ := below_up hZ hb; have BX := BX.below hb; have Br := Br.below hb; have Ba := Ba.below hb; have Bb := Bb.below hb; have Bz := Bz.below hb; have cr_0 := Br.cell 0 (v := .string xq) rfl; have cr_1 := Br.cell 1 (v := .string yq) rfl; have ca_0 := Ba.cell 0 (v := .string xq) rfl; have ca_1 := Ba.cell 1 (v := .string yq) rfl; have cb_0 := Bb.cell 0 (v := .string xq) rfl; have cb_1 := Bb.cell 1 (v := .string yq) rfl; have cz_0 := Bz.cell 0 (v := .string ⟨#[48]⟩) rfl; have cz_1 := Bz.cell 1 (v := .string ⟨#[49]⟩) rfl)
      | (go_at_call 23; (with_reducible refine (CC.out _ (hL.below hZ)).mono ?_); rintro e wN ⟨rfl, hb⟩; have hZ := below_up hZ hb; have BX := BX.below hb; have Br := Br.below hb; have Ba := Ba.below hb; have Bb := Bb.below hb; have Bz := Bz.below hb; have cr_0 := Br.cell 0 (v := .string xq) rfl; have cr_1 := Br.cell 1 (v := .string yq) rfl; have ca_0 := Ba.cell 0 (v := .string xq) rfl; have ca_1 := Ba.cell 1 (v := .string yq) rfl; have cb_0 := Bb.cell 0 (v := .string xq) rfl; have cb_1 := Bb.cell 1 (v := .string yq) rfl; have cz_0 := Bz.cell 0 (v := .string ⟨#[48]⟩) rfl; have cz_1 := Bz.cell 1 (v := .string ⟨#[49]⟩) rfl)
      | (go_at_call 24; (with_reducible refine (is_any ⟨#[48]⟩ ⟨#[49]⟩ _).mono ?_); rintro e wN ⟨rfl, hb⟩; have hZ := below_up hZ hb; have BX := BX.below hb; have Br := Br.below hb; have Ba := Ba.below hb; have Bb := Bb.below hb; have Bz := Bz.below hb; have cr_0 := Br.cell 0 (v := .string xq) rfl; have cr_1 := Br.cell 1 (v := .string yq) rfl; have ca_0 := Ba.cell 0 (v := .string xq) rfl; have ca_1 := Ba.cell 1 (v := .string yq) rfl; have cb_0 := Bb.cell 0 (v := .string xq) rfl; have cb_1 := Bb.cell 1 (v := .string yq) rfl; have cz_0 := Bz.cell 0 (v := .string ⟨#[48]⟩) rfl; have cz_1 := Bz.cell 1 (v := .string ⟨#[49]⟩) rfl)
      | (go_at_call 14; (with_reducible refine (CPr.out _ (hL.below hZ)).mono ?_); rintro e wN ⟨rfl, hb⟩; have hZ := below_up hZ hb; have BX := BX.below hb; have Br := Br.below hb; have Ba := Ba.below hb; have Bb := Bb.below hb; have Bz := Bz.below hb; have cr_0 := Br.cell 0 (v := .string xq) rfl; have cr_1 := Br.cell 1 (v := .string yq) rfl; have ca_0 := Ba.cell 0 (v := .string xq) rfl; have ca_1 := Ba.cell 1 (v := .string yq) rfl; have cb_0 := Bb.cell 0 (v := .string xq) rfl; have cb_1 := Bb.cell 1 (v := .string yq) rfl; have cz_0 := Bz.cell 0 (v := .string ⟨#[48]⟩) rfl; have cz_1 := Bz.cell 1 (v := .string ⟨#[49]⟩) rfl))
  all_goals (replace hL := hL.below hZ; replace hB := below_up hB hZ; clear hZ)
  all_goals go_wp2
  all_goals go_ret
  all_goals exact ⟨rfl, hB⟩

theorem lowest_any (x0 x1 x2 x3 f : Int) (hx0 : I64 x0) (hx1 : I64 x1) (hx2 : I64 x2) (hx3 : I64 x3) (hf : I64 f) (sign : Bool) (w : World) (hL : Laid w) :
    Calls Tryz.prog 4 #[.agg #[.int .i64 x0, .int .i64 x1, .int .i64 x2, .int .i64 x3], .int .i64 f, .bool sign] w (RetB w true) := by
  cases sign with
  | false => exact lowest_pos x0 x1 x2 x3 f hx0 hx1 hx2 hx3 hf w hL
  | true => exact lowest_neg x0 x1 x2 x3 f hx0 hx1 hx2 hx3 hf w hL

end Go.Proofs.YtnioinccflmdjaaGreatDoor
