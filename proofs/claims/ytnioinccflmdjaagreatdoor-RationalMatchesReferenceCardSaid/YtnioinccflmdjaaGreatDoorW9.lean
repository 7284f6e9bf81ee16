/- RationalField: its walk. Condition: the tables of strconv; the numbers are ints. -/
import Derived.Test.YtnioinccflmdjaaGreatDoorQ7
import Derived.Test.YtnioinccflmdjaaGreatDoorW3
import Derived.Test.YtnioinccflmdjaaGreatDoorW8
namespace Go.Proofs.YtnioinccflmdjaaGreatDoor
open Go.RowKit Num
open Go.Shelf

/-- A number of 64 bits. -/
def I64 (x : Int) : Prop := -9223372036854775808 ≤ x ∧ x ≤ 9223372036854775807

set_option maxHeartbeats 8000000 in
set_option maxRecDepth 100000 in
theorem field_short (x0 x1 x2 x3 y0 y1 y2 y3 z0 z1 : Int) (hx0 : I64 x0) (hx1 : I64 x1) (hx2 : I64 x2) (hx3 : I64 x3) (hy0 : I64 y0) (hy1 : I64 y1) (hy2 : I64 y2) (hy3 : I64 y3) (hz0 : I64 z0) (hz1 : I64 z1) (w : World) (hL : Laid w) :
    Calls Tryz.prog 8 #[.agg #[.int .i64 x0, .int .i64 x1, .int .i64 x2, .int .i64 x3], .agg #[.int .i64 y0, .int .i64 y1, .int .i64 y2, .int .i64 y3], .agg #[.int .i64 z0, .int .i64 z1], .bool false] w (RetB w true) := by
  have CSX := Lib.hid (fun w => small_any x0 x1 hx0.1 hx0.2 hx1.1 hx1.2 w)
  have CSY := Lib.hid (fun w => small_any y0 y1 hy0.1 hy0.2 hy1.1 hy1.2 w)
  have CSZ := Lib.hid (fun w => small_any z0 z1 hz0.1 hz0.2 hz1.1 hz1.2 w)
  have CLX := Lib.hid (fun w => long_any x0 x1 x2 x3 hx0.1 hx0.2 hx1.1 hx1.2 hx2.1 hx2.2 hx3.1 hx3.2 w)
  have CLY := Lib.hid (fun w => long_any y0 y1 y2 y3 hy0.1 hy0.2 hy1.1 hy1.2 hy2.1 hy2.2 hy3.1 hy3.2 w)
  clear hx0 hx1 hx2 hx3 hy0 hy1 hy2 hy3 hz0 hz1
  have hB : Below w.heap.size w w := Below.refl _ _
  go_enter Tryz.func8, Tryz.ntmps8
  go_upto_region 5 with (first
      | (go_at_call 11; (with_reducible refine (sane_any _ (hL.below (below_up (below_up (below1 w (.cells #[.int .i64 x0, .int .i64 x1, .int .i64 x2, .int .i64 x3] 24)) (below1 ((w.alloc (.cells #[.int .i64 x0, .int .i64 x1, .int .i64 x2, .int .i64 x3] 24))) (.cells #[.int .i64 y0, .int .i64 y1, .int .i64 y2, .int .i64 y3] 24))) (below1 (((w.alloc (.cells #[.int .i64 x0, .int .i64 x1, .int .i64 x2, .int .i64 x3] 24)).alloc (.cells #[.int .i64 y0, .int .i64 y1, .int .i64 y2, .int .i64 y3] 24))) (.cells #[.int .i64 z0, .int .i64 z1] 47))))).mono ?_); rintro e w1 ⟨rfl, hb⟩; have hp := below_up (below_up (below_up (below1 w (.cells #[.int .i64 x0, .int .i64 x1, .int .i64 x2, .int .i64 x3] 24)) (below1 ((w.alloc (.cells #[.int .i64 x0, .int .i64 x1, .int .i64 x2, .int .i64 x3] 24))) (.cells #[.int .i64 y0, .int .i64 y1, .int .i64 y2, .int .i64 y3] 24))) (below1 (((w.alloc (.cells #[.int .i64 x0, .int .i64 x1, .int .i64 x2, .int .i64 x3] 24)).alloc (.cells #[.int .i64 y0, .int .i64 y1, .int .i64 y2, .int .i64 y3] 24))) (.cells #[.int .i64 z0, .int .i64 z1] 47))) hb; have BX := (((Blk.new w 24 [.int .i64 x0, .int .i64 x1, .int .i64 x2, .int .i64 x3]).alloc _).alloc _).below hb; have BY := ((Blk.new2 w (.cells #[.int .i64 x0, .int .i64 x1, .int .i64 x2, .int .i64 x3] 24) 24 [.int .i64 y0, .int .i64 y1, .int .i64 y2, .int .i64 y3]).alloc _).below hb; have BZ := (Blk.new3 w (.cells #[.int .i64 x0, .int .i64 x1, .int .i64 x2, .int .i64 x3] 24) (.cells #[.int .i64 y0, .int .i64 y1, .int .i64 y2, .int .i64 y3] 24) 47 [.int .i64 z0, .int .i64 z1]).below hb; replace hL := hL.below hp; replace hB := below_up hB hp; clear hb hp; have cX_0 := BX.cell 0 (v := .int .i64 x0) rfl; have cX_1 := BX.cell 1 (v := .int .i64 x1) rfl; have cX_2 := BX.cell 2 (v := .int .i64 x2) rfl; have cX_3 := BX.cell 3 (v := .int .i64 x3) rfl; have cY_0 := BY.cell 0 (v := .int .i64 y0) rfl; have cY_1 := BY.cell 1 (v := .int .i64 y1) rfl; have cY_2 := BY.cell 2 (v := .int .i64 y2) rfl; have cY_3 := BY.cell 3 (v := .int .i64 y3) rfl; have cZ_0 := BZ.cell 0 (v := .int .i64 z0) rfl; have cZ_1 := BZ.cell 1 (v := .int .i64 z1) rfl)
      | (go_at_call 28; (with_reducible refine (CSX.out _).mono ?_); rintro e w2 ⟨p0, hp0, rfl, hb⟩; have hp := hb; replace BX := BX.below hp; replace BY := BY.below hp; replace BZ := BZ.below hp; clear cX_0 cX_1 cX_2 cX_3 cY_0 cY_1 cY_2 cY_3 cZ_0 cZ_1; replace hL := hL.below hp; replace hB := below_up hB hp; clear hb hp; have ltY := BY.lt; have cY_0 := (BY.below (below1 w2 (.cells #[.string (numT (some p0)), .string (denT (some p0))] 23))).cell 0 (v := .int .i64 y0) rfl; have cY_1 := (BY.below (below1 w2 (.cells #[.string (numT (some p0)), .string (denT (some p0))] 23))).cell 1 (v := .int .i64 y1) rfl; have cY_2 := (BY.below (below1 w2 (.cells #[.string (numT (some p0)), .string (denT (some p0))] 23))).cell 2 (v := .int .i64 y2) rfl; have cY_3 := (BY.below (below1 w2 (.cells #[.string (numT (some p0)), .string (denT (some p0))] 23))).cell 3 (v := .int .i64 y3) rfl; have cZ_0 := (BZ.below (below1 w2 (.cells #[.string (numT (some p0)), .string (denT (some p0))] 23))).cell 0 (v := .int .i64 z0) rfl; have cZ_1 := (BZ.below (below1 w2 (.cells #[.string (numT (some p0)), .string (denT (some p0))] 23))).cell 1 (v := .int .i64 z1) rfl; have cX_0 := (BX.below (below1 w2 (.cells #[.string (numT (some p0)), .string (denT (some p0))] 23))).cell 0 (v := .int .i64 x0) rfl; have cX_1 := (BX.below (below1 w2 (.cells #[.string (numT (some p0)), .string (denT (some p0))] 23))).cell 1 (v := .int .i64 x1) rfl; have cX_2 := (BX.below (below1 w2 (.cells #[.string (numT (some p0)), .string (denT (some p0))] 23))).cell 2 (v := .int .i64 x2) rfl; have cX_3 := (BX.below (below1 w2 (.cells #[.string (numT (some p0)), .string (denT (some p0))] 23))).cell 3 (v := .int .i64 x3) rfl)
      | (go_at_call 28; (with_reducible refine (CSY.out _).mono ?_); rintro e w3 ⟨q0, hq0, rfl, hb⟩; have hp := below_up (below1 w2 (.cells #[.string (numT (some p0)), .string (denT (some p0))] 23)) hb; replace BX := BX.below hp; replace BY := BY.below hp; replace BZ := BZ.below hp; have Ba := (Blk.new w2 23 [.string (numT (some p0)), .string (denT (some p0))]).below hb; clear cY_0 cY_1 cY_2 cY_3 cZ_0 cZ_1 cX_0 cX_1 cX_2 cX_3; replace hL := hL.below hp; replace hB := below_up hB hp; clear hb hp; have ltab := Ba.lt; have cZ_0 := (BZ.below (below1 w3 (.cells #[.string (numT (some q0)), .string (denT (some q0))] 23))).cell 0 (v := .int .i64 z0) rfl; have cZ_1 := (BZ.below (below1 w3 (.cells #[.string (numT (some q0)), .string (denT (some q0))] 23))).cell 1 (v := .int .i64 z1) rfl; have cX_0 := (BX.below (below1 w3 (.cells #[.string (numT (some q0)), .string (denT (some q0))] 23))).cell 0 (v := .int .i64 x0) rfl; have cX_1 := (BX.below (below1 w3 (.cells #[.string (numT (some q0)), .string (denT (some q0))] 23))).cell 1 (v := .int .i64 x1) rfl; have cX_2 := (BX.below (below1 w3 (.cells #[.string (numT (some q0)), .string (denT (some q0))] 23))).cell 2 (v := .int .i64 x2) rfl; have cX_3 := (BX.below (below1 w3 (.cells #[.string (numT (some q0)), .string (denT (some q0))] 23))).cell 3 (v := .int .i64 x3) rfl; have cY_0 := (BY.below (below1 w3 (.cells #[.string (numT (some q0)), .string (denT (some q0))] 23))).cell 0 (v := .int .i64 y0) rfl; have cY_1 := (BY.below (below1 w3 (.cells #[.string (numT (some q0)), .string (denT (some q0))] 23))).cell 1 (v := .int .i64 y1) rfl; have cY_2 := (BY.below (below1 w3 (.cells #[.string (numT (some q0)), .string (denT (some q0))] 23))).cell 2 (v := .int .i64 y2) rfl; have cY_3 := (BY.below (below1 w3 (.cells #[.string (numT (some q0)), .string (denT (some q0))] 23))).cell 3 (v := .int .i64 y3) rfl)
      | (go_at_call 28; (with_reducible refine (CSZ.out _).mono ?_); rintro e w4 ⟨r, hr, rfl, hb⟩; have hp := below_up (below1 w3 (.cells #[.string (numT (some q0)), .string (denT (some q0))] 23)) hb; replace BX := BX.below hp; replace BY := BY.below hp; replace BZ := BZ.below hp; replace Ba := Ba.below hp; have Bb := (Blk.new w3 23 [.string (numT (some q0)), .string (denT (some q0))]).below hb; clear cZ_0 cZ_1 cX_0 cX_1 cX_2 cX_3 cY_0 cY_1 cY_2 cY_3; replace hL := hL.below hp; replace hB := below_up hB hp; clear hb hp; have ltac := Ba.lt; have ltbc := Bb.lt; have cX_0 := (BX.below (below1 w4 (.cells #[.string (numT (some r)), .string (denT (some r))] 23))).cell 0 (v := .int .i64 x0) rfl; have cX_1 := (BX.below (below1 w4 (.cells #[.string (numT (some r)), .string (denT (some r))] 23))).cell 1 (v := .int .i64 x1) rfl; have cX_2 := (BX.below (below1 w4 (.cells #[.string (numT (some r)), .string (denT (some r))] 23))).cell 2 (v := .int .i64 x2) rfl; have cX_3 := (BX.below (below1 w4 (.cells #[.string (numT (some r)), .string (denT (some r))] 23))).cell 3 (v := .int .i64 x3) rfl; have cY_0 := (BY.below (below1 w4 (.cells #[.string (numT (some r)), .string (denT (some r))] 23))).cell 0 (v := .int .i64 y0) rfl; have cY_1 := (BY.below (below1 w4 (.cells #[.string (numT (some r)), .string (denT (some r))] 23))).cell 1 (v := .int .i64 y1) rfl; have cY_2 := (BY.below (below1 w4 (.cells #[.string (numT (some r)), .string (denT (some r))] 23))).cell 2 (v := .int .i64 y2) rfl; have cY_3 := (BY.below (below1 w4 (.cells #[.string (numT (some r)), .string (denT (some r))] 23))).cell 3 (v := .int .i64 y3) rfl; have ca_0 := (Ba.below (below1 w4 (.cells #[.string (numT (some r)), .string (denT (some r))] 23))).cell 0 (v := .string (numT (some p0))) rfl; have ca_1 := (Ba.below (below1 w4 (.cells #[.string (numT (some r)), .string (denT (some r))] 23))).cell 1 (v := .string (denT (some p0))) rfl; have cb_0 := (Bb.below (below1 w4 (.cells #[.string (numT (some r)), .string (denT (some r))] 23))).cell 0 (v := .string (numT (some q0))) rfl; have cb_1 := (Bb.below (below1 w4 (.cells #[.string (numT (some r)), .string (denT (some r))] 23))).cell 1 (v := .string (denT (some q0))) rfl))
  have hp := hp0.mono (l := 100) (by omega)
  have hq := hq0.mono (l := 100) (by omega)
  have hp3 := hp0
  have hq3 := hq0
  obtain ⟨p, hpe⟩ : ∃ p, p = p0 := ⟨_, rfl⟩
  subst hpe
  obtain ⟨q, hqe⟩ : ∃ q, q = q0 := ⟨_, rfl⟩
  subst hqe
  clear CLX CLY
  go_upto_region 8 with fail
  have hrp := rat_of (fit_some (hp.fit (by omega)))
  have hrq := rat_of (fit_some (hq.fit (by omega)))
  have hrr := rat_of (fit_some (hr.fit (by omega)))
  obtain ⟨oA, hA⟩ : ∃ o, op2Q addQ (some p) (some q) = o := ⟨_, rfl⟩
  obtain ⟨oS, hS⟩ : ∃ o, op2Q subQ (some p) (some q) = o := ⟨_, rfl⟩
  obtain ⟨oM, hM⟩ : ∃ o, op2Q mulQ (some p) (some q) = o := ⟨_, rfl⟩
  obtain ⟨oD, hD⟩ : ∃ o, op2Q divQ (some p) (some q) = o := ⟨_, rfl⟩
  obtain ⟨oJ, hJ⟩ : ∃ o, op2Q subQ (some q) (some p) = o := ⟨_, rfl⟩
  obtain ⟨oK, hK⟩ : ∃ o, op2Q divQ (some q) (some p) = o := ⟨_, rfl⟩
  obtain ⟨oE, hE⟩ : ∃ o, op2Q addQ (some q) (some r) = o := ⟨_, rfl⟩
  obtain ⟨oF, hF⟩ : ∃ o, op2Q subQ (some q) (some r) = o := ⟨_, rfl⟩
  obtain ⟨oG, hG⟩ : ∃ o, op2Q mulQ (some q) (some r) = o := ⟨_, rfl⟩
  obtain ⟨oH, hH⟩ : ∃ o, op2Q divQ (some q) (some r) = o := ⟨_, rfl⟩
  obtain ⟨oI, hI⟩ : ∃ o, op2Q addQ oA (some r) = o := ⟨_, rfl⟩
  obtain ⟨ob, hb⟩ : ∃ o, op2Q subQ oA (some r) = o := ⟨_, rfl⟩
  obtain ⟨od, hd⟩ : ∃ o, op2Q mulQ oA (some r) = o := ⟨_, rfl⟩
  obtain ⟨of, hf⟩ : ∃ o, op2Q divQ oA (some r) = o := ⟨_, rfl⟩
  obtain ⟨oN, hN⟩ : ∃ o, op2Q addQ (some p) oE = o := ⟨_, rfl⟩
  obtain ⟨oO, hO⟩ : ∃ o, op2Q mulQ (some p) oG = o := ⟨_, rfl⟩
  obtain ⟨oP, hP⟩ : ∃ o, op2Q mulQ oM (some r) = o := ⟨_, rfl⟩
  obtain ⟨oQ, hQ⟩ : ∃ o, op2Q mulQ (some p) (some r) = o := ⟨_, rfl⟩
  obtain ⟨oR, hR⟩ : ∃ o, op2Q addQ oQ oG = o := ⟨_, rfl⟩
  obtain ⟨oT, hT⟩ : ∃ o, op2Q mulQ oA (some r) = o := ⟨_, rfl⟩
  obtain ⟨oU, hU⟩ : ∃ o, op2Q subQ oA (some q) = o := ⟨_, rfl⟩
  obtain ⟨oV, hV⟩ : ∃ o, op2Q mulQ oD (some q) = o := ⟨_, rfl⟩
  have hrA : ratO (numT oA) (denT oA) = oA := Fit.rat (by rw [← hA]; exact fit_add _ _)
  have hrE : ratO (numT oE) (denT oE) = oE := Fit.rat (by rw [← hE]; exact fit_add _ _)
  have hrG : ratO (numT oG) (denT oG) = oG := Fit.rat (by rw [← hG]; exact fit_mul _ _)
  have hrM : ratO (numT oM) (denT oM) = oM := Fit.rat (by rw [← hM]; exact fit_mul _ _)
  have hrQ : ratO (numT oQ) (denT oQ) = oQ := Fit.rat (by rw [← hQ]; exact fit_mul _ _)
  have hrD : ratO (numT oD) (denT oD) = oD := Fit.rat (by rw [← hD]; exact fit_div _ _)
  have C1 := Lib.hid (fun w hL => four_any hrp hrq hA hS hM hD w hL)
  have C2 := Lib.hid (fun w hL => four_any hrq hrp ((op_add_comm _ _).trans hA) hJ ((op_mul_comm _ _).trans hM) hK w hL)
  have C3 := Lib.hid (fun w hL => four_any hrq hrr hE hF hG hH w hL)
  have C4 := Lib.hid (fun w hL => four_any hrA hrr hI hb hd hf w hL)
  have C50 := fun w hL => qk (add_r hrp hrE hN w hL)
  have C60 := fun w hL => qk (mul_r hrp hrG hO w hL)
  have C70 := fun w hL => qk (mul_r hrM hrr hP w hL)
  have C80 := fun w hL => qk (mul_r hrp hrr hQ w hL)
  have C90 := fun w hL => qk (add_r hrQ hrG hR w hL)
  have C100 := fun w hL => qk (mul_r hrA hrr hT w hL)
  have C110 := fun w hL => qk (sub_r hrA hrq hU w hL)
  have C120 := fun w hL => qk (mul_r hrD hrq hV w hL)
  have K10 := (law_assoc_add hA hE hI hN)
  have K20 := (law_assoc_mul hM hG hO hP)
  have K30 := (law_dist hA hQ hG hR hT)
  have K40 := (law_back hA hU)
  have K50 := (law_again hD hV)
  generalize errT oN = kN at *
  generalize errT oO = kO at *
  generalize errT oP = kP at *
  generalize errT oQ = kQ at *
  generalize errT oR = kR at *
  generalize errT oT = kT at *
  generalize errT oU = kU at *
  generalize errT oV = kV at *
  have C5 := Lib.hid C50
  have C6 := Lib.hid C60
  have C7 := Lib.hid C70
  have C8 := Lib.hid C80
  have C9 := Lib.hid C90
  have C10 := Lib.hid C100
  have C11 := Lib.hid C110
  have C12 := Lib.hid C120
  have K1 := Lib.hid K10
  have K2 := Lib.hid K20
  have K3 := Lib.hid K30
  have K4 := Lib.hid K40
  have K5 := Lib.hid K50
  clear C50 C60 C70 C80 C90 C100 C110 C120 K10 K20 K30 K40 K50
  have hA0 : (errT oA == 0) = true := by rw [← hA, add_lim hp3 hq3 (by omega)]; rfl
  have hM0 : (errT oM == 0) = true := by rw [← hM, mul_lim hp3 hq3 (by omega)]; rfl
  have hA1 : (errT oA != 0) = false := by simp only [bne, hA0]; rfl
  have hM1 : (errT oM != 0) = false := by simp only [bne, hM0]; rfl
  clear hA hS hM hD hJ hK hE hF hG hH hI hb hd hf hN hO hP hQ hR hT hU hV hrp hrq hrr hrA hrE hrG hrM hrQ hrD
  have ca_0 := (Ba.below (below1 w4 (.cells #[.string (numT (some r)), .string (denT (some r))] 23))).cell 0 (v := .string (numT (some p))) rfl
  have ca_1 := (Ba.below (below1 w4 (.cells #[.string (numT (some r)), .string (denT (some r))] 23))).cell 1 (v := .string (denT (some p))) rfl
  have cb_0 := (Bb.below (below1 w4 (.cells #[.string (numT (some r)), .string (denT (some r))] 23))).cell 0 (v := .string (numT (some q))) rfl
  have cb_1 := (Bb.below (below1 w4 (.cells #[.string (numT (some r)), .string (denT (some r))] 23))).cell 1 (v := .string (denT (some q))) rfl
  go_upto_region 15 with (first
      | (go_at_call 29; (with_reducible refine (C1.out _ (hL.below (below1 w4 (.cells #[.string (numT (some r)), .string (denT (some r))] 23)))).mono ?_); rintro e w5 ⟨rfl, hb⟩; have hp := below_up (below1 w4 (.cells #[.string (numT (some r)), .string (denT (some r))] 23)) hb; replace BX := BX.below hp; replace BY := BY.below hp; replace BZ := BZ.below hp; replace Ba := Ba.below hp; replace Bb := Bb.below hp; have Bc := (Blk.new w4 23 [.string (numT (some r)), .string (denT (some r))]).below hb; clear cX_0 cX_1 cX_2 cX_3 cY_0 cY_1 cY_2 cY_3 ca_0 ca_1 cb_0 cb_1; replace hL := hL.below hp; replace hB := below_up hB hp; clear hb hp; have ca_0 := (Ba.below (below_up (below1 w5 (.cells #[.string (numT oA), .string (denT oA), .string (numT oS), .string (denT oS), .string (numT oM), .string (denT oM), .string (numT oD), .string (denT oD)] 49)) (below1 ((w5.alloc (.cells #[.string (numT oA), .string (denT oA), .string (numT oS), .string (denT oS), .string (numT oM), .string (denT oM), .string (numT oD), .string (denT oD)] 49))) (.cells #[.int .i64 (errT oA), .int .i64 (errT oS), .int .i64 (errT oM), .int .i64 (errT oD)] 50)))).cell 0 (v := .string (numT (some p))) rfl; have ca_1 := (Ba.below (below_up (below1 w5 (.cells #[.string (numT oA), .string (denT oA), .string (numT oS), .string (denT oS), .string (numT oM), .string (denT oM), .string (numT oD), .string (denT oD)] 49)) (below1 ((w5.alloc (.cells #[.string (numT oA), .string (denT oA), .string (numT oS), .string (denT oS), .string (numT oM), .string (denT oM), .string (numT oD), .string (denT oD)] 49))) (.cells #[.int .i64 (errT oA), .int .i64 (errT oS), .int .i64 (errT oM), .int .i64 (errT oD)] 50)))).cell 1 (v := .string (denT (some p))) rfl; have cb_0 := (Bb.below (below_up (below1 w5 (.cells #[.string (numT oA), .string (denT oA), .string (numT oS), .string (denT oS), .string (numT oM), .string (denT oM), .string (numT oD), .string (denT oD)] 49)) (below1 ((w5.alloc (.cells #[.string (numT oA), .string (denT oA), .string (numT oS), .string (denT oS), .string (numT oM), .string (denT oM), .string (numT oD), .string (denT oD)] 49))) (.cells #[.int .i64 (errT oA), .int .i64 (errT oS), .int .i64 (errT oM), .int .i64 (errT oD)] 50)))).cell 0 (v := .string (numT (some q))) rfl; have cb_1 := (Bb.below (below_up (below1 w5 (.cells #[.string (numT oA), .string (denT oA), .string (numT oS), .string (denT oS), .string (numT oM), .string (denT oM), .string (numT oD), .string (denT oD)] 49)) (below1 ((w5.alloc (.cells #[.string (numT oA), .string (denT oA), .string (numT oS), .string (denT oS), .string (numT oM), .string (denT oM), .string (numT oD), .string (denT oD)] 49))) (.cells #[.int .i64 (errT oA), .int .i64 (errT oS), .int .i64 (errT oM), .int .i64 (errT oD)] 50)))).cell 1 (v := .string (denT (some q))) rfl)
      | (go_at_call 29; (with_reducible refine (C2.out _ (hL.below (below_up (below1 w5 (.cells #[.string (numT oA), .string (denT oA), .string (numT oS), .string (denT oS), .string (numT oM), .string (denT oM), .string (numT oD), .string (denT oD)] 49)) (below1 ((w5.alloc (.cells #[.string (numT oA), .string (denT oA), .string (numT oS), .string (denT oS), .string (numT oM), .string (denT oM), .string (numT oD), .string (denT oD)] 49))) (.cells #[.int .i64 (errT oA), .int .i64 (errT oS), .int .i64 (errT oM), .int .i64 (errT oD)] 50))))).mono ?_); rintro e w6 ⟨rfl, hb⟩; have hp := below_up (below_up (below1 w5 (.cells #[.string (numT oA), .string (denT oA), .string (numT oS), .string (denT oS), .string (numT oM), .string (denT oM), .string (numT oD), .string (denT oD)] 49)) (below1 ((w5.alloc (.cells #[.string (numT oA), .string (denT oA), .string (numT oS), .string (denT oS), .string (numT oM), .string (denT oM), .string (numT oD), .string (denT oD)] 49))) (.cells #[.int .i64 (errT oA), .int .i64 (errT oS), .int .i64 (errT oM), .int .i64 (errT oD)] 50))) hb; replace BX := BX.below hp; replace BY := BY.below hp; replace BZ := BZ.below hp; replace Ba := Ba.below hp; replace Bb := Bb.below hp; replace Bc := Bc.below hp; have Br := ((Blk.new w5 49 [.string (numT oA), .string (denT oA), .string (numT oS), .string (denT oS), .string (numT oM), .string (denT oM), .string (numT oD), .string (denT oD)]).alloc _).below hb; have Be := (Blk.new2 w5 (.cells #[.string (numT oA), .string (denT oA), .string (numT oS), .string (denT oS), .string (numT oM), .string (denT oM), .string (numT oD), .string (denT oD)] 49) 50 [.int .i64 (errT oA), .int .i64 (errT oS), .int .i64 (errT oM), .int .i64 (errT oD)]).below hb; clear ca_0 ca_1 cb_0 cb_1; replace hL := hL.below hp; replace hB := below_up hB hp; clear hb hp; have cr_0 := (Br.below (below_up (below1 w6 (.cells #[.string (numT oA), .string (denT oA), .string (numT oJ), .string (denT oJ), .string (numT oM), .string (denT oM), .string (numT oK), .string (denT oK)] 49)) (below1 ((w6.alloc (.cells #[.string (numT oA), .string (denT oA), .string (numT oJ), .string (denT oJ), .string (numT oM), .string (denT oM), .string (numT oK), .string (denT oK)] 49))) (.cells #[.int .i64 (errT oA), .int .i64 (errT oJ), .int .i64 (errT oM), .int .i64 (errT oK)] 50)))).cell 0 (v := .string (numT oA)) rfl; have cr_1 := (Br.below (below_up (below1 w6 (.cells #[.string (numT oA), .string (denT oA), .string (numT oJ), .string (denT oJ), .string (numT oM), .string (denT oM), .string (numT oK), .string (denT oK)] 49)) (below1 ((w6.alloc (.cells #[.string (numT oA), .string (denT oA), .string (numT oJ), .string (denT oJ), .string (numT oM), .string (denT oM), .string (numT oK), .string (denT oK)] 49))) (.cells #[.int .i64 (errT oA), .int .i64 (errT oJ), .int .i64 (errT oM), .int .i64 (errT oK)] 50)))).cell 1 (v := .string (denT oA)) rfl; have cr_4 := (Br.below (below_up (below1 w6 (.cells #[.string (numT oA), .string (denT oA), .string (numT oJ), .string (denT oJ), .string (numT oM), .string (denT oM), .string (numT oK), .string (denT oK)] 49)) (below1 ((w6.alloc (.cells #[.string (numT oA), .string (denT oA), .string (numT oJ), .string (denT oJ), .string (numT oM), .string (denT oM), .string (numT oK), .string (denT oK)] 49))) (.cells #[.int .i64 (errT oA), .int .i64 (errT oJ), .int .i64 (errT oM), .int .i64 (errT oK)] 50)))).cell 4 (v := .string (numT oM)) rfl; have cr_5 := (Br.below (below_up (below1 w6 (.cells #[.string (numT oA), .string (denT oA), .string (numT oJ), .string (denT oJ), .string (numT oM), .string (denT oM), .string (numT oK), .string (denT oK)] 49)) (below1 ((w6.alloc (.cells #[.string (numT oA), .string (denT oA), .string (numT oJ), .string (denT oJ), .string (numT oM), .string (denT oM), .string (numT oK), .string (denT oK)] 49))) (.cells #[.int .i64 (errT oA), .int .i64 (errT oJ), .int .i64 (errT oM), .int .i64 (errT oK)] 50)))).cell 5 (v := .string (denT oM)) rfl; have ce_0 := (Be.below (below_up (below1 w6 (.cells #[.string (numT oA), .string (denT oA), .string (numT oJ), .string (denT oJ), .string (numT oM), .string (denT oM), .string (numT oK), .string (denT oK)] 49)) (below1 ((w6.alloc (.cells #[.string (numT oA), .string (denT oA), .string (numT oJ), .string (denT oJ), .string (numT oM), .string (denT oM), .string (numT oK), .string (denT oK)] 49))) (.cells #[.int .i64 (errT oA), .int .i64 (errT oJ), .int .i64 (errT oM), .int .i64 (errT oK)] 50)))).cell 0 (v := .int .i64 (errT oA)) rfl; have ce_2 := (Be.below (below_up (below1 w6 (.cells #[.string (numT oA), .string (denT oA), .string (numT oJ), .string (denT oJ), .string (numT oM), .string (denT oM), .string (numT oK), .string (denT oK)] 49)) (below1 ((w6.alloc (.cells #[.string (numT oA), .string (denT oA), .string (numT oJ), .string (denT oJ), .string (numT oM), .string (denT oM), .string (numT oK), .string (denT oK)] 49))) (.cells #[.int .i64 (errT oA), .int .i64 (errT oJ), .int .i64 (errT oM), .int .i64 (errT oK)] 50)))).cell 2 (v := .int .i64 (errT oM)) rfl; have cb_0 := (Bb.below (below_up (below1 w6 (.cells #[.string (numT oA), .string (denT oA), .string (numT oJ), .string (denT oJ), .string (numT oM), .string (denT oM), .string (numT oK), .string (denT oK)] 49)) (below1 ((w6.alloc (.cells #[.string (numT oA), .string (denT oA), .string (numT oJ), .string (denT oJ), .string (numT oM), .string (denT oM), .string (numT oK), .string (denT oK)] 49))) (.cells #[.int .i64 (errT oA), .int .i64 (errT oJ), .int .i64 (errT oM), .int .i64 (errT oK)] 50)))).cell 0 (v := .string (numT (some q))) rfl; have cb_1 := (Bb.below (below_up (below1 w6 (.cells #[.string (numT oA), .string (denT oA), .string (numT oJ), .string (denT oJ), .string (numT oM), .string (denT oM), .string (numT oK), .string (denT oK)] 49)) (below1 ((w6.alloc (.cells #[.string (numT oA), .string (denT oA), .string (numT oJ), .string (denT oJ), .string (numT oM), .string (denT oM), .string (numT oK), .string (denT oK)] 49))) (.cells #[.int .i64 (errT oA), .int .i64 (errT oJ), .int .i64 (errT oM), .int .i64 (errT oK)] 50)))).cell 1 (v := .string (denT (some q))) rfl; have cc_0 := (Bc.below (below_up (below1 w6 (.cells #[.string (numT oA), .string (denT oA), .string (numT oJ), .string (denT oJ), .string (numT oM), .string (denT oM), .string (numT oK), .string (denT oK)] 49)) (below1 ((w6.alloc (.cells #[.string (numT oA), .string (denT oA), .string (numT oJ), .string (denT oJ), .string (numT oM), .string (denT oM), .string (numT oK), .string (denT oK)] 49))) (.cells #[.int .i64 (errT oA), .int .i64 (errT oJ), .int .i64 (errT oM), .int .i64 (errT oK)] 50)))).cell 0 (v := .string (numT (some r))) rfl; have cc_1 := (Bc.below (below_up (below1 w6 (.cells #[.string (numT oA), .string (denT oA), .string (numT oJ), .string (denT oJ), .string (numT oM), .string (denT oM), .string (numT oK), .string (denT oK)] 49)) (below1 ((w6.alloc (.cells #[.string (numT oA), .string (denT oA), .string (numT oJ), .string (denT oJ), .string (numT oM), .string (denT oM), .string (numT oK), .string (denT oK)] 49))) (.cells #[.int .i64 (errT oA), .int .i64 (errT oJ), .int .i64 (errT oM), .int .i64 (errT oK)] 50)))).cell 1 (v := .string (denT (some r))) rfl)
      | (go_at_call 29; (with_reducible refine (C3.out _ (hL.below (below_up (below1 w6 (.cells #[.string (numT oA), .string (denT oA), .string (numT oJ), .string (denT oJ), .string (numT oM), .string (denT oM), .string (numT oK), .string (denT oK)] 49)) (below1 ((w6.alloc (.cells #[.string (numT oA), .string (denT oA), .string (numT oJ), .string (denT oJ), .string (numT oM), .string (denT oM), .string (numT oK), .string (denT oK)] 49))) (.cells #[.int .i64 (errT oA), .int .i64 (errT oJ), .int .i64 (errT oM), .int .i64 (errT oK)] 50))))).mono ?_); rintro e w7 ⟨rfl, hb⟩; have hp := below_up (below_up (below1 w6 (.cells #[.string (numT oA), .string (denT oA), .string (numT oJ), .string (denT oJ), .string (numT oM), .string (denT oM), .string (numT oK), .string (denT oK)] 49)) (below1 ((w6.alloc (.cells #[.string (numT oA), .string (denT oA), .string (numT oJ), .string (denT oJ), .string (numT oM), .string (denT oM), .string (numT oK), .string (denT oK)] 49))) (.cells #[.int .i64 (errT oA), .int .i64 (errT oJ), .int .i64 (errT oM), .int .i64 (errT oK)] 50))) hb; replace BX := BX.below hp; replace BY := BY.below hp; replace BZ := BZ.below hp; replace Ba := Ba.below hp; replace Bb := Bb.below hp; replace Bc := Bc.below hp; replace Br := Br.below hp; replace Be := Be.below hp; have Bs := ((Blk.new w6 49 [.string (numT oA), .string (denT oA), .string (numT oJ), .string (denT oJ), .string (numT oM), .string (denT oM), .string (numT oK), .string (denT oK)]).alloc _).below hb; have Bf := (Blk.new2 w6 (.cells #[.string (numT oA), .string (denT oA), .string (numT oJ), .string (denT oJ), .string (numT oM), .string (denT oM), .string (numT oK), .string (denT oK)] 49) 50 [.int .i64 (errT oA), .int .i64 (errT oJ), .int .i64 (errT oM), .int .i64 (errT oK)]).below hb; clear cr_0 cr_1 cr_4 cr_5 ce_0 ce_2 cb_0 cb_1 cc_0 cc_1; replace hL := hL.below hp; replace hB := below_up hB hp; clear hb hp; have cr_0 := (Br.below (below_up (below1 w7 (.cells #[.string (numT oE), .string (denT oE), .string (numT oF), .string (denT oF), .string (numT oG), .string (denT oG), .string (numT oH), .string (denT oH)] 49)) (below1 ((w7.alloc (.cells #[.string (numT oE), .string (denT oE), .string (numT oF), .string (denT oF), .string (numT oG), .string (denT oG), .string (numT oH), .string (denT oH)] 49))) (.cells #[.int .i64 (errT oE), .int .i64 (errT oF), .int .i64 (errT oG), .int .i64 (errT oH)] 50)))).cell 0 (v := .string (numT oA)) rfl; have cr_1 := (Br.below (below_up (below1 w7 (.cells #[.string (numT oE), .string (denT oE), .string (numT oF), .string (denT oF), .string (numT oG), .string (denT oG), .string (numT oH), .string (denT oH)] 49)) (below1 ((w7.alloc (.cells #[.string (numT oE), .string (denT oE), .string (numT oF), .string (denT oF), .string (numT oG), .string (denT oG), .string (numT oH), .string (denT oH)] 49))) (.cells #[.int .i64 (errT oE), .int .i64 (errT oF), .int .i64 (errT oG), .int .i64 (errT oH)] 50)))).cell 1 (v := .string (denT oA)) rfl; have cc_0 := (Bc.below (below_up (below1 w7 (.cells #[.string (numT oE), .string (denT oE), .string (numT oF), .string (denT oF), .string (numT oG), .string (denT oG), .string (numT oH), .string (denT oH)] 49)) (below1 ((w7.alloc (.cells #[.string (numT oE), .string (denT oE), .string (numT oF), .string (denT oF), .string (numT oG), .string (denT oG), .string (numT oH), .string (denT oH)] 49))) (.cells #[.int .i64 (errT oE), .int .i64 (errT oF), .int .i64 (errT oG), .int .i64 (errT oH)] 50)))).cell 0 (v := .string (numT (some r))) rfl; have cc_1 := (Bc.below (below_up (below1 w7 (.cells #[.string (numT oE), .string (denT oE), .string (numT oF), .string (denT oF), .string (numT oG), .string (denT oG), .string (numT oH), .string (denT oH)] 49)) (below1 ((w7.alloc (.cells #[.string (numT oE), .string (denT oE), .string (numT oF), .string (denT oF), .string (numT oG), .string (denT oG), .string (numT oH), .string (denT oH)] 49))) (.cells #[.int .i64 (errT oE), .int .i64 (errT oF), .int .i64 (errT oG), .int .i64 (errT oH)] 50)))).cell 1 (v := .string (denT (some r))) rfl)
      | (go_at_call 29; (with_reducible refine (C4.out _ (hL.below (below_up (below1 w7 (.cells #[.string (numT oE), .string (denT oE), .string (numT oF), .string (denT oF), .string (numT oG), .string (denT oG), .string (numT oH), .string (denT oH)] 49)) (below1 ((w7.alloc (.cells #[.string (numT oE), .string (denT oE), .string (numT oF), .string (denT oF), .string (numT oG), .string (denT oG), .string (numT oH), .string (denT oH)] 49))) (.cells #[.int .i64 (errT oE), .int .i64 (errT oF), .int .i64 (errT oG), .int .i64 (errT oH)] 50))))).mono ?_); rintro e w8 ⟨rfl, hb⟩; have hp := below_up (below_up (below1 w7 (.cells #[.string (numT oE), .string (denT oE), .string (numT oF), .string (denT oF), .string (numT oG), .string (denT oG), .string (numT oH), .string (denT oH)] 49)) (below1 ((w7.alloc (.cells #[.string (numT oE), .string (denT oE), .string (numT oF), .string (denT oF), .string (numT oG), .string (denT oG), .string (numT oH), .string (denT oH)] 49))) (.cells #[.int .i64 (errT oE), .int .i64 (errT oF), .int .i64 (errT oG), .int .i64 (errT oH)] 50))) hb; replace BX := BX.below hp; replace BY := BY.below hp; replace BZ := BZ.below hp; replace Ba := Ba.below hp; replace Bb := Bb.below hp; replace Bc := Bc.below hp; replace Br := Br.below hp; replace Be := Be.below hp; replace Bs := Bs.below hp; replace Bf := Bf.below hp; have Bbc := ((Blk.new w7 49 [.string (numT oE), .string (denT oE), .string (numT oF), .string (denT oF), .string (numT oG), .string (denT oG), .string (numT oH), .string (denT oH)]).alloc _).below hb; have Bg := (Blk.new2 w7 (.cells #[.string (numT oE), .string (denT oE), .string (numT oF), .string (denT oF), .string (numT oG), .string (denT oG), .string (numT oH), .string (denT oH)] 49) 50 [.int .i64 (errT oE), .int .i64 (errT oF), .int .i64 (errT oG), .int .i64 (errT oH)]).below hb; clear cr_0 cr_1 cc_0 cc_1; replace hL := hL.below hp; replace hB := below_up hB hp; clear hb hp; have ca_0 := (Ba.below (below_up (below1 w8 (.cells #[.string (numT oI), .string (denT oI), .string (numT ob), .string (denT ob), .string (numT od), .string (denT od), .string (numT of), .string (denT of)] 49)) (below1 ((w8.alloc (.cells #[.string (numT oI), .string (denT oI), .string (numT ob), .string (denT ob), .string (numT od), .string (denT od), .string (numT of), .string (denT of)] 49))) (.cells #[.int .i64 (errT oI), .int .i64 (errT ob), .int .i64 (errT od), .int .i64 (errT of)] 50)))).cell 0 (v := .string (numT (some p))) rfl; have ca_1 := (Ba.below (below_up (below1 w8 (.cells #[.string (numT oI), .string (denT oI), .string (numT ob), .string (denT ob), .string (numT od), .string (denT od), .string (numT of), .string (denT of)] 49)) (below1 ((w8.alloc (.cells #[.string (numT oI), .string (denT oI), .string (numT ob), .string (denT ob), .string (numT od), .string (denT od), .string (numT of), .string (denT of)] 49))) (.cells #[.int .i64 (errT oI), .int .i64 (errT ob), .int .i64 (errT od), .int .i64 (errT of)] 50)))).cell 1 (v := .string (denT (some p))) rfl; have cbc_0 := (Bbc.below (below_up (below1 w8 (.cells #[.string (numT oI), .string (denT oI), .string (numT ob), .string (denT ob), .string (numT od), .string (denT od), .string (numT of), .string (denT of)] 49)) (below1 ((w8.alloc (.cells #[.string (numT oI), .string (denT oI), .string (numT ob), .string (denT ob), .string (numT od), .string (denT od), .string (numT of), .string (denT of)] 49))) (.cells #[.int .i64 (errT oI), .int .i64 (errT ob), .int .i64 (errT od), .int .i64 (errT of)] 50)))).cell 0 (v := .string (numT oE)) rfl; have cbc_1 := (Bbc.below (below_up (below1 w8 (.cells #[.string (numT oI), .string (denT oI), .string (numT ob), .string (denT ob), .string (numT od), .string (denT od), .string (numT of), .string (denT of)] 49)) (below1 ((w8.alloc (.cells #[.string (numT oI), .string (denT oI), .string (numT ob), .string (denT ob), .string (numT od), .string (denT od), .string (numT of), .string (denT of)] 49))) (.cells #[.int .i64 (errT oI), .int .i64 (errT ob), .int .i64 (errT od), .int .i64 (errT of)] 50)))).cell 1 (v := .string (denT oE)) rfl)
      | (go_at_call 27; (with_reducible refine (C5.out _ (hL.below (below_up (below1 w8 (.cells #[.string (numT oI), .string (denT oI), .string (numT ob), .string (denT ob), .string (numT od), .string (denT od), .string (numT of), .string (denT of)] 49)) (below1 ((w8.alloc (.cells #[.string (numT oI), .string (denT oI), .string (numT ob), .string (denT ob), .string (numT od), .string (denT od), .string (numT of), .string (denT of)] 49))) (.cells #[.int .i64 (errT oI), .int .i64 (errT ob), .int .i64 (errT od), .int .i64 (errT of)] 50))))).mono ?_); rintro e w9 ⟨rfl, hb⟩; have hp := below_up (below_up (below1 w8 (.cells #[.string (numT oI), .string (denT oI), .string (numT ob), .string (denT ob), .string (numT od), .string (denT od), .string (numT of), .string (denT of)] 49)) (below1 ((w8.alloc (.cells #[.string (numT oI), .string (denT oI), .string (numT ob), .string (denT ob), .string (numT od), .string (denT od), .string (numT of), .string (denT of)] 49))) (.cells #[.int .i64 (errT oI), .int .i64 (errT ob), .int .i64 (errT od), .int .i64 (errT of)] 50))) hb; replace BX := BX.below hp; replace BY := BY.below hp; replace BZ := BZ.below hp; replace Ba := Ba.below hp; replace Bb := Bb.below hp; replace Bc := Bc.below hp; replace Br := Br.below hp; replace Be := Be.below hp; replace Bs := Bs.below hp; replace Bf := Bf.below hp; replace Bbc := Bbc.below hp; replace Bg := Bg.below hp; have Bab := ((Blk.new w8 49 [.string (numT oI), .string (denT oI), .string (numT ob), .string (denT ob), .string (numT od), .string (denT od), .string (numT of), .string (denT of)]).alloc _).below hb; have Bh := (Blk.new2 w8 (.cells #[.string (numT oI), .string (denT oI), .string (numT ob), .string (denT ob), .string (numT od), .string (denT od), .string (numT of), .string (denT of)] 49) 50 [.int .i64 (errT oI), .int .i64 (errT ob), .int .i64 (errT od), .int .i64 (errT of)]).below hb; clear ca_0 ca_1 cbc_0 cbc_1; replace hL := hL.below hp; replace hB := below_up hB hp; clear hb hp; have ce_0 := (Be.below (below1 w9 (.cells #[.string (numT oN), .string (denT oN)] 23))).cell 0 (v := .int .i64 (errT oA)) rfl; have cg_0 := (Bg.below (below1 w9 (.cells #[.string (numT oN), .string (denT oN)] 23))).cell 0 (v := .int .i64 (errT oE)) rfl; have ch_0 := (Bh.below (below1 w9 (.cells #[.string (numT oN), .string (denT oN)] 23))).cell 0 (v := .int .i64 (errT oI)) rfl; have cab_0 := (Bab.below (below1 w9 (.cells #[.string (numT oN), .string (denT oN)] 23))).cell 0 (v := .string (numT oI)) rfl; have cab_1 := (Bab.below (below1 w9 (.cells #[.string (numT oN), .string (denT oN)] 23))).cell 1 (v := .string (denT oI)) rfl))
  go_cut [151] (fun s151 wx => s151 = .bool false ∧ wx = (w9.alloc (.cells #[.string (numT oN), .string (denT oN)] 23)))
  case first => as_aux_lemma =>
    by_cases hc0 : (errT oE == 0) = true
    rotate_left
    · replace hc0 := (Bool.not_eq_true _).mp hc0
      have hd0 : (errT oE != 0) = true := by simp only [bne, hc0]; rfl
      go_wp2_with fail
      go_meet
      exact ⟨rfl, rfl⟩
    have hd0 : (errT oE != 0) = false := by simp only [bne, hc0]; rfl
    by_cases hc1 : (errT oI == 0) = true
    rotate_left
    · replace hc1 := (Bool.not_eq_true _).mp hc1
      have hd1 : (errT oI != 0) = true := by simp only [bne, hc1]; rfl
      go_wp2_with fail
      go_meet
      exact ⟨rfl, rfl⟩
    have hd1 : (errT oI != 0) = false := by simp only [bne, hc1]; rfl
    by_cases hc2 : kN = 0
    rotate_left
    · replace hc2 : (kN == 0) = false := beq_eq_false_iff_ne.2 hc2
      have hd2 : (kN != 0) = true := by simp only [bne, hc2]; rfl
      go_wp2_with fail
      go_meet
      exact ⟨rfl, rfl⟩
    subst hc2
    obtain rfl := K1.out hA0 hc0 hc1 rfl
    go_wp2_with fail
    go_meet
    exact ⟨rfl, rfl⟩
  case rest => as_aux_lemma =>
    obtain ⟨rfl, rfl⟩ := hcut
    have ca_0 := (Ba.below (below1 w9 (.cells #[.string (numT oN), .string (denT oN)] 23))).cell 0 (v := .string (numT (some p))) rfl
    have ca_1 := (Ba.below (below1 w9 (.cells #[.string (numT oN), .string (denT oN)] 23))).cell 1 (v := .string (denT (some p))) rfl
    have cbc_4 := (Bbc.below (below1 w9 (.cells #[.string (numT oN), .string (denT oN)] 23))).cell 4 (v := .string (numT oG)) rfl
    have cbc_5 := (Bbc.below (below1 w9 (.cells #[.string (numT oN), .string (denT oN)] 23))).cell 5 (v := .string (denT oG)) rfl
    go_upto_region 19 with (first
        | (go_at_call 25; (with_reducible refine (C6.out _ (hL.below (below1 w9 (.cells #[.string (numT oN), .string (denT oN)] 23)))).mono ?_); rintro e w10 ⟨rfl, hb⟩; have hp := below_up (below1 w9 (.cells #[.string (numT oN), .string (denT oN)] 23)) hb; replace BX := BX.below hp; replace BY := BY.below hp; replace BZ := BZ.below hp; replace Ba := Ba.below hp; replace Bb := Bb.below hp; replace Bc := Bc.below hp; replace Br := Br.below hp; replace Be := Be.below hp; replace Bs := Bs.below hp; replace Bf := Bf.below hp; replace Bbc := Bbc.below hp; replace Bg := Bg.below hp; replace Bab := Bab.below hp; replace Bh := Bh.below hp; have Bone := (Blk.new w9 23 [.string (numT oN), .string (denT oN)]).below hb; clear ce_0 cg_0 ch_0 cab_0 cab_1 ca_0 ca_1 cbc_4 cbc_5; replace hL := hL.below hp; replace hB := below_up hB hp; clear hb hp; have cr_4 := (Br.below (below1 w10 (.cells #[.string (numT oO), .string (denT oO)] 23))).cell 4 (v := .string (numT oM)) rfl; have cr_5 := (Br.below (below1 w10 (.cells #[.string (numT oO), .string (denT oO)] 23))).cell 5 (v := .string (denT oM)) rfl; have cc_0 := (Bc.below (below1 w10 (.cells #[.string (numT oO), .string (denT oO)] 23))).cell 0 (v := .string (numT (some r))) rfl; have cc_1 := (Bc.below (below1 w10 (.cells #[.string (numT oO), .string (denT oO)] 23))).cell 1 (v := .string (denT (some r))) rfl)
        | (go_at_call 25; (with_reducible refine (C7.out _ (hL.below (below1 w10 (.cells #[.string (numT oO), .string (denT oO)] 23)))).mono ?_); rintro e w11 ⟨rfl, hb⟩; have hp := below_up (below1 w10 (.cells #[.string (numT oO), .string (denT oO)] 23)) hb; replace BX := BX.below hp; replace BY := BY.below hp; replace BZ := BZ.below hp; replace Ba := Ba.below hp; replace Bb := Bb.below hp; replace Bc := Bc.below hp; replace Br := Br.below hp; replace Be := Be.below hp; replace Bs := Bs.below hp; replace Bf := Bf.below hp; replace Bbc := Bbc.below hp; replace Bg := Bg.below hp; replace Bab := Bab.below hp; replace Bh := Bh.below hp; replace Bone := Bone.below hp; have Btwo := (Blk.new w10 23 [.string (numT oO), .string (denT oO)]).below hb; clear cr_4 cr_5 cc_0 cc_1; replace hL := hL.below hp; replace hB := below_up hB hp; clear hb hp; have ce_2 := (Be.below (below1 w11 (.cells #[.string (numT oP), .string (denT oP)] 23))).cell 2 (v := .int .i64 (errT oM)) rfl; have cg_2 := (Bg.below (below1 w11 (.cells #[.string (numT oP), .string (denT oP)] 23))).cell 2 (v := .int .i64 (errT oG)) rfl; have ctwo_0 := (Btwo.below (below1 w11 (.cells #[.string (numT oP), .string (denT oP)] 23))).cell 0 (v := .string (numT oO)) rfl; have ctwo_1 := (Btwo.below (below1 w11 (.cells #[.string (numT oP), .string (denT oP)] 23))).cell 1 (v := .string (denT oO)) rfl))
    go_cut [186] (fun s186 wx => s186 = .bool false ∧ wx = (w11.alloc (.cells #[.string (numT oP), .string (denT oP)] 23)))
    case first => as_aux_lemma =>
      by_cases hc0 : (errT oG == 0) = true
      rotate_left
      · replace hc0 := (Bool.not_eq_true _).mp hc0
        have hd0 : (errT oG != 0) = true := by simp only [bne, hc0]; rfl
        go_wp2_with fail
        go_meet
        exact ⟨rfl, rfl⟩
      have hd0 : (errT oG != 0) = false := by simp only [bne, hc0]; rfl
      by_cases hc1 : kO = 0
      rotate_left
      · replace hc1 : (kO == 0) = false := beq_eq_false_iff_ne.2 hc1
        have hd1 : (kO != 0) = true := by simp only [bne, hc1]; rfl
        go_wp2_with fail
        go_meet
        exact ⟨rfl, rfl⟩
      subst hc1
      by_cases hc2 : kP = 0
      rotate_left
      · replace hc2 : (kP == 0) = false := beq_eq_false_iff_ne.2 hc2
        have hd2 : (kP != 0) = true := by simp only [bne, hc2]; rfl
        go_wp2_with fail
        go_meet
        exact ⟨rfl, rfl⟩
      subst hc2
      obtain rfl := K2.out hM0 hc0 rfl rfl
      go_wp2_with fail
      go_meet
      exact ⟨rfl, rfl⟩
    case rest => as_aux_lemma =>
      obtain ⟨rfl, rfl⟩ := hcut
      have ca_0 := (Ba.below (below1 w11 (.cells #[.string (numT oP), .string (denT oP)] 23))).cell 0 (v := .string (numT (some p))) rfl
      have ca_1 := (Ba.below (below1 w11 (.cells #[.string (numT oP), .string (denT oP)] 23))).cell 1 (v := .string (denT (some p))) rfl
      have cc_0 := (Bc.below (below1 w11 (.cells #[.string (numT oP), .string (denT oP)] 23))).cell 0 (v := .string (numT (some r))) rfl
      have cc_1 := (Bc.below (below1 w11 (.cells #[.string (numT oP), .string (denT oP)] 23))).cell 1 (v := .string (denT (some r))) rfl
      go_upto_region 24 with (first
          | (go_at_call 25; (with_reducible refine (C8.out _ (hL.below (below1 w11 (.cells #[.string (numT oP), .string (denT oP)] 23)))).mono ?_); rintro e w12 ⟨rfl, hb⟩; have hp := below_up (below1 w11 (.cells #[.string (numT oP), .string (denT oP)] 23)) hb; replace BX := BX.below hp; replace BY := BY.below hp; replace BZ := BZ.below hp; replace Ba := Ba.below hp; replace Bb := Bb.below hp; replace Bc := Bc.below hp; replace Br := Br.below hp; replace Be := Be.below hp; replace Bs := Bs.below hp; replace Bf := Bf.below hp; replace Bbc := Bbc.below hp; replace Bg := Bg.below hp; replace Bab := Bab.below hp; replace Bh := Bh.below hp; replace Bone := Bone.below hp; replace Btwo := Btwo.below hp; have Bleft := (Blk.new w11 23 [.string (numT oP), .string (denT oP)]).below hb; clear ce_2 cg_2 ctwo_0 ctwo_1 ca_0 ca_1 cc_0 cc_1; replace hL := hL.below hp; replace hB := below_up hB hp; clear hb hp; have cbc_4 := (Bbc.below (below1 w12 (.cells #[.string (numT oQ), .string (denT oQ)] 23))).cell 4 (v := .string (numT oG)) rfl; have cbc_5 := (Bbc.below (below1 w12 (.cells #[.string (numT oQ), .string (denT oQ)] 23))).cell 5 (v := .string (denT oG)) rfl)
          | (go_at_call 27; (with_reducible refine (C9.out _ (hL.below (below1 w12 (.cells #[.string (numT oQ), .string (denT oQ)] 23)))).mono ?_); rintro e w13 ⟨rfl, hb⟩; have hp := below_up (below1 w12 (.cells #[.string (numT oQ), .string (denT oQ)] 23)) hb; replace BX := BX.below hp; replace BY := BY.below hp; replace BZ := BZ.below hp; replace Ba := Ba.below hp; replace Bb := Bb.below hp; replace Bc := Bc.below hp; replace Br := Br.below hp; replace Be := Be.below hp; replace Bs := Bs.below hp; replace Bf := Bf.below hp; replace Bbc := Bbc.below hp; replace Bg := Bg.below hp; replace Bab := Bab.below hp; replace Bh := Bh.below hp; replace Bone := Bone.below hp; replace Btwo := Btwo.below hp; replace Bleft := Bleft.below hp; have Bac := (Blk.new w12 23 [.string (numT oQ), .string (denT oQ)]).below hb; clear cbc_4 cbc_5; replace hL := hL.below hp; replace hB := below_up hB hp; clear hb hp; have cr_0 := (Br.below (below1 w13 (.cells #[.string (numT oR), .string (denT oR)] 23))).cell 0 (v := .string (numT oA)) rfl; have cr_1 := (Br.below (below1 w13 (.cells #[.string (numT oR), .string (denT oR)] 23))).cell 1 (v := .string (denT oA)) rfl; have cc_0 := (Bc.below (below1 w13 (.cells #[.string (numT oR), .string (denT oR)] 23))).cell 0 (v := .string (numT (some r))) rfl; have cc_1 := (Bc.below (below1 w13 (.cells #[.string (numT oR), .string (denT oR)] 23))).cell 1 (v := .string (denT (some r))) rfl)
          | (go_at_call 25; (with_reducible refine (C10.out _ (hL.below (below1 w13 (.cells #[.string (numT oR), .string (denT oR)] 23)))).mono ?_); rintro e w14 ⟨rfl, hb⟩; have hp := below_up (below1 w13 (.cells #[.string (numT oR), .string (denT oR)] 23)) hb; replace BX := BX.below hp; replace BY := BY.below hp; replace BZ := BZ.below hp; replace Ba := Ba.below hp; replace Bb := Bb.below hp; replace Bc := Bc.below hp; replace Br := Br.below hp; replace Be := Be.below hp; replace Bs := Bs.below hp; replace Bf := Bf.below hp; replace Bbc := Bbc.below hp; replace Bg := Bg.below hp; replace Bab := Bab.below hp; replace Bh := Bh.below hp; replace Bone := Bone.below hp; replace Btwo := Btwo.below hp; replace Bleft := Bleft.below hp; replace Bac := Bac.below hp; have Bsum := (Blk.new w13 23 [.string (numT oR), .string (denT oR)]).below hb; clear cr_0 cr_1 cc_0 cc_1; replace hL := hL.below hp; replace hB := below_up hB hp; clear hb hp; have ce_0 := (Be.below (below1 w14 (.cells #[.string (numT oT), .string (denT oT)] 23))).cell 0 (v := .int .i64 (errT oA)) rfl; have cg_2 := (Bg.below (below1 w14 (.cells #[.string (numT oT), .string (denT oT)] 23))).cell 2 (v := .int .i64 (errT oG)) rfl; have csum_0 := (Bsum.below (below1 w14 (.cells #[.string (numT oT), .string (denT oT)] 23))).cell 0 (v := .string (numT oR)) rfl; have csum_1 := (Bsum.below (below1 w14 (.cells #[.string (numT oT), .string (denT oT)] 23))).cell 1 (v := .string (denT oR)) rfl))
      go_cut [231] (fun s231 wx => s231 = .bool false ∧ wx = (w14.alloc (.cells #[.string (numT oT), .string (denT oT)] 23)))
      case first => as_aux_lemma =>
        by_cases hc0 : kQ = 0
        rotate_left
        · replace hc0 : (kQ == 0) = false := beq_eq_false_iff_ne.2 hc0
          have hd0 : (kQ != 0) = true := by simp only [bne, hc0]; rfl
          go_wp2_with fail
          go_meet
          exact ⟨rfl, rfl⟩
        subst hc0
        by_cases hc1 : (errT oG == 0) = true
        rotate_left
        · replace hc1 := (Bool.not_eq_true _).mp hc1
          have hd1 : (errT oG != 0) = true := by simp only [bne, hc1]; rfl
          go_wp2_with fail
          go_meet
          exact ⟨rfl, rfl⟩
        have hd1 : (errT oG != 0) = false := by simp only [bne, hc1]; rfl
        by_cases hc2 : kR = 0
        rotate_left
        · replace hc2 : (kR == 0) = false := beq_eq_false_iff_ne.2 hc2
          have hd2 : (kR != 0) = true := by simp only [bne, hc2]; rfl
          go_wp2_with fail
          go_meet
          exact ⟨rfl, rfl⟩
        subst hc2
        by_cases hc3 : kT = 0
        rotate_left
        · replace hc3 : (kT == 0) = false := beq_eq_false_iff_ne.2 hc3
          have hd3 : (kT != 0) = true := by simp only [bne, hc3]; rfl
          go_wp2_with fail
          go_meet
          exact ⟨rfl, rfl⟩
        subst hc3
        obtain rfl := K3.out hA0 rfl hc1 rfl rfl
        go_wp2_with fail
        go_meet
        exact ⟨rfl, rfl⟩
      case rest => as_aux_lemma =>
        obtain ⟨rfl, rfl⟩ := hcut
        have cr_0 := (Br.below (below1 w14 (.cells #[.string (numT oT), .string (denT oT)] 23))).cell 0 (v := .string (numT oA)) rfl
        have cr_1 := (Br.below (below1 w14 (.cells #[.string (numT oT), .string (denT oT)] 23))).cell 1 (v := .string (denT oA)) rfl
        have cb_0 := (Bb.below (below1 w14 (.cells #[.string (numT oT), .string (denT oT)] 23))).cell 0 (v := .string (numT (some q))) rfl
        have cb_1 := (Bb.below (below1 w14 (.cells #[.string (numT oT), .string (denT oT)] 23))).cell 1 (v := .string (denT (some q))) rfl
        go_upto_region 28 with (first
            | (go_at_call 44; (with_reducible refine (C11.out _ (hL.below (below1 w14 (.cells #[.string (numT oT), .string (denT oT)] 23)))).mono ?_); rintro e w15 ⟨rfl, hb⟩; have hp := below_up (below1 w14 (.cells #[.string (numT oT), .string (denT oT)] 23)) hb; replace BX := BX.below hp; replace BY := BY.below hp; replace BZ := BZ.below hp; replace Ba := Ba.below hp; replace Bb := Bb.below hp; replace Bc := Bc.below hp; replace Br := Br.below hp; replace Be := Be.below hp; replace Bs := Bs.below hp; replace Bf := Bf.below hp; replace Bbc := Bbc.below hp; replace Bg := Bg.below hp; replace Bab := Bab.below hp; replace Bh := Bh.below hp; replace Bone := Bone.below hp; replace Btwo := Btwo.below hp; replace Bleft := Bleft.below hp; replace Bac := Bac.below hp; replace Bsum := Bsum.below hp; have Bwhole := (Blk.new w14 23 [.string (numT oT), .string (denT oT)]).below hb; clear ce_0 cg_2 csum_0 csum_1 cr_0 cr_1 cb_0 cb_1; replace hL := hL.below hp; replace hB := below_up hB hp; clear hb hp; have cr_6 := (Br.below (below1 w15 (.cells #[.string (numT oU), .string (denT oU)] 23))).cell 6 (v := .string (numT oD)) rfl; have cr_7 := (Br.below (below1 w15 (.cells #[.string (numT oU), .string (denT oU)] 23))).cell 7 (v := .string (denT oD)) rfl; have cb_0 := (Bb.below (below1 w15 (.cells #[.string (numT oU), .string (denT oU)] 23))).cell 0 (v := .string (numT (some q))) rfl; have cb_1 := (Bb.below (below1 w15 (.cells #[.string (numT oU), .string (denT oU)] 23))).cell 1 (v := .string (denT (some q))) rfl)
            | (go_at_call 25; (with_reducible refine (C12.out _ (hL.below (below1 w15 (.cells #[.string (numT oU), .string (denT oU)] 23)))).mono ?_); rintro e w16 ⟨rfl, hb⟩; have hp := below_up (below1 w15 (.cells #[.string (numT oU), .string (denT oU)] 23)) hb; replace BX := BX.below hp; replace BY := BY.below hp; replace BZ := BZ.below hp; replace Ba := Ba.below hp; replace Bb := Bb.below hp; replace Bc := Bc.below hp; replace Br := Br.below hp; replace Be := Be.below hp; replace Bs := Bs.below hp; replace Bf := Bf.below hp; replace Bbc := Bbc.below hp; replace Bg := Bg.below hp; replace Bab := Bab.below hp; replace Bh := Bh.below hp; replace Bone := Bone.below hp; replace Btwo := Btwo.below hp; replace Bleft := Bleft.below hp; replace Bac := Bac.below hp; replace Bsum := Bsum.below hp; replace Bwhole := Bwhole.below hp; have Bback := (Blk.new w15 23 [.string (numT oU), .string (denT oU)]).below hb; clear cr_6 cr_7 cb_0 cb_1; replace hL := hL.below hp; replace hB := below_up hB hp; clear hb hp; have ce_0 := (Be.below (below1 w16 (.cells #[.string (numT oV), .string (denT oV)] 23))).cell 0 (v := .int .i64 (errT oA)) rfl; have ce_3 := (Be.below (below1 w16 (.cells #[.string (numT oV), .string (denT oV)] 23))).cell 3 (v := .int .i64 (errT oD)) rfl; have cback_0 := (Bback.below (below1 w16 (.cells #[.string (numT oV), .string (denT oV)] 23))).cell 0 (v := .string (numT oU)) rfl; have cback_1 := (Bback.below (below1 w16 (.cells #[.string (numT oV), .string (denT oV)] 23))).cell 1 (v := .string (denT oU)) rfl; have ca_0 := (Ba.below (below1 w16 (.cells #[.string (numT oV), .string (denT oV)] 23))).cell 0 (v := .string (numT (some p))) rfl; have ca_1 := (Ba.below (below1 w16 (.cells #[.string (numT oV), .string (denT oV)] 23))).cell 1 (v := .string (denT (some p))) rfl))
        by_cases hc1 : (kU == 0) = true
        · have hd1 : (kU != 0) = false := by simp only [bne, hc1]; rfl
          obtain rfl := K4.out hc1
          by_cases hc2 : (errT oD == 0) = true
          · have hd2 : (errT oD != 0) = false := by simp only [bne, hc2]; rfl
            by_cases hc3 : (kV == 0) = true
            · have hd3 : (kV != 0) = false := by simp only [bne, hc3]; rfl
              obtain rfl := K5.out hc3
              go_wp2
              go_ret
              exact ⟨rfl, below_up hB (below1 _ _)⟩
            · replace hc3 := (Bool.not_eq_true _).mp hc3
              have hd3 : (kV != 0) = true := by simp only [bne, hc3]; rfl
              go_wp2
              go_ret
              exact ⟨rfl, below_up hB (below1 _ _)⟩
          · replace hc2 := (Bool.not_eq_true _).mp hc2
            have hd2 : (errT oD != 0) = true := by simp only [bne, hc2]; rfl
            go_wp2
            go_ret
            exact ⟨rfl, below_up hB (below1 _ _)⟩
        · replace hc1 := (Bool.not_eq_true _).mp hc1
          have hd1 : (kU != 0) = true := by simp only [bne, hc1]; rfl
          by_cases hc2 : (errT oD == 0) = true
          · have hd2 : (errT oD != 0) = false := by simp only [bne, hc2]; rfl
            by_cases hc3 : (kV == 0) = true
            · have hd3 : (kV != 0) = false := by simp only [bne, hc3]; rfl
              obtain rfl := K5.out hc3
              go_wp2
              go_ret
              exact ⟨rfl, below_up hB (below1 _ _)⟩
            · replace hc3 := (Bool.not_eq_true _).mp hc3
              have hd3 : (kV != 0) = true := by simp only [bne, hc3]; rfl
              go_wp2
              go_ret
              exact ⟨rfl, below_up hB (below1 _ _)⟩
          · replace hc2 := (Bool.not_eq_true _).mp hc2
            have hd2 : (errT oD != 0) = true := by simp only [bne, hc2]; rfl
            go_wp2
            go_ret
            exact ⟨rfl, below_up hB (below1 _ _)⟩

end Go.Proofs.YtnioinccflmdjaaGreatDoor
