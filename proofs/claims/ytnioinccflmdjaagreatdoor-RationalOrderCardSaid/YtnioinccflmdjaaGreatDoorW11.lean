/- RationalOrder: its walk. Condition: the tables of strconv; the numbers are ints. -/
import Derived.Test.YtnioinccflmdjaaGreatDoorQ8
import Derived.Test.YtnioinccflmdjaaGreatDoorW9
namespace Go.Proofs.YtnioinccflmdjaaGreatDoor
open Go.RowKit Num
open Go.Shelf

set_option maxHeartbeats 8000000 in
set_option maxRecDepth 100000 in
theorem order_any (x0 x1 x2 x3 y0 y1 y2 y3 z0 z1 z2 z3 s0 s1 : Int) (hx0 : I64 x0) (hx1 : I64 x1) (hx2 : I64 x2) (hx3 : I64 x3) (hy0 : I64 y0) (hy1 : I64 y1) (hy2 : I64 y2) (hy3 : I64 y3) (hz0 : I64 z0) (hz1 : I64 z1) (hz2 : I64 z2) (hz3 : I64 z3) (hs0 : I64 s0) (hs1 : I64 s1) (w : World) (hL : Laid w) :
    Calls Tryz.prog 9 #[.agg #[.int .i64 x0, .int .i64 x1, .int .i64 x2, .int .i64 x3], .agg #[.int .i64 y0, .int .i64 y1, .int .i64 y2, .int .i64 y3], .agg #[.int .i64 z0, .int .i64 z1, .int .i64 z2, .int .i64 z3], .agg #[.int .i64 s0, .int .i64 s1]] w (RetB w true) := by
  have CLX := Lib.hid (fun w => long_any x0 x1 x2 x3 hx0.1 hx0.2 hx1.1 hx1.2 hx2.1 hx2.2 hx3.1 hx3.2 w)
  have CLY := Lib.hid (fun w => long_any y0 y1 y2 y3 hy0.1 hy0.2 hy1.1 hy1.2 hy2.1 hy2.2 hy3.1 hy3.2 w)
  have CLZ := Lib.hid (fun w => long_any z0 z1 z2 z3 hz0.1 hz0.2 hz1.1 hz1.2 hz2.1 hz2.2 hz3.1 hz3.2 w)
  have CSS := Lib.hid (fun w => small_any s0 s1 hs0.1 hs0.2 hs1.1 hs1.2 w)
  clear hx0 hx1 hx2 hx3 hy0 hy1 hy2 hy3 hz0 hz1 hz2 hz3 hs0 hs1
  have hB : Below w.heap.size w w := Below.refl _ _
  have HL0 := Lib.hid hL
  have hmixed : Tryz.prog.follows .mixedOrders = true := by kernel_rfl
  go_enter Tryz.func9, Tryz.ntmps9
  go_upto_region 6 with (first
      | (go_at_call 11; (with_reducible refine (sane_any _ (hL.below (below_up (below_up (below_up (below1 w (.cells #[.int .i64 x0, .int .i64 x1, .int .i64 x2, .int .i64 x3] 24)) (below1 ((w.alloc (.cells #[.int .i64 x0, .int .i64 x1, .int .i64 x2, .int .i64 x3] 24))) (.cells #[.int .i64 y0, .int .i64 y1, .int .i64 y2, .int .i64 y3] 24))) (below1 (((w.alloc (.cells #[.int .i64 x0, .int .i64 x1, .int .i64 x2, .int .i64 x3] 24)).alloc (.cells #[.int .i64 y0, .int .i64 y1, .int .i64 y2, .int .i64 y3] 24))) (.cells #[.int .i64 z0, .int .i64 z1, .int .i64 z2, .int .i64 z3] 24))) (below1 ((((w.alloc (.cells #[.int .i64 x0, .int .i64 x1, .int .i64 x2, .int .i64 x3] 24)).alloc (.cells #[.int .i64 y0, .int .i64 y1, .int .i64 y2, .int .i64 y3] 24)).alloc (.cells #[.int .i64 z0, .int .i64 z1, .int .i64 z2, .int .i64 z3] 24))) (.cells #[.int .i64 s0, .int .i64 s1] 47))))).mono ?_); rintro e w1 ⟨rfl, hb⟩; have hp := below_up (below_up (below_up (below_up (below1 w (.cells #[.int .i64 x0, .int .i64 x1, .int .i64 x2, .int .i64 x3] 24)) (below1 ((w.alloc (.cells #[.int .i64 x0, .int .i64 x1, .int .i64 x2, .int .i64 x3] 24))) (.cells #[.int .i64 y0, .int .i64 y1, .int .i64 y2, .int .i64 y3] 24))) (below1 (((w.alloc (.cells #[.int .i64 x0, .int .i64 x1, .int .i64 x2, .int .i64 x3] 24)).alloc (.cells #[.int .i64 y0, .int .i64 y1, .int .i64 y2, .int .i64 y3] 24))) (.cells #[.int .i64 z0, .int .i64 z1, .int .i64 z2, .int .i64 z3] 24))) (below1 ((((w.alloc (.cells #[.int .i64 x0, .int .i64 x1, .int .i64 x2, .int .i64 x3] 24)).alloc (.cells #[.int .i64 y0, .int .i64 y1, .int .i64 y2, .int .i64 y3] 24)).alloc (.cells #[.int .i64 z0, .int .i64 z1, .int .i64 z2, .int .i64 z3] 24))) (.cells #[.int .i64 s0, .int .i64 s1] 47))) hb; have BX := ((((Blk.new w 24 [.int .i64 x0, .int .i64 x1, .int .i64 x2, .int .i64 x3]).alloc _).alloc _).alloc _).below hb; have BY := (((Blk.new2 w (.cells #[.int .i64 x0, .int .i64 x1, .int .i64 x2, .int .i64 x3] 24) 24 [.int .i64 y0, .int .i64 y1, .int .i64 y2, .int .i64 y3]).alloc _).alloc _).below hb; have BZ := ((Blk.new3 w (.cells #[.int .i64 x0, .int .i64 x1, .int .i64 x2, .int .i64 x3] 24) (.cells #[.int .i64 y0, .int .i64 y1, .int .i64 y2, .int .i64 y3] 24) 24 [.int .i64 z0, .int .i64 z1, .int .i64 z2, .int .i64 z3]).alloc _).below hb; have BS := (Blk.new4 w (.cells #[.int .i64 x0, .int .i64 x1, .int .i64 x2, .int .i64 x3] 24) (.cells #[.int .i64 y0, .int .i64 y1, .int .i64 y2, .int .i64 y3] 24) (.cells #[.int .i64 z0, .int .i64 z1, .int .i64 z2, .int .i64 z3] 24) 47 [.int .i64 s0, .int .i64 s1]).below hb; replace hL := hL.below hp; replace hB := below_up hB hp; clear hb hp; have cX_0 := BX.cell 0 (v := .int .i64 x0) rfl; have cX_1 := BX.cell 1 (v := .int .i64 x1) rfl; have cX_2 := BX.cell 2 (v := .int .i64 x2) rfl; have cX_3 := BX.cell 3 (v := .int .i64 x3) rfl)
      | (go_at_call 12; (with_reducible refine (CLX.out _).mono ?_); rintro e w2 ⟨p, hp, rfl, hb⟩; have hp := hb; replace BX := BX.below hp; replace BY := BY.below hp; replace BZ := BZ.below hp; replace BS := BS.below hp; clear cX_0 cX_1 cX_2 cX_3; replace hL := hL.below hp; replace hB := below_up hB hp; clear hb hp; have cY_0 := (BY.below (below1 w2 (.cells #[.string (numT (some p)), .string (denT (some p))] 23))).cell 0 (v := .int .i64 y0) rfl; have cY_1 := (BY.below (below1 w2 (.cells #[.string (numT (some p)), .string (denT (some p))] 23))).cell 1 (v := .int .i64 y1) rfl; have cY_2 := (BY.below (below1 w2 (.cells #[.string (numT (some p)), .string (denT (some p))] 23))).cell 2 (v := .int .i64 y2) rfl; have cY_3 := (BY.below (below1 w2 (.cells #[.string (numT (some p)), .string (denT (some p))] 23))).cell 3 (v := .int .i64 y3) rfl)
      | (go_at_call 12; (with_reducible refine (CLY.out _).mono ?_); rintro e w3 ⟨q, hq, rfl, hb⟩; have hp := below_up (below1 w2 (.cells #[.string (numT (some p)), .string (denT (some p))] 23)) hb; replace BX := BX.below hp; replace BY := BY.below hp; replace BZ := BZ.below hp; replace BS := BS.below hp; have Ba := (Blk.new w2 23 [.string (numT (some p)), .string (denT (some p))]).below hb; clear cY_0 cY_1 cY_2 cY_3; replace hL := hL.below hp; replace hB := below_up hB hp; clear hb hp; have cZ_0 := (BZ.below (below1 w3 (.cells #[.string (numT (some q)), .string (denT (some q))] 23))).cell 0 (v := .int .i64 z0) rfl; have cZ_1 := (BZ.below (below1 w3 (.cells #[.string (numT (some q)), .string (denT (some q))] 23))).cell 1 (v := .int .i64 z1) rfl; have cZ_2 := (BZ.below (below1 w3 (.cells #[.string (numT (some q)), .string (denT (some q))] 23))).cell 2 (v := .int .i64 z2) rfl; have cZ_3 := (BZ.below (below1 w3 (.cells #[.string (numT (some q)), .string (denT (some q))] 23))).cell 3 (v := .int .i64 z3) rfl)
      | (go_at_call 12; (with_reducible refine (CLZ.out _).mono ?_); rintro e w4 ⟨r, hr, rfl, hb⟩; have hp := below_up (below1 w3 (.cells #[.string (numT (some q)), .string (denT (some q))] 23)) hb; replace BX := BX.below hp; replace BY := BY.below hp; replace BZ := BZ.below hp; replace BS := BS.below hp; replace Ba := Ba.below hp; have Bb := (Blk.new w3 23 [.string (numT (some q)), .string (denT (some q))]).below hb; clear cZ_0 cZ_1 cZ_2 cZ_3; replace hL := hL.below hp; replace hB := below_up hB hp; clear hb hp; have cS_0 := (BS.below (below1 w4 (.cells #[.string (numT (some r)), .string (denT (some r))] 23))).cell 0 (v := .int .i64 s0) rfl; have cS_1 := (BS.below (below1 w4 (.cells #[.string (numT (some r)), .string (denT (some r))] 23))).cell 1 (v := .int .i64 s1) rfl)
      | (go_at_call 28; (with_reducible refine (CSS.out _).mono ?_); rintro e w5 ⟨t, ht, rfl, hb⟩; have hp := below_up (below1 w4 (.cells #[.string (numT (some r)), .string (denT (some r))] 23)) hb; replace BX := BX.below hp; replace BY := BY.below hp; replace BZ := BZ.below hp; replace BS := BS.below hp; replace Ba := Ba.below hp; replace Bb := Bb.below hp; have Bc := (Blk.new w4 23 [.string (numT (some r)), .string (denT (some r))]).below hb; clear cS_0 cS_1; replace hL := hL.below hp; replace hB := below_up hB hp; clear hb hp; have ca_0 := (Ba.below (below1 w5 (.cells #[.string (numT (some t)), .string (denT (some t))] 23))).cell 0 (v := .string (numT (some p))) rfl; have ca_1 := (Ba.below (below1 w5 (.cells #[.string (numT (some t)), .string (denT (some t))] 23))).cell 1 (v := .string (denT (some p))) rfl; have cb_0 := (Bb.below (below1 w5 (.cells #[.string (numT (some t)), .string (denT (some t))] 23))).cell 0 (v := .string (numT (some q))) rfl; have cb_1 := (Bb.below (below1 w5 (.cells #[.string (numT (some t)), .string (denT (some t))] 23))).cell 1 (v := .string (denT (some q))) rfl))
  clear CLX CLY CLZ CSS BX BY BZ BS
  have hrp := rat_of (fit_some (hp.fit (by omega)))
  have hrq := rat_of (fit_some (hq.fit (by omega)))
  have hrr := rat_of (fit_some (hr.fit (by omega)))
  have hrt := rat_of (fit_some (ht.fit (by omega)))
  have HDT : p ≠ q → _ := diff_text (hp.fit (by omega)) (hq.fit (by omega))
  obtain ⟨cab, hab⟩ : ∃ c, cmpO (some p) (some q) = c := ⟨_, rfl⟩
  obtain ⟨cba, hba⟩ : ∃ c, cmpO (some q) (some p) = c := ⟨_, rfl⟩
  obtain ⟨cbc, hbc⟩ : ∃ c, cmpO (some q) (some r) = c := ⟨_, rfl⟩
  obtain ⟨cac, hac⟩ : ∃ c, cmpO (some p) (some r) = c := ⟨_, rfl⟩
  obtain ⟨ct, hct⟩ : ∃ c, cmpO (some t) (some 0) = c := ⟨_, rfl⟩
  obtain ⟨oD, hD⟩ : ∃ o, op2Q subQ (some p) (some q) = o := ⟨_, rfl⟩
  have hrD : ratO (numT oD) (denT oD) = oD := Fit.rat (by rw [← hD]; exact fit_sub _ _)
  obtain ⟨oE, hE⟩ : ∃ o, op2Q addQ (some p) (some t) = o := ⟨_, rfl⟩
  have hrE : ratO (numT oE) (denT oE) = oE := Fit.rat (by rw [← hE]; exact fit_add _ _)
  obtain ⟨oF, hF⟩ : ∃ o, op2Q addQ (some q) (some t) = o := ⟨_, rfl⟩
  have hrF : ratO (numT oF) (denT oF) = oF := Fit.rat (by rw [← hF]; exact fit_add _ _)
  obtain ⟨oG, hG⟩ : ∃ o, op2Q mulQ (some p) (some t) = o := ⟨_, rfl⟩
  have hrG : ratO (numT oG) (denT oG) = oG := Fit.rat (by rw [← hG]; exact fit_mul _ _)
  obtain ⟨oH, hH⟩ : ∃ o, op2Q mulQ (some q) (some t) = o := ⟨_, rfl⟩
  have hrH : ratO (numT oH) (denT oH) = oH := Fit.rat (by rw [← hH]; exact fit_mul _ _)
  have Cab := Lib.hid (fun w hL => cmp_r hrp hrq hab w hL)
  have Cba := Lib.hid (fun w hL => cmp_r hrq hrp hba w hL)
  have Cbc := Lib.hid (fun w hL => cmp_r hrq hrr hbc w hL)
  have Cac := Lib.hid (fun w hL => cmp_r hrp hrr hac w hL)
  have Caa := Lib.hid (fun w hL => cmp_r hrp hrp (cmp_same p) w hL)
  have Ct0 := Lib.hid (fun w hL => cmp_r hrt rat_01 hct w hL)
  have H3 := cmp_three p q r hab hba hbc hac
  have CD0 := fun w hL => qk (sub_r hrp hrq hD w hL)
  have CE0 := fun w hL => qk (add_r hrp hrt hE w hL)
  have CF0 := fun w hL => qk (add_r hrq hrt hF w hL)
  have CG0 := fun w hL => qk (mul_r hrp hrt hG w hL)
  have CH0 := fun w hL => qk (mul_r hrq hrt hH w hL)
  have KD0 : (errT oD == 0) = true → ∀ w, Laid w → Calls Tryz.prog 23 #[.agg #[.string (numT oD), .string (denT oD)], .agg #[.string ⟨#[48]⟩, .string ⟨#[49]⟩]] w (RetI w cab) := fun h w hL => cmp_r hrD rat_01 ((cmp_sub hD h).trans hab) w hL
  have KE0 : (errT oE == 0) = true → (errT oF == 0) = true → ∀ w, Laid w → Calls Tryz.prog 23 #[.agg #[.string (numT oE), .string (denT oE)], .agg #[.string (numT oF), .string (denT oF)]] w (RetI w cab) := fun h h2 w hL => cmp_r hrE hrF ((cmp_add_ hE hF h h2).trans hab) w hL
  have KG0 : (errT oG == 0) = true → (errT oH == 0) = true → ∀ w, Laid w → Calls Tryz.prog 23 #[.agg #[.string (numT oG), .string (denT oG)], .agg #[.string (numT oH), .string (denT oH)]] w (RetI w (cab * ct)) := fun h h2 w hL => cmp_r hrG hrH ((cmp_mul_ hG hH h h2).trans (by rw [hab, hct])) w hL
  have hab2 := cmp_bound (some p) (some q)
  have hct2 := cmp_bound (some t) (some 0)
  rw [hab] at hab2
  rw [hct] at hct2
  have hwm : Hid (IntKind.i64.wrap (cab * ct) = cab * ct) := Lib.hid (IntWalk.i64_in _ (by have := prod_one (a := cab) (b := ct) (by omega) (by omega); omega))
  generalize errT oD = kD at *
  generalize errT oE = kE at *
  generalize errT oF = kF at *
  generalize errT oG = kG at *
  generalize errT oH = kH at *
  have CD := Lib.hid CD0
  have CE := Lib.hid CE0
  have CF := Lib.hid CF0
  have CG := Lib.hid CG0
  have CH := Lib.hid CH0
  have KD := Lib.hid KD0
  have KE := Lib.hid KE0
  have KG := Lib.hid KG0
  have HT3 := Lib.hid H3
  have HTD := Lib.hid HDT
  clear CD0 CE0 CF0 CG0 CH0 KD0 KE0 KG0 hD hE hF hG hH hrD hrE hrF hrG hrH hrp hrq hrr hrt hab hba hbc hac hct H3 HDT hab2 hct2
  go_upto_region 9 with (first
      | (go_at_call 23; (with_reducible refine (Cab.out _ (hL.below (below1 w5 (.cells #[.string (numT (some t)), .string (denT (some t))] 23)))).mono ?_); rintro e w6 ⟨rfl, hb⟩; have hp := below_up (below1 w5 (.cells #[.string (numT (some t)), .string (denT (some t))] 23)) hb; replace Ba := Ba.below hp; replace Bb := Bb.below hp; replace Bc := Bc.below hp; have Bt := (Blk.new w5 23 [.string (numT (some t)), .string (denT (some t))]).below hb; clear ca_0 ca_1 cb_0 cb_1; replace hL := hL.below hp; replace hB := below_up hB hp; clear hb hp; have cb_0 := Bb.cell 0 (v := .string (numT (some q))) rfl; have cb_1 := Bb.cell 1 (v := .string (denT (some q))) rfl; have cc_0 := Bc.cell 0 (v := .string (numT (some r))) rfl; have cc_1 := Bc.cell 1 (v := .string (denT (some r))) rfl)
      | (go_at_call 23; (with_reducible refine (Cbc.out _ hL).mono ?_); rintro e w7 ⟨rfl, hb⟩; have hp := hb; replace Ba := Ba.below hp; replace Bb := Bb.below hp; replace Bc := Bc.below hp; replace Bt := Bt.below hp; clear cb_0 cb_1 cc_0 cc_1; replace hL := hL.below hp; replace hB := below_up hB hp; clear hb hp; have ca_0 := Ba.cell 0 (v := .string (numT (some p))) rfl; have ca_1 := Ba.cell 1 (v := .string (denT (some p))) rfl; have cc_0 := Bc.cell 0 (v := .string (numT (some r))) rfl; have cc_1 := Bc.cell 1 (v := .string (denT (some r))) rfl)
      | (go_at_call 23; (with_reducible refine (Cac.out _ hL).mono ?_); rintro e w8 ⟨rfl, hb⟩; have hp := hb; replace Ba := Ba.below hp; replace Bb := Bb.below hp; replace Bc := Bc.below hp; replace Bt := Bt.below hp; clear ca_0 ca_1 cc_0 cc_1; replace hL := hL.below hp; replace hB := below_up hB hp; clear hb hp; have ca_0 := Ba.cell 0 (v := .string (numT (some p))) rfl; have ca_1 := Ba.cell 1 (v := .string (denT (some p))) rfl; have cb_0 := Bb.cell 0 (v := .string (numT (some q))) rfl; have cb_1 := Bb.cell 1 (v := .string (denT (some q))) rfl))
  go_cut [92] (fun s92 wx => s92 = .bool false ∧ Below w8.heap.size w8 wx)
  case first => as_aux_lemma =>
    have hz : Below w8.heap.size w8 w8 := Below.refl _ _
    rcases HT3.out with ⟨rfl, rfl, rfl, ⟨rfl, rfl⟩ | ⟨rfl, rfl⟩ | ⟨rfl, rfl⟩⟩ | ⟨hne, h⟩
    · clear HT3 HTD
      go_wp2_with (first
        | (go_at_call 23; (with_reducible refine (Cba.out _ (hL.below hz)).mono ?_); rintro e wz ⟨rfl, hb⟩; replace hz := below_up hz hb; replace ca_0 := (hb.cell (cell_lt ca_0)).trans ca_0; replace ca_1 := (hb.cell (cell_lt ca_1)).trans ca_1; replace cb_0 := (hb.cell (cell_lt cb_0)).trans cb_0; replace cb_1 := (hb.cell (cell_lt cb_1)).trans cb_1; clear hb)
        | (go_at_call 23; (with_reducible refine (Caa.out _ (hL.below hz)).mono ?_); rintro e wz ⟨rfl, hb⟩; replace hz := below_up hz hb; replace ca_0 := (hb.cell (cell_lt ca_0)).trans ca_0; replace ca_1 := (hb.cell (cell_lt ca_1)).trans ca_1; replace cb_0 := (hb.cell (cell_lt cb_0)).trans cb_0; replace cb_1 := (hb.cell (cell_lt cb_1)).trans cb_1; clear hb))
      all_goals go_meet
      all_goals exact ⟨rfl, hz⟩
    · clear HT3 HTD
      go_wp2_with (first
        | (go_at_call 23; (with_reducible refine (Cba.out _ (hL.below hz)).mono ?_); rintro e wz ⟨rfl, hb⟩; replace hz := below_up hz hb; replace ca_0 := (hb.cell (cell_lt ca_0)).trans ca_0; replace ca_1 := (hb.cell (cell_lt ca_1)).trans ca_1; replace cb_0 := (hb.cell (cell_lt cb_0)).trans cb_0; replace cb_1 := (hb.cell (cell_lt cb_1)).trans cb_1; clear hb)
        | (go_at_call 23; (with_reducible refine (Caa.out _ (hL.below hz)).mono ?_); rintro e wz ⟨rfl, hb⟩; replace hz := below_up hz hb; replace ca_0 := (hb.cell (cell_lt ca_0)).trans ca_0; replace ca_1 := (hb.cell (cell_lt ca_1)).trans ca_1; replace cb_0 := (hb.cell (cell_lt cb_0)).trans cb_0; replace cb_1 := (hb.cell (cell_lt cb_1)).trans cb_1; clear hb))
      all_goals go_meet
      all_goals exact ⟨rfl, hz⟩
    · clear HT3 HTD
      go_wp2_with (first
        | (go_at_call 23; (with_reducible refine (Cba.out _ (hL.below hz)).mono ?_); rintro e wz ⟨rfl, hb⟩; replace hz := below_up hz hb; replace ca_0 := (hb.cell (cell_lt ca_0)).trans ca_0; replace ca_1 := (hb.cell (cell_lt ca_1)).trans ca_1; replace cb_0 := (hb.cell (cell_lt cb_0)).trans cb_0; replace cb_1 := (hb.cell (cell_lt cb_1)).trans cb_1; clear hb)
        | (go_at_call 23; (with_reducible refine (Caa.out _ (hL.below hz)).mono ?_); rintro e wz ⟨rfl, hb⟩; replace hz := below_up hz hb; replace ca_0 := (hb.cell (cell_lt ca_0)).trans ca_0; replace ca_1 := (hb.cell (cell_lt ca_1)).trans ca_1; replace cb_0 := (hb.cell (cell_lt cb_0)).trans cb_0; replace cb_1 := (hb.cell (cell_lt cb_1)).trans cb_1; clear hb))
      all_goals go_meet
      all_goals exact ⟨rfl, hz⟩
    · rcases HTD.out hne with hd | hd
      all_goals
        clear HTD HT3 hne
        rcases h with ⟨rfl, rfl, ⟨rfl, rfl⟩ | ⟨rfl, rfl⟩ | ⟨rfl, rfl | rfl | rfl⟩⟩ | ⟨rfl, rfl, ⟨rfl, rfl | rfl | rfl⟩ | ⟨rfl, rfl⟩ | ⟨rfl, rfl⟩⟩
        all_goals
          go_wp2_with (first
            | (go_at_call 23; (with_reducible refine (Cba.out _ (hL.below hz)).mono ?_); rintro e wz ⟨rfl, hb⟩; replace hz := below_up hz hb; replace ca_0 := (hb.cell (cell_lt ca_0)).trans ca_0; replace ca_1 := (hb.cell (cell_lt ca_1)).trans ca_1; replace cb_0 := (hb.cell (cell_lt cb_0)).trans cb_0; replace cb_1 := (hb.cell (cell_lt cb_1)).trans cb_1; clear hb)
            | (go_at_call 23; (with_reducible refine (Caa.out _ (hL.below hz)).mono ?_); rintro e wz ⟨rfl, hb⟩; replace hz := below_up hz hb; replace ca_0 := (hb.cell (cell_lt ca_0)).trans ca_0; replace ca_1 := (hb.cell (cell_lt ca_1)).trans ca_1; replace cb_0 := (hb.cell (cell_lt cb_0)).trans cb_0; replace cb_1 := (hb.cell (cell_lt cb_1)).trans cb_1; clear hb))
          all_goals go_meet
          all_goals exact ⟨rfl, hz⟩
  case rest => as_aux_lemma =>
    obtain ⟨rfl, hp⟩ := hcut
    obtain ⟨w9, hnw⟩ : ∃ x, x = wc := ⟨_, rfl⟩
    subst hnw
    replace Ba := Ba.below hp
    replace Bb := Bb.below hp
    replace Bc := Bc.below hp
    replace Bt := Bt.below hp
    clear ca_0 ca_1 cb_0 cb_1
    replace hL := hL.below hp
    replace hB := below_up hB hp
    clear hp
    clear HT3 HTD
    have ca_0 := Ba.cell 0 (v := .string (numT (some p))) rfl
    have ca_1 := Ba.cell 1 (v := .string (denT (some p))) rfl
    have cb_0 := Bb.cell 0 (v := .string (numT (some q))) rfl
    have cb_1 := Bb.cell 1 (v := .string (denT (some q))) rfl
    go_upto_region 12 with (first
        | (go_at_call 44; (with_reducible refine (CD.out _ hL).mono ?_); rintro e w10 ⟨rfl, hb⟩; have hp := hb; replace Ba := Ba.below hp; replace Bb := Bb.below hp; replace Bc := Bc.below hp; replace Bt := Bt.below hp; clear ca_0 ca_1 cb_0 cb_1; replace hL := hL.below hp; replace hB := below_up hB hp; clear hb hp))
    go_cut [107] (fun s107 wx => s107 = .bool false ∧ Below (w10.alloc (.cells #[.string (numT oD), .string (denT oD)] 23)).heap.size (w10.alloc (.cells #[.string (numT oD), .string (denT oD)] 23)) wx)
    case first => as_aux_lemma =>
      by_cases hk0 : kD = 0
      rotate_left
      · replace hk0 : (kD == 0) = false := beq_eq_false_iff_ne.2 hk0
        have hn0 : (kD != 0) = true := by simp only [bne, hk0]; rfl
        go_quiet (fail)
        go_wp2_with fail
        go_meet
        exact ⟨rfl, below_drewN (Below.refl _ _) _⟩
      subst hk0
      have KC := Lib.hid (KD.out rfl)
      have hZ : Below (w10.alloc (.cells #[.string (numT oD), .string (denT oD)] 23)).heap.size (w10.alloc (.cells #[.string (numT oD), .string (denT oD)] 23)) (w10.alloc (.cells #[.string (numT oD), .string (denT oD)] 23)).drew := (Below.refl _ _).drew
      have hLd := (hL.below (below1 w10 (.cells #[.string (numT oD), .string (denT oD)] 23))).below hZ
      have zd_0 := ((Blk.new w10 23 [.string (numT oD), .string (denT oD)]).below hZ).cell 0 (v := .string (numT oD)) rfl
      have zd_1 := ((Blk.new w10 23 [.string (numT oD), .string (denT oD)]).below hZ).cell 1 (v := .string (denT oD)) rfl
      first
      | (go_region_held3 (fun w' => w'.cell? ⟨w10.heap.size, 0, none⟩ = some (.string (numT oD)) ∧ w'.cell? ⟨w10.heap.size, 1, none⟩ = some (.string (denT oD))) (go_keep) (first
          | (go_at_call 24; (with_reducible refine (is_any ⟨#[48]⟩ ⟨#[49]⟩ _).mono ?_); rintro e wN ⟨rfl, hb⟩; have hZ := below_up hZ hb; have hLd := hLd.below hb; have zd_0 := (hb.cell (cell_lt zd_0)).trans zd_0; have zd_1 := (hb.cell (cell_lt zd_1)).trans zd_1)
          | (go_at_call 23; (with_reducible refine (KC.out _ hLd).mono ?_); rintro e wN ⟨rfl, hb⟩; have hZ := below_up hZ hb; have hLd := hLd.below hb; have zd_0 := (hb.cell (cell_lt zd_0)).trans zd_0; have zd_1 := (hb.cell (cell_lt zd_1)).trans zd_1)))
      | fail "no way"
      all_goals go_wp2_with fail
      all_goals go_meet
      all_goals exact ⟨rfl, hZ⟩
    case rest => as_aux_lemma =>
      obtain ⟨rfl, hp⟩ := hcut
      obtain ⟨w11, hnw⟩ : ∃ x, x = wc := ⟨_, rfl⟩
      subst hnw
      have hq2 := below_up (below1 w10 (.cells #[.string (numT oD), .string (denT oD)] 23)) hp
      replace Ba := Ba.below hq2
      replace Bb := Bb.below hq2
      replace Bc := Bc.below hq2
      replace Bt := Bt.below hq2
      have Bd := (Blk.new w10 23 [.string (numT oD), .string (denT oD)]).below hp
      replace hL := hL.below hq2
      replace hB := below_up hB hq2
      clear hp hq2
      have ca_0 := Ba.cell 0 (v := .string (numT (some p))) rfl
      have ca_1 := Ba.cell 1 (v := .string (denT (some p))) rfl
      have ct_0 := Bt.cell 0 (v := .string (numT (some t))) rfl
      have ct_1 := Bt.cell 1 (v := .string (denT (some t))) rfl
      go_upto_region 16 with (first
          | (go_at_call 27; (with_reducible refine (CE.out _ hL).mono ?_); rintro e w12 ⟨rfl, hb⟩; have hp := hb; replace Ba := Ba.below hp; replace Bb := Bb.below hp; replace Bc := Bc.below hp; replace Bt := Bt.below hp; replace Bd := Bd.below hp; clear ca_0 ca_1 ct_0 ct_1; replace hL := hL.below hp; replace hB := below_up hB hp; clear hb hp; have ltb := Bb.lt; have ltt := Bt.lt; have leP := hB.size; have cb_0 := (Bb.below (below1 w12 (.cells #[.string (numT oE), .string (denT oE)] 23))).cell 0 (v := .string (numT (some q))) rfl; have cb_1 := (Bb.below (below1 w12 (.cells #[.string (numT oE), .string (denT oE)] 23))).cell 1 (v := .string (denT (some q))) rfl; have ct_0 := (Bt.below (below1 w12 (.cells #[.string (numT oE), .string (denT oE)] 23))).cell 0 (v := .string (numT (some t))) rfl; have ct_1 := (Bt.below (below1 w12 (.cells #[.string (numT oE), .string (denT oE)] 23))).cell 1 (v := .string (denT (some t))) rfl)
          | (go_at_call 27; (with_reducible refine (CF.out _ (hL.below (below1 w12 (.cells #[.string (numT oE), .string (denT oE)] 23)))).mono ?_); rintro e w13 ⟨rfl, hb⟩; have hp := below_up (below1 w12 (.cells #[.string (numT oE), .string (denT oE)] 23)) hb; replace Ba := Ba.below hp; replace Bb := Bb.below hp; replace Bc := Bc.below hp; replace Bt := Bt.below hp; replace Bd := Bd.below hp; have Bp := (Blk.new w12 23 [.string (numT oE), .string (denT oE)]).below hb; clear cb_0 cb_1 ct_0 ct_1; replace hL := hL.below hp; replace hB := below_up hB hp; clear hb hp; have ltp := Bp.lt; have cp_0 := (Bp.below (below1 w13 (.cells #[.string (numT oF), .string (denT oF)] 23))).cell 0 (v := .string (numT oE)) rfl; have cp_1 := (Bp.below (below1 w13 (.cells #[.string (numT oF), .string (denT oF)] 23))).cell 1 (v := .string (denT oE)) rfl))
      go_cut [132] (fun s132 wx => s132 = .bool false ∧ Below (w13.alloc (.cells #[.string (numT oF), .string (denT oF)] 23)).heap.size (w13.alloc (.cells #[.string (numT oF), .string (denT oF)] 23)) wx)
      case first => as_aux_lemma =>
        by_cases hk0 : kE = 0
        rotate_left
        · replace hk0 : (kE == 0) = false := beq_eq_false_iff_ne.2 hk0
          go_wp2_with fail
          go_meet
          exact ⟨rfl, Below.refl _ _⟩
        subst hk0
        by_cases hk1 : kF = 0
        rotate_left
        · replace hk1 : (kF == 0) = false := beq_eq_false_iff_ne.2 hk1
          go_wp2_with fail
          go_meet
          exact ⟨rfl, Below.refl _ _⟩
        subst hk1
        have KC := Lib.hid (KE.out rfl rfl)
        go_wp2_with (go_at_call 23; (with_reducible refine (KC.out _ (hL.below (below1 w13 (.cells #[.string (numT oF), .string (denT oF)] 23)))).mono ?_); rintro e wz ⟨rfl, hb⟩)
        go_meet
        exact ⟨rfl, hb⟩
      case rest => as_aux_lemma =>
        obtain ⟨rfl, hp⟩ := hcut
        obtain ⟨w14, hnw⟩ : ∃ x, x = wc := ⟨_, rfl⟩
        subst hnw
        have hq2 := below_up (below1 w13 (.cells #[.string (numT oF), .string (denT oF)] 23)) hp
        replace Ba := Ba.below hq2
        replace Bb := Bb.below hq2
        replace Bc := Bc.below hq2
        replace Bt := Bt.below hq2
        replace Bd := Bd.below hq2
        replace Bp := Bp.below hq2
        have Bq := (Blk.new w13 23 [.string (numT oF), .string (denT oF)]).below hp
        clear cp_0 cp_1
        replace hL := hL.below hq2
        replace hB := below_up hB hq2
        clear hp hq2
        have ca_0 := Ba.cell 0 (v := .string (numT (some p))) rfl
        have ca_1 := Ba.cell 1 (v := .string (denT (some p))) rfl
        have ct_0 := Bt.cell 0 (v := .string (numT (some t))) rfl
        have ct_1 := Bt.cell 1 (v := .string (denT (some t))) rfl
        go_upto_region 19 with (first
            | (go_at_call 25; (with_reducible refine (CG.out _ hL).mono ?_); rintro e w15 ⟨rfl, hb⟩; have hp := hb; replace Ba := Ba.below hp; replace Bb := Bb.below hp; replace Bc := Bc.below hp; replace Bt := Bt.below hp; replace Bd := Bd.below hp; replace Bp := Bp.below hp; replace Bq := Bq.below hp; clear ca_0 ca_1 ct_0 ct_1; replace hL := hL.below hp; replace hB := below_up hB hp; clear hb hp; have s0 := Bp.cell 0 (v := .string (numT oE)) rfl; have s1 := Bp.cell 1 (v := .string (denT oE)) rfl; have s2 := Bp.frozen 0; have s3 := Bp.frozen 1))
        replace Bp := (Bp.set 0 (.string (numT oG))).set 1 (.string (denT oG))
        replace Bb := (Bb.other (B := w12.heap.size) (by omega) 0 (.string (numT oG))).other (B := w12.heap.size) (by omega) 1 (.string (denT oG))
        replace Bt := (Bt.other (B := w12.heap.size) (by omega) 0 (.string (numT oG))).other (B := w12.heap.size) (by omega) 1 (.string (denT oG))
        replace Bq := (Bq.other (B := w12.heap.size) (by omega) 0 (.string (numT oG))).other (B := w12.heap.size) (by omega) 1 (.string (denT oG))
        replace hB := (hB.setCell (p := ⟨w12.heap.size, 0, none⟩) (by dsimp; omega) (.string (numT oG))).setCell (p := ⟨w12.heap.size, 1, none⟩) (by dsimp; omega) (.string (denT oG))
        generalize ((w15.setCell ⟨w12.heap.size, 0, none⟩ (.string (numT oG))).setCell ⟨w12.heap.size, 1, none⟩ (.string (denT oG))) = w16 at *
        clear hL s0 s1 s2 s3
        have hL := HL0.out.below hB
        clear Ba
        clear Bc
        clear Bd
        have cb_0 := Bb.cell 0 (v := .string (numT (some q))) rfl
        have cb_1 := Bb.cell 1 (v := .string (denT (some q))) rfl
        have ct_0 := Bt.cell 0 (v := .string (numT (some t))) rfl
        have ct_1 := Bt.cell 1 (v := .string (denT (some t))) rfl
        go_upto_region 20 with (first
            | (go_at_call 25; (with_reducible refine (CH.out _ hL).mono ?_); rintro e w17 ⟨rfl, hb⟩; have hp := hb; replace Bb := Bb.below hp; replace Bt := Bt.below hp; replace Bp := Bp.below hp; replace Bq := Bq.below hp; clear cb_0 cb_1 ct_0 ct_1; replace hL := hL.below hp; replace hB := below_up hB hp; clear hb hp; have s0 := Bq.cell 0 (v := .string (numT oF)) rfl; have s1 := Bq.cell 1 (v := .string (denT oF)) rfl; have s2 := Bq.frozen 0; have s3 := Bq.frozen 1))
        replace Bq := (Bq.set 0 (.string (numT oH))).set 1 (.string (denT oH))
        replace Bp := (Bp.other (B := w13.heap.size) (by omega) 0 (.string (numT oH))).other (B := w13.heap.size) (by omega) 1 (.string (denT oH))
        replace Bt := (Bt.other (B := w13.heap.size) (by omega) 0 (.string (numT oH))).other (B := w13.heap.size) (by omega) 1 (.string (denT oH))
        replace hB := (hB.setCell (p := ⟨w13.heap.size, 0, none⟩) (by dsimp; omega) (.string (numT oH))).setCell (p := ⟨w13.heap.size, 1, none⟩) (by dsimp; omega) (.string (denT oH))
        generalize ((w17.setCell ⟨w13.heap.size, 0, none⟩ (.string (numT oH))).setCell ⟨w13.heap.size, 1, none⟩ (.string (denT oH))) = w18 at *
        clear hL s0 s1 s2 s3
        have hL := HL0.out.below hB
        clear Bb
        by_cases hk0 : kG = 0
        rotate_left
        · replace hk0 : (kG == 0) = false := beq_eq_false_iff_ne.2 hk0
          have hn0 : (kG != 0) = true := by simp only [bne, hk0]; rfl
          go_quiet (fail)
          go_wp2_with fail
          go_ret
          exact ⟨rfl, below_up hB (below_drewN (Below.refl _ _) _)⟩
        subst hk0
        by_cases hk1 : kH = 0
        rotate_left
        · replace hk1 : (kH == 0) = false := beq_eq_false_iff_ne.2 hk1
          have hn1 : (kH != 0) = true := by simp only [bne, hk1]; rfl
          go_quiet (fail)
          go_wp2_with fail
          go_ret
          exact ⟨rfl, below_up hB (below_drewN (Below.refl _ _) _)⟩
        subst hk1
        have KC := Lib.hid (KG.out rfl rfl)
        have hwm1 := hwm.out
        have hZ := (Below.refl w18.heap.size w18).drew
        have hLd := hL.below hZ
        have zp_0 := (Bp.below hZ).cell 0 (v := .string (numT oG)) rfl
        have zp_1 := (Bp.below hZ).cell 1 (v := .string (denT oG)) rfl
        have zq_0 := (Bq.below hZ).cell 0 (v := .string (numT oH)) rfl
        have zq_1 := (Bq.below hZ).cell 1 (v := .string (denT oH)) rfl
        have zt_0 := (Bt.below hZ).cell 0 (v := .string (numT (some t))) rfl
        have zt_1 := (Bt.below hZ).cell 1 (v := .string (denT (some t))) rfl
        first
        | (go_region_held3 (fun w' => w'.cell? ⟨w12.heap.size, 0, none⟩ = some (.string (numT oG)) ∧ w'.cell? ⟨w12.heap.size, 1, none⟩ = some (.string (denT oG)) ∧ w'.cell? ⟨w13.heap.size, 0, none⟩ = some (.string (numT oH)) ∧ w'.cell? ⟨w13.heap.size, 1, none⟩ = some (.string (denT oH)) ∧ w'.cell? ⟨w5.heap.size, 0, none⟩ = some (.string (numT (some t))) ∧ w'.cell? ⟨w5.heap.size, 1, none⟩ = some (.string (denT (some t)))) (go_keep) (first
          | (go_at_call 24; (with_reducible refine (is_any ⟨#[48]⟩ ⟨#[49]⟩ _).mono ?_); rintro e wN ⟨rfl, hb⟩; have hZ := below_up hZ hb; have hLd := hLd.below hb; have zp_0 := (hb.cell (cell_lt zp_0)).trans zp_0; have zp_1 := (hb.cell (cell_lt zp_1)).trans zp_1; have zq_0 := (hb.cell (cell_lt zq_0)).trans zq_0; have zq_1 := (hb.cell (cell_lt zq_1)).trans zq_1; have zt_0 := (hb.cell (cell_lt zt_0)).trans zt_0; have zt_1 := (hb.cell (cell_lt zt_1)).trans zt_1)
          | (go_at_call 23; (with_reducible refine (KC.out _ hLd).mono ?_); rintro e wN ⟨rfl, hb⟩; have hZ := below_up hZ hb; have hLd := hLd.below hb; have zp_0 := (hb.cell (cell_lt zp_0)).trans zp_0; have zp_1 := (hb.cell (cell_lt zp_1)).trans zp_1; have zq_0 := (hb.cell (cell_lt zq_0)).trans zq_0; have zq_1 := (hb.cell (cell_lt zq_1)).trans zq_1; have zt_0 := (hb.cell (cell_lt zt_0)).trans zt_0; have zt_1 := (hb.cell (cell_lt zt_1)).trans zt_1)
          | (go_at_call 23; (with_reducible refine (Ct0.out _ hLd).mono ?_); rintro e wN ⟨rfl, hb⟩; have hZ := below_up hZ hb; have hLd := hLd.below hb; have zp_0 := (hb.cell (cell_lt zp_0)).trans zp_0; have zp_1 := (hb.cell (cell_lt zp_1)).trans zp_1; have zq_0 := (hb.cell (cell_lt zq_0)).trans zq_0; have zq_1 := (hb.cell (cell_lt zq_1)).trans zq_1; have zt_0 := (hb.cell (cell_lt zt_0)).trans zt_0; have zt_1 := (hb.cell (cell_lt zt_1)).trans zt_1)))
        | fail "no way"
        all_goals go_wp2
        all_goals go_ret
        all_goals exact ⟨rfl, below_up hB hZ⟩

end Go.Proofs.YtnioinccflmdjaaGreatDoor
