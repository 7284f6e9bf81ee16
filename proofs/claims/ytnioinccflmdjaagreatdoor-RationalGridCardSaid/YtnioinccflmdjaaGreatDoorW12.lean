/- minus of package workpiecelaw04; RationalGrid: its walk. Condition: the tables of strconv; the numbers are ints. -/
import Derived.Test.YtnioinccflmdjaaGreatDoorQ9
import Derived.Test.YtnioinccflmdjaaGreatDoorW9
namespace Go.Proofs.YtnioinccflmdjaaGreatDoor
open Go.RowKit Num
open Go.Shelf

set_option maxHeartbeats 4000000 in
set_option maxRecDepth 100000 in
theorem qminus_any {x y : ByteArray} {a o : Option Rat} (h1 : ratO x y = a) (ho : op2Q subQ (some 0) a = o) (w : World) (hL : Laid w) :
    Calls Tryz.prog 45 #[.agg #[.string x, .string y]] w (RetA w (numT o) (denT o)) := by
  have C := Lib.hid (fun w hL => sub_r rat_01 h1 ho w hL)
  have hB : Below w.heap.size w w := Below.refl _ _
  have hmixed : Tryz.prog.follows .mixedOrders = true := by kernel_rfl
  clear h1 ho
  go_enter Tryz.func45, Tryz.ntmps45
  go_wp2_with fail
  go_cut [3, 4] (fun s3 s4 wx => ∃ g : Nat, BoxOut ((w.alloc (.cells #[.string x, .string y] 23)).alloc (.cells #[.string ⟨#[]⟩, .string ⟨#[]⟩] 23)) g 23 [.string (numT o), .string (denT o)] s3 wx ∧ s4 = .int .i64 (errT o))
  case first =>
    have er : w.heap.size + 1 + 1 ≠ w.heap.size := by omega
    have hZ : Below ((w.alloc (.cells #[.string x, .string y] 23)).alloc (.cells #[.string ⟨#[]⟩, .string ⟨#[]⟩] 23)).heap.size ((w.alloc (.cells #[.string x, .string y] 23)).alloc (.cells #[.string ⟨#[]⟩, .string ⟨#[]⟩] 23)) ((w.alloc (.cells #[.string x, .string y] 23)).alloc (.cells #[.string ⟨#[]⟩, .string ⟨#[]⟩] 23)).drew := (Below.refl _ _).drew
    have hLd := (hL.below (below_up (below1 w (.cells #[.string x, .string y] 23)) (below1 ((w.alloc (.cells #[.string x, .string y] 23))) (.cells #[.string ⟨#[]⟩, .string ⟨#[]⟩] 23)))).below hZ
    have Br := ((Blk.new w 23 [.string x, .string y]).alloc _).below hZ
    have Bz := (Blk.new2 w (.cells #[.string x, .string y] 23) 23 [.string ⟨#[]⟩, .string ⟨#[]⟩]).below hZ
    have cr_0 := Br.cell 0 (v := .string x) rfl
    have cr_1 := Br.cell 1 (v := .string y) rfl
    go_region_held3 (fun w' => w'.cell? ⟨w.heap.size, 0, none⟩ = some (.string x) ∧ w'.cell? ⟨w.heap.size, 1, none⟩ = some (.string y)) (go_keep) (first
        | (go_at_call 24; (refine (is_any ⟨#[48]⟩ ⟨#[49]⟩ _).mono ?_); rintro e wN ⟨rfl, hb⟩; (try (replace BN := BN.below hb)); (try first | (have BN := Blk.below ((Blk.new3 w (.cells #[.string x, .string y] 23) (.cells #[.string ⟨#[]⟩, .string ⟨#[]⟩] 23) 23 [.string ⟨#[]⟩, .string ⟨#[]⟩]).below (Below.refl _ _).drew) hb; have hg : ((w.alloc (.cells #[.string x, .string y] 23)).alloc (.cells #[.string ⟨#[]⟩, .string ⟨#[]⟩] 23)).heap.size ≤ w.heap.size + 1 + 1 := (by simp)) | (have BN := Blk.below (Blk.new _ 23 [.string ⟨#[]⟩, .string ⟨#[]⟩]) hb; have hg := hZ.size; have dr := Nat.ne_of_gt Br.lt)); have hZ := (by first | exact below_up hZ hb | exact below_up (below_up hZ (below1 _ _)) hb : Below ((w.alloc (.cells #[.string x, .string y] 23)).alloc (.cells #[.string ⟨#[]⟩, .string ⟨#[]⟩] 23)).heap.size ((w.alloc (.cells #[.string x, .string y] 23)).alloc (.cells #[.string ⟨#[]⟩, .string ⟨#[]⟩] 23)) wN); have hLd := (by first | exact hLd.below hb | exact (hLd.below (below1 _ _)).below hb : Laid wN); have Br := (by first | exact Br.below hb | exact (Br.alloc _).below hb : Blk wN w.heap.size 23 [.string x, .string y]); have cr_0 := Br.cell 0 (v := .string x) rfl; have cr_1 := Br.cell 1 (v := .string y) rfl; (try (have n0 := BN.cell 0 (v := .string ⟨#[]⟩) rfl; have m0 := BN.frozen 0; have n1 := BN.cell 1 (v := .string ⟨#[]⟩) rfl; have m1 := BN.frozen 1)))
        | (go_at_call 44; (refine (C.out _ (by first | exact hLd | exact hLd.below (below1 _ _))).mono ?_); rintro e wN ⟨rfl, hb⟩; (try (replace BN := BN.below hb)); (try first | (have BN := Blk.below ((Blk.new3 w (.cells #[.string x, .string y] 23) (.cells #[.string ⟨#[]⟩, .string ⟨#[]⟩] 23) 23 [.string ⟨#[]⟩, .string ⟨#[]⟩]).below (Below.refl _ _).drew) hb; have hg : ((w.alloc (.cells #[.string x, .string y] 23)).alloc (.cells #[.string ⟨#[]⟩, .string ⟨#[]⟩] 23)).heap.size ≤ w.heap.size + 1 + 1 := (by simp)) | (have BN := Blk.below (Blk.new _ 23 [.string ⟨#[]⟩, .string ⟨#[]⟩]) hb; have hg := hZ.size; have dr := Nat.ne_of_gt Br.lt)); have hZ := (by first | exact below_up hZ hb | exact below_up (below_up hZ (below1 _ _)) hb : Below ((w.alloc (.cells #[.string x, .string y] 23)).alloc (.cells #[.string ⟨#[]⟩, .string ⟨#[]⟩] 23)).heap.size ((w.alloc (.cells #[.string x, .string y] 23)).alloc (.cells #[.string ⟨#[]⟩, .string ⟨#[]⟩] 23)) wN); have hLd := (by first | exact hLd.below hb | exact (hLd.below (below1 _ _)).below hb : Laid wN); have Br := (by first | exact Br.below hb | exact (Br.alloc _).below hb : Blk wN w.heap.size 23 [.string x, .string y]); have cr_0 := Br.cell 0 (v := .string x) rfl; have cr_1 := Br.cell 1 (v := .string y) rfl; (try (have n0 := BN.cell 0 (v := .string ⟨#[]⟩) rfl; have m0 := BN.frozen 0; have n1 := BN.cell 1 (v := .string ⟨#[]⟩) rfl; have m1 := BN.frozen 1))))
    all_goals go_wp2_with fail
    all_goals go_meet
    all_goals first
        | exact ⟨_, ⟨rfl, ((BN.set 0 (.string (numT o))).set 1 (.string (denT o))), ((hZ.setCell hg (.string (numT o))).setCell hg (.string (denT o)))⟩, rfl⟩
        | exact ⟨_, ⟨rfl, Blk.new _ 23 [.string (numT o), .string (denT o)], below_up hZ (below1 _ _)⟩, rfl⟩
  case rest =>
    obtain ⟨w1, hnw⟩ : ∃ x, x = wc := ⟨_, rfl⟩
    subst hnw
    obtain ⟨gs, ⟨rfl, Bs, hp⟩, rfl⟩ := hcut
    have hq := below_up (below_up (below1 w (.cells #[.string x, .string y] 23)) (below1 ((w.alloc (.cells #[.string x, .string y] 23))) (.cells #[.string ⟨#[]⟩, .string ⟨#[]⟩] 23))) hp
    have Br := ((Blk.new w 23 [.string x, .string y]).alloc _).below hp
    have Bz := (Blk.new2 w (.cells #[.string x, .string y] 23) 23 [.string ⟨#[]⟩, .string ⟨#[]⟩]).below hp
    replace hL := hL.below hq; replace hB := below_up hB hq; clear hp hq
    have cs_0 := Bs.cell 0 (v := .string (numT o)) rfl
    have cs_1 := Bs.cell 1 (v := .string (denT o)) rfl
    have cz_0 := Bz.cell 0 (v := .string ⟨#[]⟩) rfl
    have cz_1 := Bz.cell 1 (v := .string ⟨#[]⟩) rfl
    have f0 := Bz.frozen 0
    have f1 := Bz.frozen 1
    go_wp2
    have ZF := (Bz.set 0 (.string (numT o))).set 1 (.string (denT o))
    have e0 := ZF.cell 0 (v := .string (numT o)) rfl
    have e1 := ZF.cell 1 (v := .string (denT o)) rfl
    refine bodyPost_ret (v := .agg #[.string (numT o), .string (denT o)]) (by simp [results, Tryz.results45, go_sem, e0, e1]) rfl ⟨rfl, ?_⟩
    exact (hB.setCell (by dsimp; omega) _).setCell (by dsimp; omega) _

theorem down_lit {x y u v : ByteArray} {a : Option Rat} {n : Int} {q : Rat} (h1 : ratO x y = a) (ho : a.bind (roundQ false n) = some q) (hu : Is u q.num) (hv : Is v (q.den : Int)) (w : World) (hL : Laid w) :
    Calls Tryz.prog 35 #[.agg #[.string x, .string y], .int .i64 n] w (RetLit w u v 0) := (down_r h1 ho w hL).mono fun _ _ k => ret_lit hu hv k
theorem up_lit {x y u v : ByteArray} {a : Option Rat} {n : Int} {q : Rat} (h1 : ratO x y = a) (ho : a.bind (roundQ true n) = some q) (hu : Is u q.num) (hv : Is v (q.den : Int)) (w : World) (hL : Laid w) :
    Calls Tryz.prog 37 #[.agg #[.string x, .string y], .int .i64 n] w (RetLit w u v 0) := (up_r h1 ho w hL).mono fun _ _ k => ret_lit hu hv k
theorem sub_lit {x y x' y' u v : ByteArray} {a b : Option Rat} {q : Rat} (h1 : ratO x y = a) (h2 : ratO x' y' = b) (ho : op2Q subQ a b = some q) (hu : Is u q.num) (hv : Is v (q.den : Int)) (w : World) (hL : Laid w) :
    Calls Tryz.prog 44 #[.agg #[.string x, .string y], .agg #[.string x', .string y']] w (RetLit w u v 0) := (sub_r h1 h2 ho w hL).mono fun _ _ k => ret_lit hu hv k
theorem mul_lit {x y x' y' u v : ByteArray} {a b : Option Rat} {q : Rat} (h1 : ratO x y = a) (h2 : ratO x' y' = b) (ho : op2Q mulQ a b = some q) (hu : Is u q.num) (hv : Is v (q.den : Int)) (w : World) (hL : Laid w) :
    Calls Tryz.prog 25 #[.agg #[.string x, .string y], .agg #[.string x', .string y']] w (RetLit w u v 0) := (mul_r h1 h2 ho w hL).mono fun _ _ k => ret_lit hu hv k
theorem minus_lit {x y u v : ByteArray} {a : Option Rat} {q : Rat} (h1 : ratO x y = a) (ho : op2Q subQ (some 0) a = some q) (hu : Is u q.num) (hv : Is v (q.den : Int)) (w : World) (hL : Laid w) :
    Calls Tryz.prog 45 #[.agg #[.string x, .string y]] w (RetA w u v) := by
  have h := qminus_any h1 ho w hL
  rwa [show numT (some q) = u from hu.eq.symm, show denT (some q) = v from hv.eq.symm] at h

set_option maxHeartbeats 8000000 in
set_option maxRecDepth 100000 in
theorem grid_any (x0 x1 x2 x3 n : Int) (hx0 : I64 x0) (hx1 : I64 x1) (hx2 : I64 x2) (hx3 : I64 x3) (hn : I64 n) (w : World) (hL : Laid w) :
    Calls Tryz.prog 10 #[.agg #[.int .i64 x0, .int .i64 x1, .int .i64 x2, .int .i64 x3], .int .i64 n] w (RetB w true) := by
  have CLX := Lib.hid (fun w => long_any x0 x1 x2 x3 hx0.1 hx0.2 hx1.1 hx1.2 hx2.1 hx2.2 hx3.1 hx3.2 w)
  have CP := Lib.hid (fun w => pick_any n 31 hn.1 hn.2 (by decide) (by decide) w)
  clear hx0 hx1 hx2 hx3 hn
  have hB : Below w.heap.size w w := Below.refl _ _
  have HL0 := Lib.hid hL
  have hmixed : Tryz.prog.follows .mixedOrders = true := by kernel_rfl
  go_enter Tryz.func10, Tryz.ntmps10
  go_wp2_with (first
      | (go_at_call 11; (with_reducible refine (sane_any _ (hL.below (below1 w (.cells #[.int .i64 x0, .int .i64 x1, .int .i64 x2, .int .i64 x3] 24)))).mono ?_); rintro e w1 ⟨rfl, hb⟩; have hp := below_up (below1 w (.cells #[.int .i64 x0, .int .i64 x1, .int .i64 x2, .int .i64 x3] 24)) hb; have BX := (Blk.new w 24 [.int .i64 x0, .int .i64 x1, .int .i64 x2, .int .i64 x3]).below hb; replace hL := hL.below hp; replace hB := below_up hB hp; clear hb hp; have cX_0 := BX.cell 0 (v := .int .i64 x0) rfl; have cX_1 := BX.cell 1 (v := .int .i64 x1) rfl; have cX_2 := BX.cell 2 (v := .int .i64 x2) rfl; have cX_3 := BX.cell 3 (v := .int .i64 x3) rfl)
      | (go_at_call 12; (with_reducible refine (CLX.out _).mono ?_); rintro e w2 ⟨p, hp, rfl, hb⟩; have hp := hb; replace BX := BX.below hp; clear cX_0 cX_1 cX_2 cX_3; replace hL := hL.below hp; replace hB := below_up hB hp; clear hb hp)
      | (go_at_call 18; (with_reducible refine (CP.out _).mono ?_); rintro e v' ⟨i, hi0, hi1, rfl, rfl⟩))
  obtain ⟨N, rfl⟩ : ∃ N : Nat, i = N := ⟨i.toNat, by omega⟩
  clear CLX CP BX hi0
  go_loop [7, 8] (fun a i => ∃ k : Nat, k ≤ N ∧ i = .int .i64 k ∧ a = .string (pw k)) (fun _ i => N - (intOf i).toNat)
  case atStart => exact ⟨0, by omega, rfl, by rw [pw_zero]⟩
  case round =>
    obtain ⟨k, hk, rfl, rfl⟩ := hrel
    have hps : (pw k).size ≤ 1000 := by rw [pw_size]; omega
    by_cases hlt : k < N
    · have PS := Lib.hid (pw_snoc k)
      go_wp2
      go_round
      case rel => exact ⟨k + 1, by omega, by go_num, by rw [← PS.out]⟩
      case measure => simp [intOf]; omega
    obtain rfl : k = N := by omega
    have hk30 : k ≤ 30 := by omega
    obtain ⟨z, y, hz, hy, hdn, hup, hmd, hcs⟩ := grid_all hp hk30
    have hmy : (-y).natAbs < 10 ^ 132 := by rw [Int.natAbs_neg]; exact hy
    have hT := pw_pos k
    have fA := fr_fit (mult_fit hz hk30)
    have fB := fr_fit (mult_fit hy hk30)
    have fC := fr_fit (mult_fit hmy hk30)
    have hP := hp.fit (by omega)
    have fP : Fr (numT (some p)) (denT (some p)) p := fr_fit hP
    have hPm : fitQ (0 - p) := subQ_fit (p := 0) (q := p) (neg_fits hP)
    have fM := fr_fit hPm
    have hmC : (0 : Rat) - Rat.divInt (-y) ((10 ^ k : Nat) : Int) = Rat.divInt y ((10 ^ k : Nat) : Int) := by
      have e : Rat.divInt (-y) ((10 ^ k : Nat) : Int) = -Rat.divInt y ((10 ^ k : Nat) : Int) := (Rat.neg_divInt ..).symm
      rw [e]; grind
    have hRT : ratO (pw k) ⟨#[49]⟩ = some (tq k) := rat_tq (by omega)
    have hzI : Is (tx z) ((z : Rat).num) := is_tx (sm_of hz (by decide))
    have hWf : fitQ (Rat.divInt (y - z) ((10 ^ k : Nat) : Int)) := by
      have := mult_sub hy hz hk30
      exact subQ_fit (p := Rat.divInt y ((10 ^ k : Nat) : Int)) (q := Rat.divInt z ((10 ^ k : Nat) : Int)) this
    have fW := fr_fit hWf
    have Ddn := fun w hL => down_lit (ratO_some.2 fP) hdn fA.1 fA.2 w hL
    have Dup := fun w hL => up_lit (ratO_some.2 fP) hup fB.1 fB.2 w hL
    have Dm := fun w hL => minus_lit (ratO_some.2 fP) (neg_fits hP) fM.1 fM.2 w hL
    have Dmd := fun w hL => down_lit (ratO_some.2 fM) hmd fC.1 fC.2 w hL
    have DmC := fun w hL => minus_lit (ratO_some.2 fC) ((neg_fits (mult_fit hmy hk30)).trans (by rw [hmC])) fB.1 fB.2 w hL
    have Dag := fun w hL => down_lit (ratO_some.2 fB) ((round_at hk30 (mult_grid hy hk30)).trans (by rw [round_self])) fB.1 fB.2 w hL
    have Dtw := fun w hL => up_lit (ratO_some.2 fA) ((round_at hk30 (mult_grid hz hk30)).trans (by rw [round_self])) fA.1 fA.2 w hL
    have Dn := fun w hL => mul_lit (ratO_some.2 fA) hRT (mult_ten hz hk30) hzI lit_1 w hL
    have Dw := fun w hL => sub_lit (ratO_some.2 fB) (ratO_some.2 fA) (mult_sub hy hz hk30) fW.1 fW.2 w hL
    obtain ⟨ca, hca⟩ : ∃ c, cmpO (some (Rat.divInt z ((10 ^ k : Nat) : Int))) (some p) = c := ⟨_, rfl⟩
    obtain ⟨cb, hcb⟩ : ∃ c, cmpO (some (Rat.divInt y ((10 ^ k : Nat) : Int))) (some p) = c := ⟨_, rfl⟩
    have Da := fun w hL => cmp_r (ratO_some.2 fA) (ratO_some.2 fP) hca w hL
    have Db := fun w hL => cmp_r (ratO_some.2 fB) (ratO_some.2 fP) hcb w hL
    have hW : (ca = 0 ∧ cb = 0 ∧ tx (Rat.divInt (y - z) ((10 ^ k : Nat) : Int)).num = ⟨#[48]⟩ ∧ tx ((Rat.divInt (y - z) ((10 ^ k : Nat) : Int)).den : Int) = ⟨#[49]⟩) ∨
        (ca = -1 ∧ cb = 1 ∧ tx (Rat.divInt (y - z) ((10 ^ k : Nat) : Int)).num = ⟨#[49]⟩ ∧ tx ((Rat.divInt (y - z) ((10 ^ k : Nat) : Int)).den : Int) = pw k) := by
      rcases hcs with ⟨e, e1, e2⟩ | ⟨e, e1, e2⟩
      · left
        rw [← hca, ← hcb, e, Int.sub_self, Rat.zero_divInt]
        refine ⟨by rw [← e]; exact e1, e2, lit_0.eq.symm, lit_1.eq.symm⟩
      · right
        have e3 : y - z = 1 := by omega
        rw [← hca, ← hcb, e3, (unit_num k).1, (unit_num k).2]
        exact ⟨e1, e2, lit_1.eq.symm, (is_pw (by omega)).eq.symm⟩
    clear hmd hup hdn hcs hmy fA fB fC fP fM fW hPm hmC hRT hzI hWf hca hcb hP hz hy hT
    generalize tx (Rat.divInt z ((10 ^ k : Nat) : Int)).num = xa at *
    generalize tx ((Rat.divInt z ((10 ^ k : Nat) : Int)).den : Int) = ya at *
    generalize tx (Rat.divInt y ((10 ^ k : Nat) : Int)).num = xb at *
    generalize tx ((Rat.divInt y ((10 ^ k : Nat) : Int)).den : Int) = yb at *
    generalize tx (Rat.divInt (-y) ((10 ^ k : Nat) : Int)).num = xc at *
    generalize tx ((Rat.divInt (-y) ((10 ^ k : Nat) : Int)).den : Int) = yc at *
    generalize tx (Rat.divInt (y - z) ((10 ^ k : Nat) : Int)).num = xw at *
    generalize tx ((Rat.divInt (y - z) ((10 ^ k : Nat) : Int)).den : Int) = yw at *
    generalize tx (0 - p).num = xm at *
    generalize tx ((0 - p).den : Int) = ym at *
    generalize tx z = xn at *
    have Cdn := Lib.hid Ddn
    have Cup := Lib.hid Dup
    have Cm := Lib.hid Dm
    have Cmd := Lib.hid Dmd
    have CmC := Lib.hid DmC
    have Cag := Lib.hid Dag
    have Ctw := Lib.hid Dtw
    have Cn := Lib.hid Dn
    have Cw := Lib.hid Dw
    have Ca := Lib.hid Da
    have Cb := Lib.hid Db
    have HW := Lib.hid hW
    clear Ddn Dup Dm Dmd DmC Dag Dtw Dn Dw Da Db hW hp hps
    have h30 : (k : Int) ≤ 30 := by omega
    go_upto_region 12 with (first
        | (go_at_call 35; (with_reducible refine (Cdn.out _ (hL.below (below1 w2 (.cells #[.string (numT (some p)), .string (denT (some p))] 23)))).mono ?_); rintro e w3 ⟨rfl, hb⟩; have hp := below_up (below1 w2 (.cells #[.string (numT (some p)), .string (denT (some p))] 23)) hb; have Br := (Blk.new w2 23 [.string (numT (some p)), .string (denT (some p))]).below hb; replace hL := hL.below hp; replace hB := below_up hB hp; clear hb hp; have cr_0 := (Br.below (below1 w3 (.cells #[.string xa, .string ya] 23))).cell 0 (v := .string (numT (some p))) rfl; have cr_1 := (Br.below (below1 w3 (.cells #[.string xa, .string ya] 23))).cell 1 (v := .string (denT (some p))) rfl)
        | (go_at_call 37; (with_reducible refine (Cup.out _ (hL.below (below1 w3 (.cells #[.string xa, .string ya] 23)))).mono ?_); rintro e w4 ⟨rfl, hb⟩; have hp := below_up (below1 w3 (.cells #[.string xa, .string ya] 23)) hb; replace Br := Br.below hp; have Ba := (Blk.new w3 23 [.string xa, .string ya]).below hb; clear cr_0 cr_1; replace hL := hL.below hp; replace hB := below_up hB hp; clear hb hp; have cr_0 := (Br.below (below1 w4 (.cells #[.string xb, .string yb] 23))).cell 0 (v := .string (numT (some p))) rfl; have cr_1 := (Br.below (below1 w4 (.cells #[.string xb, .string yb] 23))).cell 1 (v := .string (denT (some p))) rfl)
        | (go_at_call 45; (with_reducible refine (Cm.out _ (hL.below (below1 w4 (.cells #[.string xb, .string yb] 23)))).mono ?_); rintro e w5 ⟨rfl, hb⟩; have hp := below_up (below1 w4 (.cells #[.string xb, .string yb] 23)) hb; replace Br := Br.below hp; replace Ba := Ba.below hp; have Bb := (Blk.new w4 23 [.string xb, .string yb]).below hb; clear cr_0 cr_1; replace hL := hL.below hp; replace hB := below_up hB hp; clear hb hp)
        | (go_at_call 35; (with_reducible refine (Cmd.out _ hL).mono ?_); rintro e w6 ⟨rfl, hb⟩; have hp := hb; replace Br := Br.below hp; replace Ba := Ba.below hp; replace Bb := Bb.below hp; replace hL := hL.below hp; replace hB := below_up hB hp; clear hb hp))
    go_cut [83] (fun s83 wx => s83 = .bool false ∧ Below (w6.alloc (.cells #[.string xc, .string yc] 23)).heap.size (w6.alloc (.cells #[.string xc, .string yc] 23)) wx)
    case first => as_aux_lemma =>
      rcases HW.out with ⟨rfl, rfl, rfl, rfl⟩ | ⟨rfl, rfl, rfl, rfl⟩
      all_goals
        have hZ : Below (w6.alloc (.cells #[.string xc, .string yc] 23)).heap.size (w6.alloc (.cells #[.string xc, .string yc] 23)) (w6.alloc (.cells #[.string xc, .string yc] 23)).drew := (Below.refl _ _).drew
        have hLd := (hL.below (below1 w6 (.cells #[.string xc, .string yc] 23))).below hZ
        have zc_0 := ((Blk.new w6 23 [.string xc, .string yc]).below hZ).cell 0 (v := .string xc) rfl
        have zc_1 := ((Blk.new w6 23 [.string xc, .string yc]).below hZ).cell 1 (v := .string yc) rfl
        have zb_0 := ((Bb.below (below1 w6 (.cells #[.string xc, .string yc] 23))).below hZ).cell 0 (v := .string xb) rfl
        have zb_1 := ((Bb.below (below1 w6 (.cells #[.string xc, .string yc] 23))).below hZ).cell 1 (v := .string yb) rfl
        have za_0 := ((Ba.below (below1 w6 (.cells #[.string xc, .string yc] 23))).below hZ).cell 0 (v := .string xa) rfl
        have za_1 := ((Ba.below (below1 w6 (.cells #[.string xc, .string yc] 23))).below hZ).cell 1 (v := .string ya) rfl
        have zr_0 := ((Br.below (below1 w6 (.cells #[.string xc, .string yc] 23))).below hZ).cell 0 (v := .string (numT (some p))) rfl
        have zr_1 := ((Br.below (below1 w6 (.cells #[.string xc, .string yc] 23))).below hZ).cell 1 (v := .string (denT (some p))) rfl
        go_region_held3 (fun w' => w'.cell? ⟨w6.heap.size, 0, none⟩ = some (.string xc) ∧ w'.cell? ⟨w6.heap.size, 1, none⟩ = some (.string yc) ∧ w'.cell? ⟨w4.heap.size, 0, none⟩ = some (.string xb) ∧ w'.cell? ⟨w4.heap.size, 1, none⟩ = some (.string yb) ∧ w'.cell? ⟨w3.heap.size, 0, none⟩ = some (.string xa) ∧ w'.cell? ⟨w3.heap.size, 1, none⟩ = some (.string ya) ∧ w'.cell? ⟨w2.heap.size, 0, none⟩ = some (.string (numT (some p))) ∧ w'.cell? ⟨w2.heap.size, 1, none⟩ = some (.string (denT (some p)))) (go_keep) (first
          | (go_at_call 45; (with_reducible refine (CmC.out _ hLd).mono ?_); rintro e wN ⟨rfl, hb⟩; have hZ := below_up hZ hb; have hLd := hLd.below hb; have zc_0 := (hb.cell (cell_lt zc_0)).trans zc_0; have zc_1 := (hb.cell (cell_lt zc_1)).trans zc_1; have zb_0 := (hb.cell (cell_lt zb_0)).trans zb_0; have zb_1 := (hb.cell (cell_lt zb_1)).trans zb_1; have za_0 := (hb.cell (cell_lt za_0)).trans za_0; have za_1 := (hb.cell (cell_lt za_1)).trans za_1; have zr_0 := (hb.cell (cell_lt zr_0)).trans zr_0; have zr_1 := (hb.cell (cell_lt zr_1)).trans zr_1)
          | (go_at_call 23; (with_reducible refine (Ca.out _ hLd).mono ?_); rintro e wN ⟨rfl, hb⟩; have hZ := below_up hZ hb; have hLd := hLd.below hb; have zc_0 := (hb.cell (cell_lt zc_0)).trans zc_0; have zc_1 := (hb.cell (cell_lt zc_1)).trans zc_1; have zb_0 := (hb.cell (cell_lt zb_0)).trans zb_0; have zb_1 := (hb.cell (cell_lt zb_1)).trans zb_1; have za_0 := (hb.cell (cell_lt za_0)).trans za_0; have za_1 := (hb.cell (cell_lt za_1)).trans za_1; have zr_0 := (hb.cell (cell_lt zr_0)).trans zr_0; have zr_1 := (hb.cell (cell_lt zr_1)).trans zr_1)
          | (go_at_call 23; (with_reducible refine (Cb.out _ hLd).mono ?_); rintro e wN ⟨rfl, hb⟩; have hZ := below_up hZ hb; have hLd := hLd.below hb; have zc_0 := (hb.cell (cell_lt zc_0)).trans zc_0; have zc_1 := (hb.cell (cell_lt zc_1)).trans zc_1; have zb_0 := (hb.cell (cell_lt zb_0)).trans zb_0; have zb_1 := (hb.cell (cell_lt zb_1)).trans zb_1; have za_0 := (hb.cell (cell_lt za_0)).trans za_0; have za_1 := (hb.cell (cell_lt za_1)).trans za_1; have zr_0 := (hb.cell (cell_lt zr_0)).trans zr_0; have zr_1 := (hb.cell (cell_lt zr_1)).trans zr_1))
        all_goals go_wp2_with fail
        all_goals go_meet
        all_goals exact ⟨rfl, hZ⟩
    case rest => as_aux_lemma =>
      obtain ⟨rfl, hp⟩ := hcut
      obtain ⟨w7, hnw⟩ : ∃ x, x = wc := ⟨_, rfl⟩
      subst hnw
      have hq2 := below_up (below1 w6 (.cells #[.string xc, .string yc] 23)) hp
      replace Br := Br.below hq2
      replace Ba := Ba.below hq2
      replace Bb := Bb.below hq2
      have Bc := (Blk.new w6 23 [.string xc, .string yc]).below hp
      replace hL := hL.below hq2
      replace hB := below_up hB hq2
      clear hp hq2
      have cb_0 := Bb.cell 0 (v := .string xb) rfl
      have cb_1 := Bb.cell 1 (v := .string yb) rfl
      go_upto_region 16 with (first
          | (go_at_call 35; (with_reducible refine (Cag.out _ hL).mono ?_); rintro e w8 ⟨rfl, hb⟩; have hp := hb; replace Br := Br.below hp; replace Ba := Ba.below hp; replace Bb := Bb.below hp; replace Bc := Bc.below hp; clear cb_0 cb_1; replace hL := hL.below hp; replace hB := below_up hB hp; clear hb hp; have ca_0 := (Ba.below (below1 w8 (.cells #[.string xb, .string yb] 23))).cell 0 (v := .string xa) rfl; have ca_1 := (Ba.below (below1 w8 (.cells #[.string xb, .string yb] 23))).cell 1 (v := .string ya) rfl)
          | (go_at_call 37; (with_reducible refine (Ctw.out _ (hL.below (below1 w8 (.cells #[.string xb, .string yb] 23)))).mono ?_); rintro e w9 ⟨rfl, hb⟩; have hp := below_up (below1 w8 (.cells #[.string xb, .string yb] 23)) hb; replace Br := Br.below hp; replace Ba := Ba.below hp; replace Bb := Bb.below hp; replace Bc := Bc.below hp; have Bagain := (Blk.new w8 23 [.string xb, .string yb]).below hb; clear ca_0 ca_1; replace hL := hL.below hp; replace hB := below_up hB hp; clear hb hp))
      go_cut [19, 20] (fun s19 s20 wx => ∃ g : Nat, BoxOut (w9.alloc (.cells #[.string xa, .string ya] 23)) g 23 [.string xn, .string ⟨#[49]⟩] s19 wx ∧ s20 = .int .i64 0)
      case first =>
        have qa_0 := Ba.cell 0 (v := .string xa) rfl
        have qa_1 := Ba.cell 1 (v := .string ya) rfl
        have ea : w9.heap.size + 1 ≠ w3.heap.size := by have := Ba.lt; omega
        have hZ : Below (w9.alloc (.cells #[.string xa, .string ya] 23)).heap.size (w9.alloc (.cells #[.string xa, .string ya] 23)) (w9.alloc (.cells #[.string xa, .string ya] 23)).drew := (Below.refl _ _).drew
        have hLd := (hL.below (below1 w9 (.cells #[.string xa, .string ya] 23))).below hZ
        replace Br := (Br.below (below1 w9 (.cells #[.string xa, .string ya] 23))).below hZ
        replace Ba := (Ba.below (below1 w9 (.cells #[.string xa, .string ya] 23))).below hZ
        replace Bb := (Bb.below (below1 w9 (.cells #[.string xa, .string ya] 23))).below hZ
        replace Bc := (Bc.below (below1 w9 (.cells #[.string xa, .string ya] 23))).below hZ
        replace Bagain := (Bagain.below (below1 w9 (.cells #[.string xa, .string ya] 23))).below hZ
        have Btwice := (Blk.new w9 23 [.string xa, .string ya]).below hZ
        have ca_0 := Ba.cell 0 (v := .string xa) rfl
        have ca_1 := Ba.cell 1 (v := .string ya) rfl
        go_region_held3 (fun w' => w'.cell? ⟨w3.heap.size, 0, none⟩ = some (.string xa) ∧ w'.cell? ⟨w3.heap.size, 1, none⟩ = some (.string ya)) (go_keep) (first
            | (go_at_call 24; (refine (is_any (pw k) ⟨#[49]⟩ _).mono ?_); rintro e wN ⟨rfl, hb⟩; (try (replace BN := BN.below hb)); (try first | (have BN := Blk.below ((Blk.new2 w9 (.cells #[.string xa, .string ya] 23) 23 [.string ⟨#[]⟩, .string ⟨#[]⟩]).below (Below.refl _ _).drew) hb; have hg : (w9.alloc (.cells #[.string xa, .string ya] 23)).heap.size ≤ w9.heap.size + 1 := (by simp)) | (have BN := Blk.below (Blk.new _ 23 [.string ⟨#[]⟩, .string ⟨#[]⟩]) hb; have hg := hZ.size; have da := Nat.ne_of_gt Ba.lt)); have hZ := (by first | exact below_up hZ hb | exact below_up (below_up hZ (below1 _ _)) hb : Below (w9.alloc (.cells #[.string xa, .string ya] 23)).heap.size (w9.alloc (.cells #[.string xa, .string ya] 23)) wN); have hLd := (by first | exact hLd.below hb | exact (hLd.below (below1 _ _)).below hb : Laid wN); have Ba := (by first | exact Ba.below hb | exact (Ba.alloc _).below hb : Blk wN w3.heap.size 23 [.string xa, .string ya]); have ca_0 := Ba.cell 0 (v := .string xa) rfl; have ca_1 := Ba.cell 1 (v := .string ya) rfl; (try (have n0 := BN.cell 0 (v := .string ⟨#[]⟩) rfl; have m0 := BN.frozen 0; have n1 := BN.cell 1 (v := .string ⟨#[]⟩) rfl; have m1 := BN.frozen 1)))
            | (go_at_call 25; (refine (Cn.out _ (by first | exact hLd | exact hLd.below (below1 _ _))).mono ?_); rintro e wN ⟨rfl, hb⟩; (try (replace BN := BN.below hb)); (try first | (have BN := Blk.below ((Blk.new2 w9 (.cells #[.string xa, .string ya] 23) 23 [.string ⟨#[]⟩, .string ⟨#[]⟩]).below (Below.refl _ _).drew) hb; have hg : (w9.alloc (.cells #[.string xa, .string ya] 23)).heap.size ≤ w9.heap.size + 1 := (by simp)) | (have BN := Blk.below (Blk.new _ 23 [.string ⟨#[]⟩, .string ⟨#[]⟩]) hb; have hg := hZ.size; have da := Nat.ne_of_gt Ba.lt)); have hZ := (by first | exact below_up hZ hb | exact below_up (below_up hZ (below1 _ _)) hb : Below (w9.alloc (.cells #[.string xa, .string ya] 23)).heap.size (w9.alloc (.cells #[.string xa, .string ya] 23)) wN); have hLd := (by first | exact hLd.below hb | exact (hLd.below (below1 _ _)).below hb : Laid wN); have Ba := (by first | exact Ba.below hb | exact (Ba.alloc _).below hb : Blk wN w3.heap.size 23 [.string xa, .string ya]); have ca_0 := Ba.cell 0 (v := .string xa) rfl; have ca_1 := Ba.cell 1 (v := .string ya) rfl; (try (have n0 := BN.cell 0 (v := .string ⟨#[]⟩) rfl; have m0 := BN.frozen 0; have n1 := BN.cell 1 (v := .string ⟨#[]⟩) rfl; have m1 := BN.frozen 1))))
        all_goals go_wp2_with fail
        all_goals go_meet
        all_goals first
            | exact ⟨_, ⟨rfl, ((BN.set 0 (.string xn)).set 1 (.string ⟨#[49]⟩)), ((hZ.setCell hg (.string xn)).setCell hg (.string ⟨#[49]⟩))⟩, rfl⟩
            | exact ⟨_, ⟨rfl, Blk.new _ 23 [.string xn, .string ⟨#[49]⟩], below_up hZ (below1 _ _)⟩, rfl⟩
      case rest =>
        obtain ⟨w10, hnw⟩ : ∃ x, x = wc := ⟨_, rfl⟩
        subst hnw
        obtain ⟨gn, ⟨rfl, Bn, hp⟩, rfl⟩ := hcut
        have hq := below_up (below1 w9 (.cells #[.string xa, .string ya] 23)) hp
        replace Br := Br.below hq
        replace Ba := Ba.below hq
        replace Bb := Bb.below hq
        replace Bc := Bc.below hq
        replace Bagain := Bagain.below hq
        have Btwice := (Blk.new w9 23 [.string xa, .string ya]).below hp
        replace hL := hL.below hq; replace hB := below_up hB hq; clear hp hq
        have cb_0 := Bb.cell 0 (v := .string xb) rfl
        have cb_1 := Bb.cell 1 (v := .string yb) rfl
        have ca_0 := Ba.cell 0 (v := .string xa) rfl
        have ca_1 := Ba.cell 1 (v := .string ya) rfl
        go_upto_region 18 with (first
            | (go_at_call 44; (with_reducible refine (Cw.out _ hL).mono ?_); rintro e w11 ⟨rfl, hb⟩; have hp := hb; replace Br := Br.below hp; replace Ba := Ba.below hp; replace Bb := Bb.below hp; replace Bc := Bc.below hp; replace Bagain := Bagain.below hp; replace Btwice := Btwice.below hp; replace Bn := Bn.below hp; clear cb_0 cb_1 ca_0 ca_1; replace hL := hL.below hp; replace hB := below_up hB hp; clear hb hp; have ca_0 := (Ba.below (below1 w11 (.cells #[.string xw, .string yw] 23))).cell 0 (v := .string xa) rfl; have ca_1 := (Ba.below (below1 w11 (.cells #[.string xw, .string yw] 23))).cell 1 (v := .string ya) rfl; have cr_0 := (Br.below (below1 w11 (.cells #[.string xw, .string yw] 23))).cell 0 (v := .string (numT (some p))) rfl; have cr_1 := (Br.below (below1 w11 (.cells #[.string xw, .string yw] 23))).cell 1 (v := .string (denT (some p))) rfl))
        by_cases hk0 : k = 0
        · subst hk0
          have HW0 := HW.out
          rw [pw_zero] at HW0
          rcases HW0 with ⟨rfl, rfl, rfl, rfl⟩ | ⟨rfl, rfl, rfl, rfl⟩
          · clear HW
            go_upto_region 22 with (first
                | (go_at_call 23; (with_reducible refine (Ca.out _ (hL.below (below1 w11 (.cells #[.string ⟨#[48]⟩, .string ⟨#[49]⟩] 23)))).mono ?_); rintro e w12 ⟨rfl, hb⟩; have hp := below_up (below1 w11 (.cells #[.string ⟨#[48]⟩, .string ⟨#[49]⟩] 23)) hb; replace Br := Br.below hp; replace Ba := Ba.below hp; replace Bb := Bb.below hp; replace Bagain := Bagain.below hp; replace Btwice := Btwice.below hp; replace Bn := Bn.below hp; have Bwidth := (Blk.new w11 23 [.string ⟨#[48]⟩, .string ⟨#[49]⟩]).below hb; clear ca_0 ca_1 cr_0 cr_1; replace hL := hL.below hp; replace hB := below_up hB hp; clear hb hp)
                | (go_at_call 24; (with_reducible refine (is_any ⟨#[49]⟩ (pw 0) _).mono ?_); rintro e w13 ⟨rfl, hb⟩; have hp := hb; replace Br := Br.below hp; replace Ba := Ba.below hp; replace Bb := Bb.below hp; replace Bagain := Bagain.below hp; replace Btwice := Btwice.below hp; replace Bn := Bn.below hp; replace Bwidth := Bwidth.below hp; replace hL := hL.below hp; replace hB := below_up hB hp; clear hb hp; have ltagain := Bagain.lt; have ltb := Bb.lt; have lttwice := Btwice.lt; have lta := Ba.lt; have ltn := Bn.lt; have ltwidth := Bwidth.lt; have ltr := Br.lt; have leW := hB.size)
                | (go_at_call 24; (with_reducible refine (is_any ⟨#[49]⟩ ⟨#[49]⟩ _).mono ?_); rintro e w14 ⟨rfl, hb⟩; have hp := below_up (below1 w13 (.cells #[.string ⟨#[49]⟩, .string (pw 0)] 23)) hb; replace Br := Br.below hp; replace Ba := Ba.below hp; replace Bb := Bb.below hp; replace Bagain := Bagain.below hp; replace Btwice := Btwice.below hp; replace Bn := Bn.below hp; replace Bwidth := Bwidth.below hp; have Bwant := (Blk.new w13 23 [.string ⟨#[49]⟩, .string (pw 0)]).below hb; replace hL := hL.below hp; replace hB := below_up hB hp; clear hb hp; have s0 := Bwant.cell 0 (v := .string ⟨#[49]⟩) rfl; have s1 := Bwant.cell 1 (v := .string (pw 0)) rfl; have s2 := Bwant.frozen 0; have s3 := Bwant.frozen 1))
            replace Bwant := (Bwant.set 0 (.string ⟨#[49]⟩)).set 1 (.string ⟨#[49]⟩)
            replace Bagain := (Bagain.other (B := w13.heap.size) (by omega) 0 (.string ⟨#[49]⟩)).other (B := w13.heap.size) (by omega) 1 (.string ⟨#[49]⟩)
            replace Bb := (Bb.other (B := w13.heap.size) (by omega) 0 (.string ⟨#[49]⟩)).other (B := w13.heap.size) (by omega) 1 (.string ⟨#[49]⟩)
            replace Btwice := (Btwice.other (B := w13.heap.size) (by omega) 0 (.string ⟨#[49]⟩)).other (B := w13.heap.size) (by omega) 1 (.string ⟨#[49]⟩)
            replace Ba := (Ba.other (B := w13.heap.size) (by omega) 0 (.string ⟨#[49]⟩)).other (B := w13.heap.size) (by omega) 1 (.string ⟨#[49]⟩)
            replace Bn := (Bn.other (B := w13.heap.size) (by omega) 0 (.string ⟨#[49]⟩)).other (B := w13.heap.size) (by omega) 1 (.string ⟨#[49]⟩)
            replace Bwidth := (Bwidth.other (B := w13.heap.size) (by omega) 0 (.string ⟨#[49]⟩)).other (B := w13.heap.size) (by omega) 1 (.string ⟨#[49]⟩)
            replace Br := (Br.other (B := w13.heap.size) (by omega) 0 (.string ⟨#[49]⟩)).other (B := w13.heap.size) (by omega) 1 (.string ⟨#[49]⟩)
            replace hB := (hB.setCell (p := ⟨w13.heap.size, 0, none⟩) (by dsimp; omega) (.string ⟨#[49]⟩)).setCell (p := ⟨w13.heap.size, 1, none⟩) (by dsimp; omega) (.string ⟨#[49]⟩)
            generalize ((w14.setCell ⟨w13.heap.size, 0, none⟩ (.string ⟨#[49]⟩)).setCell ⟨w13.heap.size, 1, none⟩ (.string ⟨#[49]⟩)) = w15 at *
            clear hL s0 s1 s2 s3
            have hL := HL0.out.below hB
            go_upto_region 24 with (first
                | (go_at_call 24; (with_reducible refine (is_any ⟨#[48]⟩ ⟨#[49]⟩ _).mono ?_); rintro e w16 ⟨rfl, hb⟩; have hp := hb; replace Br := Br.below hp; replace Ba := Ba.below hp; replace Bb := Bb.below hp; replace Bagain := Bagain.below hp; replace Btwice := Btwice.below hp; replace Bn := Bn.below hp; replace Bwidth := Bwidth.below hp; replace Bwant := Bwant.below hp; replace hL := hL.below hp; replace hB := below_up hB hp; clear hb hp; have s0 := Bwant.cell 0 (v := .string ⟨#[49]⟩) rfl; have s1 := Bwant.cell 1 (v := .string ⟨#[49]⟩) rfl; have s2 := Bwant.frozen 0; have s3 := Bwant.frozen 1))
            replace Bwant := (Bwant.set 0 (.string ⟨#[48]⟩)).set 1 (.string ⟨#[49]⟩)
            replace Bagain := (Bagain.other (B := w13.heap.size) (by omega) 0 (.string ⟨#[48]⟩)).other (B := w13.heap.size) (by omega) 1 (.string ⟨#[49]⟩)
            replace Bb := (Bb.other (B := w13.heap.size) (by omega) 0 (.string ⟨#[48]⟩)).other (B := w13.heap.size) (by omega) 1 (.string ⟨#[49]⟩)
            replace Btwice := (Btwice.other (B := w13.heap.size) (by omega) 0 (.string ⟨#[48]⟩)).other (B := w13.heap.size) (by omega) 1 (.string ⟨#[49]⟩)
            replace Ba := (Ba.other (B := w13.heap.size) (by omega) 0 (.string ⟨#[48]⟩)).other (B := w13.heap.size) (by omega) 1 (.string ⟨#[49]⟩)
            replace Bn := (Bn.other (B := w13.heap.size) (by omega) 0 (.string ⟨#[48]⟩)).other (B := w13.heap.size) (by omega) 1 (.string ⟨#[49]⟩)
            replace Bwidth := (Bwidth.other (B := w13.heap.size) (by omega) 0 (.string ⟨#[48]⟩)).other (B := w13.heap.size) (by omega) 1 (.string ⟨#[49]⟩)
            replace Br := (Br.other (B := w13.heap.size) (by omega) 0 (.string ⟨#[48]⟩)).other (B := w13.heap.size) (by omega) 1 (.string ⟨#[49]⟩)
            replace hB := (hB.setCell (p := ⟨w13.heap.size, 0, none⟩) (by dsimp; omega) (.string ⟨#[48]⟩)).setCell (p := ⟨w13.heap.size, 1, none⟩) (by dsimp; omega) (.string ⟨#[49]⟩)
            generalize ((w16.setCell ⟨w13.heap.size, 0, none⟩ (.string ⟨#[48]⟩)).setCell ⟨w13.heap.size, 1, none⟩ (.string ⟨#[49]⟩)) = w17 at *
            clear hL s0 s1 s2 s3
            have hL := HL0.out.below hB
            have cagain_0 := Bagain.cell 0 (v := .string xb) rfl
            have cagain_1 := Bagain.cell 1 (v := .string yb) rfl
            have cb_0 := Bb.cell 0 (v := .string xb) rfl
            have cb_1 := Bb.cell 1 (v := .string yb) rfl
            have ctwice_0 := Btwice.cell 0 (v := .string xa) rfl
            have ctwice_1 := Btwice.cell 1 (v := .string ya) rfl
            have ca_0 := Ba.cell 0 (v := .string xa) rfl
            have ca_1 := Ba.cell 1 (v := .string ya) rfl
            have cn_0 := Bn.cell 0 (v := .string xn) rfl
            have cn_1 := Bn.cell 1 (v := .string ⟨#[49]⟩) rfl
            have cwidth_0 := Bwidth.cell 0 (v := .string ⟨#[48]⟩) rfl
            have cwidth_1 := Bwidth.cell 1 (v := .string ⟨#[49]⟩) rfl
            have cwant_0 := Bwant.cell 0 (v := .string ⟨#[48]⟩) rfl
            have cwant_1 := Bwant.cell 1 (v := .string ⟨#[49]⟩) rfl
            have cr_0 := Br.cell 0 (v := .string (numT (some p))) rfl
            have cr_1 := Br.cell 1 (v := .string (denT (some p))) rfl
            go_wp2_with (first
                | (go_at_call 23; (with_reducible refine (Cb.out _ hL).mono ?_); rintro e w18 ⟨rfl, hb⟩; have hp := hb; replace Br := Br.below hp; replace Ba := Ba.below hp; replace Bb := Bb.below hp; replace Bagain := Bagain.below hp; replace Btwice := Btwice.below hp; replace Bn := Bn.below hp; replace Bwidth := Bwidth.below hp; replace Bwant := Bwant.below hp; clear cagain_0 cagain_1 cb_0 cb_1 ctwice_0 ctwice_1 ca_0 ca_1 cn_0 cn_1 cwidth_0 cwidth_1 cwant_0 cwant_1 cr_0 cr_1; replace hL := hL.below hp; replace hB := below_up hB hp; clear hb hp))
            go_ret
            exact ⟨rfl, hB⟩
          · clear HW
            go_upto_region 22 with (first
                | (go_at_call 23; (with_reducible refine (Ca.out _ (hL.below (below1 w11 (.cells #[.string ⟨#[49]⟩, .string ⟨#[49]⟩] 23)))).mono ?_); rintro e w12 ⟨rfl, hb⟩; have hp := below_up (below1 w11 (.cells #[.string ⟨#[49]⟩, .string ⟨#[49]⟩] 23)) hb; replace Br := Br.below hp; replace Ba := Ba.below hp; replace Bb := Bb.below hp; replace Bagain := Bagain.below hp; replace Btwice := Btwice.below hp; replace Bn := Bn.below hp; have Bwidth := (Blk.new w11 23 [.string ⟨#[49]⟩, .string ⟨#[49]⟩]).below hb; clear ca_0 ca_1 cr_0 cr_1; replace hL := hL.below hp; replace hB := below_up hB hp; clear hb hp)
                | (go_at_call 24; (with_reducible refine (is_any ⟨#[49]⟩ (pw 0) _).mono ?_); rintro e w13 ⟨rfl, hb⟩; have hp := hb; replace Br := Br.below hp; replace Ba := Ba.below hp; replace Bb := Bb.below hp; replace Bagain := Bagain.below hp; replace Btwice := Btwice.below hp; replace Bn := Bn.below hp; replace Bwidth := Bwidth.below hp; replace hL := hL.below hp; replace hB := below_up hB hp; clear hb hp; have ltagain := Bagain.lt; have ltb := Bb.lt; have lttwice := Btwice.lt; have lta := Ba.lt; have ltn := Bn.lt; have ltwidth := Bwidth.lt; have ltr := Br.lt; have leW := hB.size)
                | (go_at_call 24; (with_reducible refine (is_any ⟨#[49]⟩ ⟨#[49]⟩ _).mono ?_); rintro e w14 ⟨rfl, hb⟩; have hp := below_up (below1 w13 (.cells #[.string ⟨#[49]⟩, .string (pw 0)] 23)) hb; replace Br := Br.below hp; replace Ba := Ba.below hp; replace Bb := Bb.below hp; replace Bagain := Bagain.below hp; replace Btwice := Btwice.below hp; replace Bn := Bn.below hp; replace Bwidth := Bwidth.below hp; have Bwant := (Blk.new w13 23 [.string ⟨#[49]⟩, .string (pw 0)]).below hb; replace hL := hL.below hp; replace hB := below_up hB hp; clear hb hp; have s0 := Bwant.cell 0 (v := .string ⟨#[49]⟩) rfl; have s1 := Bwant.cell 1 (v := .string (pw 0)) rfl; have s2 := Bwant.frozen 0; have s3 := Bwant.frozen 1))
            replace Bwant := (Bwant.set 0 (.string ⟨#[49]⟩)).set 1 (.string ⟨#[49]⟩)
            replace Bagain := (Bagain.other (B := w13.heap.size) (by omega) 0 (.string ⟨#[49]⟩)).other (B := w13.heap.size) (by omega) 1 (.string ⟨#[49]⟩)
            replace Bb := (Bb.other (B := w13.heap.size) (by omega) 0 (.string ⟨#[49]⟩)).other (B := w13.heap.size) (by omega) 1 (.string ⟨#[49]⟩)
            replace Btwice := (Btwice.other (B := w13.heap.size) (by omega) 0 (.string ⟨#[49]⟩)).other (B := w13.heap.size) (by omega) 1 (.string ⟨#[49]⟩)
            replace Ba := (Ba.other (B := w13.heap.size) (by omega) 0 (.string ⟨#[49]⟩)).other (B := w13.heap.size) (by omega) 1 (.string ⟨#[49]⟩)
            replace Bn := (Bn.other (B := w13.heap.size) (by omega) 0 (.string ⟨#[49]⟩)).other (B := w13.heap.size) (by omega) 1 (.string ⟨#[49]⟩)
            replace Bwidth := (Bwidth.other (B := w13.heap.size) (by omega) 0 (.string ⟨#[49]⟩)).other (B := w13.heap.size) (by omega) 1 (.string ⟨#[49]⟩)
            replace Br := (Br.other (B := w13.heap.size) (by omega) 0 (.string ⟨#[49]⟩)).other (B := w13.heap.size) (by omega) 1 (.string ⟨#[49]⟩)
            replace hB := (hB.setCell (p := ⟨w13.heap.size, 0, none⟩) (by dsimp; omega) (.string ⟨#[49]⟩)).setCell (p := ⟨w13.heap.size, 1, none⟩) (by dsimp; omega) (.string ⟨#[49]⟩)
            generalize ((w14.setCell ⟨w13.heap.size, 0, none⟩ (.string ⟨#[49]⟩)).setCell ⟨w13.heap.size, 1, none⟩ (.string ⟨#[49]⟩)) = w15 at *
            clear hL s0 s1 s2 s3
            have hL := HL0.out.below hB
            have cagain_0 := Bagain.cell 0 (v := .string xb) rfl
            have cagain_1 := Bagain.cell 1 (v := .string yb) rfl
            have cb_0 := Bb.cell 0 (v := .string xb) rfl
            have cb_1 := Bb.cell 1 (v := .string yb) rfl
            have ctwice_0 := Btwice.cell 0 (v := .string xa) rfl
            have ctwice_1 := Btwice.cell 1 (v := .string ya) rfl
            have ca_0 := Ba.cell 0 (v := .string xa) rfl
            have ca_1 := Ba.cell 1 (v := .string ya) rfl
            have cn_0 := Bn.cell 0 (v := .string xn) rfl
            have cn_1 := Bn.cell 1 (v := .string ⟨#[49]⟩) rfl
            have cwidth_0 := Bwidth.cell 0 (v := .string ⟨#[49]⟩) rfl
            have cwidth_1 := Bwidth.cell 1 (v := .string ⟨#[49]⟩) rfl
            have cwant_0 := Bwant.cell 0 (v := .string ⟨#[49]⟩) rfl
            have cwant_1 := Bwant.cell 1 (v := .string ⟨#[49]⟩) rfl
            have cr_0 := Br.cell 0 (v := .string (numT (some p))) rfl
            have cr_1 := Br.cell 1 (v := .string (denT (some p))) rfl
            go_wp2_with (first
                | (go_at_call 23; (with_reducible refine (Cb.out _ hL).mono ?_); rintro e w16 ⟨rfl, hb⟩; have hp := hb; replace Br := Br.below hp; replace Ba := Ba.below hp; replace Bb := Bb.below hp; replace Bagain := Bagain.below hp; replace Btwice := Btwice.below hp; replace Bn := Bn.below hp; replace Bwidth := Bwidth.below hp; replace Bwant := Bwant.below hp; clear cagain_0 cagain_1 cb_0 cb_1 ctwice_0 ctwice_1 ca_0 ca_1 cn_0 cn_1 cwidth_0 cwidth_1 cwant_0 cwant_1 cr_0 cr_1; replace hL := hL.below hp; replace hB := below_up hB hp; clear hb hp))
            go_ret
            exact ⟨rfl, hB⟩
        · have hkz : ((k : Int) == 0) = false := beq_eq_false_iff_ne.2 (by omega)
          rcases HW.out with ⟨rfl, rfl, rfl, rfl⟩ | ⟨rfl, rfl, rfl, rfl⟩
          · clear HW
            go_upto_region 24 with (first
                | (go_at_call 23; (with_reducible refine (Ca.out _ (hL.below (below1 w11 (.cells #[.string ⟨#[48]⟩, .string ⟨#[49]⟩] 23)))).mono ?_); rintro e w12 ⟨rfl, hb⟩; have hp := below_up (below1 w11 (.cells #[.string ⟨#[48]⟩, .string ⟨#[49]⟩] 23)) hb; replace Br := Br.below hp; replace Ba := Ba.below hp; replace Bb := Bb.below hp; replace Bagain := Bagain.below hp; replace Btwice := Btwice.below hp; replace Bn := Bn.below hp; have Bwidth := (Blk.new w11 23 [.string ⟨#[48]⟩, .string ⟨#[49]⟩]).below hb; clear ca_0 ca_1 cr_0 cr_1; replace hL := hL.below hp; replace hB := below_up hB hp; clear hb hp)
                | (go_at_call 24; (with_reducible refine (is_any ⟨#[49]⟩ (pw k) _).mono ?_); rintro e w13 ⟨rfl, hb⟩; have hp := hb; replace Br := Br.below hp; replace Ba := Ba.below hp; replace Bb := Bb.below hp; replace Bagain := Bagain.below hp; replace Btwice := Btwice.below hp; replace Bn := Bn.below hp; replace Bwidth := Bwidth.below hp; replace hL := hL.below hp; replace hB := below_up hB hp; clear hb hp; have ltagain := Bagain.lt; have ltb := Bb.lt; have lttwice := Btwice.lt; have lta := Ba.lt; have ltn := Bn.lt; have ltwidth := Bwidth.lt; have ltr := Br.lt; have leW := hB.size)
                | (go_at_call 24; (with_reducible refine (is_any ⟨#[48]⟩ ⟨#[49]⟩ _).mono ?_); rintro e w14 ⟨rfl, hb⟩; have hp := below_up (below1 w13 (.cells #[.string ⟨#[49]⟩, .string (pw k)] 23)) hb; replace Br := Br.below hp; replace Ba := Ba.below hp; replace Bb := Bb.below hp; replace Bagain := Bagain.below hp; replace Btwice := Btwice.below hp; replace Bn := Bn.below hp; replace Bwidth := Bwidth.below hp; have Bwant := (Blk.new w13 23 [.string ⟨#[49]⟩, .string (pw k)]).below hb; replace hL := hL.below hp; replace hB := below_up hB hp; clear hb hp; have s0 := Bwant.cell 0 (v := .string ⟨#[49]⟩) rfl; have s1 := Bwant.cell 1 (v := .string (pw k)) rfl; have s2 := Bwant.frozen 0; have s3 := Bwant.frozen 1))
            replace Bwant := (Bwant.set 0 (.string ⟨#[48]⟩)).set 1 (.string ⟨#[49]⟩)
            replace Bagain := (Bagain.other (B := w13.heap.size) (by omega) 0 (.string ⟨#[48]⟩)).other (B := w13.heap.size) (by omega) 1 (.string ⟨#[49]⟩)
            replace Bb := (Bb.other (B := w13.heap.size) (by omega) 0 (.string ⟨#[48]⟩)).other (B := w13.heap.size) (by omega) 1 (.string ⟨#[49]⟩)
            replace Btwice := (Btwice.other (B := w13.heap.size) (by omega) 0 (.string ⟨#[48]⟩)).other (B := w13.heap.size) (by omega) 1 (.string ⟨#[49]⟩)
            replace Ba := (Ba.other (B := w13.heap.size) (by omega) 0 (.string ⟨#[48]⟩)).other (B := w13.heap.size) (by omega) 1 (.string ⟨#[49]⟩)
            replace Bn := (Bn.other (B := w13.heap.size) (by omega) 0 (.string ⟨#[48]⟩)).other (B := w13.heap.size) (by omega) 1 (.string ⟨#[49]⟩)
            replace Bwidth := (Bwidth.other (B := w13.heap.size) (by omega) 0 (.string ⟨#[48]⟩)).other (B := w13.heap.size) (by omega) 1 (.string ⟨#[49]⟩)
            replace Br := (Br.other (B := w13.heap.size) (by omega) 0 (.string ⟨#[48]⟩)).other (B := w13.heap.size) (by omega) 1 (.string ⟨#[49]⟩)
            replace hB := (hB.setCell (p := ⟨w13.heap.size, 0, none⟩) (by dsimp; omega) (.string ⟨#[48]⟩)).setCell (p := ⟨w13.heap.size, 1, none⟩) (by dsimp; omega) (.string ⟨#[49]⟩)
            generalize ((w14.setCell ⟨w13.heap.size, 0, none⟩ (.string ⟨#[48]⟩)).setCell ⟨w13.heap.size, 1, none⟩ (.string ⟨#[49]⟩)) = w15 at *
            clear hL s0 s1 s2 s3
            have hL := HL0.out.below hB
            have cagain_0 := Bagain.cell 0 (v := .string xb) rfl
            have cagain_1 := Bagain.cell 1 (v := .string yb) rfl
            have cb_0 := Bb.cell 0 (v := .string xb) rfl
            have cb_1 := Bb.cell 1 (v := .string yb) rfl
            have ctwice_0 := Btwice.cell 0 (v := .string xa) rfl
            have ctwice_1 := Btwice.cell 1 (v := .string ya) rfl
            have ca_0 := Ba.cell 0 (v := .string xa) rfl
            have ca_1 := Ba.cell 1 (v := .string ya) rfl
            have cn_0 := Bn.cell 0 (v := .string xn) rfl
            have cn_1 := Bn.cell 1 (v := .string ⟨#[49]⟩) rfl
            have cwidth_0 := Bwidth.cell 0 (v := .string ⟨#[48]⟩) rfl
            have cwidth_1 := Bwidth.cell 1 (v := .string ⟨#[49]⟩) rfl
            have cwant_0 := Bwant.cell 0 (v := .string ⟨#[48]⟩) rfl
            have cwant_1 := Bwant.cell 1 (v := .string ⟨#[49]⟩) rfl
            have cr_0 := Br.cell 0 (v := .string (numT (some p))) rfl
            have cr_1 := Br.cell 1 (v := .string (denT (some p))) rfl
            go_wp2_with (first
                | (go_at_call 23; (with_reducible refine (Cb.out _ hL).mono ?_); rintro e w16 ⟨rfl, hb⟩; have hp := hb; replace Br := Br.below hp; replace Ba := Ba.below hp; replace Bb := Bb.below hp; replace Bagain := Bagain.below hp; replace Btwice := Btwice.below hp; replace Bn := Bn.below hp; replace Bwidth := Bwidth.below hp; replace Bwant := Bwant.below hp; clear cagain_0 cagain_1 cb_0 cb_1 ctwice_0 ctwice_1 ca_0 ca_1 cn_0 cn_1 cwidth_0 cwidth_1 cwant_0 cwant_1 cr_0 cr_1; replace hL := hL.below hp; replace hB := below_up hB hp; clear hb hp))
            go_ret
            exact ⟨rfl, hB⟩
          · clear HW
            go_upto_region 24 with (first
                | (go_at_call 23; (with_reducible refine (Ca.out _ (hL.below (below1 w11 (.cells #[.string ⟨#[49]⟩, .string (pw k)] 23)))).mono ?_); rintro e w12 ⟨rfl, hb⟩; have hp := below_up (below1 w11 (.cells #[.string ⟨#[49]⟩, .string (pw k)] 23)) hb; replace Br := Br.below hp; replace Ba := Ba.below hp; replace Bb := Bb.below hp; replace Bagain := Bagain.below hp; replace Btwice := Btwice.below hp; replace Bn := Bn.below hp; have Bwidth := (Blk.new w11 23 [.string ⟨#[49]⟩, .string (pw k)]).below hb; clear ca_0 ca_1 cr_0 cr_1; replace hL := hL.below hp; replace hB := below_up hB hp; clear hb hp)
                | (go_at_call 24; (with_reducible refine (is_any ⟨#[49]⟩ (pw k) _).mono ?_); rintro e w13 ⟨rfl, hb⟩; have hp := hb; replace Br := Br.below hp; replace Ba := Ba.below hp; replace Bb := Bb.below hp; replace Bagain := Bagain.below hp; replace Btwice := Btwice.below hp; replace Bn := Bn.below hp; replace Bwidth := Bwidth.below hp; replace hL := hL.below hp; replace hB := below_up hB hp; clear hb hp; have ltagain := Bagain.lt; have ltb := Bb.lt; have lttwice := Btwice.lt; have lta := Ba.lt; have ltn := Bn.lt; have ltwidth := Bwidth.lt; have ltr := Br.lt; have leW := hB.size; have cagain_0 := (Bagain.below (below1 w13 (.cells #[.string ⟨#[49]⟩, .string (pw k)] 23))).cell 0 (v := .string xb) rfl; have cagain_1 := (Bagain.below (below1 w13 (.cells #[.string ⟨#[49]⟩, .string (pw k)] 23))).cell 1 (v := .string yb) rfl; have cb_0 := (Bb.below (below1 w13 (.cells #[.string ⟨#[49]⟩, .string (pw k)] 23))).cell 0 (v := .string xb) rfl; have cb_1 := (Bb.below (below1 w13 (.cells #[.string ⟨#[49]⟩, .string (pw k)] 23))).cell 1 (v := .string yb) rfl; have ctwice_0 := (Btwice.below (below1 w13 (.cells #[.string ⟨#[49]⟩, .string (pw k)] 23))).cell 0 (v := .string xa) rfl; have ctwice_1 := (Btwice.below (below1 w13 (.cells #[.string ⟨#[49]⟩, .string (pw k)] 23))).cell 1 (v := .string ya) rfl; have ca_0 := (Ba.below (below1 w13 (.cells #[.string ⟨#[49]⟩, .string (pw k)] 23))).cell 0 (v := .string xa) rfl; have ca_1 := (Ba.below (below1 w13 (.cells #[.string ⟨#[49]⟩, .string (pw k)] 23))).cell 1 (v := .string ya) rfl; have cn_0 := (Bn.below (below1 w13 (.cells #[.string ⟨#[49]⟩, .string (pw k)] 23))).cell 0 (v := .string xn) rfl; have cn_1 := (Bn.below (below1 w13 (.cells #[.string ⟨#[49]⟩, .string (pw k)] 23))).cell 1 (v := .string ⟨#[49]⟩) rfl; have cwidth_0 := (Bwidth.below (below1 w13 (.cells #[.string ⟨#[49]⟩, .string (pw k)] 23))).cell 0 (v := .string ⟨#[49]⟩) rfl; have cwidth_1 := (Bwidth.below (below1 w13 (.cells #[.string ⟨#[49]⟩, .string (pw k)] 23))).cell 1 (v := .string (pw k)) rfl; have cr_0 := (Br.below (below1 w13 (.cells #[.string ⟨#[49]⟩, .string (pw k)] 23))).cell 0 (v := .string (numT (some p))) rfl; have cr_1 := (Br.below (below1 w13 (.cells #[.string ⟨#[49]⟩, .string (pw k)] 23))).cell 1 (v := .string (denT (some p))) rfl))
            go_wp2_with (first
                | (go_at_call 23; (with_reducible refine (Cb.out _ (hL.below (below1 w13 (.cells #[.string ⟨#[49]⟩, .string (pw k)] 23)))).mono ?_); rintro e w14 ⟨rfl, hb⟩; have hp := below_up (below1 w13 (.cells #[.string ⟨#[49]⟩, .string (pw k)] 23)) hb; replace Br := Br.below hp; replace Ba := Ba.below hp; replace Bb := Bb.below hp; replace Bagain := Bagain.below hp; replace Btwice := Btwice.below hp; replace Bn := Bn.below hp; replace Bwidth := Bwidth.below hp; have Bwant := (Blk.new w13 23 [.string ⟨#[49]⟩, .string (pw k)]).below hb; clear cagain_0 cagain_1 cb_0 cb_1 ctwice_0 ctwice_1 ca_0 ca_1 cn_0 cn_1 cwidth_0 cwidth_1 cr_0 cr_1; replace hL := hL.below hp; replace hB := below_up hB hp; clear hb hp))
            go_ret
            exact ⟨rfl, hB⟩

end Go.Proofs.YtnioinccflmdjaaGreatDoor
