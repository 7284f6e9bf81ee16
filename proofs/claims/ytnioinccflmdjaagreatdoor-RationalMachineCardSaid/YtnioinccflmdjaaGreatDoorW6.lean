/- RationalMachine: its walk. Condition: the tables of strconv; the numbers are ints. -/
import Derived.Test.YtnioinccflmdjaaGreatDoorQ6
import Derived.Test.YtnioinccflmdjaaGreatDoorW3
namespace Go.Proofs.YtnioinccflmdjaaGreatDoor
open Go.RowKit Num
open Go.Shelf

theorem rtoInt_is {s : ByteArray} {z : Int} (h : Is s z) (h0 : -9223372036854775808 ≤ z) (h1 : z ≤ 9223372036854775807) (w : World) : Calls Tryz.prog 43 #[.string s] w (RetN2 w z 0) := by
  refine (rtoInt_any s (by have := h.size; omega) w).mono fun e w' k => ?_
  rw [show toI s = (z, 0) by unfold toI; rw [show rdI s = some z from h]; exact if_pos ⟨h0, h1⟩] at k
  exact k
/-- The eight texts and four errors that 'four' returns. -/
def RetFourV (w : World) (x0 x1 x2 x3 x4 x5 x6 x7 : ByteArray) (k0 k1 k2 k3 : Int) (e : Ending) (w' : World) : Prop :=
  e = .returned (.tuple #[.agg #[.string x0, .string x1, .string x2, .string x3, .string x4, .string x5, .string x6, .string x7], .agg #[.int .i64 k0, .int .i64 k1, .int .i64 k2, .int .i64 k3]]) ∧ Below w.heap.size w w'
/-- What the round of one operation wants to know. -/
def Good (x y : ByteArray) (k : Int) (A B : Int) : Prop := k = 0 ∧ ∃ N D P : Int, Hid (∀ w, Calls Tryz.prog 43 #[.string x] w (RetN2 w N 0)) ∧ Hid (∀ w, Calls Tryz.prog 43 #[.string y] w (RetN2 w D 0)) ∧
  Hid (∀ w, Laid w → Calls Tryz.prog 17 #[.agg #[.string x, .string y]] w (RetB w true)) ∧ 1 ≤ D ∧ Hid (IntKind.i64.wrap (N * B) = P) ∧ Hid (IntKind.i64.wrap (A * D) = P)
theorem good_of {o : Option Rat} {A B : Int} (hA : A.natAbs ≤ 2000000000) (hB : B.natAbs ≤ 2000000000) (h0 : B ≠ 0) (ho : o = some (Rat.divInt A B)) : Good (numT o) (denT o) (errT o) A B := by
  subst ho
  obtain ⟨h1, h2⟩ := num_le (a := A) h0
  have e := num_eq (a := A) h0
  have hl : lim 10 (Rat.divInt A B) := lim_divInt (by omega) (by omega) h0
  have hp := (Rat.divInt A B).den_pos
  refine ⟨rfl, (Rat.divInt A B).num, ((Rat.divInt A B).den : Int), A * ((Rat.divInt A B).den : Int), Lib.hid fun w => rtoInt_is (is_tx (hl.fit (by omega)).1) (by omega) (by omega) w, Lib.hid fun w => rtoInt_is (is_tx (hl.fit (by omega)).2) (by omega) (by omega) w,
    Lib.hid fun w hL => qvalid_r (rat_of (fit_some (hl.fit (by omega)))) rfl w hL, by omega, Lib.hid ?_, Lib.hid ?_⟩
  · rw [e]
    refine IntWalk.i64_in _ ?_
    have := nabs_mul (a := A) (b := ((Rat.divInt A B).den : Int)) (m := 2000000001) (n := 2000000001) (by omega) (by omega)
    omega
  · refine IntWalk.i64_in _ ?_
    have := nabs_mul (a := A) (b := ((Rat.divInt A B).den : Int)) (m := 2000000001) (n := 2000000001) (by omega) (by omega)
    omega
theorem prod_in {a b : Int} {k l : Nat} (ha : a.natAbs ≤ k) (hb : b.natAbs ≤ l) : -((k * l : Nat) : Int) ≤ a * b ∧ a * b ≤ ((k * l : Nat) : Int) := by
  have h : (a * b).natAbs ≤ k * l := by rw [Int.natAbs_mul]; exact Nat.mul_le_mul ha hb
  omega

set_option maxHeartbeats 8000000 in
set_option maxRecDepth 100000 in
theorem machine_any (x0 x1 x2 x3 : Int) (ha0 : -9223372036854775808 ≤ x0) (ha1 : x0 ≤ 9223372036854775807) (hb0 : -9223372036854775808 ≤ x1) (hb1 : x1 ≤ 9223372036854775807)
    (hc0 : -9223372036854775808 ≤ x2) (hc1 : x2 ≤ 9223372036854775807) (hd0 : -9223372036854775808 ≤ x3) (hd1 : x3 ≤ 9223372036854775807) (w : World) (hL : Laid w) :
    Calls Tryz.prog 7 #[.int .i64 x0, .int .i64 x1, .int .i64 x2, .int .i64 x3] w (RetB w true) := by
  have hB : Below w.heap.size w w := Below.refl _ _
  have hmixed : Tryz.prog.follows .mixedOrders = true := by kernel_rfl
  go_enter Tryz.func7, Tryz.ntmps7
  go_upto_region 6 with (first
    | (go_at_call 11; (with_reducible refine (sane_any _ hL).mono ?_); rintro e v ⟨rfl, hb⟩; replace hL := hL.below hb; replace hB := below_up hB hb; clear hb)
    | (go_at_call 18; (with_reducible refine (pick_any x0 60001 ha0 ha1 (by decide) (by decide) _).mono ?_); rintro e v' ⟨k0, ka0, ka1, rfl, rfl⟩)
    | (go_at_call 18; (with_reducible refine (pick_any x2 60001 hc0 hc1 (by decide) (by decide) _).mono ?_); rintro e v' ⟨k2, kc0, kc1, rfl, rfl⟩)
    | (go_at_call 18; (with_reducible refine (pick_any x1 30000 hb0 hb1 (by decide) (by decide) _).mono ?_); rintro e v' ⟨k1, kb0, kb1, rfl, rfl⟩)
    | (go_at_call 18; (with_reducible refine (pick_any x3 30000 hd0 hd1 (by decide) (by decide) _).mono ?_); rintro e v' ⟨k3, kd0, kd1, rfl, rfl⟩))
  generalize hn : k0 - 30000 = n at *
  generalize hm : k2 - 30000 = m at *
  generalize hd : 1 + k1 = d at *
  generalize hc : 1 + k3 = c at *
  have hn0 : -30000 ≤ n := by omega
  have hn1 : n ≤ 30000 := by omega
  have hm0 : -30000 ≤ m := by omega
  have hm1 : m ≤ 30000 := by omega
  have hd2 : 1 ≤ d := by omega
  have hd3 : d ≤ 30000 := by omega
  have hc2 : 1 ≤ c := by omega
  have hc3 : c ≤ 30000 := by omega
  clear hn hm hd hc ka0 ka1 kb0 kb1 kc0 kc1 kd0 kd1 ha0 ha1 hb0 hb1 hc0 hc1 hd0 hd1
  obtain ⟨i1, i2⟩ := prod_in (a := n) (b := c) (k := 30000) (l := 30000) (by omega) (by omega)
  obtain ⟨i3, i4⟩ := prod_in (a := m) (b := d) (k := 30000) (l := 30000) (by omega) (by omega)
  obtain ⟨i5, i6⟩ := prod_in (a := d) (b := c) (k := 30000) (l := 30000) (by omega) (by omega)
  obtain ⟨i7, i8⟩ := prod_in (a := n) (b := m) (k := 30000) (l := 30000) (by omega) (by omega)
  obtain ⟨i9, i10⟩ := prod_in (a := d) (b := m) (k := 30000) (l := 30000) (by omega) (by omega)
  simp only [Nat.reduceMul, Int.cast_ofNat_Int] at i1 i2 i3 i4 i5 i6 i7 i8 i9 i10
  have hlp : lim 5 (Rat.divInt n d) := lim_divInt (by omega) (by omega) (by omega)
  have hlq : lim 5 (Rat.divInt m c) := lim_divInt (by omega) (by omega) (by omega)
  have hdc : d * c ≠ 0 := Int.mul_ne_zero (by omega) (by omega)
  obtain ⟨oa, hoa⟩ : ∃ o, some (Rat.divInt n d) = o := ⟨_, rfl⟩
  obtain ⟨ob, hob⟩ : ∃ o, some (Rat.divInt m c) = o := ⟨_, rfl⟩
  have hra : ratO (numT oa) (denT oa) = some (Rat.divInt n d) := by rw [← hoa]; exact rat_of (fit_some (hlp.fit (by omega)))
  have hrb : ratO (numT ob) (denT ob) = some (Rat.divInt m c) := by rw [← hob]; exact rat_of (fit_some (hlq.fit (by omega)))
  obtain ⟨oA, hoA⟩ : ∃ o, op2Q addQ (some (Rat.divInt n d)) (some (Rat.divInt m c)) = o := ⟨_, rfl⟩
  obtain ⟨oS, hoS⟩ : ∃ o, op2Q subQ (some (Rat.divInt n d)) (some (Rat.divInt m c)) = o := ⟨_, rfl⟩
  obtain ⟨oM, hoM⟩ : ∃ o, op2Q mulQ (some (Rat.divInt n d)) (some (Rat.divInt m c)) = o := ⟨_, rfl⟩
  obtain ⟨oD, hoD⟩ : ∃ o, op2Q divQ (some (Rat.divInt n d)) (some (Rat.divInt m c)) = o := ⟨_, rfl⟩
  have GA : Good (numT oA) (denT oA) (errT oA) (n * c + m * d) (d * c) := good_of (by omega) (by omega) hdc (by rw [← hoA, add_lim hlp hlq (by omega), Rat.divInt_add_divInt _ _ (by omega) (by omega)])
  have GS : Good (numT oS) (denT oS) (errT oS) (n * c - m * d) (d * c) := good_of (by omega) (by omega) hdc (by rw [← hoS, sub_lim hlp hlq (by omega), Rat.divInt_sub_divInt _ _ (by omega) (by omega)])
  have GM : Good (numT oM) (denT oM) (errT oM) (n * m) (d * c) := good_of (by omega) (by omega) hdc (by rw [← hoM, mul_lim hlp hlq (by omega), Rat.divInt_mul_divInt])
  have GD : m ≠ 0 → Good (numT oD) (denT oD) (errT oD) (n * c) (d * m) := fun h => good_of (by omega) (by omega) (Int.mul_ne_zero (by omega) h) (by rw [← hoD, div_lim hlp hlq (by omega) (fun e => h ((divInt_zero (by omega)).1 e)), quo_divInt2])
  have GZ : m = 0 → numT oD = ⟨#[]⟩ ∧ denT oD = ⟨#[]⟩ ∧ errT oD = 40 := fun h => by rw [← hoD, (divInt_zero (c := c) (by omega)).2 h, div_none]; exact ⟨rfl, rfl, rfl⟩
  have CA := Lib.hid (fun w hL => of_r (n := n) (d := d) (by omega) (by omega) (by omega) (by omega) ((if_neg (by omega)).trans hoa : makeQ n d = oa) w hL)
  have CB := Lib.hid (fun w hL => of_r (n := m) (d := c) (by omega) (by omega) (by omega) (by omega) ((if_neg (by omega)).trans hob : makeQ m c = ob) w hL)
  have CF0 : ∀ w, Laid w → Calls Tryz.prog 29 #[.agg #[.string (numT oa), .string (denT oa)], .agg #[.string (numT ob), .string (denT ob)]] w (RetFourV w (numT oA) (denT oA) (numT oS) (denT oS) (numT oM) (denT oM) (numT oD) (denT oD) (errT oA) (errT oS) (errT oM) (errT oD)) := fun w hL => four_any hra hrb hoA hoS hoM hoD w hL
  clear hoA hoS hoM hoD
  generalize numT oA = xA at *
  generalize denT oA = yA at *
  generalize errT oA = kA at *
  generalize numT oS = xS at *
  generalize denT oS = yS at *
  generalize errT oS = kS at *
  generalize numT oM = xM at *
  generalize denT oM = yM at *
  generalize errT oM = kM at *
  generalize numT oD = xD at *
  generalize denT oD = yD at *
  generalize errT oD = kD at *
  obtain ⟨rfl, GA⟩ := GA
  obtain ⟨rfl, GS⟩ := GS
  obtain ⟨rfl, GM⟩ := GM
  have CF := Lib.hid CF0
  have HD := Lib.hid GD
  have HZ := Lib.hid GZ
  clear CF0 GD GZ
  have CC := Lib.hid (fun w hL => cmp_r hra hrb (cmp_divInt (n := n) (m := m) (by omega) (by omega)) w hL)
  have HA := Lib.hid hoa
  have HBo := Lib.hid hob
  clear hra hrb hoa hob hlp hlq hdc
  go_upto_region 10 with (first
      | (go_at_call 41; (with_reducible refine (CA.out _ hL).mono ?_); rintro e w1 ⟨rfl, hb⟩; have hp := hb; replace hL := hL.below hp; replace hB := below_up hB hp; clear hb hp)
      | (go_at_call 41; (with_reducible refine (CB.out _ (hL.below (below1 w1 (.cells #[.string (numT oa), .string (denT oa)] 23)))).mono ?_); rintro e w2 ⟨rfl, hb⟩; have hp := below_up (below1 w1 (.cells #[.string (numT oa), .string (denT oa)] 23)) hb; have Ba := (Blk.new w1 23 [.string (numT oa), .string (denT oa)]).below hb; replace hL := hL.below hp; replace hB := below_up hB hp; clear hb hp; have ca_0 := (Ba.below (below1 w2 (.cells #[.string (numT ob), .string (denT ob)] 23))).cell 0 (v := .string (numT oa)) rfl; have ca_1 := (Ba.below (below1 w2 (.cells #[.string (numT ob), .string (denT ob)] 23))).cell 1 (v := .string (denT oa)) rfl)
      | (go_at_call 29; (with_reducible refine (CF.out _ (hL.below (below1 w2 (.cells #[.string (numT ob), .string (denT ob)] 23)))).mono ?_); rintro e w3 ⟨rfl, hb⟩; have hp := below_up (below1 w2 (.cells #[.string (numT ob), .string (denT ob)] 23)) hb; replace Ba := Ba.below hp; have Bb := (Blk.new w2 23 [.string (numT ob), .string (denT ob)]).below hb; clear ca_0 ca_1; replace hL := hL.below hp; replace hB := below_up hB hp; clear hb hp))
  go_wp2_with fail
  have hlow := below_up (below_up (below1 w3 (.cells #[.string xA, .string yA, .string xS, .string yS, .string xM, .string yM, .string xD, .string yD] 49)) (below1 _ (.cells #[.int .i64 0, .int .i64 0, .int .i64 0, .int .i64 kD] 50))) (below1 _ (.cells #[.int .i64 (n * c + m * d), .int .i64 (d * c), .int .i64 (n * c - m * d), .int .i64 (d * c), .int .i64 (n * m), .int .i64 (d * c), .int .i64 (n * c), .int .i64 (d * m)] 57))
  go_loopg [17] 4 (fun kx s17 wr => ∃ i : Nat, s17 = .int .i64 i ∧ i ≤ 4 ∧ 4 ≤ kx + i ∧ Laid wr ∧ Below w.heap.size w wr ∧ Blk wr (w1.heap.size) 23 [.string (numT oa), .string (denT oa)] ∧ Blk wr (w2.heap.size) 23 [.string (numT ob), .string (denT ob)] ∧ Blk wr (w3.heap.size) 49 [.string xA, .string yA, .string xS, .string yS, .string xM, .string yM, .string xD, .string yD] ∧ Blk wr (w3.heap.size + 1) 50 [.int .i64 0, .int .i64 0, .int .i64 0, .int .i64 kD] ∧ Blk wr (w3.heap.size + 1 + 1) 57 [.int .i64 (n * c + m * d), .int .i64 (d * c), .int .i64 (n * c - m * d), .int .i64 (d * c), .int .i64 (n * m), .int .i64 (d * c), .int .i64 (n * c), .int .i64 (d * m)])
  case atStart =>
    exact ⟨0, rfl, by omega, by omega, hL.below hlow, below_up hB hlow, Ba.below hlow, Bb.below hlow, ((Blk.new w3 _ _).alloc _).alloc _, (Blk.new2 w3 _ _ _).alloc _, Blk.new3 w3 _ _ _ _⟩
  case round =>
    clear hL hB hlow Ba Bb
    obtain ⟨i, rfl, hi, hkx, hL, hB, Ba, Bb, Br, Be, Bt⟩ := hrel
    by_cases hg : i < 4
    · obtain rfl | rfl | rfl | rfl : i = 0 ∨ i = 1 ∨ i = 2 ∨ i = 3 := by omega
      · obtain ⟨N, D, P, T1, T2, V, hD, P1, P2⟩ := GA
        have cr_0 := Br.cell 0 (v := .string xA) rfl
        go_wp2_with (first
            | (go_at_call 43; (with_reducible refine (T1.out _).mono ?_); rintro e w1 ⟨rfl, hb⟩; have hp := hb; replace Ba := Ba.below hp; replace Bb := Bb.below hp; replace Br := Br.below hp; replace Be := Be.below hp; replace Bt := Bt.below hp; clear cr_0; replace hL := hL.below hp; replace hB := below_up hB hp; clear hb hp; have cr_1 := Br.cell 1 (v := .string yA) rfl)
            | (go_at_call 43; (with_reducible refine (T2.out _).mono ?_); rintro e w2 ⟨rfl, hb⟩; have hp := hb; replace Ba := Ba.below hp; replace Bb := Bb.below hp; replace Br := Br.below hp; replace Be := Be.below hp; replace Bt := Bt.below hp; clear cr_1; replace hL := hL.below hp; replace hB := below_up hB hp; clear hb hp))
        have hP1 := P1.out
        have hP2 := P2.out
        have hDd : decide (D < 1) = false := decide_eq_false (by omega)
        have hZ := (Below.refl w2.heap.size w2).drew
        replace Ba := Ba.below hZ
        replace Bb := Bb.below hZ
        replace Br := Br.below hZ
        replace Be := Be.below hZ
        replace Bt := Bt.below hZ
        have cr_0 := Br.cell 0 (v := .string xA) rfl
        have cr_1 := Br.cell 1 (v := .string yA) rfl
        have ce_0 := Be.cell 0 (v := .int .i64 0) rfl
        have ct_0 := Bt.cell 0 (v := .int .i64 (n * c + m * d)) rfl
        have ct_1 := Bt.cell 1 (v := .int .i64 (d * c)) rfl
        go_region_held3 (fun w' => w'.cell? ⟨w3.heap.size, 0, none⟩ = some (.string xA) ∧ w'.cell? ⟨w3.heap.size, 1, none⟩ = some (.string yA) ∧ w'.cell? ⟨w3.heap.size + 1, 0, none⟩ = some (.int .i64 0) ∧ w'.cell? ⟨w3.heap.size + 1 + 1, 0, none⟩ = some (.int .i64 (n * c + m * d)) ∧ w'.cell? ⟨w3.heap.size + 1 + 1, 1, none⟩ = some (.int .i64 (d * c))) (go_keep) (first
            | (go_at_call 17; (with_reducible refine (V.out _ (hL.below hZ)).mono ?_); rintro e wN ⟨rfl, hb⟩; have hZ := below_up hZ hb; have Ba := Ba.below hb; have Bb := Bb.below hb; have Br := Br.below hb; have Be := Be.below hb; have Bt := Bt.below hb; have cr_0 := Br.cell 0 (v := .string xA) rfl; have cr_1 := Br.cell 1 (v := .string yA) rfl; have ce_0 := Be.cell 0 (v := .int .i64 0) rfl; have ct_0 := Bt.cell 0 (v := .int .i64 (n * c + m * d)) rfl; have ct_1 := Bt.cell 1 (v := .int .i64 (d * c)) rfl))
        all_goals (replace hL := hL.below hZ; replace hB := below_up hB hZ; clear hZ)
        all_goals go_wp2
        all_goals go_roundg (4 - (0 + 1))
        all_goals first | omega | exact ⟨1, rfl, by omega, by omega, hL, hB, Ba, Bb, Br, Be, Bt⟩
      · obtain ⟨N, D, P, T1, T2, V, hD, P1, P2⟩ := GS
        have cr_2 := Br.cell 2 (v := .string xS) rfl
        go_wp2_with (first
            | (go_at_call 43; (with_reducible refine (T1.out _).mono ?_); rintro e w1 ⟨rfl, hb⟩; have hp := hb; replace Ba := Ba.below hp; replace Bb := Bb.below hp; replace Br := Br.below hp; replace Be := Be.below hp; replace Bt := Bt.below hp; clear cr_2; replace hL := hL.below hp; replace hB := below_up hB hp; clear hb hp; have cr_3 := Br.cell 3 (v := .string yS) rfl)
            | (go_at_call 43; (with_reducible refine (T2.out _).mono ?_); rintro e w2 ⟨rfl, hb⟩; have hp := hb; replace Ba := Ba.below hp; replace Bb := Bb.below hp; replace Br := Br.below hp; replace Be := Be.below hp; replace Bt := Bt.below hp; clear cr_3; replace hL := hL.below hp; replace hB := below_up hB hp; clear hb hp))
        have hP1 := P1.out
        have hP2 := P2.out
        have hDd : decide (D < 1) = false := decide_eq_false (by omega)
        have hZ := (Below.refl w2.heap.size w2).drew
        replace Ba := Ba.below hZ
        replace Bb := Bb.below hZ
        replace Br := Br.below hZ
        replace Be := Be.below hZ
        replace Bt := Bt.below hZ
        have cr_2 := Br.cell 2 (v := .string xS) rfl
        have cr_3 := Br.cell 3 (v := .string yS) rfl
        have ce_1 := Be.cell 1 (v := .int .i64 0) rfl
        have ct_2 := Bt.cell 2 (v := .int .i64 (n * c - m * d)) rfl
        have ct_3 := Bt.cell 3 (v := .int .i64 (d * c)) rfl
        go_region_held3 (fun w' => w'.cell? ⟨w3.heap.size, 2, none⟩ = some (.string xS) ∧ w'.cell? ⟨w3.heap.size, 3, none⟩ = some (.string yS) ∧ w'.cell? ⟨w3.heap.size + 1, 1, none⟩ = some (.int .i64 0) ∧ w'.cell? ⟨w3.heap.size + 1 + 1, 2, none⟩ = some (.int .i64 (n * c - m * d)) ∧ w'.cell? ⟨w3.heap.size + 1 + 1, 3, none⟩ = some (.int .i64 (d * c))) (go_keep) (first
            | (go_at_call 17; (with_reducible refine (V.out _ (hL.below hZ)).mono ?_); rintro e wN ⟨rfl, hb⟩; have hZ := below_up hZ hb; have Ba := Ba.below hb; have Bb := Bb.below hb; have Br := Br.below hb; have Be := Be.below hb; have Bt := Bt.below hb; have cr_2 := Br.cell 2 (v := .string xS) rfl; have cr_3 := Br.cell 3 (v := .string yS) rfl; have ce_1 := Be.cell 1 (v := .int .i64 0) rfl; have ct_2 := Bt.cell 2 (v := .int .i64 (n * c - m * d)) rfl; have ct_3 := Bt.cell 3 (v := .int .i64 (d * c)) rfl))
        all_goals (replace hL := hL.below hZ; replace hB := below_up hB hZ; clear hZ)
        all_goals go_wp2
        all_goals go_roundg (4 - (1 + 1))
        all_goals first | omega | exact ⟨2, rfl, by omega, by omega, hL, hB, Ba, Bb, Br, Be, Bt⟩
      · obtain ⟨N, D, P, T1, T2, V, hD, P1, P2⟩ := GM
        have cr_4 := Br.cell 4 (v := .string xM) rfl
        go_wp2_with (first
            | (go_at_call 43; (with_reducible refine (T1.out _).mono ?_); rintro e w1 ⟨rfl, hb⟩; have hp := hb; replace Ba := Ba.below hp; replace Bb := Bb.below hp; replace Br := Br.below hp; replace Be := Be.below hp; replace Bt := Bt.below hp; clear cr_4; replace hL := hL.below hp; replace hB := below_up hB hp; clear hb hp; have cr_5 := Br.cell 5 (v := .string yM) rfl)
            | (go_at_call 43; (with_reducible refine (T2.out _).mono ?_); rintro e w2 ⟨rfl, hb⟩; have hp := hb; replace Ba := Ba.below hp; replace Bb := Bb.below hp; replace Br := Br.below hp; replace Be := Be.below hp; replace Bt := Bt.below hp; clear cr_5; replace hL := hL.below hp; replace hB := below_up hB hp; clear hb hp))
        have hP1 := P1.out
        have hP2 := P2.out
        have hDd : decide (D < 1) = false := decide_eq_false (by omega)
        have hZ := (Below.refl w2.heap.size w2).drew
        replace Ba := Ba.below hZ
        replace Bb := Bb.below hZ
        replace Br := Br.below hZ
        replace Be := Be.below hZ
        replace Bt := Bt.below hZ
        have cr_4 := Br.cell 4 (v := .string xM) rfl
        have cr_5 := Br.cell 5 (v := .string yM) rfl
        have ce_2 := Be.cell 2 (v := .int .i64 0) rfl
        have ct_4 := Bt.cell 4 (v := .int .i64 (n * m)) rfl
        have ct_5 := Bt.cell 5 (v := .int .i64 (d * c)) rfl
        go_region_held3 (fun w' => w'.cell? ⟨w3.heap.size, 4, none⟩ = some (.string xM) ∧ w'.cell? ⟨w3.heap.size, 5, none⟩ = some (.string yM) ∧ w'.cell? ⟨w3.heap.size + 1, 2, none⟩ = some (.int .i64 0) ∧ w'.cell? ⟨w3.heap.size + 1 + 1, 4, none⟩ = some (.int .i64 (n * m)) ∧ w'.cell? ⟨w3.heap.size + 1 + 1, 5, none⟩ = some (.int .i64 (d * c))) (go_keep) (first
            | (go_at_call 17; (with_reducible refine (V.out _ (hL.below hZ)).mono ?_); rintro e wN ⟨rfl, hb⟩; have hZ := below_up hZ hb; have Ba := Ba.below hb; have Bb := Bb.below hb; have Br := Br.below hb; have Be := Be.below hb; have Bt := Bt.below hb; have cr_4 := Br.cell 4 (v := .string xM) rfl; have cr_5 := Br.cell 5 (v := .string yM) rfl; have ce_2 := Be.cell 2 (v := .int .i64 0) rfl; have ct_4 := Bt.cell 4 (v := .int .i64 (n * m)) rfl; have ct_5 := Bt.cell 5 (v := .int .i64 (d * c)) rfl))
        all_goals (replace hL := hL.below hZ; replace hB := below_up hB hZ; clear hZ)
        all_goals go_wp2
        all_goals go_roundg (4 - (2 + 1))
        all_goals first | omega | exact ⟨3, rfl, by omega, by omega, hL, hB, Ba, Bb, Br, Be, Bt⟩
      · by_cases hm : m = 0
        · obtain ⟨rfl, rfl, rfl⟩ := HZ.out hm
          have hmz : (m == 0) = true := by simp [hm]
          clear hm
          have e3 := Be.cell 3 (v := .int .i64 40) rfl
          have r6 := Br.cell 6 (v := .string ⟨#[]⟩) rfl
          have r7 := Br.cell 7 (v := .string ⟨#[]⟩) rfl
          go_wp2
          go_roundg (4 - (3 + 1))
          all_goals first | omega | exact ⟨4, rfl, by omega, by omega, hL, hB, Ba, Bb, Br, Be, Bt⟩
        · have hmz : ((m : Int) == 0) = false := by simp; omega
          obtain ⟨rfl, GD⟩ := HD.out hm
          obtain ⟨N, D, P, T1, T2, V, hD, P1, P2⟩ := GD
          have cr_6 := Br.cell 6 (v := .string xD) rfl
          go_wp2_with (first
              | (go_at_call 43; (with_reducible refine (T1.out _).mono ?_); rintro e w1 ⟨rfl, hb⟩; have hp := hb; replace Ba := Ba.below hp; replace Bb := Bb.below hp; replace Br := Br.below hp; replace Be := Be.below hp; replace Bt := Bt.below hp; clear cr_6; replace hL := hL.below hp; replace hB := below_up hB hp; clear hb hp; have cr_7 := Br.cell 7 (v := .string yD) rfl)
              | (go_at_call 43; (with_reducible refine (T2.out _).mono ?_); rintro e w2 ⟨rfl, hb⟩; have hp := hb; replace Ba := Ba.below hp; replace Bb := Bb.below hp; replace Br := Br.below hp; replace Be := Be.below hp; replace Bt := Bt.below hp; clear cr_7; replace hL := hL.below hp; replace hB := below_up hB hp; clear hb hp))
          have hP1 := P1.out
          have hP2 := P2.out
          have hDd : decide (D < 1) = false := decide_eq_false (by omega)
          have hZ := (Below.refl w2.heap.size w2).drew
          replace Ba := Ba.below hZ
          replace Bb := Bb.below hZ
          replace Br := Br.below hZ
          replace Be := Be.below hZ
          replace Bt := Bt.below hZ
          have cr_6 := Br.cell 6 (v := .string xD) rfl
          have cr_7 := Br.cell 7 (v := .string yD) rfl
          have ce_3 := Be.cell 3 (v := .int .i64 0) rfl
          have ct_6 := Bt.cell 6 (v := .int .i64 (n * c)) rfl
          have ct_7 := Bt.cell 7 (v := .int .i64 (d * m)) rfl
          go_region_held3 (fun w' => w'.cell? ⟨w3.heap.size, 6, none⟩ = some (.string xD) ∧ w'.cell? ⟨w3.heap.size, 7, none⟩ = some (.string yD) ∧ w'.cell? ⟨w3.heap.size + 1, 3, none⟩ = some (.int .i64 0) ∧ w'.cell? ⟨w3.heap.size + 1 + 1, 6, none⟩ = some (.int .i64 (n * c)) ∧ w'.cell? ⟨w3.heap.size + 1 + 1, 7, none⟩ = some (.int .i64 (d * m))) (go_keep) (first
              | (go_at_call 17; (with_reducible refine (V.out _ (hL.below hZ)).mono ?_); rintro e wN ⟨rfl, hb⟩; have hZ := below_up hZ hb; have Ba := Ba.below hb; have Bb := Bb.below hb; have Br := Br.below hb; have Be := Be.below hb; have Bt := Bt.below hb; have cr_6 := Br.cell 6 (v := .string xD) rfl; have cr_7 := Br.cell 7 (v := .string yD) rfl; have ce_3 := Be.cell 3 (v := .int .i64 0) rfl; have ct_6 := Bt.cell 6 (v := .int .i64 (n * c)) rfl; have ct_7 := Bt.cell 7 (v := .int .i64 (d * m)) rfl))
          all_goals (replace hL := hL.below hZ; replace hB := below_up hB hZ; clear hZ)
          all_goals go_wp2
          all_goals go_roundg (4 - (3 + 1))
          all_goals first | omega | exact ⟨4, rfl, by omega, by omega, hL, hB, Ba, Bb, Br, Be, Bt⟩
    · obtain rfl : i = 4 := by omega
      have ha : errT oa = 0 := by rw [← HA.out]; rfl
      have hb : errT ob = 0 := by rw [← HBo.out]; rfl
      have ca0 := Ba.cell 0 (v := .string (numT oa)) rfl
      have ca1 := Ba.cell 1 (v := .string (denT oa)) rfl
      have cb0 := Bb.cell 0 (v := .string (numT ob)) rfl
      have cb1 := Bb.cell 1 (v := .string (denT ob)) rfl
      by_cases h1 : n * c < m * d
      · rw [if_pos h1] at CC
        go_wp2_with (go_at_call 23; (with_reducible refine (CC.out _ hL).mono ?_); rintro e wz ⟨rfl, hb9⟩)
        go_ret
        exact ⟨rfl, below_up hB hb9⟩
      · by_cases h2 : m * d < n * c
        · rw [if_neg h1, if_pos h2] at CC
          go_wp2_with (go_at_call 23; (with_reducible refine (CC.out _ hL).mono ?_); rintro e wz ⟨rfl, hb9⟩)
          go_ret
          exact ⟨rfl, below_up hB hb9⟩
        · rw [if_neg h1, if_neg h2] at CC
          go_wp2_with (go_at_call 23; (with_reducible refine (CC.out _ hL).mono ?_); rintro e wz ⟨rfl, hb9⟩)
          go_ret
          exact ⟨rfl, below_up hB hb9⟩

end Go.Proofs.YtnioinccflmdjaaGreatDoor
