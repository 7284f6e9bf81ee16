/- IntegerMatchesReference: its walk. Condition: the tables of strconv; the number is an int. -/
import Derived.Test.YtcpkejpdpohfeaaGreatDoorV15
import Derived.Deep.RegionHeld3
namespace Go.Proofs.YtcpkejpdpohfeaaGreatDoor
open Go.RowKit Num
open Go.Shelf

theorem box_x (w : World) (x y : ByteArray) : (w.alloc (.cells #[.string x, .string y] 37)).cell? ⟨w.heap.size, 0, none⟩ = some (.string x) := by simp
theorem box_y (w : World) (x y : ByteArray) : (w.alloc (.cells #[.string x, .string y] 37)).cell? ⟨w.heap.size, 1, none⟩ = some (.string y) := by simp

set_option maxHeartbeats 8000000 in
set_option maxRecDepth 100000 in
theorem matches_any (a b : ByteArray) (n : Int) (h0 : -9223372036854775808 ≤ n) (h1 : n ≤ 9223372036854775807) (w : World) (hL : Laid w) :
    Calls Tryz.prog 9 #[.string a, .string b, .int .i64 n] w (RetB w true) := by
  have hB : Below w.heap.size w w := Below.refl _ _
  obtain ⟨A, hA⟩ : ∃ A, A = a.extract 0 (min (a.size : Int) 210).toNat := ⟨_, rfl⟩
  obtain ⟨B, hBB⟩ : ∃ B, B = b.extract 0 (min (b.size : Int) 210).toNat := ⟨_, rfl⟩
  have has : A.size ≤ 1000 := by rw [hA, ByteArray.size_extract]; omega
  have hbs : B.size ≤ 1000 := by rw [hBB, ByteArray.size_extract]; omega
  obtain ⟨T, hT⟩ := Is.ex (z := n) (sm_of (m := 9223372036854775809) (by omega) (by decide))
  have F1 := Lib.hid (fun w hL => from_is hT h0 h1 w hL)
  have F2 : Hid (∀ w, Calls Tryz.prog 24 #[.int .i64 n] w (RetZ w T)) := Lib.hid (fun w => by rw [hT.eq]; exact rfrom_any n h0 h1 w)
  have hTs : T.size ≤ 1000 := by have := hT.size; omega
  have HA := Lib.hid hA
  have HB := Lib.hid hBB
  clear hA hBB hT
  go_enter Tryz.func9, Tryz.ntmps9
  go_wp2_with (first
    | (go_at_call 12; (with_reducible refine (sane_any _ hL).mono ?_); rintro e v ⟨rfl, hb⟩; replace hL := hL.below hb; replace hB := below_up hB hb; clear hb)
    | (go_at_call 13; (with_reducible refine (made_at _ 70 70 rfl (by decide) _).mono ?_); rintro e v ⟨M1, z1, hM1, -, rfl, hb⟩; replace hL := hL.below hb; replace hB := below_up hB hb; clear hb)
    | (go_at_call 13; (with_reducible refine (made_at _ 30 30 rfl (by decide) _).mono ?_); rintro e v ⟨M2, z2, hM2, -, rfl, hb⟩; replace hL := hL.below hb; replace hB := below_up hB hb; clear hb)
    | (go_at_call 13; (with_reducible refine (made_at _ 12 12 rfl (by decide) _).mono ?_); rintro e v ⟨M3, z3, hM3, -, rfl, hb⟩; replace hL := hL.below hb; replace hB := below_up hB hb; clear hb)
    | (go_at_call 24; (with_reducible refine (F2.out _).mono ?_); rintro e v ⟨rfl, hb⟩; replace hL := hL.below hb; replace hB := below_up hB hb; clear hb))
  rw [← HA.out, ← HB.out]
  go_loopg [50] 3 (fun kx s50 wr => ∃ i : Nat, s50 = .int .i64 i ∧ i ≤ 3 ∧ 3 ≤ kx + i ∧ Laid wr ∧ Below w.heap.size w wr ∧
    Hid (∀ j, j < 3 → ∃ x y : ByteArray, x.size ≤ 1000 ∧ y.size ≤ 1000 ∧ wr.cell? ⟨v.heap.size, j * 2, none⟩ = some (.string x) ∧ wr.cell? ⟨v.heap.size, j * 2 + 1, none⟩ = some (.string y)))
  case atStart =>
    refine ⟨0, rfl, by omega, by omega, hL.below (below1 _ _), below_up hB (below1 _ _), Lib.hid ?_⟩
    have s1 := hM1.size
    have s2 := hM2.size
    have s3 := hM3.size
    intro j hj
    obtain rfl | rfl | rfl : j = 0 ∨ j = 1 ∨ j = 2 := by omega
    · exact ⟨A, B, has, hbs, by simp, by simp⟩
    · exact ⟨M1, M2, by omega, by omega, by simp, by simp⟩
    · exact ⟨M3, T, by omega, hTs, by simp, by simp⟩
  case round =>
    obtain ⟨i, rfl, hi, hkx, hL2, hB2, hcells⟩ := hrel
    have hw1 : IntKind.i64.wrap ((i : Int) + 1) = (i : Int) + 1 := IntWalk.i64_in _ (by omega)
    by_cases hg : i < 3
    · have hg' : (i : Int) < 3 := by omega
      obtain ⟨x, y, hxs, hys, hcx, hcy⟩ := hcells.out i hg
      obtain ⟨s1, n1, P1, Q1⟩ := same_add hxs hys
      obtain ⟨s2, n2, P2, Q2⟩ := same_sub hxs hys
      obtain ⟨s3, n3, P3, Q3⟩ := same_mul hxs hys
      obtain ⟨s4, t4, n4, P4, Q4⟩ := same_div hxs hys
      obtain ⟨s5, n5, P5, Q5⟩ := same_gcd hxs hys
      obtain ⟨s6, n6, P6, Q6⟩ := same_root hxs
      obtain ⟨s7, n7, P7, Q7⟩ := same_toInt hxs
      obtain ⟨b8, P8, Q8⟩ := same_valid hxs
      obtain ⟨n9, P9, Q9⟩ := same_cmp hxs hys
      clear hL hB has hbs hTs hM1 hM2 hM3
      go_wp2_with (first
        | (go_at_call 14; (with_reducible refine (P1.out _ (hL2.below (below1 _ _))).mono ?_); rintro e v3 ⟨rfl, hb⟩; have cx := (hb.cell (by simp)).trans (box_x wr x y); have cy := (hb.cell (by simp)).trans (box_y wr x y); have hbx := below_up (below1 wr _) hb; replace hL2 := hL2.below hbx; clear hb)
        | (go_at_call 25; (with_reducible refine (Q1.out _).mono ?_); rintro e v3 ⟨rfl, hb⟩; replace hL2 := hL2.below hb; replace hbx := below_up hbx hb; replace cx := (hb.cell (cell_lt cx)).trans cx; replace cy := (hb.cell (cell_lt cy)).trans cy; clear hb)
        | (go_at_call 16; (with_reducible refine (P2.out _ hL2).mono ?_); rintro e v3 ⟨rfl, hb⟩; replace hL2 := hL2.below hb; replace hbx := below_up hbx hb; replace cx := (hb.cell (cell_lt cx)).trans cx; replace cy := (hb.cell (cell_lt cy)).trans cy; clear hb)
        | (go_at_call 26; (with_reducible refine (Q2.out _).mono ?_); rintro e v3 ⟨rfl, hb⟩; replace hL2 := hL2.below hb; replace hbx := below_up hbx hb; replace cx := (hb.cell (cell_lt cx)).trans cx; replace cy := (hb.cell (cell_lt cy)).trans cy; clear hb)
        | (go_at_call 15; (with_reducible refine (P3.out _ hL2).mono ?_); rintro e v3 ⟨rfl, hb⟩; replace hL2 := hL2.below hb; replace hbx := below_up hbx hb; replace cx := (hb.cell (cell_lt cx)).trans cx; replace cy := (hb.cell (cell_lt cy)).trans cy; clear hb)
        | (go_at_call 27; (with_reducible refine (Q3.out _).mono ?_); rintro e v3 ⟨rfl, hb⟩; replace hL2 := hL2.below hb; replace hbx := below_up hbx hb; replace cx := (hb.cell (cell_lt cx)).trans cx; replace cy := (hb.cell (cell_lt cy)).trans cy; clear hb)
        | (go_at_call 17; (with_reducible refine (P4.out _ hL2).mono ?_); rintro e v3 ⟨rfl, hb⟩; replace hL2 := hL2.below hb; replace hbx := below_up hbx hb; replace cx := (hb.cell (cell_lt cx)).trans cx; replace cy := (hb.cell (cell_lt cy)).trans cy; clear hb)
        | (go_at_call 28; (with_reducible refine (Q4.out _).mono ?_); rintro e v3 ⟨rfl, hb⟩; replace hL2 := hL2.below hb; replace hbx := below_up hbx hb; replace cx := (hb.cell (cell_lt cx)).trans cx; replace cy := (hb.cell (cell_lt cy)).trans cy; clear hb)
        | (go_at_call 20; (with_reducible refine (P5.out _ hL2).mono ?_); rintro e v3 ⟨rfl, hb⟩; replace hL2 := hL2.below hb; replace hbx := below_up hbx hb; replace cx := (hb.cell (cell_lt cx)).trans cx; replace cy := (hb.cell (cell_lt cy)).trans cy; clear hb)
        | (go_at_call 29; (with_reducible refine (Q5.out _).mono ?_); rintro e v3 ⟨rfl, hb⟩; replace hL2 := hL2.below hb; replace hbx := below_up hbx hb; replace cx := (hb.cell (cell_lt cx)).trans cx; replace cy := (hb.cell (cell_lt cy)).trans cy; clear hb)
        | (go_at_call 21; (with_reducible refine (P6.out _ hL2).mono ?_); rintro e v3 ⟨rfl, hb⟩; replace hL2 := hL2.below hb; replace hbx := below_up hbx hb; replace cx := (hb.cell (cell_lt cx)).trans cx; replace cy := (hb.cell (cell_lt cy)).trans cy; clear hb)
        | (go_at_call 30; (with_reducible refine (Q6.out _).mono ?_); rintro e v3 ⟨rfl, hb⟩; replace hL2 := hL2.below hb; replace hbx := below_up hbx hb; replace cx := (hb.cell (cell_lt cx)).trans cx; replace cy := (hb.cell (cell_lt cy)).trans cy; clear hb)
        | (go_at_call 31; (with_reducible refine (P7.out _ hL2).mono ?_); rintro e v3 ⟨rfl, hb⟩; replace hL2 := hL2.below hb; replace hbx := below_up hbx hb; replace cx := (hb.cell (cell_lt cx)).trans cx; replace cy := (hb.cell (cell_lt cy)).trans cy; clear hb)
        | (go_at_call 32; (with_reducible refine (Q7.out _).mono ?_); rintro e v3 ⟨rfl, hb⟩; replace hL2 := hL2.below hb; replace hbx := below_up hbx hb; replace cx := (hb.cell (cell_lt cx)).trans cx; replace cy := (hb.cell (cell_lt cy)).trans cy; clear hb))
      have hmixed : Tryz.prog.follows .mixedOrders = true := by kernel_rfl
      have hZ : Below v3.heap.size v3 v3.drew := (Below.refl _ _).drew
      have cx := (hZ.cell (cell_lt cx)).trans cx
      have cy := (hZ.cell (cell_lt cy)).trans cy
      go_region_held3 (fun w' => w'.cell? ⟨wr.heap.size, 0, none⟩ = some (.string x) ∧ w'.cell? ⟨wr.heap.size, 1, none⟩ = some (.string y)) (go_keep) (first
        | (go_at_call 19; (with_reducible refine (P8.out _).mono ?_); rintro e wN ⟨rfl, hb⟩; have hZ := below_up hZ hb; have cx := (hb.cell (cell_lt cx)).trans cx; have cy := (hb.cell (cell_lt cy)).trans cy)
        | (go_at_call 33; (with_reducible refine (Q8.out _).mono ?_); rintro e wN ⟨rfl, hb⟩; have hZ := below_up hZ hb; have cx := (hb.cell (cell_lt cx)).trans cx; have cy := (hb.cell (cell_lt cy)).trans cy)
        | (go_at_call 18; (with_reducible refine (P9.out _).mono ?_); rintro e wN ⟨rfl, hb⟩; have hZ := below_up hZ hb; have cx := (hb.cell (cell_lt cx)).trans cx; have cy := (hb.cell (cell_lt cy)).trans cy)
        | (go_at_call 34; (with_reducible refine (Q9.out _).mono ?_); rintro e wN ⟨rfl, hb⟩; have hZ := below_up hZ hb; have cx := (hb.cell (cell_lt cx)).trans cx; have cy := (hb.cell (cell_lt cy)).trans cy))
      all_goals go_wp2
      all_goals go_roundg (3 - (i + 1))
      all_goals first
        | omega
        | (have hbf := below_up hbx hZ
           refine ⟨i + 1, by go_num, by omega, by omega, hL2.below hZ, below_up hB2 hbf, Lib.hid fun j hj => ?_⟩
           obtain ⟨p, q, hp, hq, h1, h2⟩ := hcells.out j hj
           exact ⟨p, q, hp, hq, (hbf.cell (cell_lt h1)).trans h1, (hbf.cell (cell_lt h2)).trans h2⟩)
    · obtain rfl : i = 3 := by omega
      clear hL hB has hbs hTs hM1 hM2 hM3 hg
      go_wp2_with (first
        | (go_at_call 35; (with_reducible refine (F1.out _ hL2).mono ?_); rintro e v3 ⟨rfl, hb⟩)
        | (go_at_call 24; (with_reducible refine (F2.out _).mono ?_); rintro e v4 ⟨rfl, hb4⟩))
      go_ret
      exact ⟨rfl, below_up hB2 (below_up hb hb4)⟩

end Go.Proofs.YtcpkejpdpohfeaaGreatDoor
