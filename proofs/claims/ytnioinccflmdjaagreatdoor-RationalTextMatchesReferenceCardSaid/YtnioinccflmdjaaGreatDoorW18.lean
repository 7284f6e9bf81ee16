/- RationalTextMatchesReference: its walk. Condition: the tables of strconv; the numbers are ints. -/
import Derived.Test.YtnioinccflmdjaaGreatDoorW17
import Derived.RegionTactic
import Derived.BigRegion
import Derived.Deep.CutBlock
namespace Go.Proofs.YtnioinccflmdjaaGreatDoor
open Go.RowKit Num
open Go.Shelf

/-- A slot that holds a new slice of two elements; nothing else in memory has changed. -/
def SliceOut (W : World) (g : Nat) (T : TypeId) (vs : List Value) (s n i : Value) (wx : World) : Prop := s = .slice (some ⟨g, 0, none⟩) 2 2 ∧ n = .int .i64 2 ∧ i = .int .i64 0 ∧ Blk wx g T vs ∧ Below W.heap.size W wx
theorem byte_one (c : Int) (h0 : 0 ≤ c) (h1 : c ≤ 255) (W : World) (a : Addr) (h : W.cell? a = some (.int .u8 c)) : (convert 35 9 (.slice (some a) 1 1)).run Tryz.prog W = .ok (.string ⟨#[UInt8.ofNat c.toNat]⟩) W := by
  refine run_convert_bytes_back (P := Tryz.prog) _ 35 9 5 a 1 [UInt8.ofNat c.toNat] Tryz.underlying35 Tryz.underlying5 Tryz.underlying9 (fun j hj => ?_)
  obtain rfl : j = 0 := by simp at hj; omega
  have e : a.add 0 = a := by cases a; rfl
  rw [e, h]
  have e2 : (UInt8.ofNat c.toNat).toNat = c.toNat := by rw [UInt8.toNat_ofNat']; omega
  simp [e2]
  omega
theorem drew_low (W : World) : Below W.heap.size W W.drew := (Below.refl _ _).drew
theorem par_any (s : ByteArray) (hs : s.size ≤ 1000000) (w : World) (hL : Laid w) : Calls Tryz.prog 15 #[.string s] w (RetPr w (parT s)) := qparse_any s (by omega) w hL

set_option maxHeartbeats 8000000 in
set_option maxRecDepth 100000 in
theorem qtext_any (x y : ByteArray) (hx : x.size ≤ 9223372036854775807) (hy : y.size ≤ 9223372036854775807) (l0 l1 l2 l3 n c : Int) (hl0 : I64 l0) (hl1 : I64 l1) (hl2 : I64 l2) (hl3 : I64 l3) (hn : I64 n) (hc0 : 0 ≤ c) (hc1 : c ≤ 255) (raw : ByteArray) (hr : raw.size ≤ 9223372036854775807) (w : World) (hL : Laid w) :
    Calls Tryz.prog 3 #[.agg #[.string x, .string y], .agg #[.int .i64 l0, .int .i64 l1, .int .i64 l2, .int .i64 l3], .int .i64 n, .int .u8 c, .string raw] w (RetB w true) := by
  have CLX := Lib.hid (fun w => long_any l0 l1 l2 l3 hl0.1 hl0.2 hl1.1 hl1.2 hl2.1 hl2.2 hl3.1 hl3.2 w)
  have CC := Lib.hid (fun w => cut_any x y hx hy w)
  have hsx := cutB_size x
  have hsy := cutB_size y
  have CPI := fun m hm0 hm1 w => pick_any n m hn.1 hn.2 hm0 hm1 w
  have HPI := Lib.hid CPI
  clear hl0 hl1 hl2 hl3 hn hx hy CPI
  have hB : Below w.heap.size w w := Below.refl _ _
  have hmixed : Tryz.prog.follows .mixedOrders = true := by kernel_rfl
  go_enter Tryz.func3, Tryz.ntmps3
  go_upto_region 3 with (first
      | (go_at_call 11; (with_reducible refine (sane_any _ (hL.below (below_up (below1 w (.cells #[.string x, .string y] 23)) (below1 ((w.alloc (.cells #[.string x, .string y] 23))) (.cells #[.int .i64 l0, .int .i64 l1, .int .i64 l2, .int .i64 l3] 24))))).mono ?_); rintro e w1 ⟨rfl, hb⟩; have hp := below_up (below_up (below1 w (.cells #[.string x, .string y] 23)) (below1 ((w.alloc (.cells #[.string x, .string y] 23))) (.cells #[.int .i64 l0, .int .i64 l1, .int .i64 l2, .int .i64 l3] 24))) hb; have Bx := ((Blk.new w 23 [.string x, .string y]).alloc _).below hb; have Bl := (Blk.new2 w (.cells #[.string x, .string y] 23) 24 [.int .i64 l0, .int .i64 l1, .int .i64 l2, .int .i64 l3]).below hb; replace hL := hL.below hp; replace hB := below_up hB hp; clear hb hp; have cl_0 := Bl.cell 0 (v := .int .i64 l0) rfl; have cl_1 := Bl.cell 1 (v := .int .i64 l1) rfl; have cl_2 := Bl.cell 2 (v := .int .i64 l2) rfl; have cl_3 := Bl.cell 3 (v := .int .i64 l3) rfl)
      | (go_at_call 12; (with_reducible refine (CLX.out _).mono ?_); rintro e w2 ⟨q, hq, rfl, hb⟩; have hp := hb; replace Bx := Bx.below hp; replace Bl := Bl.below hp; clear cl_0 cl_1 cl_2 cl_3; replace hL := hL.below hp; replace hB := below_up hB hp; clear hb hp))
  have hqf := fr_fit (hq.fit (by omega))
  have hok : okR (numT (some q)) (denT (some q)) = true := Fr.ok (x := numT (some q)) (y := denT (some q)) hqf
  have hsm : (numT (some q)).size ≤ 1000 := by have := hqf.1.size; exact Nat.le_trans this (by omega)
  have hsn : (denT (some q)).size ≤ 1000 := by have := hqf.2.size; exact Nat.le_trans this (by omega)
  generalize hgx : cutB x = cx at *
  generalize hgy : cutB y = cy at *
  clear hgx hgy hqf hq CLX Bl
  go_cut [32, 33, 34] (fun s32 s33 s34 wx => ∃ g : Nat, SliceOut (w2.alloc (.cells #[.string (numT (some q)), .string (denT (some q))] 23)) g 23 [.string cx, .string cy, .string (numT (some q)), .string (denT (some q))] s32 s33 s34 wx)
  case first =>
    have px0 := Bx.cell 0 (v := .string x) rfl
    have px1 := Bx.cell 1 (v := .string y) rfl
    have hZ : Below (w2.alloc (.cells #[.string (numT (some q)), .string (denT (some q))] 23)).heap.size (w2.alloc (.cells #[.string (numT (some q)), .string (denT (some q))] 23)) (w2.alloc (.cells #[.string (numT (some q)), .string (denT (some q))] 23)).drew := (Below.refl _ _).drew
    have BX := (Bx.below (below1 w2 (.cells #[.string (numT (some q)), .string (denT (some q))] 23))).below hZ
    have BM := ((Blk.new w2 23 [.string (numT (some q)), .string (denT (some q))])).below hZ
    have x0 := BX.cell 0 (v := .string x) rfl
    have x1 := BX.cell 1 (v := .string y) rfl
    have m0 := BM.cell 0 (v := .string (numT (some q))) rfl
    have m1 := BM.cell 1 (v := .string (denT (some q))) rfl
    go_region_held3 (fun w' => w'.cell? ⟨w.heap.size, 0, none⟩ = some (.string x) ∧ w'.cell? ⟨w.heap.size, 1, none⟩ = some (.string y) ∧ w'.cell? ⟨w2.heap.size, 0, none⟩ = some (.string (numT (some q))) ∧ w'.cell? ⟨w2.heap.size, 1, none⟩ = some (.string (denT (some q)))) (go_keep) (first | (go_at_call 13; (with_reducible refine (CC.out _).mono ?_); rintro e wN ⟨rfl, hb⟩; have hZ := below_up hZ hb; have x0 := (hb.cell (cell_lt x0)).trans x0; have x1 := (hb.cell (cell_lt x1)).trans x1; have m0 := (hb.cell (cell_lt m0)).trans m0; have m1 := (hb.cell (cell_lt m1)).trans m1))
    all_goals go_wp2_with fail
    all_goals go_meet
    all_goals exact ⟨_, rfl, rfl, rfl, Blk.new _ _ _, below_up hZ (below1 _ _)⟩
  case rest =>
    obtain ⟨w3, hw3⟩ : ∃ x, x = wc := ⟨_, rfl⟩
    subst hw3
    obtain ⟨gs, rfl, rfl, rfl, BS, hp⟩ := hcut
    have hq2 := below_up (below1 w2 (.cells #[.string (numT (some q)), .string (denT (some q))] 23)) hp
    have BM := (Blk.new w2 23 [.string (numT (some q)), .string (denT (some q))]).below hp
    replace hL := hL.below hq2
    replace hB := below_up hB hq2
    clear hp hq2 Bx CC
    generalize numT (some q) = xm at *
    generalize denT (some q) = ym at *
    go_wp2_with fail
    go_loopg [34] 2 (fun kx s34 wr => ∃ i : Nat, s34 = .int .i64 i ∧ i ≤ 2 ∧ 2 ≤ kx + i ∧ Laid wr ∧ Below w.heap.size w wr ∧ Blk wr gs 23 [.string cx, .string cy, .string xm, .string ym] ∧ Blk wr w2.heap.size 23 [.string xm, .string ym])
    case atStart => exact ⟨0, rfl, by omega, by omega, hL, hB, BS, BM⟩
    case round =>
      clear hL hB BS BM
      obtain ⟨i, rfl, hi, hkx, hL, hB, BS, BM⟩ := hrel
      by_cases hg : i < 2
      · obtain rfl | rfl : i = 0 ∨ i = 1 := by omega
        · have b0 := BS.cell 0 (v := .string cx) rfl
          have b1 := BS.cell 1 (v := .string cy) rfl
          have CP := Lib.hid (fun w hL => qprint_any cx cy w hL)
          have CT := Lib.hid (fun w => tprint_any cx cy (by omega) (by omega) w)
          have CV := Lib.hid (fun w hL => qvalid_any cx cy w hL)
          cases hk : okR cx cy with
          | true =>
            have hpp := par_pr hk
            have hne := ne_empty (pr_ne hk)
            have hsz : (prT cx cy).size ≤ 1000000 := by
              unfold prT; rw [hk, if_pos rfl]; split
              · omega
              · rw [slash_size]; omega
            rw [hk] at CV
            have CR0 := fun w hL => par_any (prT cx cy) hsz w hL
            rw [hpp] at CR0
            generalize prT cx cy = s at *
            have CR := Lib.hid CR0
            clear CR0 hpp hsz hk
            have hS0 := hB
            go_wp2_with (first
                | (go_at_call 14; (with_reducible refine (CP.out _ (hL.below (below1 wr (.cells #[.string cx, .string cy] 23)))).mono ?_); rintro e w1 ⟨rfl, hb⟩; have hp := below_up (below1 wr (.cells #[.string cx, .string cy] 23)) hb; replace BS := BS.below hp; replace BM := BM.below hp; have Bt := (Blk.new wr 23 [.string cx, .string cy]).below hb; replace hL := hL.below hp; replace hB := below_up hB hp; clear hb hp)
                | (go_at_call 15; (with_reducible refine (CR.out _ hL).mono ?_); rintro e w2 ⟨rfl, hb⟩; have hp := hb; replace BS := BS.below hp; replace BM := BM.below hp; replace Bt := Bt.below hp; replace hL := hL.below hp; replace hB := below_up hB hp; clear hb hp; have ct_0 := (Bt.below (below1 w2 (.cells #[.string cx, .string cy] 23))).cell 0 (v := .string cx) rfl; have ct_1 := (Bt.below (below1 w2 (.cells #[.string cx, .string cy] 23))).cell 1 (v := .string cy) rfl)
                | (go_at_call 16; (with_reducible refine (CT.out _).mono ?_); rintro e w3 ⟨rfl, hb⟩; have hp := below_up (below1 w2 (.cells #[.string cx, .string cy] 23)) hb; replace BS := BS.below hp; replace BM := BM.below hp; replace Bt := Bt.below hp; have Bu := (Blk.new w2 23 [.string cx, .string cy]).below hb; clear ct_0 ct_1; replace hL := hL.below hp; replace hB := below_up hB hp; clear hb hp; have ct_0 := Bt.cell 0 (v := .string cx) rfl; have ct_1 := Bt.cell 1 (v := .string cy) rfl; have cu_0 := Bu.cell 0 (v := .string cx) rfl; have cu_1 := Bu.cell 1 (v := .string cy) rfl)
                | (go_at_call 17; (with_reducible refine (CV.out _ hL).mono ?_); rintro e w4 ⟨rfl, hb⟩; have hp := hb; replace BS := BS.below hp; replace BM := BM.below hp; replace Bt := Bt.below hp; replace Bu := Bu.below hp; clear ct_0 ct_1 cu_0 cu_1; replace hL := hL.below hp; replace hB := below_up hB hp; clear hb hp; have ct_0 := Bt.cell 0 (v := .string cx) rfl; have ct_1 := Bt.cell 1 (v := .string cy) rfl; have cu_0 := Bu.cell 0 (v := .string cx) rfl; have cu_1 := Bu.cell 1 (v := .string cy) rfl)
                | (go_at_call 17; (with_reducible refine (CV.out _ hL).mono ?_); rintro e w5 ⟨rfl, hb⟩; have hp := hb; replace BS := BS.below hp; replace BM := BM.below hp; replace Bt := Bt.below hp; replace Bu := Bu.below hp; clear ct_0 ct_1 cu_0 cu_1; replace hL := hL.below hp; replace hB := below_up hB hp; clear hb hp))
            all_goals go_roundg (2 - (0 + 1))
            all_goals first | omega | exact ⟨1, rfl, by omega, by omega, hL, hB, BS, BM⟩
          | false =>
            rw [pr_bad hk] at CP CT
            rw [hk] at CV
            have CR0 := fun w hL => par_any ⟨#[]⟩ (by decide) w hL
            rw [par_empty] at CR0
            have CR := Lib.hid CR0
            clear CR0 hk
            have hS0 := hB
            go_wp2_with (first
                | (go_at_call 14; (with_reducible refine (CP.out _ (hL.below (below1 wr (.cells #[.string cx, .string cy] 23)))).mono ?_); rintro e w1 ⟨rfl, hb⟩; have hp := below_up (below1 wr (.cells #[.string cx, .string cy] 23)) hb; replace BS := BS.below hp; replace BM := BM.below hp; have Bt := (Blk.new wr 23 [.string cx, .string cy]).below hb; replace hL := hL.below hp; replace hB := below_up hB hp; clear hb hp)
                | (go_at_call 15; (with_reducible refine (CR.out _ hL).mono ?_); rintro e w2 ⟨rfl, hb⟩; have hp := hb; replace BS := BS.below hp; replace BM := BM.below hp; replace Bt := Bt.below hp; replace hL := hL.below hp; replace hB := below_up hB hp; clear hb hp; have ct_0 := (Bt.below (below1 w2 (.cells #[.string ⟨#[]⟩, .string ⟨#[]⟩] 23))).cell 0 (v := .string cx) rfl; have ct_1 := (Bt.below (below1 w2 (.cells #[.string ⟨#[]⟩, .string ⟨#[]⟩] 23))).cell 1 (v := .string cy) rfl)
                | (go_at_call 16; (with_reducible refine (CT.out _).mono ?_); rintro e w3 ⟨rfl, hb⟩; have hp := below_up (below1 w2 (.cells #[.string ⟨#[]⟩, .string ⟨#[]⟩] 23)) hb; replace BS := BS.below hp; replace BM := BM.below hp; replace Bt := Bt.below hp; have Bu := (Blk.new w2 23 [.string ⟨#[]⟩, .string ⟨#[]⟩]).below hb; clear ct_0 ct_1; replace hL := hL.below hp; replace hB := below_up hB hp; clear hb hp; have ct_0 := Bt.cell 0 (v := .string cx) rfl; have ct_1 := Bt.cell 1 (v := .string cy) rfl; have cu_0 := Bu.cell 0 (v := .string ⟨#[]⟩) rfl; have cu_1 := Bu.cell 1 (v := .string ⟨#[]⟩) rfl)
                | (go_at_call 17; (with_reducible refine (CV.out _ hL).mono ?_); rintro e w4 ⟨rfl, hb⟩; have hp := hb; replace BS := BS.below hp; replace BM := BM.below hp; replace Bt := Bt.below hp; replace Bu := Bu.below hp; clear ct_0 ct_1 cu_0 cu_1; replace hL := hL.below hp; replace hB := below_up hB hp; clear hb hp; have ct_0 := Bt.cell 0 (v := .string cx) rfl; have ct_1 := Bt.cell 1 (v := .string cy) rfl; have cu_0 := Bu.cell 0 (v := .string ⟨#[]⟩) rfl; have cu_1 := Bu.cell 1 (v := .string ⟨#[]⟩) rfl)
                | (go_at_call 17; (with_reducible refine (CV.out _ hL).mono ?_); rintro e w5 ⟨rfl, hb⟩; have hp := hb; replace BS := BS.below hp; replace BM := BM.below hp; replace Bt := Bt.below hp; replace Bu := Bu.below hp; clear ct_0 ct_1 cu_0 cu_1; replace hL := hL.below hp; replace hB := below_up hB hp; clear hb hp))
            all_goals go_roundg (2 - (0 + 1))
            all_goals first | omega | exact ⟨1, rfl, by omega, by omega, hL, hB, BS, BM⟩
        · have b0 := BS.cell 2 (v := .string xm) rfl
          have b1 := BS.cell 3 (v := .string ym) rfl
          have CP := Lib.hid (fun w hL => qprint_any xm ym w hL)
          have CT := Lib.hid (fun w => tprint_any xm ym (by omega) (by omega) w)
          have CV := Lib.hid (fun w hL => qvalid_any xm ym w hL)
          have hk := hok
          have hpp := par_pr hk
          have hne := ne_empty (pr_ne hk)
          have hsz : (prT xm ym).size ≤ 1000000 := by
            unfold prT; rw [hk, if_pos rfl]; split
            · omega
            · rw [slash_size]; omega
          rw [hk] at CV
          have CR0 := fun w hL => par_any (prT xm ym) hsz w hL
          rw [hpp] at CR0
          generalize prT xm ym = s at *
          have CR := Lib.hid CR0
          clear CR0 hpp hsz hk
          have hS0 := hB
          go_wp2_with (first
              | (go_at_call 14; (with_reducible refine (CP.out _ (hL.below (below1 wr (.cells #[.string xm, .string ym] 23)))).mono ?_); rintro e w1 ⟨rfl, hb⟩; have hp := below_up (below1 wr (.cells #[.string xm, .string ym] 23)) hb; replace BS := BS.below hp; replace BM := BM.below hp; have Bt := (Blk.new wr 23 [.string xm, .string ym]).below hb; replace hL := hL.below hp; replace hB := below_up hB hp; clear hb hp)
              | (go_at_call 15; (with_reducible refine (CR.out _ hL).mono ?_); rintro e w2 ⟨rfl, hb⟩; have hp := hb; replace BS := BS.below hp; replace BM := BM.below hp; replace Bt := Bt.below hp; replace hL := hL.below hp; replace hB := below_up hB hp; clear hb hp; have ct_0 := (Bt.below (below1 w2 (.cells #[.string xm, .string ym] 23))).cell 0 (v := .string xm) rfl; have ct_1 := (Bt.below (below1 w2 (.cells #[.string xm, .string ym] 23))).cell 1 (v := .string ym) rfl)
              | (go_at_call 16; (with_reducible refine (CT.out _).mono ?_); rintro e w3 ⟨rfl, hb⟩; have hp := below_up (below1 w2 (.cells #[.string xm, .string ym] 23)) hb; replace BS := BS.below hp; replace BM := BM.below hp; replace Bt := Bt.below hp; have Bu := (Blk.new w2 23 [.string xm, .string ym]).below hb; clear ct_0 ct_1; replace hL := hL.below hp; replace hB := below_up hB hp; clear hb hp; have ct_0 := Bt.cell 0 (v := .string xm) rfl; have ct_1 := Bt.cell 1 (v := .string ym) rfl; have cu_0 := Bu.cell 0 (v := .string xm) rfl; have cu_1 := Bu.cell 1 (v := .string ym) rfl)
              | (go_at_call 17; (with_reducible refine (CV.out _ hL).mono ?_); rintro e w4 ⟨rfl, hb⟩; have hp := hb; replace BS := BS.below hp; replace BM := BM.below hp; replace Bt := Bt.below hp; replace Bu := Bu.below hp; clear ct_0 ct_1 cu_0 cu_1; replace hL := hL.below hp; replace hB := below_up hB hp; clear hb hp; have ct_0 := Bt.cell 0 (v := .string xm) rfl; have ct_1 := Bt.cell 1 (v := .string ym) rfl; have cu_0 := Bu.cell 0 (v := .string xm) rfl; have cu_1 := Bu.cell 1 (v := .string ym) rfl)
              | (go_at_call 17; (with_reducible refine (CV.out _ hL).mono ?_); rintro e w5 ⟨rfl, hb⟩; have hp := hb; replace BS := BS.below hp; replace BM := BM.below hp; replace Bt := Bt.below hp; replace Bu := Bu.below hp; clear ct_0 ct_1 cu_0 cu_1; replace hL := hL.below hp; replace hB := below_up hB hp; clear hb hp))
          all_goals go_roundg (2 - (1 + 1))
          all_goals first | omega | exact ⟨2, rfl, by omega, by omega, hL, hB, BS, BM⟩
      · obtain rfl : i = 2 := by omega
        have b0 := BM.cell 0 (v := .string xm) rfl
        have b1 := BM.cell 1 (v := .string ym) rfl
        have CT := Lib.hid (fun w => tprint_any xm ym (by omega) (by omega) w)
        have hne := ne_empty (pr_ne hok)
        have hsz : (prT xm ym).size ≤ 10000 := by
          unfold prT; rw [hok, if_pos rfl]; split
          · omega
          · rw [slash_size]; omega
        have hs1 : 1 ≤ (prT xm ym).size := by
          have h := pr_ne hok
          cases h0 : (prT xm ym).size with
          | zero => exact absurd (ByteArray.size_eq_zero_iff.1 h0) h
          | succ k => omega
        generalize prT xm ym = s at *
        go_upto_region 15 with (first
          | (go_at_call 16; (with_reducible refine (CT.out _).mono ?_); rintro e w5 ⟨rfl, hb⟩; replace hL := hL.below hb; replace hB := below_up hB hb; clear b0 b1)
          | (go_at_call 18; (with_reducible refine (HPI.out (s.size : Int) (by omega) (by omega) _).mono ?_); rintro e v' ⟨k, hk0, hk1, rfl, rfl⟩))
        obtain ⟨K, rfl⟩ : ∃ K : Nat, k = K := ⟨k.toNat, by omega⟩
        clear BS BM hb CT
        go_cut [94, 95, 96] (fun s94 s95 s96 wx => ∃ (g : Nat) (u v : ByteArray), u.size ≤ 1000000 ∧ v.size ≤ 1000000 ∧ SliceOut w5 g 9 [.string u, .string v] s94 s95 s96 wx)
        case first =>
          have hw1 : IntKind.i64.wrap ((K : Int) + 1) = (K : Int) + 1 := IntWalk.i64_in _ (by omega)
          have hKs : (K : Int) ≤ s.size := by omega
          have hKs1 : (K : Int) + 1 ≤ s.size := by omega
          have hmr : min (raw.size : Int) 420 ≤ raw.size := by omega
          have hmr0 : 0 ≤ min (raw.size : Int) 420 := by omega
          have z1 : (s.extract 0 K).size ≤ 10000 := by rw [ByteArray.size_extract]; omega
          have z2 : (s.extract (K + 1) s.size).size ≤ 10000 := by rw [ByteArray.size_extract]; omega
          have z3 : (s.extract 0 K ++ (⟨#[UInt8.ofNat c.toNat]⟩ : ByteArray)).size ≤ 10001 := by rw [snoc_size]; omega
          have BS := byte_one c hc0 hc1 (w5.alloc (.cells #[.int .u8 c] 5)) ⟨w5.heap.size, 0, none⟩ (by simp)
          have BS2 := byte_one c hc0 hc1 (w5.alloc (.cells #[.int .u8 c] 5)).drew ⟨w5.heap.size, 0, none⟩ (by simp)
          go_wp2
          go_region
          go_wp2
          go_meet
          have hdd := drew_low ((w5.alloc (.cells #[.int .u8 c] 5)).alloc (.cells #[.string (raw.extract 0 (min (raw.size : Int) 420).toNat), .string (s.extract 0 K ++ ⟨#[UInt8.ofNat c.toNat]⟩ ++ s.extract (K + 1) s.size)] 9))
          exact ⟨_, _, _, by rw [ByteArray.size_extract]; omega, by rw [ByteArray.size_append]; omega, rfl, rfl, rfl, (Blk.new2 w5 (.cells #[.int .u8 c] 5) 9 _).below hdd, below_up (below_up (below1 w5 _) (below1 _ _)) hdd⟩
        case rest =>
          obtain ⟨w6, hw6⟩ : ∃ x, x = wc := ⟨_, rfl⟩
          subst hw6
          obtain ⟨gt, u, v, hu, hv, rfl, rfl, rfl, BS, hp⟩ := hcut
          replace hL := hL.below hp
          replace hB := below_up hB hp
          clear hp hne hsz hs1 hk0 hk1 HPI
          go_wp2_with fail
          go_loopg [96] 2 (fun kx s96 wr => ∃ i : Nat, s96 = .int .i64 i ∧ i ≤ 2 ∧ 2 ≤ kx + i ∧ Laid wr ∧ Below w.heap.size w wr ∧ Blk wr gt 9 [.string u, .string v])
          case atStart => exact ⟨0, rfl, by omega, by omega, hL, hB, BS⟩
          case round =>
            clear hL hB BS
            obtain ⟨i, rfl, hi, hkx, hL, hB, BS⟩ := hrel
            by_cases hg : i < 2
            · obtain rfl | rfl : i = 0 ∨ i = 1 := by omega
              · have b0 := BS.cell 0 (v := .string u) rfl
                have CQ0 := fun w hL => par_any u hu w hL
                have CT0 := fun w => tparse_any u hu w
                cases hpt : parT u with
                | none =>
                  rw [hpt] at CQ0 CT0
                  have CQ := Lib.hid CQ0
                  have CT := Lib.hid CT0
                  clear CQ0 CT0 hpt
                  go_wp2_with (first
                      | (go_at_call 15; (with_reducible refine (CQ.out _ hL).mono ?_); rintro e w1 ⟨rfl, hb⟩; have hp := hb; replace BS := BS.below hp; replace hL := hL.below hp; replace hB := below_up hB hp; clear hb hp)
                      | (go_at_call 19; (with_reducible refine (CT.out _).mono ?_); rintro e w2 ⟨rfl, hb⟩; have hp := below_up (below1 w1 (.cells #[.string ⟨#[]⟩, .string ⟨#[]⟩] 23)) hb; replace BS := BS.below hp; have Br := (Blk.new w1 23 [.string ⟨#[]⟩, .string ⟨#[]⟩]).below hb; replace hL := hL.below hp; replace hB := below_up hB hp; clear hb hp; have cr_0 := (Br.below (below1 w2 (.cells #[.string ⟨#[]⟩, .string ⟨#[]⟩] 23))).cell 0 (v := .string ⟨#[]⟩) rfl; have cr_1 := (Br.below (below1 w2 (.cells #[.string ⟨#[]⟩, .string ⟨#[]⟩] 23))).cell 1 (v := .string ⟨#[]⟩) rfl))
                  all_goals go_roundg (2 - (0 + 1))
                  all_goals first | omega | exact ⟨1, rfl, by omega, by omega, hL.below (below1 _ _), below_up hB (below1 _ _), BS.alloc _⟩
                | some p =>
                  rw [hpt] at CQ0 CT0
                  have CQ := Lib.hid CQ0
                  have CT := Lib.hid CT0
                  obtain ⟨p1, p2⟩ := p
                  have CP0 := fun w hL => qprint_any p1 p2 w hL
                  rw [par_print hpt] at CP0
                  have CP := Lib.hid CP0
                  clear CP0
                  clear CQ0 CT0 hpt
                  go_wp2_with (first
                      | (go_at_call 15; (with_reducible refine (CQ.out _ hL).mono ?_); rintro e w1 ⟨rfl, hb⟩; have hp := hb; replace BS := BS.below hp; replace hL := hL.below hp; replace hB := below_up hB hp; clear hb hp)
                      | (go_at_call 19; (with_reducible refine (CT.out _).mono ?_); rintro e w2 ⟨rfl, hb⟩; have hp := below_up (below1 w1 (.cells #[.string p1, .string p2] 23)) hb; replace BS := BS.below hp; have Br := (Blk.new w1 23 [.string p1, .string p2]).below hb; replace hL := hL.below hp; replace hB := below_up hB hp; clear hb hp; have cr_0 := (Br.below (below1 w2 (.cells #[.string p1, .string p2] 23))).cell 0 (v := .string p1) rfl; have cr_1 := (Br.below (below1 w2 (.cells #[.string p1, .string p2] 23))).cell 1 (v := .string p2) rfl)
                      | (go_at_call 14; (with_reducible refine (CP.out _ (hL.below (below1 w2 (.cells #[.string p1, .string p2] 23)))).mono ?_); rintro e w3 ⟨rfl, hb⟩; have hp := below_up (below1 w2 (.cells #[.string p1, .string p2] 23)) hb; replace BS := BS.below hp; replace Br := Br.below hp; have Bu := (Blk.new w2 23 [.string p1, .string p2]).below hb; clear cr_0 cr_1; replace hL := hL.below hp; replace hB := below_up hB hp; clear hb hp))
                  all_goals go_roundg (2 - (0 + 1))
                  all_goals first | omega | exact ⟨1, rfl, by omega, by omega, hL, hB, BS⟩
              · have b0 := BS.cell 1 (v := .string v) rfl
                have CQ0 := fun w hL => par_any v hv w hL
                have CT0 := fun w => tparse_any v hv w
                cases hpt : parT v with
                | none =>
                  rw [hpt] at CQ0 CT0
                  have CQ := Lib.hid CQ0
                  have CT := Lib.hid CT0
                  clear CQ0 CT0 hpt
                  go_wp2_with (first
                      | (go_at_call 15; (with_reducible refine (CQ.out _ hL).mono ?_); rintro e w1 ⟨rfl, hb⟩; have hp := hb; replace BS := BS.below hp; replace hL := hL.below hp; replace hB := below_up hB hp; clear hb hp)
                      | (go_at_call 19; (with_reducible refine (CT.out _).mono ?_); rintro e w2 ⟨rfl, hb⟩; have hp := below_up (below1 w1 (.cells #[.string ⟨#[]⟩, .string ⟨#[]⟩] 23)) hb; replace BS := BS.below hp; have Br := (Blk.new w1 23 [.string ⟨#[]⟩, .string ⟨#[]⟩]).below hb; replace hL := hL.below hp; replace hB := below_up hB hp; clear hb hp; have cr_0 := (Br.below (below1 w2 (.cells #[.string ⟨#[]⟩, .string ⟨#[]⟩] 23))).cell 0 (v := .string ⟨#[]⟩) rfl; have cr_1 := (Br.below (below1 w2 (.cells #[.string ⟨#[]⟩, .string ⟨#[]⟩] 23))).cell 1 (v := .string ⟨#[]⟩) rfl))
                  all_goals go_roundg (2 - (1 + 1))
                  all_goals first | omega | exact ⟨2, rfl, by omega, by omega, hL.below (below1 _ _), below_up hB (below1 _ _), BS.alloc _⟩
                | some p =>
                  rw [hpt] at CQ0 CT0
                  have CQ := Lib.hid CQ0
                  have CT := Lib.hid CT0
                  obtain ⟨p1, p2⟩ := p
                  have CP0 := fun w hL => qprint_any p1 p2 w hL
                  rw [par_print hpt] at CP0
                  have CP := Lib.hid CP0
                  clear CP0
                  clear CQ0 CT0 hpt
                  go_wp2_with (first
                      | (go_at_call 15; (with_reducible refine (CQ.out _ hL).mono ?_); rintro e w1 ⟨rfl, hb⟩; have hp := hb; replace BS := BS.below hp; replace hL := hL.below hp; replace hB := below_up hB hp; clear hb hp)
                      | (go_at_call 19; (with_reducible refine (CT.out _).mono ?_); rintro e w2 ⟨rfl, hb⟩; have hp := below_up (below1 w1 (.cells #[.string p1, .string p2] 23)) hb; replace BS := BS.below hp; have Br := (Blk.new w1 23 [.string p1, .string p2]).below hb; replace hL := hL.below hp; replace hB := below_up hB hp; clear hb hp; have cr_0 := (Br.below (below1 w2 (.cells #[.string p1, .string p2] 23))).cell 0 (v := .string p1) rfl; have cr_1 := (Br.below (below1 w2 (.cells #[.string p1, .string p2] 23))).cell 1 (v := .string p2) rfl)
                      | (go_at_call 14; (with_reducible refine (CP.out _ (hL.below (below1 w2 (.cells #[.string p1, .string p2] 23)))).mono ?_); rintro e w3 ⟨rfl, hb⟩; have hp := below_up (below1 w2 (.cells #[.string p1, .string p2] 23)) hb; replace BS := BS.below hp; replace Br := Br.below hp; have Bu := (Blk.new w2 23 [.string p1, .string p2]).below hb; clear cr_0 cr_1; replace hL := hL.below hp; replace hB := below_up hB hp; clear hb hp))
                  all_goals go_roundg (2 - (1 + 1))
                  all_goals first | omega | exact ⟨2, rfl, by omega, by omega, hL, hB, BS⟩
            · obtain rfl : i = 2 := by omega
              go_wp2
              go_ret
              exact ⟨rfl, hB⟩

end Go.Proofs.YtnioinccflmdjaaGreatDoor
