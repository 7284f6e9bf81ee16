/- workpieceref04: Of, Small, and plain facts for Long. Conditions: sizes; the tables of strconv. -/
import Derived.Test.YtnioinccflmdjaaGreatDoorQ6
import Derived.Test.YtnioinccflmdjaaGreatDoorK13
import Derived.Laws.BytesString
import Derived.Laws.IdiomStrings
namespace Go.Proofs.YtnioinccflmdjaaGreatDoor
open Go.RowKit Num
open Go.Shelf

set_option maxHeartbeats 2000000 in
set_option maxRecDepth 100000 in
theorem tof_any (n d : Int) (hn0 : -9223372036854775808 ≤ n) (hn1 : n ≤ 9223372036854775807) (hd0 : -9223372036854775808 ≤ d) (hd1 : d ≤ 9223372036854775807) (w : World) :
    Calls Tryz.prog 42 #[.int .i64 n, .int .i64 d] w (RetQ w (makeQ n d)) := by
  obtain ⟨s, hs⟩ := Is.ex (z := n) (sm_of (m := 9223372036854775809) (by omega) (by decide))
  obtain ⟨t, ht⟩ := Is.ex (z := d) (sm_of (m := 9223372036854775809) (by omega) (by decide))
  have F1 : Hid (∀ w, Calls Tryz.prog 20 #[.int .i64 n] w (RetZ w s)) := Lib.hid (fun w => by rw [hs.eq]; exact rfrom_any n hn0 hn1 w)
  have F2 : Hid (∀ w, Calls Tryz.prog 20 #[.int .i64 d] w (RetZ w t)) := Lib.hid (fun w => by rw [ht.eq]; exact rfrom_any d hd0 hd1 w)
  have MK := Lib.hid (fun w => tmake_any s t (by have := hs.size; omega) (by have := ht.size; omega) w)
  rw [makeT_is hs ht] at MK
  generalize makeQ n d = o at *
  clear hs ht
  go_enter Tryz.func42, Tryz.ntmps42
  have hB := below1 w (.cells #[.string ⟨#[]⟩, .string ⟨#[]⟩] 23)
  have rb := RB.new w ⟨#[]⟩ ⟨#[]⟩
  go_wp2_with (first
    | (go_at_call 20; (with_reducible refine (F1.out _).mono ?_); rintro e w1 ⟨rfl, hb⟩; replace hB := below_up hB hb; replace rb := rb.below hb; clear hb)
    | (go_at_call 20; (with_reducible refine (F2.out _).mono ?_); rintro e w1 ⟨rfl, hb⟩; replace hB := below_up hB hb; replace rb := rb.below hb; clear hb)
    | (go_at_call 39; (with_reducible refine (MK.out _).mono ?_); rintro e w1 ⟨rfl, hb⟩; replace hB := below_up hB hb; replace rb := rb.below hb; clear hb; have r0 := rb.c0; have r1 := rb.c1; have f0 := rb.f0; have f1 := rb.f1))
  have RBF := rb.set (numT o) (denT o)
  have e0 := RBF.c0
  have e1 := RBF.c1
  refine bodyPost_ret (v := .tuple #[.agg #[.string (numT o), .string (denT o)], .int .i64 (errT o)]) (by simp [results, Tryz.results42, go_sem, e0, e1]) rfl ⟨rfl, below_new2 hB (Nat.le_refl _)⟩

theorem tof_some (n d : Int) (hn0 : -9223372036854775808 ≤ n) (hn1 : n ≤ 9223372036854775807) (hd0 : -9223372036854775808 ≤ d) (hd1 : d ≤ 9223372036854775807) (h0 : d ≠ 0) (w : World) :
    Calls Tryz.prog 42 #[.int .i64 n, .int .i64 d] w (RetQ w (some (Rat.divInt n d))) := by
  have h := tof_any n d hn0 hn1 hd0 hd1 w
  rwa [show makeQ n d = some (Rat.divInt n d) from if_neg h0] at h
/-- A fraction of few digits. -/
def RetLim (k : Nat) (w : World) (e : Ending) (w' : World) : Prop := ∃ q : Rat, lim k q ∧ e = .returned (.agg #[.string (numT (some q)), .string (denT (some q))]) ∧ Below w.heap.size w w'
set_option maxHeartbeats 2000000 in
set_option maxRecDepth 100000 in
theorem small_any (x y : Int) (hx0 : -9223372036854775808 ≤ x) (hx1 : x ≤ 9223372036854775807) (hy0 : -9223372036854775808 ≤ y) (hy1 : y ≤ 9223372036854775807) (w : World) :
    Calls Tryz.prog 28 #[.agg #[.int .i64 x, .int .i64 y]] w (RetLim 3 w) := by
  have hmixed : Tryz.prog.follows .mixedOrders = true := by kernel_rfl
  have Z := Blk.new2 w (.cells #[.int .i64 x, .int .i64 y] 47) 23 [.string ⟨#[]⟩, .string ⟨#[]⟩]
  have X := (Blk.new w 47 [.int .i64 x, .int .i64 y]).alloc (.cells #[.string ⟨#[]⟩, .string ⟨#[]⟩] 23)
  have hB := below_up (below1 w (.cells #[.int .i64 x, .int .i64 y] 47)) (below1 _ (.cells #[.string ⟨#[]⟩, .string ⟨#[]⟩] 23))
  go_enter Tryz.func28, Tryz.ntmps28
  go_wp2
  go_cut [3] (fun s3 wx => ∃ g q, BoxOut ((w.alloc (.cells #[.int .i64 x, .int .i64 y] 47)).alloc (.cells #[.string ⟨#[]⟩, .string ⟨#[]⟩] 23)) g 23 [.string (numT (some q)), .string (denT (some q))] s3 wx ∧ lim 3 q)
  case first =>
    have q0 := X.cell 0 (v := .int .i64 x) rfl
    have q1 := X.cell 1 (v := .int .i64 y) rfl
    have eX : w.heap.size + 1 + 1 ≠ w.heap.size := by omega
    have hZ : Below ((w.alloc (.cells #[.int .i64 x, .int .i64 y] 47)).alloc (.cells #[.string ⟨#[]⟩, .string ⟨#[]⟩] 23)).heap.size ((w.alloc (.cells #[.int .i64 x, .int .i64 y] 47)).alloc (.cells #[.string ⟨#[]⟩, .string ⟨#[]⟩] 23)) ((w.alloc (.cells #[.int .i64 x, .int .i64 y] 47)).alloc (.cells #[.string ⟨#[]⟩, .string ⟨#[]⟩] 23)).drew := (Below.refl _ _).drew
    have X' := X.below hZ
    have x0 := X'.cell 0 (v := .int .i64 x) rfl
    have x1 := X'.cell 1 (v := .int .i64 y) rfl
    go_region_held3 (fun w' => w'.cell? ⟨w.heap.size, 0, none⟩ = some (.int .i64 x) ∧ w'.cell? ⟨w.heap.size, 1, none⟩ = some (.int .i64 y)) (go_keep) (first
      | (go_at_call 46; (with_reducible refine (tpick_any x 1999 hx0 hx1 (by decide) (by decide) _).mono ?_); rintro e v' ⟨k, hk0, hk1, rfl, rfl⟩; have hwk : IntKind.i64.wrap (k - 999) = k - 999 := IntWalk.i64_in _ (by omega))
      | (go_at_call 46; (with_reducible refine (tpick_any y 60 hy0 hy1 (by decide) (by decide) _).mono ?_); rintro e v' ⟨l, hl0, hl1, rfl, rfl⟩; have hwl : IntKind.i64.wrap (1 + l) = 1 + l := IntWalk.i64_in _ (by omega))
      | (go_at_call 42; (refine (tof_some (k - 999) (1 + l) (by omega) (by omega) (by omega) (by omega) (by omega) _).mono ?_); rintro e wN ⟨rfl, hb⟩; (try first | (have BN := Blk.below ((Blk.new3 w (.cells #[.int .i64 x, .int .i64 y] 47) (.cells #[.string ⟨#[]⟩, .string ⟨#[]⟩] 23) 23 [.string ⟨#[]⟩, .string ⟨#[]⟩]).below (Below.refl _ _).drew) hb; have hg : ((w.alloc (.cells #[.int .i64 x, .int .i64 y] 47)).alloc (.cells #[.string ⟨#[]⟩, .string ⟨#[]⟩] 23)).heap.size ≤ w.heap.size + 1 + 1 := (by simp)) | (have BN := Blk.below (Blk.new _ 23 [.string ⟨#[]⟩, .string ⟨#[]⟩]) hb; have hg := hZ.size)); have hZ := (by first | exact below_up hZ hb | exact below_up (below_up hZ (below1 _ _)) hb : Below ((w.alloc (.cells #[.int .i64 x, .int .i64 y] 47)).alloc (.cells #[.string ⟨#[]⟩, .string ⟨#[]⟩] 23)).heap.size ((w.alloc (.cells #[.int .i64 x, .int .i64 y] 47)).alloc (.cells #[.string ⟨#[]⟩, .string ⟨#[]⟩] 23)) wN); have X' := (by first | exact X'.below hb | exact (X'.alloc _).below hb : Blk wN w.heap.size 47 [.int .i64 x, .int .i64 y]); have x0 := X'.cell 0 (v := .int .i64 x) rfl; have x1 := X'.cell 1 (v := .int .i64 y) rfl; (try (have n0 := BN.cell 0 (v := .string ⟨#[]⟩) rfl; have m0 := BN.frozen 0; have n1 := BN.cell 1 (v := .string ⟨#[]⟩) rfl; have m1 := BN.frozen 1))))
    all_goals go_wp2_with fail
    all_goals go_meet
    all_goals have hlim : lim 3 (Rat.divInt (k - 999) (1 + l)) := lim_divInt (by omega) (by omega) (by omega)
    all_goals first
      | exact ⟨_, _, ⟨rfl, ((BN.set 0 _).set 1 _), ((hZ.setCell hg _).setCell hg _)⟩, hlim⟩
      | exact ⟨_, _, ⟨rfl, Blk.new _ _ _, below_up hZ (below1 _ _)⟩, hlim⟩
  case rest =>
    obtain ⟨g, q, ⟨rfl, Bg, hp⟩, hq⟩ := hcut
    have Z' := Z.below hp
    have c0 := Bg.cell 0 (v := .string (numT (some q))) rfl
    have c1 := Bg.cell 1 (v := .string (denT (some q))) rfl
    have z0 := Z'.cell 0 (v := .string ⟨#[]⟩) rfl
    have z1 := Z'.cell 1 (v := .string ⟨#[]⟩) rfl
    have f0 := Z'.frozen 0
    have f1 := Z'.frozen 1
    have hB2 := below_up hB hp
    go_wp2
    have ZF := (Z'.set 0 (.string (numT (some q)))).set 1 (.string (denT (some q)))
    have e0 := ZF.cell 0 (v := .string (numT (some q))) rfl
    have e1 := ZF.cell 1 (v := .string (denT (some q))) rfl
    refine bodyPost_ret (v := .agg #[.string (numT (some q)), .string (denT (some q))]) (by simp [results, Tryz.results28, go_sem, e0, e1]) rfl ⟨q, hq, rfl, ?_⟩
    exact (hB2.setCell (by simp) _).setCell (by simp) _

end Go.Proofs.YtnioinccflmdjaaGreatDoor
