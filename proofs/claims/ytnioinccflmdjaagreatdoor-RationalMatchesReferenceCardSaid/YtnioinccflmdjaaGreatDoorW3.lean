/- four of package workpiecelaw04. Conditions: the tables of strconv. -/
import Derived.Test.YtnioinccflmdjaaGreatDoorK14
import Derived.Deep.RegionHeld3
import Derived.RegionTactic
import Derived.BigRegion
import Derived.Outline
namespace Go.Proofs.YtnioinccflmdjaaGreatDoor
open Go.RowKit Num
open Go.Shelf

/-- Four fractions, and four errors. -/
def RetFour (w : World) (oA oS oM oD : Option Rat) (e : Ending) (w' : World) : Prop :=
  e = .returned (.tuple #[.agg #[.string (numT oA), .string (denT oA), .string (numT oS), .string (denT oS), .string (numT oM), .string (denT oM), .string (numT oD), .string (denT oD)], .agg #[.int .i64 (errT oA), .int .i64 (errT oS), .int .i64 (errT oM), .int .i64 (errT oD)]]) ∧ Below w.heap.size w w'
structure Fo (w W : World) (x y u v : ByteArray) (rs es : List Value) : Prop where
  a : Blk W w.heap.size 23 [.string x, .string y]
  b' : Blk W (w.heap.size + 1) 23 [.string u, .string v]
  R : Blk W (w.heap.size + 1 + 1) 49 [.string ⟨#[]⟩, .string ⟨#[]⟩, .string ⟨#[]⟩, .string ⟨#[]⟩, .string ⟨#[]⟩, .string ⟨#[]⟩, .string ⟨#[]⟩, .string ⟨#[]⟩]
  E : Blk W (w.heap.size + 1 + 1 + 1) 50 [.int .i64 0, .int .i64 0, .int .i64 0, .int .i64 0]
  r : Blk W (w.heap.size + 1 + 1 + 1 + 1) 49 rs
  e : Blk W (w.heap.size + 1 + 1 + 1 + 1 + 1) 50 es
  low : Below w.heap.size w W
def fo0 (w : World) (x y u v : ByteArray) : World :=
  (((((w.alloc (.cells #[.string x, .string y] 23)).alloc (.cells #[.string u, .string v] 23)).alloc (.cells #[.string ⟨#[]⟩, .string ⟨#[]⟩, .string ⟨#[]⟩, .string ⟨#[]⟩, .string ⟨#[]⟩, .string ⟨#[]⟩, .string ⟨#[]⟩, .string ⟨#[]⟩] 49)).alloc (.cells #[.int .i64 0, .int .i64 0, .int .i64 0, .int .i64 0] 50)).alloc (.cells #[.string ⟨#[]⟩, .string ⟨#[]⟩, .string ⟨#[]⟩, .string ⟨#[]⟩, .string ⟨#[]⟩, .string ⟨#[]⟩, .string ⟨#[]⟩, .string ⟨#[]⟩] 49)).alloc (.cells #[.int .i64 0, .int .i64 0, .int .i64 0, .int .i64 0] 50)
theorem fo_start (w : World) (x y u v : ByteArray) : Fo w (fo0 w x y u v) x y u v [.string ⟨#[]⟩, .string ⟨#[]⟩, .string ⟨#[]⟩, .string ⟨#[]⟩, .string ⟨#[]⟩, .string ⟨#[]⟩, .string ⟨#[]⟩, .string ⟨#[]⟩] [.int .i64 0, .int .i64 0, .int .i64 0, .int .i64 0] := by
  have e : ∀ (w : World) o, (w.alloc o).heap.size = w.heap.size + 1 := fun w o => by simp
  have n1 := Blk.new w 23 [.string x, .string y]
  have n2 := Blk.new (w.alloc (.cells #[.string x, .string y] 23)) 23 [.string u, .string v]
  have n3 := Blk.new ((w.alloc (.cells #[.string x, .string y] 23)).alloc (.cells #[.string u, .string v] 23)) 49 [.string ⟨#[]⟩, .string ⟨#[]⟩, .string ⟨#[]⟩, .string ⟨#[]⟩, .string ⟨#[]⟩, .string ⟨#[]⟩, .string ⟨#[]⟩, .string ⟨#[]⟩]
  have n4 := Blk.new (((w.alloc (.cells #[.string x, .string y] 23)).alloc (.cells #[.string u, .string v] 23)).alloc (.cells #[.string ⟨#[]⟩, .string ⟨#[]⟩, .string ⟨#[]⟩, .string ⟨#[]⟩, .string ⟨#[]⟩, .string ⟨#[]⟩, .string ⟨#[]⟩, .string ⟨#[]⟩] 49)) 50 [.int .i64 0, .int .i64 0, .int .i64 0, .int .i64 0]
  have n5 := Blk.new ((((w.alloc (.cells #[.string x, .string y] 23)).alloc (.cells #[.string u, .string v] 23)).alloc (.cells #[.string ⟨#[]⟩, .string ⟨#[]⟩, .string ⟨#[]⟩, .string ⟨#[]⟩, .string ⟨#[]⟩, .string ⟨#[]⟩, .string ⟨#[]⟩, .string ⟨#[]⟩] 49)).alloc (.cells #[.int .i64 0, .int .i64 0, .int .i64 0, .int .i64 0] 50)) 49 [.string ⟨#[]⟩, .string ⟨#[]⟩, .string ⟨#[]⟩, .string ⟨#[]⟩, .string ⟨#[]⟩, .string ⟨#[]⟩, .string ⟨#[]⟩, .string ⟨#[]⟩]
  have n6 := Blk.new (((((w.alloc (.cells #[.string x, .string y] 23)).alloc (.cells #[.string u, .string v] 23)).alloc (.cells #[.string ⟨#[]⟩, .string ⟨#[]⟩, .string ⟨#[]⟩, .string ⟨#[]⟩, .string ⟨#[]⟩, .string ⟨#[]⟩, .string ⟨#[]⟩, .string ⟨#[]⟩] 49)).alloc (.cells #[.int .i64 0, .int .i64 0, .int .i64 0, .int .i64 0] 50)).alloc (.cells #[.string ⟨#[]⟩, .string ⟨#[]⟩, .string ⟨#[]⟩, .string ⟨#[]⟩, .string ⟨#[]⟩, .string ⟨#[]⟩, .string ⟨#[]⟩, .string ⟨#[]⟩] 49)) 50 [.int .i64 0, .int .i64 0, .int .i64 0, .int .i64 0]
  simp only [e] at n1 n2 n3 n4 n5 n6
  exact ⟨((((n1.alloc _).alloc _).alloc _).alloc _).alloc _, (((n2.alloc _).alloc _).alloc _).alloc _, ((n3.alloc _).alloc _).alloc _, (n4.alloc _).alloc _, n5.alloc _, n6,
    below_up (below_up (below_up (below_up (below_up (below1 _ _) (below1 _ _)) (below1 _ _)) (below1 _ _)) (below1 _ _)) (below1 _ _)⟩
theorem Fo.below {w W W' : World} {x y u v : ByteArray} {rs es : List Value} (h : Fo w W x y u v rs es) (hb : Below W.heap.size W W') : Fo w W' x y u v rs es :=
  ⟨h.a.below hb, h.b'.below hb, h.R.below hb, h.E.below hb, h.r.below hb, h.e.below hb, below_up h.low hb⟩
theorem Fo.store {w W : World} {x y u v : ByteArray} {rs es : List Value} (h : Fo w W x y u v rs es) (i : Nat) (j : Nat) (k : Nat) (p q t : Value) :
    Fo w (((W.setCell ⟨w.heap.size + 1 + 1 + 1 + 1, i, none⟩ p).setCell ⟨w.heap.size + 1 + 1 + 1 + 1, j, none⟩ q).setCell ⟨w.heap.size + 1 + 1 + 1 + 1 + 1, k, none⟩ t) x y u v ((rs.set i p).set j q) (es.set k t) :=
  ⟨((h.a.other (by omega) _ _).other (by omega) _ _).other (by omega) _ _, ((h.b'.other (by omega) _ _).other (by omega) _ _).other (by omega) _ _, ((h.R.other (by omega) _ _).other (by omega) _ _).other (by omega) _ _,
    ((h.E.other (by omega) _ _).other (by omega) _ _).other (by omega) _ _, ((h.r.set _ _).set _ _).other (by omega) _ _, (((h.e.other (by omega) _ _).other (by omega) _ _).set _ _),
    ((h.low.setCell (by dsimp; omega) _).setCell (by dsimp; omega) _).setCell (by dsimp; omega) _⟩

set_option maxHeartbeats 4000000 in
set_option maxRecDepth 100000 in
theorem four_any {x y u v : ByteArray} {a b oA oS oM oD : Option Rat} (h1 : ratO x y = a) (h2 : ratO u v = b) (hA : op2Q addQ a b = oA) (hS : op2Q subQ a b = oS) (hM : op2Q mulQ a b = oM) (hD : op2Q divQ a b = oD) (w : World) (hL : Laid w) :
    Calls Tryz.prog 29 #[.agg #[.string x, .string y], .agg #[.string u, .string v]] w (RetFour w oA oS oM oD) := by
  have CA := Lib.hid (fun w hL => add_r h1 h2 hA w hL)
  have CS := Lib.hid (fun w hL => sub_r h1 h2 hS w hL)
  have CM := Lib.hid (fun w hL => mul_r h1 h2 hM w hL)
  have CD := Lib.hid (fun w hL => div_r h1 h2 hD w hL)
  have HL := Lib.hid hL
  clear hL h1 h2 hA hS hM hD
  have L0 := Lib.hid (HL.out.below (fo_start w x y u v).low)
  go_enter Tryz.func29, Tryz.ntmps29
  go_wp2_with (first
    | (go_at_call 27; (refine (CA.out _ L0.out).mono ?_); rintro e w1 ⟨rfl, hb⟩; have F := (fo_start w x y u v).below hb; have a0 := F.a.cell 0 (v := .string x) rfl; have a1 := F.a.cell 1 (v := .string y) rfl; have b0 := F.b'.cell 0 (v := .string u) rfl; have b1 := F.b'.cell 1 (v := .string v) rfl; have c0 := F.r.cell 0 (v := .string ⟨#[]⟩) rfl; have c1 := F.r.cell 1 (v := .string ⟨#[]⟩) rfl; have f0 := F.r.frozen 0; have f1 := F.r.frozen 1; have c2 := F.e.cell 0 (v := .int .i64 0) rfl; have f2 := F.e.frozen 0; clear hb)
    | (go_at_call 44; (refine (CS.out _ (HL.out.below (F.store 0 1 0 (.string (numT oA)) (.string (denT oA)) (.int .i64 (errT oA))).low)).mono ?_); rintro e w2 ⟨rfl, hb⟩; replace F := (F.store 0 1 0 (.string (numT oA)) (.string (denT oA)) (.int .i64 (errT oA))).below hb; replace a0 := F.a.cell 0 (v := .string x) rfl; replace a1 := F.a.cell 1 (v := .string y) rfl; replace b0 := F.b'.cell 0 (v := .string u) rfl; replace b1 := F.b'.cell 1 (v := .string v) rfl; replace c0 := F.r.cell 2 (v := .string ⟨#[]⟩) rfl; replace c1 := F.r.cell 3 (v := .string ⟨#[]⟩) rfl; replace f0 := F.r.frozen 2; replace f1 := F.r.frozen 3; replace c2 := F.e.cell 1 (v := .int .i64 0) rfl; replace f2 := F.e.frozen 1; clear hb)
    | (go_at_call 25; (refine (CM.out _ (HL.out.below (F.store 2 3 1 (.string (numT oS)) (.string (denT oS)) (.int .i64 (errT oS))).low)).mono ?_); rintro e w3 ⟨rfl, hb⟩; replace F := (F.store 2 3 1 (.string (numT oS)) (.string (denT oS)) (.int .i64 (errT oS))).below hb; replace a0 := F.a.cell 0 (v := .string x) rfl; replace a1 := F.a.cell 1 (v := .string y) rfl; replace b0 := F.b'.cell 0 (v := .string u) rfl; replace b1 := F.b'.cell 1 (v := .string v) rfl; replace c0 := F.r.cell 4 (v := .string ⟨#[]⟩) rfl; replace c1 := F.r.cell 5 (v := .string ⟨#[]⟩) rfl; replace f0 := F.r.frozen 4; replace f1 := F.r.frozen 5; replace c2 := F.e.cell 2 (v := .int .i64 0) rfl; replace f2 := F.e.frozen 2; clear hb)
    | (go_at_call 26; (refine (CD.out _ (HL.out.below (F.store 4 5 2 (.string (numT oM)) (.string (denT oM)) (.int .i64 (errT oM))).low)).mono ?_); rintro e w4 ⟨rfl, hb⟩; replace F := (F.store 4 5 2 (.string (numT oM)) (.string (denT oM)) (.int .i64 (errT oM))).below hb; replace a0 := F.a.cell 0 (v := .string x) rfl; replace a1 := F.a.cell 1 (v := .string y) rfl; replace b0 := F.b'.cell 0 (v := .string u) rfl; replace b1 := F.b'.cell 1 (v := .string v) rfl; replace c0 := F.r.cell 6 (v := .string ⟨#[]⟩) rfl; replace c1 := F.r.cell 7 (v := .string ⟨#[]⟩) rfl; replace f0 := F.r.frozen 6; replace f1 := F.r.frozen 7; replace c2 := F.e.cell 3 (v := .int .i64 0) rfl; replace f2 := F.e.frozen 3; clear hb))
  have F4 := F.store 6 7 3 (.string (numT oD)) (.string (denT oD)) (.int .i64 (errT oD))
  clear a0 a1 b0 b1 c0 c1 c2 f0 f1 f2 F
  generalize (((w4.setCell ⟨w.heap.size + 1 + 1 + 1 + 1, 6, none⟩ (.string (numT oD))).setCell ⟨w.heap.size + 1 + 1 + 1 + 1, 7, none⟩ (.string (denT oD))).setCell ⟨w.heap.size + 1 + 1 + 1 + 1 + 1, 3, none⟩ (.int .i64 (errT oD))) = W5 at *
  have r0 := F4.r.cell 0 (v := .string (numT oA)) rfl
  have r1 := F4.r.cell 1 (v := .string (denT oA)) rfl
  have r2 := F4.r.cell 2 (v := .string (numT oS)) rfl
  have r3 := F4.r.cell 3 (v := .string (denT oS)) rfl
  have r4 := F4.r.cell 4 (v := .string (numT oM)) rfl
  have r5 := F4.r.cell 5 (v := .string (denT oM)) rfl
  have r6 := F4.r.cell 6 (v := .string (numT oD)) rfl
  have r7 := F4.r.cell 7 (v := .string (denT oD)) rfl
  have e0 := F4.e.cell 0 (v := .int .i64 (errT oA)) rfl
  have e1 := F4.e.cell 1 (v := .int .i64 (errT oS)) rfl
  have e2 := F4.e.cell 2 (v := .int .i64 (errT oM)) rfl
  have e3 := F4.e.cell 3 (v := .int .i64 (errT oD)) rfl
  have R0 := F4.R.cell 0 (v := .string ⟨#[]⟩) rfl
  have g0 := F4.R.frozen 0
  have R1 := F4.R.cell 1 (v := .string ⟨#[]⟩) rfl
  have g1 := F4.R.frozen 1
  have R2 := F4.R.cell 2 (v := .string ⟨#[]⟩) rfl
  have g2 := F4.R.frozen 2
  have R3 := F4.R.cell 3 (v := .string ⟨#[]⟩) rfl
  have g3 := F4.R.frozen 3
  have R4 := F4.R.cell 4 (v := .string ⟨#[]⟩) rfl
  have g4 := F4.R.frozen 4
  have R5 := F4.R.cell 5 (v := .string ⟨#[]⟩) rfl
  have g5 := F4.R.frozen 5
  have R6 := F4.R.cell 6 (v := .string ⟨#[]⟩) rfl
  have g6 := F4.R.frozen 6
  have R7 := F4.R.cell 7 (v := .string ⟨#[]⟩) rfl
  have g7 := F4.R.frozen 7
  have E0 := F4.E.cell 0 (v := .int .i64 0) rfl
  have h0 := F4.E.frozen 0
  have E1 := F4.E.cell 1 (v := .int .i64 0) rfl
  have h1 := F4.E.frozen 1
  have E2 := F4.E.cell 2 (v := .int .i64 0) rfl
  have h2 := F4.E.frozen 2
  have E3 := F4.E.cell 3 (v := .int .i64 0) rfl
  have h3 := F4.E.frozen 3
  have hmixed : Tryz.prog.follows .mixedOrders = true := by kernel_rfl
  go_region
  have GR := ((((((((((((F4.R.set 0 (.string (numT oA))).set 1 (.string (denT oA))).set 2 (.string (numT oS))).set 3 (.string (denT oS))).set 4 (.string (numT oM))).set 5 (.string (denT oM))).set 6 (.string (numT oD))).set 7 (.string (denT oD))).other (B := w.heap.size + 1 + 1 + 1) (by omega) 0 (.int .i64 (errT oA))).other (B := w.heap.size + 1 + 1 + 1) (by omega) 1 (.int .i64 (errT oS))).other (B := w.heap.size + 1 + 1 + 1) (by omega) 2 (.int .i64 (errT oM))).other (B := w.heap.size + 1 + 1 + 1) (by omega) 3 (.int .i64 (errT oD))).below (Below.refl _ _).drew
  have GE := ((((((((((((F4.E.other (B := w.heap.size + 1 + 1) (by omega) 0 (.string (numT oA))).other (B := w.heap.size + 1 + 1) (by omega) 1 (.string (denT oA))).other (B := w.heap.size + 1 + 1) (by omega) 2 (.string (numT oS))).other (B := w.heap.size + 1 + 1) (by omega) 3 (.string (denT oS))).other (B := w.heap.size + 1 + 1) (by omega) 4 (.string (numT oM))).other (B := w.heap.size + 1 + 1) (by omega) 5 (.string (denT oM))).other (B := w.heap.size + 1 + 1) (by omega) 6 (.string (numT oD))).other (B := w.heap.size + 1 + 1) (by omega) 7 (.string (denT oD))).set 0 (.int .i64 (errT oA))).set 1 (.int .i64 (errT oS))).set 2 (.int .i64 (errT oM))).set 3 (.int .i64 (errT oD))).below (Below.refl _ _).drew
  have hlow := ((((((((((((F4.low.setCell (p := ⟨w.heap.size + 1 + 1, 0, none⟩) (by dsimp; omega) (.string (numT oA))).setCell (p := ⟨w.heap.size + 1 + 1, 1, none⟩) (by dsimp; omega) (.string (denT oA))).setCell (p := ⟨w.heap.size + 1 + 1, 2, none⟩) (by dsimp; omega) (.string (numT oS))).setCell (p := ⟨w.heap.size + 1 + 1, 3, none⟩) (by dsimp; omega) (.string (denT oS))).setCell (p := ⟨w.heap.size + 1 + 1, 4, none⟩) (by dsimp; omega) (.string (numT oM))).setCell (p := ⟨w.heap.size + 1 + 1, 5, none⟩) (by dsimp; omega) (.string (denT oM))).setCell (p := ⟨w.heap.size + 1 + 1, 6, none⟩) (by dsimp; omega) (.string (numT oD))).setCell (p := ⟨w.heap.size + 1 + 1, 7, none⟩) (by dsimp; omega) (.string (denT oD))).setCell (p := ⟨w.heap.size + 1 + 1 + 1, 0, none⟩) (by dsimp; omega) (.int .i64 (errT oA))).setCell (p := ⟨w.heap.size + 1 + 1 + 1, 1, none⟩) (by dsimp; omega) (.int .i64 (errT oS))).setCell (p := ⟨w.heap.size + 1 + 1 + 1, 2, none⟩) (by dsimp; omega) (.int .i64 (errT oM))).setCell (p := ⟨w.heap.size + 1 + 1 + 1, 3, none⟩) (by dsimp; omega) (.int .i64 (errT oD))).drew
  have R0 := GR.cell 0 (v := .string (numT oA)) rfl
  have R1 := GR.cell 1 (v := .string (denT oA)) rfl
  have R2 := GR.cell 2 (v := .string (numT oS)) rfl
  have R3 := GR.cell 3 (v := .string (denT oS)) rfl
  have R4 := GR.cell 4 (v := .string (numT oM)) rfl
  have R5 := GR.cell 5 (v := .string (denT oM)) rfl
  have R6 := GR.cell 6 (v := .string (numT oD)) rfl
  have R7 := GR.cell 7 (v := .string (denT oD)) rfl
  have E0 := GE.cell 0 (v := .int .i64 (errT oA)) rfl
  have E1 := GE.cell 1 (v := .int .i64 (errT oS)) rfl
  have E2 := GE.cell 2 (v := .int .i64 (errT oM)) rfl
  have E3 := GE.cell 3 (v := .int .i64 (errT oD)) rfl
  go_wp2
  refine bodyPost_ret (v := .tuple #[.agg #[.string (numT oA), .string (denT oA), .string (numT oS), .string (denT oS), .string (numT oM), .string (denT oM), .string (numT oD), .string (denT oD)], .agg #[.int .i64 (errT oA), .int .i64 (errT oS), .int .i64 (errT oM), .int .i64 (errT oD)]]) (by simp [results, Tryz.results29, go_sem, R0, R1, R2, R3, R4, R5, R6, R7, E0, E1, E2, E3]) rfl ⟨rfl, ?_⟩
  exact hlow

end Go.Proofs.YtnioinccflmdjaaGreatDoor
