/- workpieceref04: Mul, Div. Conditions: sizes. -/
import Derived.Test.YtnioinccflmdjaaGreatDoorK14
namespace Go.Proofs.YtnioinccflmdjaaGreatDoor
open Go.RowKit Num
open Go.Shelf

theorem ok_none {x y : ByteArray} (h : ratO x y = none) : okR x y = false := ratO_none.1 h
theorem ok_some {x y : ByteArray} {q : Rat} (h : ratO x y = some q) : okR x y = true := (ratO_some.1 h).ok
theorem tmake_is {s t : ByteArray} {n d : Int} {o : Option Rat} (hs : Is s n) (ht : Is t d) (h : makeQ n d = o) (w : World) :
    Calls Tryz.prog 39 #[.string s, .string t] w (RetQ w o) := by
  have k := tmake_any s t (by have := hs.size; omega) (by have := ht.size; omega) w
  rwa [makeT_is hs ht, h] at k

set_option maxHeartbeats 4000000 in
set_option maxRecDepth 100000 in
theorem tmul_any (x y u v : ByteArray) (hx : x.size ≤ 9223372036854775807) (hy : y.size ≤ 9223372036854775807) (hu : u.size ≤ 9223372036854775807) (hv : v.size ≤ 9223372036854775807) (w : World) :
    Calls Tryz.prog 32 #[.agg #[.string x, .string y], .agg #[.string u, .string v]] w (RetQ w (op2Q mulQ (ratO x y) (ratO u v))) := by
  have VA := Lib.hid (fun w => tvalid_any x y hx hy w)
  have VB := Lib.hid (fun w => tvalid_any u v hu hv w)
  have hB : Below w.heap.size w w := Below.refl _ _
  have hL : True := trivial
  clear hx hy hu hv
  cases h1 : ratO x y with
  | none =>
    rw [ok_none h1] at VA
    rw [show op2Q mulQ none (ratO u v) = none from rfl]
    generalize okR u v = bb at *
    clear h1
    go_enter Tryz.func32, Tryz.ntmps32
    go_wp2_with (first
        | (go_at_call 40; (with_reducible refine (VA.out _).mono ?_); rintro e w1 ⟨rfl, hb⟩; have hp := below_up (below_up (below_up (below1 w (.cells #[.string x, .string y] 23)) (below1 ((w.alloc (.cells #[.string x, .string y] 23))) (.cells #[.string u, .string v] 23))) (below1 (((w.alloc (.cells #[.string x, .string y] 23)).alloc (.cells #[.string u, .string v] 23))) (.cells #[.string ⟨#[]⟩, .string ⟨#[]⟩] 23))) hb; have Ba := (((Blk.new w 23 [.string x, .string y]).alloc _).alloc _).below hb; have Bb := ((Blk.new2 w (.cells #[.string x, .string y] 23) 23 [.string u, .string v]).alloc _).below hb; have Bz := (Blk.new3 w (.cells #[.string x, .string y] 23) (.cells #[.string u, .string v] 23) 23 [.string ⟨#[]⟩, .string ⟨#[]⟩]).below hb; replace hB := below_up hB hp; clear hb hp; have cb_0 := Bb.cell 0 (v := .string u) rfl; have cb_1 := Bb.cell 1 (v := .string v) rfl)
        | (go_at_call 40; (with_reducible refine (VB.out _).mono ?_); rintro e w2 ⟨rfl, hb⟩; have hp := hb; replace Ba := Ba.below hp; replace Bb := Bb.below hp; replace Bz := Bz.below hp; clear cb_0 cb_1; replace hB := below_up hB hp; clear hb hp; have cz_0 := Bz.cell 0 (v := .string ⟨#[]⟩) rfl; have cz_1 := Bz.cell 1 (v := .string ⟨#[]⟩) rfl; have f0 := Bz.frozen 0; have f1 := Bz.frozen 1))
    have ZF := (Bz.set 0 (.string ⟨#[]⟩)).set 1 (.string ⟨#[]⟩)
    have e0 := ZF.cell 0 (v := .string ⟨#[]⟩) rfl
    have e1 := ZF.cell 1 (v := .string ⟨#[]⟩) rfl
    refine bodyPost_ret (v := .tuple #[.agg #[.string ⟨#[]⟩, .string ⟨#[]⟩], .int .i64 40]) (by simp [results, Tryz.results32, go_sem, e0, e1]) rfl ⟨rfl, (hB.setCell (by dsimp; omega) _).setCell (by dsimp; omega) _⟩
  | some p =>
    rw [ok_some h1] at VA
    cases h2 : ratO u v with
    | none =>
      rw [ok_none h2] at VB
      rw [show op2Q mulQ (some p) none = none from rfl]
      clear h1 h2
      go_enter Tryz.func32, Tryz.ntmps32
      go_wp2_with (first
          | (go_at_call 40; (with_reducible refine (VA.out _).mono ?_); rintro e w1 ⟨rfl, hb⟩; have hp := below_up (below_up (below_up (below1 w (.cells #[.string x, .string y] 23)) (below1 ((w.alloc (.cells #[.string x, .string y] 23))) (.cells #[.string u, .string v] 23))) (below1 (((w.alloc (.cells #[.string x, .string y] 23)).alloc (.cells #[.string u, .string v] 23))) (.cells #[.string ⟨#[]⟩, .string ⟨#[]⟩] 23))) hb; have Ba := (((Blk.new w 23 [.string x, .string y]).alloc _).alloc _).below hb; have Bb := ((Blk.new2 w (.cells #[.string x, .string y] 23) 23 [.string u, .string v]).alloc _).below hb; have Bz := (Blk.new3 w (.cells #[.string x, .string y] 23) (.cells #[.string u, .string v] 23) 23 [.string ⟨#[]⟩, .string ⟨#[]⟩]).below hb; replace hB := below_up hB hp; clear hb hp; have cb_0 := Bb.cell 0 (v := .string u) rfl; have cb_1 := Bb.cell 1 (v := .string v) rfl)
          | (go_at_call 40; (with_reducible refine (VB.out _).mono ?_); rintro e w2 ⟨rfl, hb⟩; have hp := hb; replace Ba := Ba.below hp; replace Bb := Bb.below hp; replace Bz := Bz.below hp; clear cb_0 cb_1; replace hB := below_up hB hp; clear hb hp; have cz_0 := Bz.cell 0 (v := .string ⟨#[]⟩) rfl; have cz_1 := Bz.cell 1 (v := .string ⟨#[]⟩) rfl; have f0 := Bz.frozen 0; have f1 := Bz.frozen 1))
      have ZF := (Bz.set 0 (.string ⟨#[]⟩)).set 1 (.string ⟨#[]⟩)
      have e0 := ZF.cell 0 (v := .string ⟨#[]⟩) rfl
      have e1 := ZF.cell 1 (v := .string ⟨#[]⟩) rfl
      refine bodyPost_ret (v := .tuple #[.agg #[.string ⟨#[]⟩, .string ⟨#[]⟩], .int .i64 40]) (by simp [results, Tryz.results32, go_sem, e0, e1]) rfl ⟨rfl, (hB.setCell (by dsimp; omega) _).setCell (by dsimp; omega) _⟩
    | some q =>
      rw [ok_some h2] at VB
      have M1o := fun (h : ¬ sm (p.num * q.num)) w => rmul_over (ratO_some.1 h1).1 (ratO_some.1 h2).1 h w
      have M2o := fun (h : ¬ sm ((p.den : Int) * q.den)) w => rmul_over (ratO_some.1 h1).2 (ratO_some.1 h2).2 h w
      by_cases e1 : sm (p.num * q.num)
      · obtain ⟨N, hN⟩ := Is.ex e1
        have M1 := Lib.hid (fun w => rmul_is (ratO_some.1 h1).1 (ratO_some.1 h2).1 hN rfl w)
        by_cases e2 : sm ((p.den : Int) * q.den)
        · obtain ⟨D, hD⟩ := Is.ex e2
          have M2 := Lib.hid (fun w => rmul_is (ratO_some.1 h1).2 (ratO_some.1 h2).2 hD rfl w)
          have MK := Lib.hid (fun w => tmake_is (o := op2Q mulQ (some p) (some q)) hN hD (by rw [show op2Q mulQ (some p) (some q) = some (p * q) from if_pos ⟨e1, e2⟩, mul_divInt]; exact if_neg (Int.mul_ne_zero (den_ne p) (den_ne q))) w)
          generalize op2Q mulQ (some p) (some q) = o at *
          clear h1 h2 M1o M2o e1 e2 hN hD
          go_enter Tryz.func32, Tryz.ntmps32
          go_wp2_with (first
              | (go_at_call 40; (with_reducible refine (VA.out _).mono ?_); rintro e w1 ⟨rfl, hb⟩; have hp := below_up (below_up (below_up (below1 w (.cells #[.string x, .string y] 23)) (below1 ((w.alloc (.cells #[.string x, .string y] 23))) (.cells #[.string u, .string v] 23))) (below1 (((w.alloc (.cells #[.string x, .string y] 23)).alloc (.cells #[.string u, .string v] 23))) (.cells #[.string ⟨#[]⟩, .string ⟨#[]⟩] 23))) hb; have Ba := (((Blk.new w 23 [.string x, .string y]).alloc _).alloc _).below hb; have Bb := ((Blk.new2 w (.cells #[.string x, .string y] 23) 23 [.string u, .string v]).alloc _).below hb; have Bz := (Blk.new3 w (.cells #[.string x, .string y] 23) (.cells #[.string u, .string v] 23) 23 [.string ⟨#[]⟩, .string ⟨#[]⟩]).below hb; replace hB := below_up hB hp; clear hb hp; have cb_0 := Bb.cell 0 (v := .string u) rfl; have cb_1 := Bb.cell 1 (v := .string v) rfl)
              | (go_at_call 40; (with_reducible refine (VB.out _).mono ?_); rintro e w2 ⟨rfl, hb⟩; have hp := hb; replace Ba := Ba.below hp; replace Bb := Bb.below hp; replace Bz := Bz.below hp; clear cb_0 cb_1; replace hB := below_up hB hp; clear hb hp; have ca_0 := Ba.cell 0 (v := .string x) rfl; have ca_1 := Ba.cell 1 (v := .string y) rfl; have cb_0 := Bb.cell 0 (v := .string u) rfl; have cb_1 := Bb.cell 1 (v := .string v) rfl)
              | (go_at_call 21; (with_reducible refine (M1.out _).mono ?_); rintro e w3 ⟨rfl, hb⟩; have hp := hb; replace Ba := Ba.below hp; replace Bb := Bb.below hp; replace Bz := Bz.below hp; clear ca_0 ca_1 cb_0 cb_1; replace hB := below_up hB hp; clear hb hp; have ca_0 := Ba.cell 0 (v := .string x) rfl; have ca_1 := Ba.cell 1 (v := .string y) rfl; have cb_0 := Bb.cell 0 (v := .string u) rfl; have cb_1 := Bb.cell 1 (v := .string v) rfl)
              | (go_at_call 21; (with_reducible refine (M2.out _).mono ?_); rintro e w4 ⟨rfl, hb⟩; have hp := hb; replace Ba := Ba.below hp; replace Bb := Bb.below hp; replace Bz := Bz.below hp; clear ca_0 ca_1 cb_0 cb_1; replace hB := below_up hB hp; clear hb hp)
              | (go_at_call 39; (with_reducible refine (MK.out _).mono ?_); rintro e w5 ⟨rfl, hb⟩; have hp := hb; replace Ba := Ba.below hp; replace Bb := Bb.below hp; replace Bz := Bz.below hp; replace hB := below_up hB hp; clear hb hp; have cz_0 := Bz.cell 0 (v := .string ⟨#[]⟩) rfl; have cz_1 := Bz.cell 1 (v := .string ⟨#[]⟩) rfl; have f0 := Bz.frozen 0; have f1 := Bz.frozen 1))
          have ZF := (Bz.set 0 (.string (numT o))).set 1 (.string (denT o))
          have e0 := ZF.cell 0 (v := .string (numT o)) rfl
          have e1 := ZF.cell 1 (v := .string (denT o)) rfl
          refine bodyPost_ret (v := .tuple #[.agg #[.string (numT o), .string (denT o)], .int .i64 (errT o)]) (by simp [results, Tryz.results32, go_sem, e0, e1]) rfl ⟨rfl, (hB.setCell (by dsimp; omega) _).setCell (by dsimp; omega) _⟩
        · have M2 := Lib.hid (M2o e2)
          rw [show op2Q mulQ (some p) (some q) = none from if_neg (fun h => e2 h.2)]
          clear h1 h2 M1o M2o e1 e2 hN
          go_enter Tryz.func32, Tryz.ntmps32
          go_wp2_with (first
              | (go_at_call 40; (with_reducible refine (VA.out _).mono ?_); rintro e w1 ⟨rfl, hb⟩; have hp := below_up (below_up (below_up (below1 w (.cells #[.string x, .string y] 23)) (below1 ((w.alloc (.cells #[.string x, .string y] 23))) (.cells #[.string u, .string v] 23))) (below1 (((w.alloc (.cells #[.string x, .string y] 23)).alloc (.cells #[.string u, .string v] 23))) (.cells #[.string ⟨#[]⟩, .string ⟨#[]⟩] 23))) hb; have Ba := (((Blk.new w 23 [.string x, .string y]).alloc _).alloc _).below hb; have Bb := ((Blk.new2 w (.cells #[.string x, .string y] 23) 23 [.string u, .string v]).alloc _).below hb; have Bz := (Blk.new3 w (.cells #[.string x, .string y] 23) (.cells #[.string u, .string v] 23) 23 [.string ⟨#[]⟩, .string ⟨#[]⟩]).below hb; replace hB := below_up hB hp; clear hb hp; have cb_0 := Bb.cell 0 (v := .string u) rfl; have cb_1 := Bb.cell 1 (v := .string v) rfl)
              | (go_at_call 40; (with_reducible refine (VB.out _).mono ?_); rintro e w2 ⟨rfl, hb⟩; have hp := hb; replace Ba := Ba.below hp; replace Bb := Bb.below hp; replace Bz := Bz.below hp; clear cb_0 cb_1; replace hB := below_up hB hp; clear hb hp; have ca_0 := Ba.cell 0 (v := .string x) rfl; have ca_1 := Ba.cell 1 (v := .string y) rfl; have cb_0 := Bb.cell 0 (v := .string u) rfl; have cb_1 := Bb.cell 1 (v := .string v) rfl)
              | (go_at_call 21; (with_reducible refine (M1.out _).mono ?_); rintro e w3 ⟨rfl, hb⟩; have hp := hb; replace Ba := Ba.below hp; replace Bb := Bb.below hp; replace Bz := Bz.below hp; clear ca_0 ca_1 cb_0 cb_1; replace hB := below_up hB hp; clear hb hp; have ca_0 := Ba.cell 0 (v := .string x) rfl; have ca_1 := Ba.cell 1 (v := .string y) rfl; have cb_0 := Bb.cell 0 (v := .string u) rfl; have cb_1 := Bb.cell 1 (v := .string v) rfl)
              | (go_at_call 21; (with_reducible refine (M2.out _).mono ?_); rintro e w4 ⟨rfl, hb⟩; have hp := hb; replace Ba := Ba.below hp; replace Bb := Bb.below hp; replace Bz := Bz.below hp; clear ca_0 ca_1 cb_0 cb_1; replace hB := below_up hB hp; clear hb hp; have cz_0 := Bz.cell 0 (v := .string ⟨#[]⟩) rfl; have cz_1 := Bz.cell 1 (v := .string ⟨#[]⟩) rfl; have f0 := Bz.frozen 0; have f1 := Bz.frozen 1))
          have ZF := (Bz.set 0 (.string ⟨#[]⟩)).set 1 (.string ⟨#[]⟩)
          have e0 := ZF.cell 0 (v := .string ⟨#[]⟩) rfl
          have e1 := ZF.cell 1 (v := .string ⟨#[]⟩) rfl
          refine bodyPost_ret (v := .tuple #[.agg #[.string ⟨#[]⟩, .string ⟨#[]⟩], .int .i64 40]) (by simp [results, Tryz.results32, go_sem, e0, e1]) rfl ⟨rfl, (hB.setCell (by dsimp; omega) _).setCell (by dsimp; omega) _⟩
      · have M1 := Lib.hid (M1o e1)
        rw [show op2Q mulQ (some p) (some q) = none from if_neg (fun h => e1 h.1)]
        by_cases e2 : sm ((p.den : Int) * q.den)
        · obtain ⟨D, hD⟩ := Is.ex e2
          have M2 := Lib.hid (fun w => rmul_is (ratO_some.1 h1).2 (ratO_some.1 h2).2 hD rfl w)
          clear h1 h2 M1o M2o e1 e2 hD
          go_enter Tryz.func32, Tryz.ntmps32
          go_wp2_with (first
              | (go_at_call 40; (with_reducible refine (VA.out _).mono ?_); rintro e w1 ⟨rfl, hb⟩; have hp := below_up (below_up (below_up (below1 w (.cells #[.string x, .string y] 23)) (below1 ((w.alloc (.cells #[.string x, .string y] 23))) (.cells #[.string u, .string v] 23))) (below1 (((w.alloc (.cells #[.string x, .string y] 23)).alloc (.cells #[.string u, .string v] 23))) (.cells #[.string ⟨#[]⟩, .string ⟨#[]⟩] 23))) hb; have Ba := (((Blk.new w 23 [.string x, .string y]).alloc _).alloc _).below hb; have Bb := ((Blk.new2 w (.cells #[.string x, .string y] 23) 23 [.string u, .string v]).alloc _).below hb; have Bz := (Blk.new3 w (.cells #[.string x, .string y] 23) (.cells #[.string u, .string v] 23) 23 [.string ⟨#[]⟩, .string ⟨#[]⟩]).below hb; replace hB := below_up hB hp; clear hb hp; have cb_0 := Bb.cell 0 (v := .string u) rfl; have cb_1 := Bb.cell 1 (v := .string v) rfl)
              | (go_at_call 40; (with_reducible refine (VB.out _).mono ?_); rintro e w2 ⟨rfl, hb⟩; have hp := hb; replace Ba := Ba.below hp; replace Bb := Bb.below hp; replace Bz := Bz.below hp; clear cb_0 cb_1; replace hB := below_up hB hp; clear hb hp; have ca_0 := Ba.cell 0 (v := .string x) rfl; have ca_1 := Ba.cell 1 (v := .string y) rfl; have cb_0 := Bb.cell 0 (v := .string u) rfl; have cb_1 := Bb.cell 1 (v := .string v) rfl)
              | (go_at_call 21; (with_reducible refine (M1.out _).mono ?_); rintro e w3 ⟨rfl, hb⟩; have hp := hb; replace Ba := Ba.below hp; replace Bb := Bb.below hp; replace Bz := Bz.below hp; clear ca_0 ca_1 cb_0 cb_1; replace hB := below_up hB hp; clear hb hp; have ca_0 := Ba.cell 0 (v := .string x) rfl; have ca_1 := Ba.cell 1 (v := .string y) rfl; have cb_0 := Bb.cell 0 (v := .string u) rfl; have cb_1 := Bb.cell 1 (v := .string v) rfl)
              | (go_at_call 21; (with_reducible refine (M2.out _).mono ?_); rintro e w4 ⟨rfl, hb⟩; have hp := hb; replace Ba := Ba.below hp; replace Bb := Bb.below hp; replace Bz := Bz.below hp; clear ca_0 ca_1 cb_0 cb_1; replace hB := below_up hB hp; clear hb hp; have cz_0 := Bz.cell 0 (v := .string ⟨#[]⟩) rfl; have cz_1 := Bz.cell 1 (v := .string ⟨#[]⟩) rfl; have f0 := Bz.frozen 0; have f1 := Bz.frozen 1))
          have ZF := (Bz.set 0 (.string ⟨#[]⟩)).set 1 (.string ⟨#[]⟩)
          have e0 := ZF.cell 0 (v := .string ⟨#[]⟩) rfl
          have e1 := ZF.cell 1 (v := .string ⟨#[]⟩) rfl
          refine bodyPost_ret (v := .tuple #[.agg #[.string ⟨#[]⟩, .string ⟨#[]⟩], .int .i64 40]) (by simp [results, Tryz.results32, go_sem, e0, e1]) rfl ⟨rfl, (hB.setCell (by dsimp; omega) _).setCell (by dsimp; omega) _⟩
        · have M2 := Lib.hid (M2o e2)
          clear h1 h2 M1o M2o e1 e2
          go_enter Tryz.func32, Tryz.ntmps32
          go_wp2_with (first
              | (go_at_call 40; (with_reducible refine (VA.out _).mono ?_); rintro e w1 ⟨rfl, hb⟩; have hp := below_up (below_up (below_up (below1 w (.cells #[.string x, .string y] 23)) (below1 ((w.alloc (.cells #[.string x, .string y] 23))) (.cells #[.string u, .string v] 23))) (below1 (((w.alloc (.cells #[.string x, .string y] 23)).alloc (.cells #[.string u, .string v] 23))) (.cells #[.string ⟨#[]⟩, .string ⟨#[]⟩] 23))) hb; have Ba := (((Blk.new w 23 [.string x, .string y]).alloc _).alloc _).below hb; have Bb := ((Blk.new2 w (.cells #[.string x, .string y] 23) 23 [.string u, .string v]).alloc _).below hb; have Bz := (Blk.new3 w (.cells #[.string x, .string y] 23) (.cells #[.string u, .string v] 23) 23 [.string ⟨#[]⟩, .string ⟨#[]⟩]).below hb; replace hB := below_up hB hp; clear hb hp; have cb_0 := Bb.cell 0 (v := .string u) rfl; have cb_1 := Bb.cell 1 (v := .string v) rfl)
              | (go_at_call 40; (with_reducible refine (VB.out _).mono ?_); rintro e w2 ⟨rfl, hb⟩; have hp := hb; replace Ba := Ba.below hp; replace Bb := Bb.below hp; replace Bz := Bz.below hp; clear cb_0 cb_1; replace hB := below_up hB hp; clear hb hp; have ca_0 := Ba.cell 0 (v := .string x) rfl; have ca_1 := Ba.cell 1 (v := .string y) rfl; have cb_0 := Bb.cell 0 (v := .string u) rfl; have cb_1 := Bb.cell 1 (v := .string v) rfl)
              | (go_at_call 21; (with_reducible refine (M1.out _).mono ?_); rintro e w3 ⟨rfl, hb⟩; have hp := hb; replace Ba := Ba.below hp; replace Bb := Bb.below hp; replace Bz := Bz.below hp; clear ca_0 ca_1 cb_0 cb_1; replace hB := below_up hB hp; clear hb hp; have ca_0 := Ba.cell 0 (v := .string x) rfl; have ca_1 := Ba.cell 1 (v := .string y) rfl; have cb_0 := Bb.cell 0 (v := .string u) rfl; have cb_1 := Bb.cell 1 (v := .string v) rfl)
              | (go_at_call 21; (with_reducible refine (M2.out _).mono ?_); rintro e w4 ⟨rfl, hb⟩; have hp := hb; replace Ba := Ba.below hp; replace Bb := Bb.below hp; replace Bz := Bz.below hp; clear ca_0 ca_1 cb_0 cb_1; replace hB := below_up hB hp; clear hb hp; have cz_0 := Bz.cell 0 (v := .string ⟨#[]⟩) rfl; have cz_1 := Bz.cell 1 (v := .string ⟨#[]⟩) rfl; have f0 := Bz.frozen 0; have f1 := Bz.frozen 1))
          have ZF := (Bz.set 0 (.string ⟨#[]⟩)).set 1 (.string ⟨#[]⟩)
          have e0 := ZF.cell 0 (v := .string ⟨#[]⟩) rfl
          have e1 := ZF.cell 1 (v := .string ⟨#[]⟩) rfl
          refine bodyPost_ret (v := .tuple #[.agg #[.string ⟨#[]⟩, .string ⟨#[]⟩], .int .i64 40]) (by simp [results, Tryz.results32, go_sem, e0, e1]) rfl ⟨rfl, (hB.setCell (by dsimp; omega) _).setCell (by dsimp; omega) _⟩

set_option maxHeartbeats 4000000 in
set_option maxRecDepth 100000 in
theorem tdiv_any (x y u v : ByteArray) (hx : x.size ≤ 9223372036854775807) (hy : y.size ≤ 9223372036854775807) (hu : u.size ≤ 9223372036854775807) (hv : v.size ≤ 9223372036854775807) (w : World) :
    Calls Tryz.prog 33 #[.agg #[.string x, .string y], .agg #[.string u, .string v]] w (RetQ w (op2Q divQ (ratO x y) (ratO u v))) := by
  have VA := Lib.hid (fun w => tvalid_any x y hx hy w)
  have VB := Lib.hid (fun w => tvalid_any u v hu hv w)
  have hB : Below w.heap.size w w := Below.refl _ _
  have hL : True := trivial
  clear hx hy hu hv
  cases h1 : ratO x y with
  | none =>
    rw [ok_none h1] at VA
    rw [show op2Q divQ none (ratO u v) = none from rfl]
    generalize okR u v = bb at *
    clear h1
    go_enter Tryz.func33, Tryz.ntmps33
    go_wp2_with (first
        | (go_at_call 40; (with_reducible refine (VA.out _).mono ?_); rintro e w1 ⟨rfl, hb⟩; have hp := below_up (below_up (below_up (below1 w (.cells #[.string x, .string y] 23)) (below1 ((w.alloc (.cells #[.string x, .string y] 23))) (.cells #[.string u, .string v] 23))) (below1 (((w.alloc (.cells #[.string x, .string y] 23)).alloc (.cells #[.string u, .string v] 23))) (.cells #[.string ⟨#[]⟩, .string ⟨#[]⟩] 23))) hb; have Ba := (((Blk.new w 23 [.string x, .string y]).alloc _).alloc _).below hb; have Bb := ((Blk.new2 w (.cells #[.string x, .string y] 23) 23 [.string u, .string v]).alloc _).below hb; have Bz := (Blk.new3 w (.cells #[.string x, .string y] 23) (.cells #[.string u, .string v] 23) 23 [.string ⟨#[]⟩, .string ⟨#[]⟩]).below hb; replace hB := below_up hB hp; clear hb hp; have cb_0 := Bb.cell 0 (v := .string u) rfl; have cb_1 := Bb.cell 1 (v := .string v) rfl)
        | (go_at_call 40; (with_reducible refine (VB.out _).mono ?_); rintro e w2 ⟨rfl, hb⟩; have hp := hb; replace Ba := Ba.below hp; replace Bb := Bb.below hp; replace Bz := Bz.below hp; clear cb_0 cb_1; replace hB := below_up hB hp; clear hb hp; have cz_0 := Bz.cell 0 (v := .string ⟨#[]⟩) rfl; have cz_1 := Bz.cell 1 (v := .string ⟨#[]⟩) rfl; have f0 := Bz.frozen 0; have f1 := Bz.frozen 1))
    have ZF := (Bz.set 0 (.string ⟨#[]⟩)).set 1 (.string ⟨#[]⟩)
    have e0 := ZF.cell 0 (v := .string ⟨#[]⟩) rfl
    have e1 := ZF.cell 1 (v := .string ⟨#[]⟩) rfl
    refine bodyPost_ret (v := .tuple #[.agg #[.string ⟨#[]⟩, .string ⟨#[]⟩], .int .i64 40]) (by simp [results, Tryz.results33, go_sem, e0, e1]) rfl ⟨rfl, (hB.setCell (by dsimp; omega) _).setCell (by dsimp; omega) _⟩
  | some p =>
    rw [ok_some h1] at VA
    cases h2 : ratO u v with
    | none =>
      rw [ok_none h2] at VB
      rw [show op2Q divQ (some p) none = none from rfl]
      clear h1 h2
      go_enter Tryz.func33, Tryz.ntmps33
      go_wp2_with (first
          | (go_at_call 40; (with_reducible refine (VA.out _).mono ?_); rintro e w1 ⟨rfl, hb⟩; have hp := below_up (below_up (below_up (below1 w (.cells #[.string x, .string y] 23)) (below1 ((w.alloc (.cells #[.string x, .string y] 23))) (.cells #[.string u, .string v] 23))) (below1 (((w.alloc (.cells #[.string x, .string y] 23)).alloc (.cells #[.string u, .string v] 23))) (.cells #[.string ⟨#[]⟩, .string ⟨#[]⟩] 23))) hb; have Ba := (((Blk.new w 23 [.string x, .string y]).alloc _).alloc _).below hb; have Bb := ((Blk.new2 w (.cells #[.string x, .string y] 23) 23 [.string u, .string v]).alloc _).below hb; have Bz := (Blk.new3 w (.cells #[.string x, .string y] 23) (.cells #[.string u, .string v] 23) 23 [.string ⟨#[]⟩, .string ⟨#[]⟩]).below hb; replace hB := below_up hB hp; clear hb hp; have cb_0 := Bb.cell 0 (v := .string u) rfl; have cb_1 := Bb.cell 1 (v := .string v) rfl)
          | (go_at_call 40; (with_reducible refine (VB.out _).mono ?_); rintro e w2 ⟨rfl, hb⟩; have hp := hb; replace Ba := Ba.below hp; replace Bb := Bb.below hp; replace Bz := Bz.below hp; clear cb_0 cb_1; replace hB := below_up hB hp; clear hb hp; have cz_0 := Bz.cell 0 (v := .string ⟨#[]⟩) rfl; have cz_1 := Bz.cell 1 (v := .string ⟨#[]⟩) rfl; have f0 := Bz.frozen 0; have f1 := Bz.frozen 1))
      have ZF := (Bz.set 0 (.string ⟨#[]⟩)).set 1 (.string ⟨#[]⟩)
      have e0 := ZF.cell 0 (v := .string ⟨#[]⟩) rfl
      have e1 := ZF.cell 1 (v := .string ⟨#[]⟩) rfl
      refine bodyPost_ret (v := .tuple #[.agg #[.string ⟨#[]⟩, .string ⟨#[]⟩], .int .i64 40]) (by simp [results, Tryz.results33, go_sem, e0, e1]) rfl ⟨rfl, (hB.setCell (by dsimp; omega) _).setCell (by dsimp; omega) _⟩
    | some q =>
      rw [ok_some h2] at VB
      have M1o := fun (h : ¬ sm (p.num * q.den)) w => rmul_over (ratO_some.1 h1).1 (ratO_some.1 h2).2 h w
      have M2o := fun (h : ¬ sm ((p.den : Int) * q.num)) w => rmul_over (ratO_some.1 h1).2 (ratO_some.1 h2).1 h w
      by_cases e1 : sm (p.num * q.den)
      · obtain ⟨N, hN⟩ := Is.ex e1
        have M1 := Lib.hid (fun w => rmul_is (ratO_some.1 h1).1 (ratO_some.1 h2).2 hN rfl w)
        by_cases e2 : sm ((p.den : Int) * q.num)
        · obtain ⟨D, hD⟩ := Is.ex e2
          have M2 := Lib.hid (fun w => rmul_is (ratO_some.1 h1).2 (ratO_some.1 h2).1 hD rfl w)
          have MK := Lib.hid (fun w => tmake_is (o := op2Q divQ (some p) (some q)) hN hD (by
            by_cases hq : q = 0
            · subst hq
              rw [show op2Q divQ (some p) (some 0) = none from if_neg (fun h => h.2.2 rfl)]
              exact if_pos (by rw [show (0 : Rat).num = 0 from rfl, Int.mul_zero])
            · rw [show op2Q divQ (some p) (some q) = some (p / q) from if_pos ⟨e1, e2, hq⟩, quo_divInt]
              exact if_neg (Int.mul_ne_zero (den_ne p) (fun k => hq (Rat.num_eq_zero.1 k)))) w)
          generalize op2Q divQ (some p) (some q) = o at *
          clear h1 h2 M1o M2o e1 e2 hN hD
          go_enter Tryz.func33, Tryz.ntmps33
          go_wp2_with (first
              | (go_at_call 40; (with_reducible refine (VA.out _).mono ?_); rintro e w1 ⟨rfl, hb⟩; have hp := below_up (below_up (below_up (below1 w (.cells #[.string x, .string y] 23)) (below1 ((w.alloc (.cells #[.string x, .string y] 23))) (.cells #[.string u, .string v] 23))) (below1 (((w.alloc (.cells #[.string x, .string y] 23)).alloc (.cells #[.string u, .string v] 23))) (.cells #[.string ⟨#[]⟩, .string ⟨#[]⟩] 23))) hb; have Ba := (((Blk.new w 23 [.string x, .string y]).alloc _).alloc _).below hb; have Bb := ((Blk.new2 w (.cells #[.string x, .string y] 23) 23 [.string u, .string v]).alloc _).below hb; have Bz := (Blk.new3 w (.cells #[.string x, .string y] 23) (.cells #[.string u, .string v] 23) 23 [.string ⟨#[]⟩, .string ⟨#[]⟩]).below hb; replace hB := below_up hB hp; clear hb hp; have cb_0 := Bb.cell 0 (v := .string u) rfl; have cb_1 := Bb.cell 1 (v := .string v) rfl)
              | (go_at_call 40; (with_reducible refine (VB.out _).mono ?_); rintro e w2 ⟨rfl, hb⟩; have hp := hb; replace Ba := Ba.below hp; replace Bb := Bb.below hp; replace Bz := Bz.below hp; clear cb_0 cb_1; replace hB := below_up hB hp; clear hb hp; have ca_0 := Ba.cell 0 (v := .string x) rfl; have ca_1 := Ba.cell 1 (v := .string y) rfl; have cb_0 := Bb.cell 0 (v := .string u) rfl; have cb_1 := Bb.cell 1 (v := .string v) rfl)
              | (go_at_call 21; (with_reducible refine (M1.out _).mono ?_); rintro e w3 ⟨rfl, hb⟩; have hp := hb; replace Ba := Ba.below hp; replace Bb := Bb.below hp; replace Bz := Bz.below hp; clear ca_0 ca_1 cb_0 cb_1; replace hB := below_up hB hp; clear hb hp; have ca_0 := Ba.cell 0 (v := .string x) rfl; have ca_1 := Ba.cell 1 (v := .string y) rfl; have cb_0 := Bb.cell 0 (v := .string u) rfl; have cb_1 := Bb.cell 1 (v := .string v) rfl)
              | (go_at_call 21; (with_reducible refine (M2.out _).mono ?_); rintro e w4 ⟨rfl, hb⟩; have hp := hb; replace Ba := Ba.below hp; replace Bb := Bb.below hp; replace Bz := Bz.below hp; clear ca_0 ca_1 cb_0 cb_1; replace hB := below_up hB hp; clear hb hp)
              | (go_at_call 39; (with_reducible refine (MK.out _).mono ?_); rintro e w5 ⟨rfl, hb⟩; have hp := hb; replace Ba := Ba.below hp; replace Bb := Bb.below hp; replace Bz := Bz.below hp; replace hB := below_up hB hp; clear hb hp; have cz_0 := Bz.cell 0 (v := .string ⟨#[]⟩) rfl; have cz_1 := Bz.cell 1 (v := .string ⟨#[]⟩) rfl; have f0 := Bz.frozen 0; have f1 := Bz.frozen 1))
          have ZF := (Bz.set 0 (.string (numT o))).set 1 (.string (denT o))
          have e0 := ZF.cell 0 (v := .string (numT o)) rfl
          have e1 := ZF.cell 1 (v := .string (denT o)) rfl
          refine bodyPost_ret (v := .tuple #[.agg #[.string (numT o), .string (denT o)], .int .i64 (errT o)]) (by simp [results, Tryz.results33, go_sem, e0, e1]) rfl ⟨rfl, (hB.setCell (by dsimp; omega) _).setCell (by dsimp; omega) _⟩
        · have M2 := Lib.hid (M2o e2)
          rw [show op2Q divQ (some p) (some q) = none from if_neg (fun h => e2 h.2.1)]
          clear h1 h2 M1o M2o e1 e2 hN
          go_enter Tryz.func33, Tryz.ntmps33
          go_wp2_with (first
              | (go_at_call 40; (with_reducible refine (VA.out _).mono ?_); rintro e w1 ⟨rfl, hb⟩; have hp := below_up (below_up (below_up (below1 w (.cells #[.string x, .string y] 23)) (below1 ((w.alloc (.cells #[.string x, .string y] 23))) (.cells #[.string u, .string v] 23))) (below1 (((w.alloc (.cells #[.string x, .string y] 23)).alloc (.cells #[.string u, .string v] 23))) (.cells #[.string ⟨#[]⟩, .string ⟨#[]⟩] 23))) hb; have Ba := (((Blk.new w 23 [.string x, .string y]).alloc _).alloc _).below hb; have Bb := ((Blk.new2 w (.cells #[.string x, .string y] 23) 23 [.string u, .string v]).alloc _).below hb; have Bz := (Blk.new3 w (.cells #[.string x, .string y] 23) (.cells #[.string u, .string v] 23) 23 [.string ⟨#[]⟩, .string ⟨#[]⟩]).below hb; replace hB := below_up hB hp; clear hb hp; have cb_0 := Bb.cell 0 (v := .string u) rfl; have cb_1 := Bb.cell 1 (v := .string v) rfl)
              | (go_at_call 40; (with_reducible refine (VB.out _).mono ?_); rintro e w2 ⟨rfl, hb⟩; have hp := hb; replace Ba := Ba.below hp; replace Bb := Bb.below hp; replace Bz := Bz.below hp; clear cb_0 cb_1; replace hB := below_up hB hp; clear hb hp; have ca_0 := Ba.cell 0 (v := .string x) rfl; have ca_1 := Ba.cell 1 (v := .string y) rfl; have cb_0 := Bb.cell 0 (v := .string u) rfl; have cb_1 := Bb.cell 1 (v := .string v) rfl)
              | (go_at_call 21; (with_reducible refine (M1.out _).mono ?_); rintro e w3 ⟨rfl, hb⟩; have hp := hb; replace Ba := Ba.below hp; replace Bb := Bb.below hp; replace Bz := Bz.below hp; clear ca_0 ca_1 cb_0 cb_1; replace hB := below_up hB hp; clear hb hp; have ca_0 := Ba.cell 0 (v := .string x) rfl; have ca_1 := Ba.cell 1 (v := .string y) rfl; have cb_0 := Bb.cell 0 (v := .string u) rfl; have cb_1 := Bb.cell 1 (v := .string v) rfl)
              | (go_at_call 21; (with_reducible refine (M2.out _).mono ?_); rintro e w4 ⟨rfl, hb⟩; have hp := hb; replace Ba := Ba.below hp; replace Bb := Bb.below hp; replace Bz := Bz.below hp; clear ca_0 ca_1 cb_0 cb_1; replace hB := below_up hB hp; clear hb hp; have cz_0 := Bz.cell 0 (v := .string ⟨#[]⟩) rfl; have cz_1 := Bz.cell 1 (v := .string ⟨#[]⟩) rfl; have f0 := Bz.frozen 0; have f1 := Bz.frozen 1))
          have ZF := (Bz.set 0 (.string ⟨#[]⟩)).set 1 (.string ⟨#[]⟩)
          have e0 := ZF.cell 0 (v := .string ⟨#[]⟩) rfl
          have e1 := ZF.cell 1 (v := .string ⟨#[]⟩) rfl
          refine bodyPost_ret (v := .tuple #[.agg #[.string ⟨#[]⟩, .string ⟨#[]⟩], .int .i64 40]) (by simp [results, Tryz.results33, go_sem, e0, e1]) rfl ⟨rfl, (hB.setCell (by dsimp; omega) _).setCell (by dsimp; omega) _⟩
      · have M1 := Lib.hid (M1o e1)
        rw [show op2Q divQ (some p) (some q) = none from if_neg (fun h => e1 h.1)]
        by_cases e2 : sm ((p.den : Int) * q.num)
        · obtain ⟨D, hD⟩ := Is.ex e2
          have M2 := Lib.hid (fun w => rmul_is (ratO_some.1 h1).2 (ratO_some.1 h2).1 hD rfl w)
          clear h1 h2 M1o M2o e1 e2 hD
          go_enter Tryz.func33, Tryz.ntmps33
          go_wp2_with (first
              | (go_at_call 40; (with_reducible refine (VA.out _).mono ?_); rintro e w1 ⟨rfl, hb⟩; have hp := below_up (below_up (below_up (below1 w (.cells #[.string x, .string y] 23)) (below1 ((w.alloc (.cells #[.string x, .string y] 23))) (.cells #[.string u, .string v] 23))) (below1 (((w.alloc (.cells #[.string x, .string y] 23)).alloc (.cells #[.string u, .string v] 23))) (.cells #[.string ⟨#[]⟩, .string ⟨#[]⟩] 23))) hb; have Ba := (((Blk.new w 23 [.string x, .string y]).alloc _).alloc _).below hb; have Bb := ((Blk.new2 w (.cells #[.string x, .string y] 23) 23 [.string u, .string v]).alloc _).below hb; have Bz := (Blk.new3 w (.cells #[.string x, .string y] 23) (.cells #[.string u, .string v] 23) 23 [.string ⟨#[]⟩, .string ⟨#[]⟩]).below hb; replace hB := below_up hB hp; clear hb hp; have cb_0 := Bb.cell 0 (v := .string u) rfl; have cb_1 := Bb.cell 1 (v := .string v) rfl)
              | (go_at_call 40; (with_reducible refine (VB.out _).mono ?_); rintro e w2 ⟨rfl, hb⟩; have hp := hb; replace Ba := Ba.below hp; replace Bb := Bb.below hp; replace Bz := Bz.below hp; clear cb_0 cb_1; replace hB := below_up hB hp; clear hb hp; have ca_0 := Ba.cell 0 (v := .string x) rfl; have ca_1 := Ba.cell 1 (v := .string y) rfl; have cb_0 := Bb.cell 0 (v := .string u) rfl; have cb_1 := Bb.cell 1 (v := .string v) rfl)
              | (go_at_call 21; (with_reducible refine (M1.out _).mono ?_); rintro e w3 ⟨rfl, hb⟩; have hp := hb; replace Ba := Ba.below hp; replace Bb := Bb.below hp; replace Bz := Bz.below hp; clear ca_0 ca_1 cb_0 cb_1; replace hB := below_up hB hp; clear hb hp; have ca_0 := Ba.cell 0 (v := .string x) rfl; have ca_1 := Ba.cell 1 (v := .string y) rfl; have cb_0 := Bb.cell 0 (v := .string u) rfl; have cb_1 := Bb.cell 1 (v := .string v) rfl)
              | (go_at_call 21; (with_reducible refine (M2.out _).mono ?_); rintro e w4 ⟨rfl, hb⟩; have hp := hb; replace Ba := Ba.below hp; replace Bb := Bb.below hp; replace Bz := Bz.below hp; clear ca_0 ca_1 cb_0 cb_1; replace hB := below_up hB hp; clear hb hp; have cz_0 := Bz.cell 0 (v := .string ⟨#[]⟩) rfl; have cz_1 := Bz.cell 1 (v := .string ⟨#[]⟩) rfl; have f0 := Bz.frozen 0; have f1 := Bz.frozen 1))
          have ZF := (Bz.set 0 (.string ⟨#[]⟩)).set 1 (.string ⟨#[]⟩)
          have e0 := ZF.cell 0 (v := .string ⟨#[]⟩) rfl
          have e1 := ZF.cell 1 (v := .string ⟨#[]⟩) rfl
          refine bodyPost_ret (v := .tuple #[.agg #[.string ⟨#[]⟩, .string ⟨#[]⟩], .int .i64 40]) (by simp [results, Tryz.results33, go_sem, e0, e1]) rfl ⟨rfl, (hB.setCell (by dsimp; omega) _).setCell (by dsimp; omega) _⟩
        · have M2 := Lib.hid (M2o e2)
          clear h1 h2 M1o M2o e1 e2
          go_enter Tryz.func33, Tryz.ntmps33
          go_wp2_with (first
              | (go_at_call 40; (with_reducible refine (VA.out _).mono ?_); rintro e w1 ⟨rfl, hb⟩; have hp := below_up (below_up (below_up (below1 w (.cells #[.string x, .string y] 23)) (below1 ((w.alloc (.cells #[.string x, .string y] 23))) (.cells #[.string u, .string v] 23))) (below1 (((w.alloc (.cells #[.string x, .string y] 23)).alloc (.cells #[.string u, .string v] 23))) (.cells #[.string ⟨#[]⟩, .string ⟨#[]⟩] 23))) hb; have Ba := (((Blk.new w 23 [.string x, .string y]).alloc _).alloc _).below hb; have Bb := ((Blk.new2 w (.cells #[.string x, .string y] 23) 23 [.string u, .string v]).alloc _).below hb; have Bz := (Blk.new3 w (.cells #[.string x, .string y] 23) (.cells #[.string u, .string v] 23) 23 [.string ⟨#[]⟩, .string ⟨#[]⟩]).below hb; replace hB := below_up hB hp; clear hb hp; have cb_0 := Bb.cell 0 (v := .string u) rfl; have cb_1 := Bb.cell 1 (v := .string v) rfl)
              | (go_at_call 40; (with_reducible refine (VB.out _).mono ?_); rintro e w2 ⟨rfl, hb⟩; have hp := hb; replace Ba := Ba.below hp; replace Bb := Bb.below hp; replace Bz := Bz.below hp; clear cb_0 cb_1; replace hB := below_up hB hp; clear hb hp; have ca_0 := Ba.cell 0 (v := .string x) rfl; have ca_1 := Ba.cell 1 (v := .string y) rfl; have cb_0 := Bb.cell 0 (v := .string u) rfl; have cb_1 := Bb.cell 1 (v := .string v) rfl)
              | (go_at_call 21; (with_reducible refine (M1.out _).mono ?_); rintro e w3 ⟨rfl, hb⟩; have hp := hb; replace Ba := Ba.below hp; replace Bb := Bb.below hp; replace Bz := Bz.below hp; clear ca_0 ca_1 cb_0 cb_1; replace hB := below_up hB hp; clear hb hp; have ca_0 := Ba.cell 0 (v := .string x) rfl; have ca_1 := Ba.cell 1 (v := .string y) rfl; have cb_0 := Bb.cell 0 (v := .string u) rfl; have cb_1 := Bb.cell 1 (v := .string v) rfl)
              | (go_at_call 21; (with_reducible refine (M2.out _).mono ?_); rintro e w4 ⟨rfl, hb⟩; have hp := hb; replace Ba := Ba.below hp; replace Bb := Bb.below hp; replace Bz := Bz.below hp; clear ca_0 ca_1 cb_0 cb_1; replace hB := below_up hB hp; clear hb hp; have cz_0 := Bz.cell 0 (v := .string ⟨#[]⟩) rfl; have cz_1 := Bz.cell 1 (v := .string ⟨#[]⟩) rfl; have f0 := Bz.frozen 0; have f1 := Bz.frozen 1))
          have ZF := (Bz.set 0 (.string ⟨#[]⟩)).set 1 (.string ⟨#[]⟩)
          have e0 := ZF.cell 0 (v := .string ⟨#[]⟩) rfl
          have e1 := ZF.cell 1 (v := .string ⟨#[]⟩) rfl
          refine bodyPost_ret (v := .tuple #[.agg #[.string ⟨#[]⟩, .string ⟨#[]⟩], .int .i64 40]) (by simp [results, Tryz.results33, go_sem, e0, e1]) rfl ⟨rfl, (hB.setCell (by dsimp; omega) _).setCell (by dsimp; omega) _⟩

end Go.Proofs.YtnioinccflmdjaaGreatDoor
